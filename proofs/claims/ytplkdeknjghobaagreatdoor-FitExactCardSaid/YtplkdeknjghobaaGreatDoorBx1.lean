import Derived.KernelRfl
import Derived.Test.YtplkdeknjghobaaGreatDoorBx0
set_option maxRecDepth 100000
set_option maxHeartbeats 0
namespace Go.Proofs.YtplkdeknjghobaaGreatDoor
def sumN:Nat->(Nat->Int)->Int
 | 0,_=>0
 | n+1,f=>sumN n f+f n
theorem qcf {n:Nat} {f g:Nat->Int} (h:∀i,i<n->f i=g i):sumN n f=sumN n g:=by
 induction n with
 | zero=>rfl
 | succ n ih=>simp only [sumN];rw [ih fun i F=>h i (by omega),h n (by omega)]
theorem qh9 (n:Nat) (f g:Nat->Int):sumN n (fun i=>f i+g i)=sumN n f+sumN n g:=by
 induction n with
 | zero=>rfl
 | succ n ih=>simp only [sumN,ih];omega
theorem qfz (n:Nat) (c:Int) (f:Nat->Int):sumN n (fun i=>c*f i)=c*sumN n f:=by
 induction n with
 | zero=>simp [sumN]
 | succ n ih=>simp only [sumN,ih,Int.mul_add]
theorem qgY (n:Nat) (f:Nat->Int) (h:∀i,i<n->f i=0):sumN n f=0:=by
 induction n with
 | zero=>rfl
 | succ n ih=>simp only [sumN];rw [ih fun i F=>h i (by omega),h n (by omega)];rfl
theorem qkD (n:Nat) (f:Nat->Int):sumN n (fun i=>- f i) = - sumN n f:=by
 induction n with
 | zero=>rfl
 | succ n ih=>simp only [sumN,ih];omega
theorem qjb (n m:Nat) (f:Nat->Nat->Int):sumN n (fun i=>sumN m (fun j=>f i j))=sumN m (fun j=>sumN n (fun i=>f i j)):=by
 induction n with
 | zero =>
  simp only [sumN];exact (qgY m _ fun _ _=>rfl).symm
 | succ n ih=>simp only [sumN,ih];rw [<-qh9]
theorem qna (n:Nat) (f:Nat->Nat->Int) (h:∀i j,i<n->j<n->f i j = - f j i):sumN n (fun i=>sumN n (fun j=>f i j))=0:=by
 have H:sumN n (fun i=>sumN n (fun j=>f i j))=sumN n (fun i=>sumN n (fun j=>- f j i)):=qcf fun i F=>qcf fun j G=>h i j F G
 have I:sumN n (fun i=>sumN n (fun j=>- f j i)) = - sumN n (fun i=>sumN n (fun j=>f j i)):=by
  rw [<-qkD];exact qcf fun i _=>qkD n _
 have J:=qjb n n f;omega
def skip (k c:Nat):Nat:=if c<k then c else c+1
theorem qdV {k c n:Nat} (F:c<n):skip k c<n+1:=by unfold skip;split <;> omega
theorem skip_ne (k c:Nat):skip k c≠k:=by unfold skip;split <;> omega
theorem qnb (n k:Nat) (J:k<n+1) (f:Nat->Int):sumN n (fun c=>f (skip k c))+f k=sumN (n+1) f:=by
 induction n with
 | zero =>
  obtain rfl:k=0:=by omega
  simp [sumN]
 | succ n ih =>
  by_cases G:k=n+1
  ·subst G;simp only [sumN];have H:sumN n (fun c=>f (skip (n+1) c))=sumN n f:=qcf fun i I=>by unfold skip;rw [if_pos (by omega)]
   have F:f (skip (n+1) n)=f n:=by unfold skip;rw [if_pos (by omega)]
   rw [H,F]
  ·have:=ih (by omega);simp only [sumN] at this ⊢;have F:f (skip k n)=f (n+1):=by unfold skip;rw [if_neg (by omega)]
   rw [F];omega
def sg (j:Nat):Int:=if j % 2=0 then 1 else -1
def det:Nat->(Nat->Nat->Int)->Int
 | 0,_=>1
 | n+1,M=>sumN (n+1) fun j=>sg j*M 0 j*det n fun r c=>M (r+1) (skip j c)
theorem qet:∀(n:Nat) (M N:Nat->Nat->Int),(∀r c,r<n->c<n->M r c=N r c)->det n M=det n N
 | 0,_,_,_=>rfl
 | n+1,M,N,h=>by
  simp only [det];refine qcf fun j G=>?_
  rw [h 0 j (by omega) G,qet n _ _ fun r c H F=>h (r+1) (skip j c) (by omega) (qdV F)]
theorem qed:∀(n:Nat) (M N K:Nat->Nat->Int) (k:Nat),k<n->(∀c,c<n->K k c=M k c+N k c)->(∀r c,r<n->c<n->r≠k->K r c=M r c/\K r c=N r c)->det n K=det n M+det n N
 | 0,_,_,_,_,h,_,_=>absurd h (by omega)
 | n+1,M,N,K,0,_,H,ho=>by
  simp only [det];rw [<-qh9];refine qcf fun j G=>?_
  have O:det n (fun r c=>K (r+1) (skip j c))=det n (fun r c=>M (r+1) (skip j c)):=qet n _ _ fun r c J F=>(ho (r+1) (skip j c) (by omega) (qdV F) (by omega)).1
  have U:det n (fun r c=>K (r+1) (skip j c))=det n (fun r c=>N (r+1) (skip j c)):=qet n _ _ fun r c J F=>(ho (r+1) (skip j c) (by omega) (qdV F) (by omega)).2
  rw [<-U,<-O,H j G,Int.mul_add,Int.add_mul]
 | n+1,M,N,K,k+1,h,H,ho=>by
  simp only [det];rw [<-qh9];refine qcf fun j G=>?_
  have e:=qed n (fun r c=>M (r+1) (skip j c)) (fun r c=>N (r+1) (skip j c)) (fun r c=>K (r+1) (skip j c)) k (by omega) (fun c F=>H (skip j c) (qdV F)) (fun r c J F V=>ho (r+1) (skip j c) (by omega) (qdV F) (by omega));have I:=ho 0 j (by omega) G (by omega);rw [e,Int.mul_add];rw [<-I.1];have:K 0 j=N 0 j:=I.2;rw [this]
theorem qee:∀(n:Nat) (M K:Nat->Nat->Int) (k:Nat) (a:Int),k<n->(∀c,c<n->K k c=a*M k c)->(∀r c,r<n->c<n->r≠k->K r c=M r c)->det n K=a*det n M
 | 0,_,_,_,_,h,_,_=>absurd h (by omega)
 | n+1,M,K,0,a,_,H,ho=>by
  simp only [det];rw [<-qfz];refine qcf fun j G=>?_
  rw [qet n _ _ fun r c I F=>ho (r+1) (skip j c) (by omega) (qdV F) (by omega),H j G];rw [<-qbs,<-qbs,qbc (sg j) a,qbs a (sg j)]
 | n+1,M,K,k+1,a,h,H,ho=>by
  simp only [det];rw [<-qfz];refine qcf fun j G=>?_
  have e:=qee n (fun r c=>M (r+1) (skip j c)) (fun r c=>K (r+1) (skip j c)) k a (by omega) (fun c F=>H (skip j c) (qdV F)) (fun r c I F J=>ho (r+1) (skip j c) (by omega) (qdV F) (by omega));rw [e,ho 0 j (by omega) G (by omega),<-qbs,<-qbs,qbc (sg j*M 0 j) a,qbs]
def cof (j k:Nat):Nat:=if k<j then k else k-1
theorem cof_skip (j c:Nat):cof j (skip j c)=c:=by unfold cof skip;(repeat' split) <;> omega
theorem qll (j k x:Nat) (h:j≠k):skip j (skip (cof j k) x)=skip k (skip (cof k j) x):=by
 unfold cof skip
 by_cases G:k<j
 ·have F:¬j<k:=by omega
  simp only [G,F,if_true,if_false]
  (repeat' split) <;> omega
 ·have F:j<k:=by omega
  simp only [G,F,if_true,if_false]
  (repeat' split) <;> omega
theorem sg_cof (j k:Nat) (h:j≠k):sg j*sg (cof j k) = - (sg k*sg (cof k j)):=by
 unfold sg cof
 by_cases G:k<j
 ·have F:¬j<k:=by omega
  simp only [G,F,if_true,if_false]
  (repeat' split) <;> first | omega | (exfalso;omega)
 ·have F:j<k:=by omega
  simp only [G,F,if_true,if_false]
  (repeat' split) <;> first | omega | (exfalso;omega)
def two (n:Nat) (M:Nat->Nat->Int) (j k:Nat):Int:=if j=k then 0 else sg j*sg (cof j k)*(M 0 j*M 1 k)*det n fun r x=>M (r+2) (skip j (skip (cof j k) x))
theorem det_two (n:Nat) (M:Nat->Nat->Int):det (n+2) M=sumN (n+2) fun j=>sumN (n+2) fun k=>two n M j k:=by
 show sumN (n+2) (fun j=>sg j*M 0 j*det (n+1) fun r c=>M (r+1) (skip j c))=_
 refine qcf fun j G=>?_
 rw [<-qnb (n+1) j G];have F:two n M j j=0:=by unfold two;rw [if_pos rfl]
 rw [F,Int.add_zero]
 show sg j*M 0 j*sumN (n+1) (fun c=>sg c*M 1 (skip j c)*det n fun r x=>M (r+2) (skip j (skip c x)))=_
 rw [<-qfz];refine qcf fun c H=>?_
 unfold two;rw [if_neg (Ne.symm (skip_ne j c)),cof_skip];simp only [qbs,qbc,Int.mul_left_comm]
theorem qkK (n:Nat) (M:Nat->Nat->Int) (h:∀c,c<n+2->M 0 c=M 1 c):det (n+2) M=0:=by
 rw [det_two];refine qna (n+2) _ fun j k G H=>?_
 unfold two
 by_cases F:j=k
 ·rw [if_pos F,if_pos F.symm];rfl
 ·rw [if_neg F,if_neg (Ne.symm F),sg_cof j k F];have e:(fun r x=>M (r+2) (skip j (skip (cof j k) x)))=fun r x=>M (r+2) (skip k (skip (cof k j) x)):=by
   funext r x;rw [qll j k x F]
  rw [e,h j G,<-h k H,qbc (M 1 j) (M 0 k),qby,qby]
theorem qef:∀(n:Nat) (M:Nat->Nat->Int) (k:Nat),k+1<n->(∀c,c<n->M k c=M (k+1) c)->det n M=0
 | 0,_,_,h,_=>absurd h (by omega)
 | 1,_,_,h,_=>absurd h (by omega)
 | n+2,M,0,_,h=>qkK n M h
 | n+2,M,k+1,H,h=>by
  show sumN (n+2) (fun j=>sg j*M 0 j*det (n+1) fun r c=>M (r+1) (skip j c))=0
  refine qgY _ _ fun j G=>?_
  rw [qef (n+1) (fun r c=>M (r+1) (skip j c)) k (by omega) fun c F=>h (skip j c) (qdV F),qbF]
def R2 (M:Nat->Nat->Int) (k:Nat) (x y:Nat->Int):Nat->Nat->Int:=fun r c=>if r=k then x c else if r=k+1 then y c else M r c
theorem R2_left (n:Nat) (M:Nat->Nat->Int) (k:Nat) (H:k+1<n) (x F y:Nat->Int):det n (R2 M k (fun c=>x c+F c) y)=det n (R2 M k x y)+det n (R2 M k F y) :=
 qed n _ _ _ k (by omega) (fun c _=>by simp [R2]) fun r c _ _ G=>by simp [R2,G]
theorem qj3 (n:Nat) (M:Nat->Nat->Int) (k:Nat) (H:k+1<n) (x y F:Nat->Int):det n (R2 M k x (fun c=>y c+F c))=det n (R2 M k x y)+det n (R2 M k x F) :=
 qed n _ _ _ (k+1) (by omega) (fun c _=>by simp [R2]) fun r c _ _ G=>by simp [R2,G]
theorem qjn (n:Nat) (M:Nat->Nat->Int) (k:Nat) (F:k+1<n) (x:Nat->Int):det n (R2 M k x x)=0 :=
 qef n _ k F fun c _=>by simp [R2]
theorem R2_swap (n:Nat) (M:Nat->Nat->Int) (k:Nat) (F:k+1<n) (x y:Nat->Int):det n (R2 M k x y) = - det n (R2 M k y x):=by
 have h:=qjn n M k F fun c=>x c+y c
 rw [R2_left n M k F,qj3 n M k F,qj3 n M k F,qjn n M k F,qjn n M k F] at h;omega
theorem R2_self (M:Nat->Nat->Int) (k:Nat):R2 M k (M k) (M (k+1))=M:=by
 funext r c
 unfold R2;split
 ·rename_i h;rw [h]
 ·split
  ·rename_i h;rw [h]
  ·rfl
theorem qf4 (n:Nat):∀(d:Nat) (M:Nat->Nat->Int) (i:Nat),i+d+1<n->(∀c,c<n->M i c=M (i+d+1) c)->det n M=0
 | 0,M,i,F,h=>qef n M i F h
 | d+1,M,i,F,h=>by
  have G:=R2_swap n M (i+d+1) (by omega) (M (i+d+1)) (M (i+d+1+1));rw [R2_self] at G;rw [G,qf4 n d (R2 M (i+d+1) (M (i+d+1+1)) (M (i+d+1))) i (by omega) (fun c I=>by
   have:¬i=i+d+1:=by omega
   have H:¬i=i+d+1+1:=by omega
   simp only [R2,this,H,if_false,if_true];exact h c I)]
  rfl
theorem qju (n:Nat) (M K:Nat->Nat->Int) (i s:Nat) (a:Int) (I:i<n) (hs:s<n) (H:i≠s) (V:∀c,c<n->K i c=M i c+a*M s c) (Y:∀r c,r<n->c<n->r≠i->K r c=M r c):det n K=det n M:=by
 have J:=qed n M (fun r c=>if r=i then a*M s c else M r c) K i I (fun c G=>by simp [V c G]) fun r c Z G F=>by
  rw [Y r c Z G F];simp [F]
 have O:=qee n (fun r c=>if r=i then M s c else M r c) (fun r c=>if r=i then a*M s c else M r c) i a I (fun c _=>by simp) fun r c _ _ F=>by simp [F]
 have U:det n (fun r c=>if r=i then M s c else M r c)=0:=by
  rcases Nat.lt_or_gt_of_ne H with h | h
  ·obtain⟨d,rfl⟩:∃d,s=i+d+1:=⟨s-i-1,by omega⟩;refine qf4 n d _ i (by omega) fun c _=>?_
   have:¬i+d+1=i:=by omega
   simp [this]
  ·obtain⟨d,rfl⟩:∃d,i=s+d+1:=⟨i-s-1,by omega⟩;refine qf4 n d _ s (by omega) fun c _=>?_
   have:¬s=s+d+1:=by omega
   simp [this]
 rw [J,O,U,qbF,Int.add_zero]
theorem qd6 (n:Nat) (f:Nat->Int):sumN (n+1) f=f 0+sumN n fun i=>f (i+1):=by
 induction n with
 | zero=>simp [sumN]
 | succ n ih =>
  have:sumN (n+1+1) f=sumN (n+1) f+f (n+1):=rfl;rw [this,ih];simp only [sumN];omega
theorem qm3 (j:Nat):sg (j+1) = - sg j:=by
 unfold sg
 (repeat' split) <;> first | omega | (exfalso;omega)
theorem qdP (r:Nat):skip 0 r=r+1:=by unfold skip;rw [if_neg (by omega)]
theorem qeZ (j:Nat):skip (j+1) 0=0:=by unfold skip;rw [if_pos (by omega)]
theorem qeY (j c:Nat):skip (j+1) (c+1)=skip j c+1:=by unfold skip;(repeat' split) <;> omega
theorem qjw:∀(n:Nat) (M:Nat->Nat->Int),det (n+1) M=sumN (n+1) fun i=>sg i*M i 0*det n fun r c=>M (skip i r) (c+1)
 | 0,M=>by
  show sumN 1 _=sumN 1 _
  exact qcf fun i J=>by
   obtain rfl:i=0:=by omega
   rfl
 | n+1,M=>by
  show sumN (n+1+1) (fun j=>sg j*M 0 j*det (n+1) fun r c=>M (r+1) (skip j c))=_
  rw [qd6,qd6 (n+1)];have F:∀a b c d:Int,a=c->b=d->a+b=c+d:=fun a b c d h k=>by rw [h,k]
  refine F _ _ _ _ ?_ ?_
  ·have G:(fun r c=>M (r+1) (skip 0 c))=fun r c=>M (skip 0 r) (c+1):=by
    funext r c
    rw [qdP,qdP]
   rw [G]
  ·have H:∀j,sg (j+1)*M 0 (j+1)*det (n+1) (fun r c=>M (r+1) (skip (j+1) c))=sumN (n+1) fun i=>- (sg j*sg i*(M 0 (j+1)*M (i+1) 0)*det n fun r c=>M (skip i r+1) (skip j c+1)):=by
    intro j;rw [qjw n,<-qfz];refine qcf fun i _=>?_
    simp only [qeZ,qeY,qm3];simp only [qby,Int.mul_neg,qbs,Int.mul_left_comm]
   have I:∀i,sg (i+1)*M (i+1) 0*det (n+1) (fun r c=>M (skip (i+1) r) (c+1))=sumN (n+1) fun j=>- (sg j*sg i*(M 0 (j+1)*M (i+1) 0)*det n fun r c=>M (skip i r+1) (skip j c+1)):=by
    intro i
    show _*sumN (n+1) (fun j=>sg j*M (skip (i+1) 0) (j+1)*det n fun r c=>M (skip (i+1) (r+1)) (skip j c+1))=_
    rw [<-qfz];refine qcf fun j _=>?_
    simp only [qeZ,qeY,qm3];simp only [qby,Int.mul_neg,qbs,Int.mul_left_comm,qbc]
   rw [qcf fun j _=>H j,qcf fun i _=>I i,qjb]
theorem qj6:∀(n:Nat) (M:Nat->Nat->Int),det n (fun r c=>M c r)=det n M
 | 0,_=>rfl
 | n+1,M=>by
  rw [qjw n M]
  show sumN (n+1) (fun j=>sg j*M j 0*det n fun r c=>M (skip j c) (r+1))=_
  exact qcf fun j _=>by rw [qj6 n fun r c=>M (skip j r) (c+1)]
theorem qhM (n:Nat) (i:Nat) (O:i<2):∀(m:Nat) (M K:Nat->Nat->Int) (L:Nat->Int),m+2<=n->(∀c,c<n->K i c=M i c+sumN m fun s=>L s*M (s+2) c)->(∀r c,r<n->c<n->r≠i->K r c=M r c)->det n K=det n M
 | 0,M,K,L,U,I,ho=>qet n K M fun r c G F=>by
  by_cases h:r=i
  ·subst h;rw [I c F];simp [sumN]
  ·exact ho r c G F h
 | m+1,M,K,L,U,I,ho=>by
  have J:=qhM n i O m M (fun r c=>if r=i then M i c+sumN m (fun s=>L s*M (s+2) c) else M r c) L (by omega) (fun c _=>by simp) fun r c _ _ G=>by simp [G]
  rw [<-J];refine qju n _ K i (m+2) (L m) (by omega) (by omega) (by omega) (fun c F=>?_) fun r c G F H=>by rw [ho r c G F H];simp [H]
  have:¬m+2=i:=by omega
  rw [I c F];simp only [sumN,this,if_true,if_false];omega
def bord (k:Nat) (M:Nat->Nat->Int) (a c:Nat):Int:=det (k+1) fun r x=>M (if r=0 then a else r+1) (if x=0 then c else x+1)
def steps (k:Nat) (M:Nat->Nat->Int):Int:=det k fun r c=>M (r+2) (c+2)
def lam (k:Nat) (M:Nat->Nat->Int) (a s:Nat):Int:=sg (s+1)*det k fun r x=>M (if skip (s+1) r=0 then a else skip (s+1) r+1) (x+2)
theorem qio (k:Nat) (M:Nat->Nat->Int) (a c:Nat):bord k M a c=steps k M*M a c+sumN k fun s=>lam k M a s*M (s+2) c:=by
 unfold bord steps;rw [qjw,qd6];have F:∀a b c d:Int,a=c->b=d->a+b=c+d:=fun a b c d h k=>by rw [h,k]
 refine F _ _ _ _ ?_ (qcf fun s H=>?_)
 ·have e:(fun r x=>M (if skip 0 r=0 then a else skip 0 r+1) (if x+1=0 then c else x+1+1))=fun r x=>M (r+2) (x+2):=by
   funext r x
   rw [qdP];simp
  rw [e];simp [sg,qbc]
 ·have G:¬s+1=0:=by omega
  have e:(fun r x=>M (if skip (s+1) r=0 then a else skip (s+1) r+1) (if x+1=0 then c else x+1+1))=fun r x=>M (if skip (s+1) r=0 then a else skip (s+1) r+1) (x+2):=by
   funext r x;simp
  rw [e];unfold lam;simp only [G,if_true,if_false,qbs,qbc]
theorem qip (k:Nat) (M:Nat->Nat->Int) (a c:Nat) (F:c<k):bord k M a (c+2)=0:=by
 unfold bord;rw [<-qj6];refine qf4 (k+1) c _ 0 (by omega) fun r _=>?_
 have:¬0+c+1=0:=by omega
 simp only [this,if_true,if_false];rw [show 0+c+1+1=c+2 by omega]
theorem qfy (n:Nat) (f:Nat->Int) (h:∀i,i<n->f (i+1)=0):sumN (n+1) f=f 0:=by
 rw [qd6,qgY n _ h,Int.add_zero]
theorem sg0:sg 0=1:=rfl
theorem sg1:sg 1 = -1:=rfl
def cleared (k:Nat) (M:Nat->Nat->Int):Nat->Nat->Int:=fun r c=>if r=0 then bord k M 0 c else if r=1 then bord k M 1 c else M r c
theorem qjv (k:Nat) (M:Nat->Nat->Int):det (k+2) (cleared k M)=steps k M*(steps k M*det (k+2) M):=by
 have H:det (k+2) (fun r c=>if r=0 then steps k M*M 0 c else M r c)=steps k M*det (k+2) M :=
  qee (k+2) M _ 0 (steps k M) (by omega) (fun c _=>by simp) fun r c _ _ F=>by simp [F]
 have I:det (k+2) (fun r c=>if r=0 then bord k M 0 c else M r c)=det (k+2) (fun r c=>if r=0 then steps k M*M 0 c else M r c) :=
  qhM (k+2) 0 (by omega) k _ _ (lam k M 0) qN (fun c _=>by
   show bord k M 0 c=_
   rw [qio];simp) fun r c _ _ F=>by simp [F]
 have J:det (k+2) (fun r c=>if r=1 then steps k M*M 1 c else if r=0 then bord k M 0 c else M r c)=steps k M*det (k+2) (fun r c=>if r=0 then bord k M 0 c else M r c) :=
  qee (k+2) _ _ 1 (steps k M) (by omega) (fun c _=>by simp) fun r c _ _ F=>by simp [F]
 have O:det (k+2) (cleared k M)=det (k+2) (fun r c=>if r=1 then steps k M*M 1 c else if r=0 then bord k M 0 c else M r c) :=
  qhM (k+2) 1 (by omega) k _ _ (lam k M 1) qN (fun c _=>by
   show bord k M 1 c=_
   rw [qio];simp) fun r c _ _ F=>by
    by_cases G:r=0
    ·subst G;simp [cleared]
    ·simp [cleared,F,G]
 rw [O,J,I,H]
theorem qit (k:Nat) (M:Nat->Nat->Int):det (k+2) (cleared k M)=(bord k M 0 0*bord k M 1 1-bord k M 0 1*bord k M 1 0)*steps k M:=by
 have z0:∀c,c<k->cleared k M 0 (c+2)=0:=fun c G=>qip k M 0 c G
 have I:∀c,c<k->cleared k M 1 (c+2)=0:=fun c G=>qip k M 1 c G
 have a:det (k+1) (fun r c=>cleared k M (r+1) (skip 0 c))=bord k M 1 1*steps k M:=by
  show sumN (k+1) (fun j=>sg j*cleared k M 1 (skip 0 j)*det k fun r c=>cleared k M (r+2) (skip 0 (skip j c)))=_
  rw [qfy k _ fun i F=>by
   simp only [qdP];rw [I i F,qbF,Int.zero_mul]]
  have e:(fun r c=>cleared k M (r+2) (skip 0 (skip 0 c)))=fun r c=>M (r+2) (c+2):=by
   funext r c
   simp [qdP,cleared]
  rw [e,sg0,Int.one_mul]
  rfl
 have b:det (k+1) (fun r c=>cleared k M (r+1) (skip 1 c))=bord k M 1 0*steps k M:=by
  show sumN (k+1) (fun j=>sg j*cleared k M 1 (skip 1 j)*det k fun r c=>cleared k M (r+2) (skip 1 (skip j c)))=_
  have H:∀c,skip 1 (c+1)=c+2:=fun c=>by unfold skip;rw [if_neg (by omega)]
  rw [qfy k _ fun i F=>by
   rw [H,I i F,qbF,Int.zero_mul]]
  have e:(fun r c=>cleared k M (r+2) (skip 1 (skip 0 c)))=fun r c=>M (r+2) (c+2):=by
   funext r c
   rw [qdP,H];simp [cleared]
  rw [e,sg0,Int.one_mul]
  rfl
 show sumN (k+1+1) (fun j=>sg j*cleared k M 0 j*det (k+1) fun r c=>cleared k M (r+1) (skip j c))=_
 rw [qd6,qfy k _ fun i F=>by rw [z0 i F,qbF,Int.zero_mul]];simp only [qaH];rw [a,b,sg0,sg1,Int.one_mul]
 show bord k M 0 0*(bord k M 1 1*steps k M) + -1*bord k M 0 1*(bord k M 1 0*steps k M)=_
 rw [Int.sub_mul,qby,Int.one_mul,qby,qbs,qbs];omega
theorem qne (k:Nat) (M:Nat->Nat->Int) (F:steps k M≠0):bord k M 0 0*bord k M 1 1-bord k M 0 1*bord k M 1 0=steps k M*det (k+2) M:=by
 have h:=(qit k M).symm.trans (qjv k M);rw [qbc _ (steps k M)] at h;exact Int.eq_of_mul_eq_mul_left F h
def sumQ:Nat->(Nat->Rat)->Rat
 | 0,_=>0
 | n+1,f=>sumQ n f+f n
theorem qbV:∀{n:Nat} {f g:Nat->Rat},(∀i,i<n->f i=g i)->sumQ n f=sumQ n g
 | 0,_,_,_=>rfl
 | n+1,f,g,h=>by
  show sumQ n f+f n=sumQ n g+g n
  rw [qbV fun i F=>h i (by omega),h n (by omega)]
theorem qcI:∀(n:Nat) (f:Nat->Rat),(∀i,i<n->f i=0)->sumQ n f=0
 | 0,_,_=>rfl
 | n+1,f,h=>by
  show sumQ n f+f n=0
  rw [qcI n f fun i F=>h i (by omega),h n (by omega)];grind
theorem qeP:∀(n:Nat) (f g:Nat->Rat),sumQ n (fun i=>f i+g i)=sumQ n f+sumQ n g
 | 0,_,_=>by simp [sumQ];try grind
 | n+1,f,g=>by
  show sumQ n (fun i=>f i+g i)+(f n+g n)=sumQ n f+f n+(sumQ n g+g n)
  rw [qeP n f g];grind
theorem qck:∀(n:Nat) (a:Rat) (f:Nat->Rat),sumQ n (fun i=>a*f i)=a*sumQ n f
 | 0,a,_=>by simp [sumQ]
 | n+1,a,f=>by
  show sumQ n (fun i=>a*f i)+a*f n=a*(sumQ n f+f n)
  rw [qck n a f];grind
theorem qd7:∀(n m:Nat) (f:Nat->Nat->Rat),sumQ n (fun i=>sumQ m fun j=>f i j)=sumQ m fun j=>sumQ n fun i=>f i j
 | 0,m,f=>(qcI m _ fun _ _=>rfl).symm
 | n+1,m,f=>by
  show sumQ n (fun i=>sumQ m fun j=>f i j)+sumQ m (fun j=>f n j)=sumQ m fun j=>(sumQ n (fun i=>f i j)+f n j)
  rw [qd7 n m f,qeP]
theorem qc3:∀(n k:Nat) (f:Nat->Rat),k<n->(∀i,i<n->i≠k->f i=0)->sumQ n f=f k
 | 0,k,_,h,_=>absurd h (by omega)
 | n+1,k,f,h,h0=>by
  show sumQ n f+f n=f k
  by_cases e:k=n
  ·subst e;rw [qcI k f fun i G=>h0 i (by omega) (by omega)];grind
  ·rw [qc3 n k f (by omega) fun i G F=>h0 i (by omega) F,h0 n (by omega) (fun h=>e h.symm)];grind
theorem sumQ_two (n k l:Nat) (f:Nat->Rat) (O:k<n) (U:l<n) (H:k≠l) (I:∀i,i<n->i≠k->i≠l->f i=0):sumQ n f=f k+f l:=by
 have e:sumQ n f=sumQ n (fun i=>(if i=k then f i else 0)+(if i=k then 0 else f i)):=qbV fun i _=>by split <;> grind
 rw [e,qeP,qc3 n k _ O (fun i _ F=>if_neg F),qc3 n l _ U (fun i J G=>by
  by_cases h:i=k
  ·rw [if_pos h]
  ·rw [if_neg h];exact I i J h G),if_pos rfl,if_neg (fun h=>H h.symm)]
theorem qeE:∀(n m:Nat) (f:Nat->Rat),sumQ (n+m) f=sumQ n f+sumQ m fun i=>f (n+i)
 | n,0,f=>by simp [sumQ];try grind
 | n,m+1,f=>by
  show sumQ (n+m) f+f (n+m)=sumQ n f+(sumQ m (fun i=>f (n+i))+f (n+m))
  rw [qeE n m f];grind
def Span (R n:Nat) (A:Nat->Nat->Rat) (v:Nat->Rat):Prop:=∃c:Nat->Rat,∀j,j<n->v j=sumQ R fun i=>c i*A i j
theorem Span.row {R n:Nat} {A:Nat->Nat->Rat} {i:Nat} (F:i<R):Span R n A (A i) :=
 ⟨fun k=>if k=i then 1 else 0,fun j _=>by
  rw [qc3 R i _ F (fun k _ G=>by simp [G])];simp⟩
theorem Span.congr {R n:Nat} {A B:Nat->Nat->Rat} {v u:Nat->Rat} (h:Span R n A v) (G:∀i,i<R->∀j,j<n->A i j=B i j) (J:∀j,j<n->v j=u j):Span R n B u:=by
 obtain⟨c,H⟩:=h;exact⟨c,fun j F=>by rw [<-J j F,H j F];exact qbV fun i I=>by rw [G i I j F]⟩
theorem Span.comb {R n:Nat} {A:Nat->Nat->Rat} {u v:Nat->Rat} (I:Span R n A u) (J:Span R n A v) (a b:Rat):Span R n A (fun j=>a*u j+b*v j):=by
 obtain⟨c,G⟩:=I;obtain⟨d,H⟩:=J;refine⟨fun i=>a*c i+b*d i,fun j F=>?_⟩
 show a*u j+b*v j=_
 rw [G j F,H j F,<-qck,<-qck,<-qeP];exact qbV fun i _=>by grind
theorem Span.trans {R S n:Nat} {A B:Nat->Nat->Rat} {v:Nat->Rat} (h:Span R n A v) (I:∀i,i<R->Span S n B (A i)):Span S n B v:=by
 obtain⟨c,J⟩:=h;have:∀i,∃d:Nat->Rat,i<R->∀j,j<n->A i j=sumQ S fun k=>d k*B k j:=fun i=>by
  by_cases F:i<R
  ·obtain⟨d,O⟩:=I i F;exact⟨d,fun _=>O⟩
  ·exact⟨fun _=>0,fun h=>absurd h F⟩
 refine⟨fun k=>sumQ R fun i=>c i*(Classical.choose (this i)) k,fun j G=>?_⟩;rw [J j G];have H:sumQ S (fun k=>sumQ R (fun i=>c i*(Classical.choose (this i)) k)*B k j)=sumQ S fun k=>sumQ R fun i=>c i*((Classical.choose (this i)) k*B k j):=qbV fun k _=>by
  rw [show sumQ R (fun i=>c i*(Classical.choose (this i)) k)*B k j=B k j*sumQ R (fun i=>c i*(Classical.choose (this i)) k) by grind,<-qck];exact qbV fun i _=>by grind
 rw [H,<-qd7];refine qbV fun i F=>?_
 rw [qck,Classical.choose_spec (this i) F j G]
def qdi (R S n:Nat) (A B:Nat->Nat->Rat):Prop:=(∀i,i<R->Span S n B (A i))/\∀i,i<S->Span R n A (B i)
theorem qdi.refl (R n:Nat) (A:Nat->Nat->Rat):qdi R R n A A:=⟨fun _ F=>Span.row F,fun _ F=>Span.row F⟩
theorem qdi.symm {R S n:Nat} {A B:Nat->Nat->Rat} (h:qdi R S n A B):qdi S R n B A:=⟨h.2,h.1⟩
theorem qdi.trans {R S T n:Nat} {A B C:Nat->Nat->Rat} (h:qdi R S n A B) (k:qdi S T n B C):qdi R T n A C :=
 ⟨fun i F=>(h.1 i F).trans k.1,fun i F=>(k.2 i F).trans h.2⟩
def sel {α:Type} (a:α) (P:Nat->α):Nat->α
 | 0=>a
 | s+1=>P s
def BR (k:Nat) (P:Nat->Nat->Int) (σ:Nat->Nat) (a:Nat->Int) (j:Nat):Int:=det (k+1) fun r x=>sel a P r (sel j σ x)
def DR (k:Nat) (P:Nat->Nat->Int) (σ:Nat->Nat):Int:=det k fun r x=>P r (σ x)
theorem qjk (P:Nat->Nat->Int) (σ:Nat->Nat) (a:Nat->Int) (j:Nat):BR 0 P σ a j=a j:=by
 show sumN 1 _=_
 show 0+sg 0*a j*1=a j
 rw [sg0];omega
theorem qea {k:Nat} {P:Nat->Nat->Int} {σ:Nat->Nat} (J:DR k P σ≠0) (a p:Nat->Int) (c j:Nat) :
  BR k P σ a j*BR k P σ p c-BR k P σ a c*BR k P σ p j=DR k P σ*BR (k+1) (sel p P) (sel c σ) a j:=by
 have h:=qne k (fun r x=>sel a (sel p P) r (sel j (sel c σ) x)) J;have F:bord k (fun r x=>sel a (sel p P) r (sel j (sel c σ) x)) 0 0=BR k P σ a j:=by
  unfold bord BR
  congr 1;funext r x
  cases r <;> cases x <;> rfl
 have I:bord k (fun r x=>sel a (sel p P) r (sel j (sel c σ) x)) 1 1=BR k P σ p c:=by
  unfold bord BR
  congr 1;funext r x
  cases r <;> cases x <;> rfl
 have G:bord k (fun r x=>sel a (sel p P) r (sel j (sel c σ) x)) 0 1=BR k P σ a c:=by
  unfold bord BR
  congr 1;funext r x
  cases r <;> cases x <;> rfl
 have H:bord k (fun r x=>sel a (sel p P) r (sel j (sel c σ) x)) 1 0=BR k P σ p j:=by
  unfold bord BR
  congr 1;funext r x
  cases r <;> cases x <;> rfl
 rw [F,I,G,H] at h;exact h
theorem qjl (k:Nat) (P:Nat->Nat->Int) (σ:Nat->Nat) (p:Nat->Int) (c:Nat):DR (k+1) (sel p P) (sel c σ)=BR k P σ p c:=rfl
theorem qhG (k:Nat) (P:Nat->Nat->Int) (σ:Nat->Nat) (a:Nat->Int) (j:Nat) (h:∀s,s<k->a (σ s)=0):BR k P σ a j=DR k P σ*a j:=by
 show sumN (k+1) (fun x=>sg x*sel a P 0 (sel j σ x)*det k fun r c=>sel a P (r+1) (sel j σ (skip x c)))=_
 rw [qfy k _ fun i F=>by
  show sg (i+1)*a (σ i)*_=0
  rw [h i F,qbF,Int.zero_mul]]
 have e:(fun r c=>sel a P (r+1) (sel j σ (skip 0 c)))=fun r x=>P r (σ x):=by
  funext r c;rw [qdP];rfl
 rw [e,sg0,Int.one_mul,qbc];rfl
abbrev castM (M:Nat->Nat->Int):Nat->Nat->Rat:=fun i j=>(M i j:Rat)
def qb4 (f:Nat->Bool) (M:Nat->Nat->Int) (p c:Nat) (D:Int):Nat->Nat->Int:=fun i=>if f i=true/\i≠p then fun j=>(M p c*M i j-M i c*M p j).tdiv D else M i
theorem qi9 {f:Nat->Bool} {R n p c:Nat} {M:Nat->Nat->Int} {D:Int} (V:p<R) (Y:D≠0) (hc:M p c≠0) (hx:∀i,i<R->f i=true->i≠p->∀j,j<n->D∣M p c*M i j-M i c*M p j):qdi R R n (castM M) (castM (qb4 f M p c D)):=by
 have Z:(D:Rat)≠0:=by exact_mod_cast Y
 have aa:(M p c:Rat)≠0:=by exact_mod_cast hc
 have H:∀i,i<R->f i=true->i≠p->∀j,j<n->(D:Rat)*((qb4 f M p c D i j:Int):Rat)=M p c*M i j-M i c*M p j:=by
  intro i G U J j O;have e:qb4 f M p c D i j=(M p c*M i j-M i c*M p j).tdiv D:=by unfold qb4;rw [if_pos ⟨U,J⟩]
  have:=Int.mul_tdiv_cancel' (hx i G U J j O);rw [e]
  exact_mod_cast this
 have F:∀i,¬(f i=true/\i≠p)->qb4 f M p c D i=M i:=fun i h=>by unfold qb4;rw [if_neg h]
 have I:qb4 f M p c D p=M p:=F p (fun h=>h.2 rfl);refine⟨fun i G=>?_,fun i G=>?_⟩
 ·by_cases h:f i=true/\i≠p
  ·refine Span.congr (Span.comb (Span.row (A:=castM (qb4 f M p c D)) G) (Span.row (A:=castM (qb4 f M p c D)) V) ((D:Rat) / M p c) ((M i c:Rat) / M p c)) (fun _ _ _ _=>rfl) fun j O=>?_
   have:=H i G h.1 h.2 j O
   show (D:Rat) / M p c*((qb4 f M p c D i j:Int):Rat)+(M i c:Rat) / M p c*((qb4 f M p c D p j:Int):Rat)=(M i j:Rat)
   rw [I]
   grind
  ·have:=Span.row (R:=R) (n:=n) (A:=castM (qb4 f M p c D)) (i:=i) G;exact Span.congr this (fun _ _ _ _=>rfl) fun j _=>by show ((qb4 f M p c D i j:Int):Rat)=_;rw [F i h]
 ·by_cases h:f i=true/\i≠p
  ·refine Span.congr (Span.comb (Span.row (A:=castM M) G) (Span.row (A:=castM M) V) ((M p c:Rat) / D) (-(M i c:Rat) / D)) (fun _ _ _ _=>rfl) fun j O=>?_
   have:=H i G h.1 h.2 j O
   show (M p c:Rat) / D*(M i j:Rat) + -(M i c:Rat) / D*(M p j:Rat)=((qb4 f M p c D i j:Int):Rat)
   grind
  ·have:=Span.row (R:=R) (n:=n) (A:=castM M) (i:=i) G;exact Span.congr this (fun _ _ _ _=>rfl) fun j _=>by show (M i j:Rat)=((qb4 f M p c D i j:Int):Rat);rw [F i h]
def qca {α:Type} (M:Nat->α) (k a:Nat):Nat->α:=fun j=>if j=k then M a else if j=a then M k else M j
theorem qja {R n k a:Nat} {M:Nat->Nat->Int} (J:k<R) (I:a<R):qdi R R n (castM M) (castM (qca M k a)):=by
 have row:∀i l,i<R->qca M k a i=M l->Span R n (castM (qca M k a)) (castM M l):=fun i l H h =>
  Span.congr (Span.row (R:=R) (n:=n) (A:=castM (qca M k a)) (i:=i) H) (fun _ _ _ _=>rfl) fun j _=>by show ((qca M k a i j:Int):Rat)=_;rw [h]
 have F:∀i l,l<R->qca M k a i=M l->Span R n (castM M) (castM (qca M k a) i):=fun i l O h =>
  Span.congr (Span.row (R:=R) (n:=n) (A:=castM M) (i:=l) O) (fun _ _ _ _=>rfl) fun j _=>by show (M l j:Rat)=((qca M k a i j:Int):Rat);rw [h]
 refine⟨fun i H=>?_,fun i H=>?_⟩
 ·by_cases e:i=k
  ·subst e
   by_cases G:a=i
   ·subst G;exact row a a I (by unfold qca;rw [if_pos rfl])
   ·exact row a i I (by unfold qca;rw [if_neg G,if_pos rfl])
  ·by_cases G:i=a
   ·subst G;exact row k i J (by unfold qca;rw [if_pos rfl])
   ·exact row i i H (by unfold qca;rw [if_neg e,if_neg G])
 ·by_cases e:i=k
  ·exact F i a I (by unfold qca;rw [if_pos e])
  ·by_cases G:i=a
   ·exact F i k J (by unfold qca;rw [if_neg e,if_pos G])
   ·exact F i i H (by unfold qca;rw [if_neg e,if_neg G])
theorem qjR {α:Type} {M:Nat->α} {k a i:Nat} (G:i<k) (F:k<=a):qca M k a i=M i:=by unfold qca;rw [if_neg (by omega),if_neg (by omega)]
structure ElimSt (R n k:Nat) (D:Int) (M A:Nat->Nat->Int):Prop where
 span:qdi R R n (castM M) (castM A)
 dets:∃(P:Nat->Nat->Int) (σ:Nat->Nat) (a:Nat->Nat->Int),DR k P σ=D/\(∀s,s<k->σ s<k)/\(∀i,k<=i->i<R->∀j,j<n->M i j=BR k P σ (a i) j) /\
  ∀i,i<k->∀j,j<n->M i j=D*(if j=i then 1 else 0)-BR k P σ (fun x=>if x=i then 1 else 0) j
 diag:∀i,i<R->∀c,c<k->M i c=if i=c then D else 0
 nz:D≠0
theorem ElimSt.start (R n:Nat) (A:Nat->Nat->Int):ElimSt R n 0 1 A A :=
 ⟨qdi.refl _ _ _,⟨fun _ _=>0,fun _=>0,A,rfl,fun s H=>absurd H (by omega),fun i _ _ j _=>(qjk _ _ _ _).symm,fun i F=>absurd F (by omega)⟩,fun _ _ j G=>absurd G (by omega),by decide⟩
theorem ElimSt.swap {R n k a:Nat} {D:Int} {M A:Nat->Nat->Int} (h:ElimSt R n k D M A) (V:k<=a) (I:a<R):ElimSt R n k D (qca M k a) A:=by
 have U:k<R:=by omega
 refine⟨(qja U I).symm.trans h.span,?_,?_,h.nz⟩
 ·obtain⟨P,σ,b,Y,hσ,J,hl⟩:=h.dets;refine⟨P,σ,qca b k a,Y,hσ,fun i G Z j H=>?_,fun i G j H=>by rw [qjR G V];exact hl i G j H⟩;unfold qca
  by_cases e:i=k
  ·rw [if_pos e,if_pos e];exact J a V I j H
  ·by_cases F:i=a
   ·rw [if_neg e,if_neg e,if_pos F,if_pos F];exact J k qN U j H
   ·rw [if_neg e,if_neg e,if_neg F,if_neg F];exact J i G Z j H
 ·intro i G c O;have hd:=h.diag i G c O;unfold qca
  by_cases e:i=k
  ·rw [if_pos e,h.diag a I c O,if_neg (by omega),if_neg (by omega)]
  ·by_cases F:i=a
   ·rw [if_neg e,if_pos F,h.diag k U c O,if_neg (by omega),if_neg (by omega)]
   ·rw [if_neg e,if_neg F,hd]
theorem ElimSt.next {R n k:Nat} {D:Int} {M A:Nat->Nat->Int} (h:ElimSt R n k D M A) (hk:k<R) (V:k<n) (h0:M k k≠0):ElimSt R n (k+1) (M k k) (qb4 (fun _=>true) M k k D) A:=by
 obtain⟨P,σ,b,Z,hσ,hb,hl⟩:=h.dets;have O:DR k P σ≠0:=by rw [Z];exact h.nz
 have U:∀j,j<n->M k j=BR k P σ (b k) j:=hb k qN hk;have H:∀i,i≠k->∀j,qb4 (fun _=>true) M k k D i j=(M k k*M i j-M i k*M k j).tdiv D:=fun i G j=>by
  unfold qb4;rw [if_pos ⟨rfl,G⟩]
 have I:qb4 (fun _=>true) M k k D k=M k:=by unfold qb4;rw [if_neg (fun h=>h.2 rfl)]
 have aa:∀i,k<i->i<R->∀j,j<n->M k k*M i j-M i k*M k j=D*BR (k+1) (sel (b k) P) (sel k σ) (b i) j:=fun i G hR j F=>by
  have:=qea O (b i) (b k) k j;rw [Z,<-hb i (by omega) hR j F,<-U k V,<-hb i (by omega) hR k V,<-U j F] at this;rw [<-this,qbc (M i j)]
 have ae:∀i,i<k->∀j,j<n->M k k*M i j-M i k*M k j=D*(M k k*(if j=i then 1 else 0)-BR (k+1) (sel (b k) P) (sel k σ) (fun x=>if x=i then 1 else 0) j):=fun i G j F=>by
  have:=qea O (fun x=>if x=i then 1 else 0) (b k) k j;rw [Z,<-U k V,<-U j F] at this;rw [hl i G j F,hl i G k V,if_neg (by omega:¬k=i),Int.mul_sub D,<-this];generalize BR k P σ (fun x=>if x=i then 1 else 0) j=X;generalize BR k P σ (fun x=>if x=i then 1 else 0) k=Y;generalize (if j=i then (1:Int) else 0)=E;rw [qbF,Int.zero_sub,qby,Int.sub_neg,Int.mul_sub,qbc X,Int.mul_left_comm (M k k) D];omega
 have ag:∀j,j<n->M k j=M k k*(if j=k then 1 else 0)-BR (k+1) (sel (b k) P) (sel k σ) (fun x=>if x=k then 1 else 0) j:=fun j F=>by
  have:=qea O (fun x=>if x=k then 1 else 0) (b k) k j;rw [Z,<-U k V,<-U j F,qhG k P σ _ j (fun s hs=>if_neg (by have:=hσ s hs;omega)),qhG k P σ _ k (fun s hs=>if_neg (by have:=hσ s hs;omega)),Z,if_pos rfl] at this;have e:D*(M k k*(if j=k then 1 else 0)-M k j)=D*BR (k+1) (sel (b k) P) (sel k σ) (fun x=>if x=k then 1 else 0) j:=by
   rw [<-this,Int.mul_sub,Int.mul_one];generalize (if j=k then (1:Int) else 0)=E;rw [qbs,qbc E]
  have:=Int.eq_of_mul_eq_mul_left h.nz e;omega
 refine⟨(qi9 hk h.nz h0 fun i G _ af j F=>?_).symm.trans h.span,⟨sel (b k) P,sel k σ,b,by rw [qjl];exact (U k V).symm,?_,fun i G hR j F=>?_,fun i G j F=>?_⟩,fun i G c ah=>?_,h0⟩
 ·rcases Nat.lt_or_gt_of_ne af with e | e
  ·exact⟨_,ae i e j F⟩
  ·exact⟨_,aa i e G j F⟩
 ·intro s hs;cases s with
  | zero=>show k<k+1;omega
  | succ s=>show σ s<k+1;have:=hσ s (by omega);omega
 ·rw [H i (by omega) j,aa i (by omega) hR j F,Int.mul_tdiv_cancel_left _ h.nz]
 ·by_cases e:i=k
  ·subst e;rw [I];exact ag j F
  ·rw [H i e j,ae i (by omega) j F,Int.mul_tdiv_cancel_left _ h.nz]
 ·by_cases e:i=k
  ·subst e;rw [I]
   by_cases J:i=c
   ·rw [if_pos J,J]
   ·rw [if_neg J,h.diag i G c (by omega),if_neg J]
  ·rw [H i e c]
   by_cases J:c=k
   ·subst J;rw [if_neg e,qbc,Int.sub_self];exact Int.zero_tdiv _
   ·rw [h.diag i G c (by omega),h.diag k hk c (by omega),if_neg (fun h:k=c=>J h.symm),qbF,Int.sub_zero]
    by_cases e3:i=c
    ·rw [if_pos e3,if_pos e3,Int.mul_tdiv_cancel _ h.nz]
    ·rw [if_neg e3,if_neg e3,qbF];exact Int.zero_tdiv _
def Sing (R:Nat) (A:Nat->Nat->Rat):Prop:=∃y:Nat->Rat,(∃j,j<R/\y j≠0)/\∀i,i<R->sumQ R (fun j=>A i j*y j)=0
def qcD (R:Nat) (A:Nat->Nat->Rat) (b x:Nat->Rat):Prop:=∀i,i<R->sumQ R (fun j=>A i j*x j)=b i
theorem qcD.uniq {R:Nat} {A:Nat->Nat->Rat} {b x y:Nat->Rat} (h:¬Sing R A) (hx:qcD R A b x) (hy:qcD R A b y):∀i,i<R->x i=y i:=by
 intro i G;apply Classical.byContradiction;intro hne;refine h ⟨fun j=>x j-y j,⟨i,G,fun h=>hne (by grind)⟩,fun k F=>?_⟩;have e:sumQ R (fun j=>A k j*(x j-y j))=sumQ R (fun j=>A k j*x j)+(-1)*sumQ R (fun j=>A k j*y j):=by
  rw [<-qck,<-qeP];exact qbV fun j _=>by grind
 rw [e,hx k F,hy k F];grind
theorem Sing.congr {R:Nat} {A B:Nat->Nat->Rat} (h:Sing R A) (e:∀i,i<R->∀j,j<R->A i j=B i j):Sing R B:=by
 obtain⟨y,hy,G⟩:=h;exact⟨y,hy,fun i F=>by rw [<-G i F];exact qbV fun j H=>by rw [e i F j H]⟩
theorem qcD.congr {R:Nat} {A B:Nat->Nat->Rat} {b c x y:Nat->Rat} (h:qcD R A b x) (e:∀i,i<R->∀j,j<R->A i j=B i j) (H:∀i,i<R->b i=c i) (ex:∀i,i<R->x i=y i):qcD R B c y:=fun i F=>by
 rw [<-H i F,<-h i F];exact qbV fun j G=>by rw [e i F j G,ex j G]
theorem Span.kill {R n:Nat} {A:Nat->Nat->Rat} {v y:Nat->Rat} (h:Span R n A v) (F:∀i,i<R->sumQ n (fun j=>A i j*y j)=0):sumQ n (fun j=>v j*y j)=0:=by
 obtain⟨c,G⟩:=h;have e:sumQ n (fun j=>v j*y j)=sumQ n fun j=>sumQ R fun i=>c i*(A i j*y j):=qbV fun j I=>by
  rw [G j I,show sumQ R (fun i=>c i*A i j)*y j=y j*sumQ R (fun i=>c i*A i j) by grind,<-qck];exact qbV fun i _=>by grind
 rw [e,qd7];refine qcI _ _ fun i H=>?_
 rw [qck,F i H];grind
theorem qgZ (n:Nat) (f x:Nat->Rat) (a:Rat):sumQ (n+1) (fun j=>f j*(if j<n then x j else a))=sumQ n (fun j=>f j*x j)+f n*a:=by
 show sumQ n _+f n*(if n<n then x n else a)=_
 rw [if_neg (qbz n)]
 congr 1
 exact qbV fun j F=>by rw [if_pos F]
theorem qiv {R n k:Nat} {D:Int} {M A:Nat->Nat->Int} (h:ElimSt R n k D M A) (hn:R<=n) (hk:k<R) (U:∀i,k<=i->i<R->M i k=0):Sing R (castM A):=by
 have V:(D:Rat)≠0:=by exact_mod_cast h.nz
 refine⟨fun j=>if j<k then -(M j k:Rat) else if j=k then (D:Rat) else 0,⟨k,hk,by simp only [qbz,if_false,if_true];exact V⟩,?_⟩;have Y:∀i,i<R->sumQ n (fun j=>castM M i j*(if j<k then -(M j k:Rat) else if j=k then (D:Rat) else 0))=0:=by
  intro i G
  by_cases H:i<k
  ·rw [sumQ_two n i k _ (by omega) (by omega) (by omega) fun j Z I J=>by
    by_cases e:j<k
    ·show (M i j:Rat)*_=0
     rw [h.diag i G j e,if_neg (fun h=>I h.symm)];simp
    ·rw [if_neg e,if_neg J];grind]
   rw [if_pos H,if_neg (qbz k),if_pos rfl]
   show (M i i:Rat)*_+(M i k:Rat)*_=0
   rw [h.diag i G i H,if_pos rfl];grind
  ·refine qcI _ _ fun j Z=>?_
   by_cases e:j<k
   ·show (M i j:Rat)*_=0
    rw [h.diag i G j e,if_neg (by omega)];simp
   ·by_cases O:j=k
    ·show (M i j:Rat)*_=0
     rw [O,U i (by omega) G];simp
    ·rw [if_neg e,if_neg O];grind
 intro i G;have F:=(h.span.2 i G).kill Y;have e:sumQ n (fun j=>castM A i j*(if j<k then -(M j k:Rat) else if j=k then (D:Rat) else 0))=sumQ R (fun j=>castM A i j*(if j<k then -(M j k:Rat) else if j=k then (D:Rat) else 0)):=by
  obtain⟨m,rfl⟩:∃m,n=R+m:=⟨n-R,by omega⟩;rw [qeE,qcI m _ fun j _=>by rw [if_neg (by omega),if_neg (by omega)];grind]
  grind
 rw [e] at F;exact F
theorem qf6 {R:Nat} {z:Int} {M A:Nat->Nat->Int} (h:ElimSt R (R+1) R z M A):qcD R (castM A) (fun i=>castM A i R) (fun i=>(M i R:Rat) / z)/\¬Sing R (castM A):=by
 have O:(z:Rat)≠0:=by exact_mod_cast h.nz
 have I:∀(x:Nat->Rat) (a:Rat) i,i<R->sumQ (R+1) (fun j=>castM M i j*(if j<R then x j else a))=z*x i+M i R*a:=by
  intro x a i F;rw [qgZ,qc3 R i _ F fun j G H=>by show (M i j:Rat)*_=0;rw [h.diag i F j G,if_neg (fun h=>H h.symm)];simp]
  show (M i i:Rat)*x i+(M i R:Rat)*a=_
  rw [h.diag i F i F,if_pos rfl]
 refine⟨fun i F=>?_,?_⟩
 ·have:=(h.span.2 i F).kill (y:=fun j=>if j<R then (M j R:Rat) / z else -1) fun i F=>by rw [I _ _ i F];grind
  rw [qgZ] at this
  show sumQ R _=castM A i R
  grind
 ·rintro ⟨y,⟨j,G,hy⟩,J⟩;have:=(h.span.1 j G).kill (y:=fun j=>if j<R then y j else 0) fun i F=>by rw [qgZ,J i F];grind
  rw [I _ _ j G] at this;apply hy;have:(z:Rat)*y j=0:=by grind
  rcases Rat.mul_eq_zero.1 this with h | h
  ·exact absurd h O
  ·exact h
theorem qg3:∀{n:Nat} {f:Nat->Rat},(∀i,i<n->0<=f i)->0<=sumQ n f
 | 0,_,_=>by show (0:Rat)<=0;exact Rat.le_refl
 | n+1,f,h=>by
  have F:=qg3 (n:=n) (f:=f) fun i H=>h i (by omega)
  have G:=h n (by omega)
  show 0<=sumQ n f+f n
  grind
def resR (n:Nat) (A:Nat->Nat->Rat) (b z:Nat->Rat) (i:Nat):Rat:=sumQ n (fun j=>A i j*z j)-b i
def msR (R n:Nat) (A:Nat->Nat->Rat) (b w z:Nat->Rat):Rat:=sumQ R fun i=>w i*(resR n A b z i*resR n A b z i)
def mval:List Nat->Nat
 | []=>0
 | d :: l=>d+1000000000*mval l
theorem qcs (l r:List Nat):mval (l++r)=mval l+1000000000 ^ l.length*mval r:=by
 induction l with
 | nil=>simp [mval]
 | cons d l ih =>
  simp only [List.cons_append,mval,ih,qbH,qaI];rw [qaT,qax (1000000000 ^ l.length) 1000000000,qaz];omega
theorem qfG (l:List Nat) (h:∀d∈l,d<1000000000):mval l<1000000000 ^ l.length:=by
 induction l with
 | nil=>simp [mval]
 | cons d l ih =>
  have F:=h d List.mem_cons_self;have G:=ih fun x hx=>h x (List.mem_cons_of_mem _ hx)
  simp only [mval,qbH,qaI];omega
theorem qhs (n:Nat):mval (List.replicate n 0)=0:=by
 induction n with
 | zero=>rfl
 | succ n ih=>simp [qbo,mval,ih]
theorem qcP (l:List Nat) (d:Nat):mval (l++[d])=mval l+1000000000 ^ l.length*d:=by
 rw [qcs];simp [mval]
theorem qhW (l:List Nat) (i d:Nat) (h:i<l.length):mval (l.set i d)+1000000000 ^ i*l[i]=mval l+1000000000 ^ i*d:=by
 induction l generalizing i with
 | nil=>exact absurd h (by simp)
 | cons x l ih =>
  cases i with
  | zero=>simp [mval];omega
  | succ i =>
   have F:i<l.length:=by simpa using h
   have:=ih i F;simp only [List.set_cons_succ,mval,List.getElem_cons_succ,qaI];have G:1000000000 ^ i*1000000000*l[i]=1000000000*(1000000000 ^ i*l[i]):=by rw [qax (1000000000 ^ i),qaz]
   have H:1000000000 ^ i*1000000000*d=1000000000*(1000000000 ^ i*d):=by rw [qax (1000000000 ^ i),qaz]
   omega
theorem qiR (l m:List Nat) (i:Nat) (O:∀d∈l,d<1000000000) (J:i<l.length) (G:i<m.length) (h:l[i]<m[i]) (F:l.drop (i+1)=m.drop (i+1)):mval l<mval m:=by
 have H:l=l.take i++(l[i] :: l.drop (i+1)):=by rw [<-qbq J,List.take_append_drop]
 have I:m=m.take i++(m[i] :: m.drop (i+1)):=by rw [<-qbq G,List.take_append_drop]
 have U:mval (l.take i)<1000000000 ^ i:=by
  have:=qfG (l.take i) fun d F=>O d (qbG F)
  rwa [qay,qa7 (by omega)] at this
 rw [H,I,qcs,qcs,qay,qay,qa7 (by omega),qa7 (by omega)];simp only [mval,F];generalize mval (m.drop (i+1))=x;have:1000000000 ^ i*(l[i]+1000000000*x)+1000000000 ^ i<=1000000000 ^ i*(m[i]+1000000000*x):=by
  rw [<-Nat.mul_succ];exact qaR _ (by omega)
 omega
theorem qgE (l m:List Nat) (H:∀d∈l,d<1000000000) (h:l.length<m.length) (I:m.getLast?≠some 0):mval l<mval m:=by
 have J:=qfG l H;cases G:m.reverse with
 | nil=>rw [List.reverse_eq_nil_iff] at G;subst G;exact absurd h (by simp)
 | cons d r =>
  have e:m=r.reverse++[d]:=by rw [<-List.reverse_reverse m,G,List.reverse_cons]
  have V:d≠0:=by
   rintro rfl;apply I;rw [e];simp
  rw [e,qcP];have F:l.length<=r.reverse.length:=by rw [e] at h;simp at h ⊢;omega
  have O:1000000000 ^ l.length<=1000000000 ^ r.reverse.length:=qaX (by omega) F;have U:1000000000 ^ r.reverse.length*1<=1000000000 ^ r.reverse.length*d:=qaR _ (by omega);omega
section
variable {B U V T head top u2 v2 lu lv:Nat}
theorem qlO (_hT:0<T) (hU:U=(head*B+u2)*T+lu) (G:V=(top*B+v2)*T+lv) (J:u2<B) (H:lu<T) (I:0<top):U / V<=head / top:=by
 rw [Nat.le_div_iff_mul_le I];have Z:U / V*V<=U:=Nat.div_mul_le_self U V;generalize U / V=Q at *;have h2:Q*(top*B*T)<=Q*V:=qaR _ (by
  rw [G,qaG];omega)
 have h3:U<(head+1)*B*T:=by
  rw [hU];have:(head*B+u2+1)*T<=(head+1)*B*T:=qa5 _ (by rw [qaG head 1,qbv];omega);have e:(head*B+u2+1)*T=(head*B+u2)*T+T:=by rw [qaG _ 1,qbv]
  omega
 have F:Q*top*(B*T)<(head+1)*(B*T):=by
  have O:Q*top*(B*T)=Q*(top*B*T):=by rw [qaz,qaz]
  have Y:(head+1)*(B*T)=(head+1)*B*T:=by rw [qaz]
  omega
 have:=Nat.lt_of_mul_lt_mul_right F;omega
theorem est_test (F:0<V) (hU:U=(head*B+u2)*T+lu) (hV:V=(top*B+v2)*T+lv) (H:lu<T) {q r:Nat} (I:q*top+r=head) (h:r*B+u2<q*v2):U / V<q:=by
 rw [Nat.div_lt_iff_lt_mul F];have G:head*B+u2+1<=q*(top*B+v2):=by
  have e:q*top*B+r*B=head*B:=by rw [<-I,qaG]
  have J:q*(top*B+v2)=q*top*B+q*v2:=by rw [qaT,qaz]
  omega
 have O:(head*B+u2+1)*T<=q*(top*B+v2)*T:=qa5 _ G;have Y:q*(top*B+v2)*T<=q*V:=by
  rw [qaz];exact qaR _ (by omega)
 have Z:(head*B+u2+1)*T=(head*B+u2)*T+T:=by rw [qaG _ 1,qbv]
 omega
theorem est_done (F:0<V) (hU:U=(head*B+u2)*T+lu) (Y:V=(top*B+v2)*T+lv) (Z:lv<T) (ht:0<top) {q r:Nat} (aa:q<=B) (hq:q*top+r=head) (h:q*v2<=r*B+u2):q<=U / V+1:=by
 rcases qaW q with rfl | hq0
 ·exact qam _
 obtain⟨p,rfl⟩:∃p,q=p+1:=⟨q-1,by omega⟩;have:p<=U / V:=by
  rw [Nat.le_div_iff_mul_le F];have h1:p*V<=p*((top*B+v2+1)*T):=qaR _ (by rw [Y,qaG (top*B+v2) 1,qbv];omega);have J:p*(top*B+v2+1)<=head*B+u2:=by
   have e:(p+1)*top*B+r*B=head*B:=by rw [<-hq];exact (qaG _ _ _).symm
   have G:(p+1)*top*B=p*(top*B)+top*B:=by rw [qaG p 1,qbv,qaG,qaz]
   have H:p*(top*B+v2+1)=p*(top*B)+p*v2+p:=by rw [qaT,qaT,qbD]
   have I:(p+1)*v2=p*v2+v2:=by rw [qaG,qbv]
   have e5:B<=top*B:=Nat.le_mul_of_pos_left _ ht;rw [H];rw [G] at e;rw [I] at h;omega
  have O:p*(top*B+v2+1)*T<=(head*B+u2)*T:=qa5 _ J;rw [qaz] at O;omega
 omega
theorem est_head (_hT:0<T) (_hB:0<B) (hU:U=(head*B+u2)*T+lu) (hV:V=(top*B+v2)*T+lv) (I:v2<B) (H:lv<T) (h:U<B*V):head<(top+1)*B:=by
 have F:V<(top+1)*B*T:=by
  have e:(top*B+v2+1)*T<=(top+1)*B*T:=qa5 _ (by rw [qaG top 1,qbv];omega);have J:(top*B+v2+1)*T=(top*B+v2)*T+T:=by rw [qaG _ 1,qbv]
  omega
 have O:head*(B*T)<=U:=by
  rw [hU,qaG,qaz head];omega
 have Y:B*V<=B*((top+1)*B*T):=qaR _ (qaq F);have Z:B*((top+1)*B*T)=(top+1)*B*(B*T):=by
  rw [<-qaz,qax B ((top+1)*B),qaz]
 have G:head*(B*T)<(top+1)*B*(B*T):=by omega
 exact Nat.lt_of_mul_lt_mul_right G
end
def Dig (L:List Nat):Prop:=∀k,L.getD k 0<1000000000
theorem Dig.mem {L:List Nat} (h:Dig L):∀d∈L,d<1000000000:=fun d F=>by
 obtain⟨i,G,rfl⟩:=List.getElem_of_mem F;have:=h i
 rwa [qaa,qad G] at this
theorem Dig.of {L:List Nat} (h:∀d∈L,d<1000000000):Dig L:=fun k=>by
 rw [qaa];cases hk:L[k]? with
 | none=>exact (by decide:0<1000000000)
 | some x=>exact h x (List.mem_of_getElem? hk)
theorem Dig.nil:Dig []:=Dig.of (by simp)
theorem Dig.snoc {L:List Nat} (h:Dig L) {d:Nat} (F:d<1000000000):Dig (L++[d]):=Dig.of fun x hx=>by
 rcases qaK.1 hx with hx | hx
 ·exact h.mem x hx
 ·rw [qas.1 hx];exact F
theorem Dig.set {L:List Nat} (h:Dig L) {d:Nat} (F:d<1000000000) (i:Nat):Dig (L.set i d):=Dig.of fun x hx=>by
 rcases List.mem_or_eq_of_mem_set hx with hx | rfl
 ·exact h.mem x hx
 ·exact F
theorem Dig.take {L:List Nat} (h:Dig L) (n:Nat):Dig (L.take n):=Dig.of fun x hx=>h.mem x (qbG hx)
theorem Dig.drop {L:List Nat} (h:Dig L) (n:Nat):Dig (L.drop n):=Dig.of fun x hx=>h.mem x (List.mem_of_mem_drop hx)
theorem Dig.append {L M:List Nat} (h:Dig L) (F:Dig M):Dig (L++M):=Dig.of fun x hx=>(qaK.1 hx).elim (h.mem x) (F.mem x)
theorem Dig.zeros (n:Nat):Dig (List.replicate n 0):=Dig.of fun x hx=>by rw [(List.mem_replicate.1 hx).2];decide
theorem Dig.lt {L:List Nat} (h:Dig L):mval L<1000000000 ^ L.length:=qfG L h.mem
theorem qeh {L:List Nat} {k:Nat} (h:k<L.length):L[k]? = some (L.getD k 0):=by
 rw [qad h,qaa,qad h];rfl
theorem qdH {L:List Nat} {k:Nat} (h:L.length<=k):L.getD k 0=0:=by
 rw [qaa,qaA h];rfl
theorem qbU (L:List Nat) (k:Nat):mval (L.take (k+1))=mval (L.take k)+1000000000 ^ k*L.getD k 0:=by
 by_cases h:k<L.length
 ·rw [List.take_add_one,qeh h]
  show mval (L.take k++[L.getD k 0])=_
  rw [qcP,qay,qa7 (qaq h)]
 ·rw [qak (by omega),qak (by omega),qdH (by omega)];simp
theorem qcO (L:List Nat) (k:Nat):mval (L.drop k)=L.getD k 0+1000000000*mval (L.drop (k+1)):=by
 by_cases h:k<L.length
 ·rw [qbq h];simp only [mval];rw [qaa,qad h];rfl
 ·rw [qba (by omega),qba (by omega),qdH (by omega)];simp [mval]
theorem qdU (L:List Nat) (k:Nat) (F:k<=L.length):mval L=mval (L.take k)+1000000000 ^ k*mval (L.drop k):=by
 conv=>lhs;rw [<-List.take_append_drop k L]
 rw [qcs,qay,qa7 F]
theorem getD_set_ne {L:List Nat} {i j d:Nat} (h:i≠j):(L.set i d).getD j 0=L.getD j 0:=by
 rw [qaa,qbx h,<-qaa]
theorem qc6 {L:List Nat} {i d:Nat} (h:i<L.length):(L.set i d).getD i 0=d:=by
 rw [qaa,List.getElem?_set_self h];rfl
theorem qcT {L:List Nat} {k d:Nat} (h:k<L.length):mval ((L.set k d).take (k+1))=mval (L.take k)+1000000000 ^ k*d:=by
 rw [qbU,qc6 h]
 congr 2
 rw [List.take_set_of_le qN]
theorem qde {L:List Nat} {k d:Nat} (h:k<L.length):mval ((L.set k d).drop k)=d+1000000000*mval (L.drop (k+1)):=by
 rw [qcO,qc6 h,List.drop_set_of_lt (by omega)]
theorem qeB {L:List Nat} {k d:Nat} (h:k<L.length):mval (L.set k d)+1000000000 ^ k*L.getD k 0=mval L+1000000000 ^ k*d:=by
 have:=qhW L k d h
 rwa [qaa,qad h]
def Zero (L:List Nat) (n:Nat):Prop:=∀k,n<=k->L.getD k 0=0
theorem Zero.all (L:List Nat):Zero L L.length:=fun _ h=>qdH h
theorem Zero.mono {L:List Nat} {n m:Nat} (h:Zero L n) (G:n<=m):Zero L m:=fun k F=>h k (by omega)
theorem Zero.zeros (n m:Nat):Zero (List.replicate n 0) m:=fun k _=>by
 by_cases h:k<n
 ·rw [qaa,qbd,if_pos h];rfl
 ·exact qdH (by rw [qa8];omega)
theorem Zero.set {L:List Nat} {n k d:Nat} (h:Zero L n) (G:k<n):Zero (L.set k d) n:=fun j F=>by rw [getD_set_ne (by omega)];exact h j F
theorem Zero.set_succ {L:List Nat} {n d:Nat} (h:Zero L n):Zero (L.set n d) (n+1):=fun j F=>by rw [getD_set_ne (by omega)];exact h j (by omega)
theorem Zero.down {L:List Nat} {n:Nat} (h:Zero L (n+1)) (F:L.getD n 0=0):Zero L n:=fun k G=>by
 by_cases e:k=n
 ·rw [e];exact F
 ·exact h k (by omega)
theorem qdq {L:List Nat} {n:Nat} (h:Zero L n):mval (L.drop n)=0:=by
 induction hm:L.length-n generalizing n with
 | zero=>rw [qba (by omega)];rfl
 | succ m ih =>
  rw [qcO,h n qN,ih (h.mono (by omega)) (by omega)]
theorem qcx {L:List Nat} {n:Nat} (h:Zero L n):mval (L.take n)=mval L:=by
 by_cases F:n<=L.length
 ·rw [qdU L n F,qdq h];omega
 ·rw [qak (by omega)]
def Nrm (L:List Nat):Prop:=L.length=0\/L.getD (L.length-1) 0≠0
theorem Nrm.ge {L:List Nat} (h:Nrm L) (G:0<L.length):1000000000 ^ (L.length-1)<=mval L:=by
 have F:=h.resolve_left (by omega);have e:=qbU L (L.length-1);rw [show L.length-1+1=L.length by omega,qbg] at e;rw [e];exact qaj (Nat.le_mul_of_pos_right _ (qbe F)) (Nat.le_add_left _ _)
theorem Nrm.of_ge {L:List Nat} (G:Dig L) (h:L.length=0\/1000000000 ^ (L.length-1)<=mval L):Nrm L:=by
 rcases h with h | h
 ·exact qal h
 ·rcases qaW L.length with h0 | h0
  ·exact qal h0
  ·right
   intro H;have e:=qbU L (L.length-1);rw [show L.length-1+1=L.length by omega,qbg,H,Nat.mul_zero,qbp] at e;have F:=qfG (L.take (L.length-1)) (G.mem · <| qbG ·);rw [qay,qa7 (by omega)] at F;omega
theorem Nrm.snoc (L:List Nat) {d:Nat} (h:d≠0):Nrm (L++[d]):=by
 right
 rw [qaf,qaw,Nat.add_sub_cancel,qaa,qao qN,qaJ];exact h
theorem Nrm.zero {L:List Nat} (h:Nrm L):mval L=0↔L.length=0:=by
 constructor
 ·intro e;rcases qaW L.length with h0 | h0
  ·exact h0
  ·have:=h.ge h0;have:=Nat.pow_pos (n:=L.length-1) (show 0<1000000000 by decide);omega
 ·intro e;rw [List.length_eq_zero_iff.1 e];rfl
theorem Nrm.len {L:List Nat} (h:Nrm L) {n:Nat} (G:mval L<1000000000 ^ n):L.length<=n:=by
 rcases qaW L.length with h0 | h0
 ·omega
 ·have F:=h.ge h0;have H:=(Nat.pow_lt_pow_iff_right (show 1<1000000000 by decide)).1 (qaL F G);omega
theorem qf9 {P B x y z s c c' m o:Nat} (H:x+P*c=y+z) (F:s+B*c'=m+c+o):x+P*s+P*B*c'=y+P*m+(z+P*o):=by
 have h:=congrArg (P * ·) F;simp only [qaT] at h;have G:P*B*c'=P*(B*c'):=by simp only [qaz]
 omega
theorem qfq {P B x y z s b F m o:Nat} (I:x+z=y+P*b) (G:s+b+o=m+B*F):x+P*s+(z+P*o)=y+P*m+P*B*F:=by
 have h:=congrArg (P * ·) G;simp only [qaT] at h;have H:P*B*F=P*(B*F):=by simp only [qaz]
 omega
theorem qg4 {A C B x p s c c' d e X Y Z: Nat} (I:Y+A*C*p=x+A*C*s) (J:x+A*C*c=X+A*d*Z) (F:s+B*c'=c+(p+d*e)):Y+A*(C*B)*c'=X+A*d*(Z+C*e):=by
 have h:=congrArg (A*C * ·) F;simp only [qaT] at h ⊢;have G:A*(C*B)*c'=A*C*(B*c'):=by simp only [qaz]
 have H:A*d*(C*e)=A*C*(d*e):=by simp only [qaz,qbt]
 omega
theorem qhZ {A F E G x c d H X Y Z:Nat} (I:Y+E*0=x+E*c) (J:x+E*c=X*Z+A*d*Z):Y+G*0=(X+A*d)*Z+F*H*mval []:=by
 simp only [mval,Nat.mul_zero,qbp,qaG] at *;omega
theorem qgT {B R d r m M q t:Nat} (F:R*d+r=M) (J:d*q+t=r*B+m):(q+B*R)*d+t=m+B*M:=by
 subst F;simp only [qaT,qaG];have G:B*R*d=B*(R*d):=by simp only [qaz]
 have H:q*d=d*q:=qax _ _;have I:r*B=B*r:=qax _ _;omega
structure PlusInv (m o:List Nat) (k:Nat) (L:List Nat) (c:Nat):Prop where
 len:L.length=k
 dig:Dig L
 carry:c<=1
 val:mval L+1000000000 ^ k*c=mval (m.take k)+mval (o.take k)
theorem PlusInv.start (m o:List Nat):PlusInv m o 0 [] 0:=⟨rfl,Dig.nil,by decide,by simp [mval]⟩
theorem PlusInv.step {m o L:List Nat} {k c s c':Nat} (h:PlusInv m o k L c) (G:s<1000000000) (F:c'<=1) (e:s+1000000000*c'=m.getD k 0+c+o.getD k 0):PlusInv m o (k+1) (L++[s]) c':=by
 refine⟨by rw [qaf,h.len];rfl,h.dig.snoc G,F,?_⟩;have H:=h.val;rw [qcP,h.len,qbU,qbU,qaI];exact qf9 H e
theorem PlusInv.done {m o L:List Nat} {c:Nat} (h:PlusInv m o m.length L c) (F:o.length<=m.length):mval L+1000000000 ^ m.length*c=mval m+mval o:=by
 have:=h.val
 rwa [qak qN,qak F] at this
structure MinusInv (m o:List Nat) (k:Nat) (R:List Nat) (b:Nat):Prop where
 len:R.length=m.length
 dig:Dig R
 carry:b<=1
 val:mval (R.take k)+mval (o.take k)=mval (m.take k)+1000000000 ^ k*b
theorem MinusInv.start (m o:List Nat):MinusInv m o 0 (List.replicate m.length 0) 0:=⟨by simp,Dig.zeros _,by decide,by simp [mval]⟩
theorem MinusInv.step {m o R:List Nat} {k b s F:Nat} (h:MinusInv m o k R b) (H:k<m.length) (I:s<1000000000) (G:F<=1) (e:s+b+o.getD k 0=m.getD k 0+1000000000*F):MinusInv m o (k+1) (R.set k s) F:=by
 refine⟨by rw [qaC,h.len],h.dig.set I _,G,?_⟩;have J:=h.val;rw [qcT (by rw [h.len];exact H),qbU,qbU,qaI];exact qfq J e
theorem MinusInv.done {m o R:List Nat} {b:Nat} (h:MinusInv m o m.length R b) (H:o.length<=m.length) (G:mval o<=mval m):mval R=mval m-mval o:=by
 have I:=h.val;rw [qak qN,qak H,qak (by rw [h.len];exact qae _)] at I;have F:=h.dig.lt;rw [h.len] at F;have J:=h.carry;rcases (show b=0\/b=1 by omega) with rfl | rfl
 ·omega
 ·omega
structure TimesInv (m o:List Nat) (i j:Nat) (P:List Nat) (c:Nat):Prop where
 len:P.length=m.length+o.length
 dig:Dig P
 carry:c<1000000000
 zero:Zero P (i+o.length)
 val:mval P+1000000000 ^ (i+j)*c=mval (m.take i)*mval o+1000000000 ^ i*m.getD i 0*mval (o.take j)
theorem TimesInv.start (m o:List Nat):TimesInv m o 0 0 (List.replicate (m.length+o.length) 0) 0:=⟨by simp,Dig.zeros _,by decide,Zero.zeros _ _,by simp [mval,qhs]⟩
theorem TimesInv.step {m o P:List Nat} {i j c s c':Nat} (h:TimesInv m o i j P c) (I:i<m.length) (J:j<o.length) (F:s<1000000000) (H:c'<1000000000) (e:s+1000000000*c'=c+(P.getD (i+j) 0+m.getD i 0*o.getD j 0)):TimesInv m o i (j+1) (P.set (i+j) s) c':=by
 refine⟨by rw [qaC,h.len],h.dig.set F _,H,h.zero.set (by omega),?_⟩;have G:=h.val;have F:=qeB (L:=P) (k:=i+j) (d:=s) (by rw [h.len];omega);rw [qbU,Nat.pow_add,qaI];rw [Nat.pow_add] at F G;exact qg4 F G e
theorem TimesInv.next {m o P:List Nat} {i c:Nat} (h:TimesInv m o i o.length P c) (H:i<m.length):TimesInv m o (i+1) 0 (P.set (i+o.length) c) 0:=by
 refine⟨by rw [qaC,h.len],h.dig.set h.carry _,by decide,?_,?_⟩
 ·have:=h.zero.set_succ (d:=c)
  rwa [show i+o.length+1=i+1+o.length by omega] at this
 have G:=h.val;have F:=qeB (L:=P) (k:=i+o.length) (d:=c) (by rw [h.len];omega);rw [h.zero _ qN] at F;rw [qak qN] at G;rw [qbU,List.take_zero];exact qhZ F G
theorem TimesInv.done {m o P:List Nat} {c:Nat} (h:TimesInv m o m.length 0 P c) (G:c=0):mval P=mval m*mval o:=by
 have F:=h.val;subst G;rw [qak qN] at F
 simpa [mval] using F
theorem qjU {c p d e:Nat} (F:c<1000000000) (H:p<1000000000) (G:d<1000000000) (he:e<1000000000):c+(p+d*e)<1000000000000000000:=by
 have:d*e<=999999999*999999999:=Nat.mul_le_mul (by omega) (by omega);omega
structure ShortInv (m:List Nat) (d k:Nat) (R:List Nat) (r:Nat):Prop where
 len:R.length=m.length
 dig:Dig R
 rest:r<d
 val:mval (R.drop k)*d+r=mval (m.drop k)
theorem ShortInv.start (m:List Nat) {d:Nat} (F:0<d):ShortInv m d m.length (List.replicate m.length 0) 0:=⟨by simp,Dig.zeros _,F,by rw [qba (by simp),qba (by simp)];simp [mval]⟩
theorem ShortInv.step {m R:List Nat} {d k r:Nat} (h:ShortInv m d (k+1) R r) (G:k<m.length) (H:Dig m):ShortInv m d k (R.set k ((r*1000000000+m.getD k 0) / d)) ((r*1000000000+m.getD k 0) % d):=by
 have F:0<d:=by have:=h.rest;omega
 have I:(r*1000000000+m.getD k 0) / d<1000000000:=by
  rw [Nat.div_lt_iff_lt_mul F];have J:=H k;have O:=h.rest;have:(r+1)*1000000000<=d*1000000000:=qa5 _ (by omega);omega
 refine⟨by rw [qaC,h.len],h.dig.set I _,qbA _ F,?_⟩;rw [qde (by rw [h.len];exact G),qcO m k,<-h.val];have:=Nat.div_add_mod (r*1000000000+m.getD k 0) d;exact qgT rfl this
theorem ShortInv.done {m R:List Nat} {d r:Nat} (h:ShortInv m d 0 R r):mval R=mval m / d/\r=mval m % d:=by
 have G:=h.val;simp only [List.drop_zero] at G;have F:=h.rest;rw [<-G]
 constructor
 ·rw [qax,Nat.mul_add_div (by omega),Nat.div_eq_of_lt F];rfl
 ·rw [qax,Nat.mul_add_mod,Nat.mod_eq_of_lt F]
theorem qga (n:Nat):0<1000000000 ^ n:=Nat.pow_pos (by decide)
theorem sub_alg {P B R q V U b c r F c' t d x:Nat} (h1:R+q*V=U+P*(b+c)) (G:c+q*d=B*c'+t) (H:r+b+t=x+B*F):R+P*r+q*(V+P*d)=U+P*x+P*B*(F+c'):=by
 have I:=congrArg (P * ·) G;have J:=congrArg (P * ·) H;simp only [qaT] at *;have O:q*(P*d)=P*(q*d):=qbt _ _ _;have Y:P*B*F=P*(B*F):=qaz _ _ _;have Z:P*B*c'=P*(B*c'):=qaz _ _ _;omega
structure SubInv (u v:List Nat) (q k:Nat) (R:List Nat) (b c:Nat):Prop where
 len:R.length=u.length
 dig:Dig R
 borrow:b<=1
 carry:c<1000000000
 rest:∀j,k<=j->R.getD j 0=u.getD j 0
 val:mval (R.take k)+q*mval (v.take k)=mval (u.take k)+1000000000 ^ k*(b+c)
theorem SubInv.start {u v:List Nat} {q:Nat} (F:Dig u):SubInv u v q 0 u 0 0:=⟨rfl,F,by decide,by decide,fun _ _=>rfl,by simp [mval]⟩
theorem SubInv.step {u v R:List Nat} {q k b c r F c' t:Nat} (h:SubInv u v q k R b c) (O:k<u.length) (U:r<1000000000) (I:F<=1) (J:c'<1000000000) (G:c+q*v.getD k 0=1000000000*c'+t) (H:r+b+t=u.getD k 0+1000000000*F) :
  SubInv u v q (k+1) (R.set k r) F c':=by
 refine⟨by rw [qaC,h.len],h.dig.set U _,I,J,fun j V=>by rw [getD_set_ne (by omega)];exact h.rest j (by omega),?_⟩;rw [qcT (by rw [h.len];exact O),qbU,qbU,qaI];exact sub_alg h.val G H
theorem qm9 {c q d:Nat} (F:c<1000000000) (H:q<1000000000) (G:d<1000000000):c+q*d<1000000000000000000:=by
 have:q*d<=999999999*999999999:=Nat.mul_le_mul (by omega) (by omega);omega
structure BackInv (u v:List Nat) (k:Nat) (R:List Nat) (c:Nat):Prop where
 len:R.length=u.length
 dig:Dig R
 carry:c<=1
 rest:∀j,k<=j->R.getD j 0=u.getD j 0
 val:mval (R.take k)+1000000000 ^ k*c=mval (u.take k)+mval (v.take k)
theorem BackInv.start {u v:List Nat} (F:Dig u):BackInv u v 0 u 0:=⟨rfl,F,by decide,fun _ _=>rfl,by simp [mval]⟩
theorem BackInv.step {u v R:List Nat} {k c s c':Nat} (h:BackInv u v k R c) (G:k<u.length) (H:s<1000000000) (F:c'<=1) (e:s+1000000000*c'=u.getD k 0+c+v.getD k 0):BackInv u v (k+1) (R.set k s) c':=by
 refine⟨by rw [qaC,h.len],h.dig.set H _,F,fun j I=>by rw [getD_set_ne (by omega)];exact h.rest j (by omega),?_⟩;rw [qcT (by rw [h.len];exact G),qbU,qbU,qaI];exact qf9 h.val e
structure Reduced (u v:List Nat) (R:List Nat) (q:Nat):Prop where
 len:R.length=u.length
 dig:Dig R
 quot:q=mval u / mval v
 val:mval R=mval u % mval v
 top:Zero R v.length
theorem qgO {u v R:List Nat} {n:Nat} (Z:u.length=n+1) (V:v.length=n) (O:R.length=u.length) (U:Dig R) {q:Nat} (_hv:0<mval v) (F:mval (R.take n)=mval u-q*mval v) (G:q*mval v<=mval u) (H:mval u<(q+1)*mval v) :
  Reduced u v (R.set n 0) q:=by
 have I:q=mval u / mval v:=((Nat.div_eq_of_lt_le G H)).symm;have J:mval (R.set n 0)=mval (R.take n):=by
  have:=qcT (L:=R) (k:=n) (d:=0) (by omega)
  rwa [qak (by rw [qaC];omega),Nat.mul_zero,qbp] at this
 refine⟨by rw [qaC,O],U.set (by decide) _,I,?_,?_⟩
 ·rw [J,F,I,qax,Nat.sub_eq_of_eq_add];exact (Nat.mod_add_div _ _).symm
 ·intro j Y
  by_cases e:j=n
  ·rw [e,qc6 (by omega)]
  ·exact qdH (by rw [qaC];omega)
theorem qh6 {u v R:List Nat} {n q b c:Nat} (h:SubInv u v q n R b c) (Z:u.length=n+1) (G:v.length=n) (Y:Dig v) (V:0<mval v) (hq:mval u / mval v<=q) (aa:¬u.getD n 0<b+c):Reduced u v (R.set n 0) q:=by
 have F:=h.val;have e:mval u=mval (u.take n)+1000000000 ^ n*u.getD n 0:=by
  have:=qbU u n
  rwa [qak (by omega)] at this
 rw [qak (l:=v) (by omega)] at F;have H:=(h.dig.take n).lt;rw [qay,qa7 (by rw [h.len];omega)] at H;have O:=Y.lt;rw [G] at O;have U:mval u<(q+1)*mval v:=by
  have:=(Nat.div_lt_iff_lt_mul V).1 (Nat.lt_succ_of_le hq);exact this
 obtain⟨s,hs⟩:∃s,u.getD n 0=b+c+s:=⟨u.getD n 0-(b+c),by omega⟩;rw [hs,qaT] at e;have I:q*mval v<=mval u:=by omega
 have J:s=0:=by
  rcases qaW s with h0 | h0
  ·exact h0
  ·have:1000000000 ^ n*1<=1000000000 ^ n*s:=qaR _ h0;rw [qaG,qbv] at U;omega
 subst J;exact qgO Z G h.len h.dig V (by omega) I U
theorem qi5 {u v R S:List Nat} {n q b c o:Nat} (h:SubInv u v q n R b c) (k:BackInv R v n S o) (Z:u.length=n+1) (H:v.length=n) (Y:Dig v) (V:0<mval v) (hq:q<=mval u / mval v+1) (aa:u.getD n 0<b+c):Reduced u v (S.set n 0) (q-1):=by
 have F:=h.val;have G:=k.val;have e:mval u=mval (u.take n)+1000000000 ^ n*u.getD n 0:=by
  have:=qbU u n
  rwa [qak (by omega)] at this
 rw [qak (l:=v) (by omega)] at F G;have I:=(h.dig.take n).lt;have hSt:=(k.dig.take n).lt;have U:=Y.lt;rw [H] at U;rw [qay,qa7 (by rw [h.len];omega)] at I;rw [qay,qa7 (by rw [k.len,h.len];omega)] at hSt;obtain⟨s,hs⟩:∃s,b+c=u.getD n 0+1+s:=⟨b+c-(u.getD n 0+1),by omega⟩;rw [hs,qaT,qaT] at F;have J:mval u<q*mval v:=by omega
 have ae:0<q:=by
  rcases qaW q with h0 | h0
  ·subst h0;omega
  ·exact h0
 obtain⟨p,rfl⟩:∃p,q=p+1:=⟨q-1,by omega⟩;have O:p*mval v<=mval u:=(Nat.le_div_iff_mul_le V).1 (by omega);have e2:(p+1)*mval v=p*mval v+mval v:=by rw [qaG,qbv]
 have h3:=k.carry;have ho:mval (S.take n)=mval u-p*mval v:=by
  rcases (show o=0\/o=1 by omega) with rfl | rfl
  ·rcases qaW s with h0 | h0
   ·subst h0;omega
   ·have:1000000000 ^ n*1<=1000000000 ^ n*s:=qaR _ h0;omega
  ·rcases qaW s with h0 | h0
   ·subst h0;omega
   ·have:1000000000 ^ n*1<=1000000000 ^ n*s:=qaR _ h0;omega
 rw [Nat.add_sub_cancel];exact qgO Z H (by rw [k.len,h.len]) k.dig V ho O J
theorem div_alg {P V B Q q W R U:Nat} (H:Q*(P*B)*V+U=W) (I:P*(q*V)+R=U):(q+B*Q)*P*V+R=W:=by
 subst H I;have F:Q*(P*B)*V=B*Q*P*V:=by simp only [qax,qbt]
 have G:P*(q*V)=q*P*V:=by simp only [qaz,qbt]
 rw [qaG,qaG,F,G];omega
structure DivInv (w v:List Nat) (k:Nat) (q u:List Nat):Prop where
 lenu:u.length=w.length
 lenq:q.length=w.length-v.length
 digu:Dig u
 digq:Dig q
 zero:Zero u (k+v.length)
 val:mval (q.drop k)*1000000000 ^ k*mval v+mval u=mval w
 small:mval u<1000000000 ^ k*mval v
theorem DivInv.start {w v:List Nat} (G:Dig w) (H:mval w<1000000000 ^ (w.length-v.length)*mval v) (F:v.length<=w.length):DivInv w v (w.length-v.length) (List.replicate (w.length-v.length) 0) w :=
 ⟨rfl,by simp,G,Dig.zeros _,by rw [Nat.sub_add_cancel F];exact Zero.all w,by rw [qba (by simp)];simp [mval],H⟩
theorem qkt {u:List Nat} {k n:Nat} (G:k+n<=u.length) (F:Zero u (k+n)):mval u=mval (u.take k)+1000000000 ^ k*mval ((u.drop k).take n):=by
 rw [<-qcx F,List.take_add,qcs,qay,qa7 (by omega)]
theorem DivInv.part {w v q u:List Nat} {k:Nat} (h:DivInv w v (k+1) q u) (H:k+1+v.length<=w.length):mval ((u.drop k).take (v.length+1))<1000000000*mval v/\((u.drop k).take (v.length+1)).length=v.length+1/\Dig ((u.drop k).take (v.length+1)):=by
 have I:=h.lenu;refine⟨?_,by rw [qay,qbm];omega,(h.digu.drop _).take _⟩;have F:=h.small;have G:=qkt (u:=u) (k:=k) (n:=v.length+1) (by omega) (by have:=h.zero;rwa [show k+1+v.length=k+(v.length+1) by omega] at this);rw [qaI,qaz] at F;exact Nat.lt_of_mul_lt_mul_left (a:=1000000000 ^ k) (by omega)
theorem DivInv.step {w v q u R:List Nat} {k x:Nat} (h:DivInv w v (k+1) q u) (hk:k+1+v.length<=w.length) (hv:0<mval v) (I:Reduced ((u.drop k).take (v.length+1)) v R x) :
  DivInv w v k (q.set k x) (u.take k++R++u.drop (k+(v.length+1))):=by
 have hl:=h.lenu;have V:=h.lenq;obtain⟨p1,p2,p3⟩:=h.part hk;have G:=I.len;rw [p2] at G;have hx:x<1000000000:=by
  rw [I.quot,Nat.div_lt_iff_lt_mul hv];exact p1
 have aa:mval R<mval v:=by rw [I.val];exact qbA _ hv
 have F:(u.take k).length=k:=by rw [qay];omega
 have Z:=qkt (u:=u) (k:=k) (n:=v.length+1) (by omega) (by have:=h.zero;rwa [show k+1+v.length=k+(v.length+1) by omega] at this);have ag:mval (u.drop (k+(v.length+1)))=0:=qdq (by have:=h.zero;rwa [show k+1+v.length=k+(v.length+1) by omega] at this);have H:mval (u.take k++R++u.drop (k+(v.length+1)))=mval (u.take k)+1000000000 ^ k*mval R:=by
  rw [qcs,qcs,ag,F];omega
 have J:Dig (u.take k++R++u.drop (k+(v.length+1))):=((h.digu.take _).append I.dig).append (h.digu.drop _);have af:=(h.digu.take k).lt;rw [F] at af;have ae:mval (u.take k++R++u.drop (k+(v.length+1)))<1000000000 ^ k*mval v:=by
  rw [H];have:1000000000 ^ k*(mval R+1)<=1000000000 ^ k*mval v:=qaR _ aa;rw [qaT] at this;omega
 have U:(u.take k++R++u.drop (k+(v.length+1))).length=w.length:=by
  rw [qaf,qaf,F,G,qbm];omega
 refine⟨U,by rw [qaC,V],J,h.digq.set hx _,?_,?_,ae⟩
 ·intro j hj;have hz:=h.zero;rw [qaa,List.getElem?_append];split
  ·rename_i h1;rw [qao (by omega),<-qaa];exact I.top _ (by omega)
  ·rename_i h1;rw [qaf,F,G] at h1;rw [qaf,F,G,List.getElem?_drop,<-qaa];exact hz _ (by omega)
 ·rw [qde (by rw [V];omega),H];have Y:=h.val;rw [qaI,Z] at Y;have O:=Nat.div_add_mod (mval ((u.drop k).take (v.length+1))) (mval v);rw [<-I.quot,<-I.val] at O;refine div_alg Y ?_;rw [<-O,qaT,qax x];omega
theorem qhC {v:List Nat} {n:Nat} (O:2<=n) (H:v.length=n):mval v=(v.getD (n-1) 0*1000000000+v.getD (n-2) 0)*1000000000 ^ (n-2)+mval (v.take (n-2)):=by
 have F:=qbU v (n-1);have G:=qbU v (n-2);rw [show n-1+1=n by omega,<-H,qbg,H] at F;rw [show n-2+1=n-1 by omega] at G;rw [F,G,show n-1=(n-2)+1 by omega,qaI];generalize 1000000000 ^ (n-2)=P;have I:P*1000000000*v.getD (n-2+1) 0=v.getD (n-2+1) 0*1000000000*P:=by simp only [qax,qbt]
 have J:P*v.getD (n-2) 0=v.getD (n-2) 0*P:=qax _ _;rw [qaG,I,J];omega
theorem qkA {u:List Nat} {n:Nat} (I:2<=n) (H:u.length=n+1):mval u=((u.getD n 0*1000000000+u.getD (n-1) 0)*1000000000+u.getD (n-2) 0)*1000000000 ^ (n-2)+mval (u.take (n-2)):=by
 have F:=qbU u n;have h:=qhC (v:=u.take n) I (by rw [qay];omega);have g1:(u.take n).getD (n-1) 0=u.getD (n-1) 0:=by rw [qaa,List.getElem?_take_of_lt (by omega),<-qaa]
 have G:(u.take n).getD (n-2) 0=u.getD (n-2) 0:=by rw [qaa,List.getElem?_take_of_lt (by omega),<-qaa]
 rw [<-H,qbg] at F;rw [g1,G,List.take_take,qa7 (by omega)] at h;rw [F,h,show 1000000000 ^ n=1000000000 ^ (n-2)*(1000000000*1000000000) by rw [<-Nat.pow_two,<-Nat.pow_add];congr 1;omega];generalize 1000000000 ^ (n-2)=P;simp only [qaG];have:P*(1000000000*1000000000)*u.getD n 0=u.getD n 0*1000000000*1000000000*P:=by
  simp only [qax,qbt]
 omega
structure Est (u v:List Nat) (n:Nat):Prop where
 two:2<=n
 lu:u.length=n+1
 lv:v.length=n
 du:Dig u
 dv:Dig v
 half:1000000000<=2*v.getD (n-1) 0+1
 small:mval u<1000000000*mval v
namespace Est
variable {u v:List Nat} {n:Nat}
def top (v:List Nat) (n:Nat):Nat:=v.getD (n-1) 0
def head (u:List Nat) (n:Nat):Nat:=u.getD n 0*1000000000+u.getD (n-1) 0
theorem top_pos (h:Est u v n):0<top v n:=by have:=h.half;unfold top;omega
theorem v_pos (h:Est u v n):0<mval v:=by
 rw [qhC h.two h.lv];have F:=h.top_pos;have G:=qga (n-2);have:0<(v.getD (n-1) 0*1000000000+v.getD (n-2) 0)*1000000000 ^ (n-2):=qbQ (by unfold top at F;omega) G;omega
theorem low (h:Est u v n):mval (u.take (n-2))<1000000000 ^ (n-2)/\mval (v.take (n-2))<1000000000 ^ (n-2):=by
 have F:=(h.du.take (n-2)).lt;have G:=(h.dv.take (n-2)).lt;rw [qay,qa7 (by have:=h.lu;omega)] at F;rw [qay,qa7 (by have:=h.lv;omega)] at G;exact⟨F,G⟩
theorem head_lt (h:Est u v n):head u n<(top v n+1)*1000000000 :=
 est_head (qga _) (by decide) (qkA h.two h.lu) (qhC h.two h.lv) (h.dv _) h.low.2 h.small
theorem quot_lt (h:Est u v n):mval u / mval v<1000000000:=(Nat.div_lt_iff_lt_mul h.v_pos).2 h.small
theorem first (h:Est u v n):mval u / mval v<=head u n / top v n/\head u n / top v n<=1000000002:=by
 refine⟨qlO (qga _) (qkA h.two h.lu) (qhC h.two h.lv) (h.du _) h.low.1 h.top_pos,?_⟩;have F:=h.head_lt;have G:=h.half;have:head u n / top v n<1000000003:=by
  rw [Nat.div_lt_iff_lt_mul h.top_pos];unfold top at *;omega
 omega
theorem down (h:Est u v n) {q r:Nat} (F:q*top v n+r=head u n) (H:mval u / mval v<=q) (G:1000000000<=q\/r*1000000000+u.getD (n-2) 0<q*v.getD (n-2) 0) :
  1<=q/\mval u / mval v<=q-1/\(q-1)*top v n+(r+top v n)=head u n:=by
 have I:mval u / mval v<q:=by
  rcases G with h1 | h1
  ·have:=h.quot_lt;omega
  ·exact est_test h.v_pos (qkA h.two h.lu) (qhC h.two h.lv) h.low.1 F h1
 clear G;generalize mval u / mval v=Q at *;obtain⟨p,rfl⟩:∃p,q=p+1:=⟨q-1,by omega⟩;rw [qaG,qbv] at F;refine⟨by omega,by omega,?_⟩;rw [Nat.add_sub_cancel];omega
theorem done (h:Est u v n) {q r:Nat} (G:q*top v n+r=head u n) (H:q<1000000000) (F:q*v.getD (n-2) 0<=r*1000000000+u.getD (n-2) 0):q<=mval u / mval v+1 :=
 est_done h.v_pos (qkA h.two h.lu) (qhC h.two h.lv) h.low.2 h.top_pos (by omega) G F
theorem broke (h:Est u v n) {q r:Nat} (J:q*top v n+r=head u n) (O:1000000000<=r):q<1000000000/\q<=mval u / mval v+1:=by
 have G:=h.head_lt;have F:q<1000000000:=by
  rcases qaM q 1000000000 with h2 | h2
  ·exact h2
  ·have:1000000000*top v n<=q*top v n:=qa5 _ h2;rw [qaG,qax (top v n)] at G;omega
 refine⟨F,h.done J F ?_⟩;have H:q*v.getD (n-2) 0<=q*1000000000:=qaR _ (qaq (h.dv _));have I:q*1000000000<=r*1000000000:=qa5 _ (qaj (qaq F) O);exact qaj H (qaj I (Nat.le_add_right _ _))
end Est
theorem qhA {t s:Nat} (ht:0<t) (aa:t<1000000000) (F:1000000000 / (t+1)=s):0<s/\s<=500000000/\(t+1)*s<=1000000000/\1000000000<=2*(t*s)+1:=by
 have U:(t+1)*s<=1000000000:=by rw [<-F];exact Nat.mul_div_le _ _
 have O:0<s:=by rw [<-F];exact Nat.div_pos (by omega) (by omega)
 have V:1000000000<(t+1)*(s+1):=by
  rw [<-F,qax];exact Nat.lt_mul_of_div_lt (Nat.lt_succ_self _) (by omega)
 have h3:s<=500000000:=by
  have:2*s<=(t+1)*s:=qa5 _ (by omega);omega
 refine⟨O,h3,U,?_⟩
 by_cases hb:1000000000<=2*t+1
 ·have:t*1<=t*s:=qaR _ O;omega
 ·obtain⟨d,hd⟩:∃d,1000000000=2*t+1+d:=⟨1000000000-(2*t+1),by omega⟩;obtain⟨p,rfl⟩:∃p,t=p+1:=⟨t-1,by omega⟩;have Y:1000000000+1<=(p+1+1)*(s+1):=V;have h5:(p+1)*(1000000000+1)<=(p+1)*((p+1+1)*(s+1)):=qaR _ Y;refine Nat.le_of_mul_le_mul_left (c:=p+1+1) ?_ (by omega);have e1:(p+1)*((p+1+1)*(s+1))=(p+1+1)*((p+1)*s)+(p+1+1)*(p+1):=by
   rw [qbt,qaT (p+1),qbD,qaT]
  have e2:(p+1+1)*(2*((p+1)*s)+1)=2*((p+1+1)*((p+1)*s))+(p+1+1):=by
   rw [qaT,qbD,qbt]
  rw [e2];rw [e1] at h5;have G:(p+1+1)*(p+1)=p*p+3*p+2:=by
   simp only [qaG,qaT,qbD,qbv];omega
  have e4:p*d+p*(2*p+3)=p*1000000000:=by rw [<-qaT];congr 1;omega
  have H:p*(2*p+3)=2*(p*p)+3*p:=by rw [qaT,qbt,qax p 3]
  have I:(p+1)*(1000000000+1)=p*(1000000000+1)+(1000000000+1):=by rw [qaG p 1,qbv]
  have J:p*(1000000000+1)=p*1000000000+p:=by rw [qaT,qbD]
  rw [I,J,G] at h5;rw [H] at e4;generalize (p+1+1)*((p+1)*s)=Z at *;generalize p*p=pp at *;clear G H I J Y V U F;omega
theorem qhd {O V:List Nat} {n s:Nat} (hO:Dig O) (U:O.length=n) (hn:2<=n) (nO:Nrm O) (hs:1000000000 / (O.getD (n-1) 0+1)=s) (hV:Dig V) (nV:Nrm V) (hv:mval V=mval O*s):V.length=n/\1000000000<=2*V.getD (n-1) 0+1:=by
 have ht:O.getD (n-1) 0≠0:=by rw [<-U];exact nO.resolve_left (by omega)
 obtain⟨s0,s1,s2,s3⟩:=qhA (qbe ht) (hO (n-1)) hs;have e:=qbU O (n-1);rw [show n-1+1=n by omega,<-U,qbg,U] at e;have H:=(hO.take (n-1)).lt;rw [qay,qa7 (by omega)] at H;generalize O.getD (n-1) 0=t at *;have hP:1000000000 ^ n=1000000000 ^ (n-1)*1000000000:=by rw [<-qaI];congr 1;omega
 have aa:mval V<1000000000 ^ n:=by
  rw [hv,e,hP];have I:(mval (O.take (n-1))+1000000000 ^ (n-1)*t)*s<1000000000 ^ (n-1)*(t+1)*s:=by
   apply Nat.mul_lt_mul_of_pos_right ?_ s0;rw [qaT];omega
  have h2:1000000000 ^ (n-1)*(t+1)*s<=1000000000 ^ (n-1)*1000000000:=by
   rw [qaz];exact qaR _ s2
  omega
 have J:1000000000 ^ (n-1)*(t*s)<=mval V:=by
  rw [hv,e,qaG,qaz];omega
 have Y:=nV.len aa;have Z:n<=V.length:=by
  rcases qaM V.length n with h | h
  ·exfalso;have I:=hV.lt;have h2:1000000000 ^ V.length<=1000000000 ^ (n-1):=qaX (by decide) (by omega);have h3:1000000000 ^ (n-1)*1<=1000000000 ^ (n-1)*(t*s):=qaR _ (qbQ (qbe ht) s0);omega
  ·exact h
 have F:V.length=n:=by omega
 refine⟨F,?_⟩;have eV:=qbU V (n-1);rw [show n-1+1=n by omega,<-F,qbg,F] at eV;have G:=(hV.take (n-1)).lt;rw [qay,qa7 (by omega)] at G;have:t*s<=V.getD (n-1) 0:=by
  have I:1000000000 ^ (n-1)*(t*s)<1000000000 ^ (n-1)*(V.getD (n-1) 0+1):=by
   rw [qaT,qbD];omega
  have:=Nat.lt_of_mul_lt_mul_left I;omega
 omega
theorem div_end {x y s r Q:Nat} (G:0<s) (h:Q*(y*s)+r=x*s) (J:r<y*s):Q=x / y/\r / s=x % y:=by
 have hy:0<y:=by
  rcases qaW y with h0 | h0
  ·subst h0;omega
  ·exact h0
 have F:s∣r:=by
  have I:s∣Q*(y*s):=⟨Q*y,by rw [<-qaz,qax]⟩;exact (Nat.dvd_add_right I).1 (by rw [h];exact⟨x,qax _ _⟩)
 obtain⟨z,rfl⟩:=F;rw [qaQ _ G];have H:z<y:=by
  apply Nat.lt_of_mul_lt_mul_left (a:=s);rw [qax s y];exact J
 have e:Q*y+z=x:=by
  apply Nat.eq_of_mul_eq_mul_right G;rw [<-h,qaG,qaz,qax s z]
 rw [<-e]
 constructor
 ·rw [qax Q y,Nat.mul_add_div hy,Nat.div_eq_of_lt H];rfl
 ·rw [qax Q y,Nat.mul_add_mod,Nat.mod_eq_of_lt H]
theorem qlI {M O V:List Nat} {F n s:Nat} (J:Dig M) (G:M.length=F) (U:O.length=n) (hn:0<n) (nO:Nrm O) (Z:0<s) (Y:n<=F) (hv:mval V=mval O*s):mval M*s<1000000000 ^ (F+1-n)*mval V:=by
 have H:=nO.ge (by omega);rw [U] at H;have I:=J.lt;rw [G] at I;have e:1000000000 ^ F=1000000000 ^ (F+1-n)*1000000000 ^ (n-1):=by rw [<-Nat.pow_add];congr 1;omega
 rw [hv,<-qaz];apply Nat.mul_lt_mul_of_pos_right ?_ Z;have:1000000000 ^ (F+1-n)*1000000000 ^ (n-1)<=1000000000 ^ (F+1-n)*mval O:=qaR _ H;omega
