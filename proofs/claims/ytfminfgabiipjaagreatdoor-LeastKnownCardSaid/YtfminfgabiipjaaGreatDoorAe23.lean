/- Ae, part 23: Det Lin Bar Sol Bst -/
import Derived.KernelRfl
import Derived.Test.YtfminfgabiipjaaGreatDoorAe0
set_option maxRecDepth 100000
set_option maxHeartbeats 16000000
namespace Go.Proofs.YtfminfgabiipjaaGreatDoor
def sumN:Nat→(Nat→Int)→Int
 | 0,_=>0
 | n+1,f=>sumN n f+f n
theorem qbK {n:Nat} {f g:Nat→Int} (h:∀i,i<n→f i=g i):sumN n f=sumN n g:=by
 induction n with
 | zero=>rfl
 | succ n ih=>simp only [sumN];rw [ih fun i hi=>h i (by omega),h n (by omega)]
theorem qgk (n:Nat) (f g:Nat→Int):sumN n (fun i=>f i+g i)=sumN n f+sumN n g:=by
 induction n with
 | zero=>rfl
 | succ n ih=>simp only [sumN,ih];omega
theorem qeo (n:Nat) (c:Int) (f:Nat→Int):sumN n (fun i=>c*f i)=c*sumN n f:=by
 induction n with
 | zero=>simp [sumN]
 | succ n ih=>simp only [sumN,ih,Int.mul_add]
theorem qfq (n:Nat) (f:Nat→Int) (h:∀i,i<n→f i=0):sumN n f=0:=by
 induction n with
 | zero=>rfl
 | succ n ih=>simp only [sumN];rw [ih fun i hi=>h i (by omega),h n (by omega)];rfl
theorem qhS (n:Nat) (f:Nat→Int):sumN n (fun i=>- f i) = - sumN n f:=by
 induction n with
 | zero=>rfl
 | succ n ih=>simp only [sumN,ih];omega
theorem qgT (n m:Nat) (f:Nat→Nat→Int):sumN n (fun i=>sumN m (fun j=>f i j))=sumN m (fun j=>sumN n (fun i=>f i j)):=by
 induction n with
 | zero =>
  simp only [sumN]
  exact (qfq m _ fun _ _=>rfl).symm
 | succ n ih=>simp only [sumN,ih];rw [←qgk]
theorem qju (n:Nat) (f:Nat→Nat→Int) (h:∀i j,i<n→j<n→f i j = - f j i):sumN n (fun i=>sumN n (fun j=>f i j))=0:=by
 have h1:sumN n (fun i=>sumN n (fun j=>f i j))=sumN n (fun i=>sumN n (fun j=>- f j i)):=qbK fun i hi=>qbK fun j hj=>h i j hi hj
 have h2:sumN n (fun i=>sumN n (fun j=>- f j i)) = - sumN n (fun i=>sumN n (fun j=>f j i)):=by
  rw [←qhS];exact qbK fun i _=>qhS n _
 have h3:=qgT n n f
 omega
def skip (k c:Nat):Nat:=if c<k then c else c+1
theorem qdt {k c n:Nat} (hc:c<n):skip k c<n+1:=by unfold skip;split <;> omega
theorem skip_ne (k c:Nat):skip k c≠k:=by unfold skip;split <;> omega
theorem qjv (n k:Nat) (hk:k<n+1) (f:Nat→Int):sumN n (fun c=>f (skip k c))+f k=sumN (n+1) f:=by
 induction n with
 | zero =>
  obtain rfl:k=0:=by omega
  simp [sumN]
 | succ n ih =>
  by_cases hkn:k=n+1
  ·subst hkn
   simp only [sumN]
   have h1:sumN n (fun c=>f (skip (n+1) c))=sumN n f:=qbK fun i hi=>by unfold skip;rw [if_pos (by omega)]
   have h2:f (skip (n+1) n)=f n:=by unfold skip;rw [if_pos (by omega)]
   rw [h1,h2]
  ·have:=ih (by omega)
   simp only [sumN] at this ⊢
   have h2:f (skip k n)=f (n+1):=by unfold skip;rw [if_neg (by omega)]
   rw [h2];omega
def sg (j:Nat):Int:=if j % 2=0 then 1 else -1
def det:Nat→(Nat→Nat→Int)→Int
 | 0,_=>1
 | n+1,M=>sumN (n+1) fun j=>sg j*M 0 j*det n fun r c=>M (r+1) (skip j c)
theorem qdy:∀(n:Nat) (M N:Nat→Nat→Int),(∀r c,r<n→c<n→M r c=N r c)→det n M=det n N
 | 0,_,_,_=>rfl
 | n+1,M,N,h=>by
  simp only [det]
  refine qbK fun j hj=>?_
  rw [h 0 j (by omega) hj,qdy n _ _ fun r c hr hc=>h (r+1) (skip j c) (by omega) (qdt hc)]
theorem qdm:∀(n:Nat) (M N K:Nat→Nat→Int) (k:Nat),k<n→(∀c,c<n→K k c=M k c+N k c)→(∀r c,r<n→c<n→r≠k→K r c=M r c∧K r c=N r c)→det n K=det n M+det n N
 | 0,_,_,_,_,h,_,_=>absurd h (by omega)
 | n+1,M,N,K,0,_,hk,ho=>by
  simp only [det]
  rw [←qgk]
  refine qbK fun j hj=>?_
  have e1:det n (fun r c=>K (r+1) (skip j c))=det n (fun r c=>M (r+1) (skip j c)):=qdy n _ _ fun r c hr hc=>(ho (r+1) (skip j c) (by omega) (qdt hc) (by omega)).1
  have e2:det n (fun r c=>K (r+1) (skip j c))=det n (fun r c=>N (r+1) (skip j c)):=qdy n _ _ fun r c hr hc=>(ho (r+1) (skip j c) (by omega) (qdt hc) (by omega)).2
  rw [←e2,←e1,hk j hj,Int.mul_add,Int.add_mul]
 | n+1,M,N,K,k+1,h,hk,ho=>by
  simp only [det]
  rw [←qgk]
  refine qbK fun j hj=>?_
  have e:=qdm n (fun r c=>M (r+1) (skip j c)) (fun r c=>N (r+1) (skip j c)) (fun r c=>K (r+1) (skip j c)) k (by omega) (fun c hc=>hk (skip j c) (qdt hc)) (fun r c hr hc hrk=>ho (r+1) (skip j c) (by omega) (qdt hc) (by omega))
  have h0:=ho 0 j (by omega) hj (by omega)
  rw [e,Int.mul_add]
  rw [←h0.1]
  have:K 0 j=N 0 j:=h0.2
  rw [this]
theorem qdn:∀(n:Nat) (M K:Nat→Nat→Int) (k:Nat) (a:Int),k<n→(∀c,c<n→K k c=a*M k c)→(∀r c,r<n→c<n→r≠k→K r c=M r c)→det n K=a*det n M
 | 0,_,_,_,_,h,_,_=>absurd h (by omega)
 | n+1,M,K,0,a,_,hk,ho=>by
  simp only [det]
  rw [←qeo]
  refine qbK fun j hj=>?_
  rw [qdy n _ _ fun r c hr hc=>ho (r+1) (skip j c) (by omega) (qdt hc) (by omega),hk j hj]
  rw [←qbi,←qbi,qbd (sg j) a,qbi a (sg j)]
 | n+1,M,K,k+1,a,h,hk,ho=>by
  simp only [det]
  rw [←qeo]
  refine qbK fun j hj=>?_
  have e:=qdn n (fun r c=>M (r+1) (skip j c)) (fun r c=>K (r+1) (skip j c)) k a (by omega) (fun c hc=>hk (skip j c) (qdt hc)) (fun r c hr hc hrk=>ho (r+1) (skip j c) (by omega) (qdt hc) (by omega))
  rw [e,ho 0 j (by omega) hj (by omega),←qbi,←qbi,qbd (sg j*M 0 j) a,qbi]
def cof (j k:Nat):Nat:=if k<j then k else k-1
theorem cof_skip (j c:Nat):cof j (skip j c)=c:=by unfold cof skip;(repeat' split) <;> omega
theorem qin (j k x:Nat) (h:j≠k):skip j (skip (cof j k) x)=skip k (skip (cof k j) x):=by
 unfold cof skip
 by_cases h1:k<j
 ·have h2:¬j<k:=by omega
  simp only [h1,h2,if_true,if_false]
  (repeat' split) <;> omega
 ·have h2:j<k:=by omega
  simp only [h1,h2,if_true,if_false]
  (repeat' split) <;> omega
theorem sg_cof (j k:Nat) (h:j≠k):sg j*sg (cof j k) = - (sg k*sg (cof k j)):=by
 unfold sg cof
 by_cases h1:k<j
 ·have h2:¬j<k:=by omega
  simp only [h1,h2,if_true,if_false]
  (repeat' split) <;> first | omega | (exfalso;omega)
 ·have h2:j<k:=by omega
  simp only [h1,h2,if_true,if_false]
  (repeat' split) <;> first | omega | (exfalso;omega)
def two (n:Nat) (M:Nat→Nat→Int) (j k:Nat):Int:=if j=k then 0 else sg j*sg (cof j k)*(M 0 j*M 1 k)*det n fun r x=>M (r+2) (skip j (skip (cof j k) x))
theorem det_two (n:Nat) (M:Nat→Nat→Int):det (n+2) M=sumN (n+2) fun j=>sumN (n+2) fun k=>two n M j k:=by
 show sumN (n+2) (fun j=>sg j*M 0 j*det (n+1) fun r c=>M (r+1) (skip j c))=_
 refine qbK fun j hj=>?_
 rw [←qjv (n+1) j hj]
 have h0:two n M j j=0:=by unfold two;rw [if_pos rfl]
 rw [h0,Int.add_zero]
 show sg j*M 0 j*sumN (n+1) (fun c=>sg c*M 1 (skip j c)*det n fun r x=>M (r+2) (skip j (skip c x)))=_
 rw [←qeo]
 refine qbK fun c hc=>?_
 unfold two
 rw [if_neg (Ne.symm (skip_ne j c)),cof_skip]
 simp only [qbi,qbd,Int.mul_left_comm]
theorem qhX (n:Nat) (M:Nat→Nat→Int) (h:∀c,c<n+2→M 0 c=M 1 c):det (n+2) M=0:=by
 rw [det_two]
 refine qju (n+2) _ fun j k hj hk=>?_
 unfold two
 by_cases hjk:j=k
 ·rw [if_pos hjk,if_pos hjk.symm];rfl
 ·rw [if_neg hjk,if_neg (Ne.symm hjk),sg_cof j k hjk]
  have e:(fun r x=>M (r+2) (skip j (skip (cof j k) x)))=fun r x=>M (r+2) (skip k (skip (cof k j) x)):=by
   funext r x;rw [qin j k x hjk]
  rw [e,h j hj,←h k hk,qbd (M 1 j) (M 0 k),Int.neg_mul,Int.neg_mul]
theorem qdo:∀(n:Nat) (M:Nat→Nat→Int) (k:Nat),k+1<n→(∀c,c<n→M k c=M (k+1) c)→det n M=0
 | 0,_,_,h,_=>absurd h (by omega)
 | 1,_,_,h,_=>absurd h (by omega)
 | n+2,M,0,_,h=>qhX n M h
 | n+2,M,k+1,hk,h=>by
  show sumN (n+2) (fun j=>sg j*M 0 j*det (n+1) fun r c=>M (r+1) (skip j c))=0
  refine qfq _ _ fun j hj=>?_
  rw [qdo (n+1) (fun r c=>M (r+1) (skip j c)) k (by omega) fun c hc=>h (skip j c) (qdt hc),qbn]
def R2 (M:Nat→Nat→Int) (k:Nat) (x y:Nat→Int):Nat→Nat→Int:=fun r c=>if r=k then x c else if r=k+1 then y c else M r c
theorem R2_left (n:Nat) (M:Nat→Nat→Int) (k:Nat) (hk:k+1<n) (x x' y:Nat→Int):det n (R2 M k (fun c=>x c+x' c) y)=det n (R2 M k x y)+det n (R2 M k x' y) :=
 qdm n _ _ _ k (by omega) (fun c _=>by simp [R2]) fun r c _ _ hr=>by simp [R2,hr]
theorem qhn (n:Nat) (M:Nat→Nat→Int) (k:Nat) (hk:k+1<n) (x y y':Nat→Int):det n (R2 M k x (fun c=>y c+y' c))=det n (R2 M k x y)+det n (R2 M k x y') :=
 qdm n _ _ _ (k+1) (by omega) (fun c _=>by simp [R2]) fun r c _ _ hr=>by simp [R2,hr]
theorem qgZ (n:Nat) (M:Nat→Nat→Int) (k:Nat) (hk:k+1<n) (x:Nat→Int):det n (R2 M k x x)=0 :=
 qdo n _ k hk fun c _=>by simp [R2]
theorem R2_swap (n:Nat) (M:Nat→Nat→Int) (k:Nat) (hk:k+1<n) (x y:Nat→Int):det n (R2 M k x y) = - det n (R2 M k y x):=by
 have h:=qgZ n M k hk fun c=>x c+y c
 rw [R2_left n M k hk,qhn n M k hk,qhn n M k hk,qgZ n M k hk,qgZ n M k hk] at h
 omega
theorem R2_self (M:Nat→Nat→Int) (k:Nat):R2 M k (M k) (M (k+1))=M:=by
 funext r c
 unfold R2
 split
 ·rename_i h;rw [h]
 ·split
  ·rename_i h;rw [h]
  ·rfl
theorem qeS (n:Nat):∀(d:Nat) (M:Nat→Nat→Int) (i:Nat),i+d+1<n→(∀c,c<n→M i c=M (i+d+1) c)→det n M=0
 | 0,M,i,hi,h=>qdo n M i hi h
 | d+1,M,i,hi,h=>by
  have hs:=R2_swap n M (i+d+1) (by omega) (M (i+d+1)) (M (i+d+1+1))
  rw [R2_self] at hs
  rw [hs,qeS n d (R2 M (i+d+1) (M (i+d+1+1)) (M (i+d+1))) i (by omega) (fun c hc=>by
   have:¬i=i+d+1:=by omega
   have h2:¬i=i+d+1+1:=by omega
   simp only [R2,this,h2,if_false,if_true]
   exact h c hc)]
  rfl
theorem qg2 (n:Nat) (M K:Nat→Nat→Int) (i s:Nat) (a:Int) (hi:i<n) (hs:s<n) (his:i≠s) (hk:∀c,c<n→K i c=M i c+a*M s c) (ho:∀r c,r<n→c<n→r≠i→K r c=M r c):det n K=det n M:=by
 have h1:=qdm n M (fun r c=>if r=i then a*M s c else M r c) K i hi (fun c hc=>by simp [hk c hc]) fun r c hr hc hri=>by
  rw [ho r c hr hc hri];simp [hri]
 have h2:=qdn n (fun r c=>if r=i then M s c else M r c) (fun r c=>if r=i then a*M s c else M r c) i a hi (fun c _=>by simp) fun r c _ _ hri=>by simp [hri]
 have h3:det n (fun r c=>if r=i then M s c else M r c)=0:=by
  rcases Nat.lt_or_gt_of_ne his with h | h
  ·obtain⟨d,rfl⟩:∃d,s=i+d+1:=⟨s-i-1,by omega⟩
   refine qeS n d _ i (by omega) fun c _=>?_
   have:¬i+d+1=i:=by omega
   simp [this]
  ·obtain⟨d,rfl⟩:∃d,i=s+d+1:=⟨i-s-1,by omega⟩
   refine qeS n d _ s (by omega) fun c _=>?_
   have:¬s=s+d+1:=by omega
   simp [this]
 rw [h1,h2,h3,qbn,Int.add_zero]
theorem qdi (n:Nat) (f:Nat→Int):sumN (n+1) f=f 0+sumN n fun i=>f (i+1):=by
 induction n with
 | zero=>simp [sumN]
 | succ n ih =>
  have:sumN (n+1+1) f=sumN (n+1) f+f (n+1):=rfl
  rw [this,ih]
  simp only [sumN]
  omega
theorem qjr (j:Nat):sg (j+1) = - sg j:=by
 unfold sg
 (repeat' split) <;> first | omega | (exfalso;omega)
theorem qcS (r:Nat):skip 0 r=r+1:=by unfold skip;rw [if_neg (by omega)]
theorem qdU (j:Nat):skip (j+1) 0=0:=by unfold skip;rw [if_pos (by omega)]
theorem qdT (j c:Nat):skip (j+1) (c+1)=skip j c+1:=by unfold skip;(repeat' split) <;> omega
theorem qg4:∀(n:Nat) (M:Nat→Nat→Int),det (n+1) M=sumN (n+1) fun i=>sg i*M i 0*det n fun r c=>M (skip i r) (c+1)
 | 0,M=>by
  show sumN 1 _=sumN 1 _
  exact qbK fun i hi=>by
   obtain rfl:i=0:=by omega
   rfl
 | n+1,M=>by
  show sumN (n+1+1) (fun j=>sg j*M 0 j*det (n+1) fun r c=>M (r+1) (skip j c))=_
  rw [qdi,qdi (n+1)]
  have hadd:∀a b c d:Int,a=c→b=d→a+b=c+d:=fun a b c d h k=>by rw [h,k]
  refine hadd _ _ _ _ ?_ ?_
  ·have e0:(fun r c=>M (r+1) (skip 0 c))=fun r c=>M (skip 0 r) (c+1):=by
    funext r c
    rw [qcS,qcS]
   rw [e0]
  ·have e1:∀j,sg (j+1)*M 0 (j+1)*det (n+1) (fun r c=>M (r+1) (skip (j+1) c))=sumN (n+1) fun i=>- (sg j*sg i*(M 0 (j+1)*M (i+1) 0)*det n fun r c=>M (skip i r+1) (skip j c+1)):=by
    intro j
    rw [qg4 n,←qeo]
    refine qbK fun i _=>?_
    simp only [qdU,qdT,qjr]
    simp only [Int.neg_mul,Int.mul_neg,qbi,Int.mul_left_comm]
   have e2:∀i,sg (i+1)*M (i+1) 0*det (n+1) (fun r c=>M (skip (i+1) r) (c+1))=sumN (n+1) fun j=>- (sg j*sg i*(M 0 (j+1)*M (i+1) 0)*det n fun r c=>M (skip i r+1) (skip j c+1)):=by
    intro i
    show _*sumN (n+1) (fun j=>sg j*M (skip (i+1) 0) (j+1)*det n fun r c=>M (skip (i+1) (r+1)) (skip j c+1))=_
    rw [←qeo]
    refine qbK fun j _=>?_
    simp only [qdU,qdT,qjr]
    simp only [Int.neg_mul,Int.mul_neg,qbi,Int.mul_left_comm,qbd]
   rw [qbK fun j _=>e1 j,qbK fun i _=>e2 i,qgT]
theorem qhq:∀(n:Nat) (M:Nat→Nat→Int),det n (fun r c=>M c r)=det n M
 | 0,_=>rfl
 | n+1,M=>by
  rw [qg4 n M]
  show sumN (n+1) (fun j=>sg j*M j 0*det n fun r c=>M (skip j c) (r+1))=_
  exact qbK fun j _=>by rw [qhq n fun r c=>M (skip j r) (c+1)]
theorem qf4 (n:Nat) (i:Nat) (hi:i<2):∀(m:Nat) (M K:Nat→Nat→Int) (L:Nat→Int),m+2≤n→(∀c,c<n→K i c=M i c+sumN m fun s=>L s*M (s+2) c)→(∀r c,r<n→c<n→r≠i→K r c=M r c)→det n K=det n M
 | 0,M,K,L,hm,hk,ho=>qdy n K M fun r c hr hc=>by
  by_cases h:r=i
  ·subst h;rw [hk c hc];simp [sumN]
  ·exact ho r c hr hc h
 | m+1,M,K,L,hm,hk,ho=>by
  have h1:=qf4 n i hi m M (fun r c=>if r=i then M i c+sumN m (fun s=>L s*M (s+2) c) else M r c) L (by omega) (fun c _=>by simp) fun r c _ _ hr=>by simp [hr]
  rw [←h1]
  refine qg2 n _ K i (m+2) (L m) (by omega) (by omega) (by omega) (fun c hc=>?_) fun r c hr hc hri=>by rw [ho r c hr hc hri];simp [hri]
  have:¬m+2=i:=by omega
  rw [hk c hc]
  simp only [sumN,this,if_true,if_false]
  omega
def bord (k:Nat) (M:Nat→Nat→Int) (a c:Nat):Int:=det (k+1) fun r x=>M (if r=0 then a else r+1) (if x=0 then c else x+1)
def steps (k:Nat) (M:Nat→Nat→Int):Int:=det k fun r c=>M (r+2) (c+2)
def lam (k:Nat) (M:Nat→Nat→Int) (a s:Nat):Int:=sg (s+1)*det k fun r x=>M (if skip (s+1) r=0 then a else skip (s+1) r+1) (x+2)
theorem qgs (k:Nat) (M:Nat→Nat→Int) (a c:Nat):bord k M a c=steps k M*M a c+sumN k fun s=>lam k M a s*M (s+2) c:=by
 unfold bord steps
 rw [qg4,qdi]
 have hadd:∀a b c d:Int,a=c→b=d→a+b=c+d:=fun a b c d h k=>by rw [h,k]
 refine hadd _ _ _ _ ?_ (qbK fun s hs=>?_)
 ·have e:(fun r x=>M (if skip 0 r=0 then a else skip 0 r+1) (if x+1=0 then c else x+1+1))=fun r x=>M (r+2) (x+2):=by
   funext r x
   rw [qcS];simp
  rw [e]
  simp [sg,qbd]
 ·have h1:¬s+1=0:=by omega
  have e:(fun r x=>M (if skip (s+1) r=0 then a else skip (s+1) r+1) (if x+1=0 then c else x+1+1))=fun r x=>M (if skip (s+1) r=0 then a else skip (s+1) r+1) (x+2):=by
   funext r x;simp
  rw [e]
  unfold lam
  simp only [h1,if_true,if_false,qbi,qbd]
theorem qgt (k:Nat) (M:Nat→Nat→Int) (a c:Nat) (hc:c<k):bord k M a (c+2)=0:=by
 unfold bord
 rw [←qhq]
 refine qeS (k+1) c _ 0 (by omega) fun r _=>?_
 have:¬0+c+1=0:=by omega
 simp only [this,if_true,if_false]
 rw [show 0+c+1+1=c+2 by omega]
theorem qen (n:Nat) (f:Nat→Int) (h:∀i,i<n→f (i+1)=0):sumN (n+1) f=f 0:=by
 rw [qdi,qfq n _ h,Int.add_zero]
theorem sg0:sg 0=1:=rfl
theorem sg1:sg 1 = -1:=rfl
def cleared (k:Nat) (M:Nat→Nat→Int):Nat→Nat→Int:=fun r c=>if r=0 then bord k M 0 c else if r=1 then bord k M 1 c else M r c
theorem qg3 (k:Nat) (M:Nat→Nat→Int):det (k+2) (cleared k M)=steps k M*(steps k M*det (k+2) M):=by
 have h1:det (k+2) (fun r c=>if r=0 then steps k M*M 0 c else M r c)=steps k M*det (k+2) M :=
  qdn (k+2) M _ 0 (steps k M) (by omega) (fun c _=>by simp) fun r c _ _ hr=>by simp [hr]
 have h2:det (k+2) (fun r c=>if r=0 then bord k M 0 c else M r c)=det (k+2) (fun r c=>if r=0 then steps k M*M 0 c else M r c) :=
  qf4 (k+2) 0 (by omega) k _ _ (lam k M 0) qN (fun c _=>by
   show bord k M 0 c=_
   rw [qgs]
   simp) fun r c _ _ hr=>by simp [hr]
 have h3:det (k+2) (fun r c=>if r=1 then steps k M*M 1 c else if r=0 then bord k M 0 c else M r c)=steps k M*det (k+2) (fun r c=>if r=0 then bord k M 0 c else M r c) :=
  qdn (k+2) _ _ 1 (steps k M) (by omega) (fun c _=>by simp) fun r c _ _ hr=>by simp [hr]
 have h4:det (k+2) (cleared k M)=det (k+2) (fun r c=>if r=1 then steps k M*M 1 c else if r=0 then bord k M 0 c else M r c) :=
  qf4 (k+2) 1 (by omega) k _ _ (lam k M 1) qN (fun c _=>by
   show bord k M 1 c=_
   rw [qgs]
   simp) fun r c _ _ hr=>by
    by_cases h0:r=0
    ·subst h0;simp [cleared]
    ·simp [cleared,hr,h0]
 rw [h4,h3,h2,h1]
theorem qgv (k:Nat) (M:Nat→Nat→Int):det (k+2) (cleared k M)=(bord k M 0 0*bord k M 1 1-bord k M 0 1*bord k M 1 0)*steps k M:=by
 have z0:∀c,c<k→cleared k M 0 (c+2)=0:=fun c hc=>qgt k M 0 c hc
 have z1:∀c,c<k→cleared k M 1 (c+2)=0:=fun c hc=>qgt k M 1 c hc
 have a:det (k+1) (fun r c=>cleared k M (r+1) (skip 0 c))=bord k M 1 1*steps k M:=by
  show sumN (k+1) (fun j=>sg j*cleared k M 1 (skip 0 j)*det k fun r c=>cleared k M (r+2) (skip 0 (skip j c)))=_
  rw [qen k _ fun i hi=>by
   simp only [qcS]
   rw [z1 i hi,qbn,Int.zero_mul]]
  have e:(fun r c=>cleared k M (r+2) (skip 0 (skip 0 c)))=fun r c=>M (r+2) (c+2):=by
   funext r c
   simp [qcS,cleared]
  rw [e,sg0,Int.one_mul]
  rfl
 have b:det (k+1) (fun r c=>cleared k M (r+1) (skip 1 c))=bord k M 1 0*steps k M:=by
  show sumN (k+1) (fun j=>sg j*cleared k M 1 (skip 1 j)*det k fun r c=>cleared k M (r+2) (skip 1 (skip j c)))=_
  have s1:∀c,skip 1 (c+1)=c+2:=fun c=>by unfold skip;rw [if_neg (by omega)]
  rw [qen k _ fun i hi=>by
   rw [s1,z1 i hi,qbn,Int.zero_mul]]
  have e:(fun r c=>cleared k M (r+2) (skip 1 (skip 0 c)))=fun r c=>M (r+2) (c+2):=by
   funext r c
   rw [qcS,s1]
   simp [cleared]
  rw [e,sg0,Int.one_mul]
  rfl
 show sumN (k+1+1) (fun j=>sg j*cleared k M 0 j*det (k+1) fun r c=>cleared k M (r+1) (skip j c))=_
 rw [qdi,qen k _ fun i hi=>by rw [z0 i hi,qbn,Int.zero_mul]]
 simp only [qaW]
 rw [a,b,sg0,sg1,Int.one_mul]
 show bord k M 0 0*(bord k M 1 1*steps k M) + -1*bord k M 0 1*(bord k M 1 0*steps k M)=_
 rw [Int.sub_mul,Int.neg_mul,Int.one_mul,Int.neg_mul,qbi,qbi]
 omega
theorem qjx (k:Nat) (M:Nat→Nat→Int) (hd:steps k M≠0):bord k M 0 0*bord k M 1 1-bord k M 0 1*bord k M 1 0=steps k M*det (k+2) M:=by
 have h:=(qgv k M).symm.trans (qg3 k M)
 rw [qbd _ (steps k M)] at h
 exact Int.eq_of_mul_eq_mul_left hd h
def sumQ:Nat→(Nat→Rat)→Rat
 | 0,_=>0
 | n+1,f=>sumQ n f+f n
theorem qbz:∀{n:Nat} {f g:Nat→Rat},(∀i,i<n→f i=g i)→sumQ n f=sumQ n g
 | 0,_,_,_=>rfl
 | n+1,f,g,h=>by
  show sumQ n f+f n=sumQ n g+g n
  rw [qbz fun i hi=>h i (by omega),h n (by omega)]
theorem qcs:∀(n:Nat) (f:Nat→Rat),(∀i,i<n→f i=0)→sumQ n f=0
 | 0,_,_=>rfl
 | n+1,f,h=>by
  show sumQ n f+f n=0
  rw [qcs n f fun i hi=>h i (by omega),h n (by omega)];grind
theorem qdP:∀(n:Nat) (f g:Nat→Rat),sumQ n (fun i=>f i+g i)=sumQ n f+sumQ n g
 | 0,_,_=>by simp [sumQ];try grind
 | n+1,f,g=>by
  show sumQ n (fun i=>f i+g i)+(f n+g n)=sumQ n f+f n+(sumQ n g+g n)
  rw [qdP n f g];grind
theorem qbZ:∀(n:Nat) (a:Rat) (f:Nat→Rat),sumQ n (fun i=>a*f i)=a*sumQ n f
 | 0,a,_=>by simp [sumQ]
 | n+1,a,f=>by
  show sumQ n (fun i=>a*f i)+a*f n=a*(sumQ n f+f n)
  rw [qbZ n a f];grind
theorem qdF:∀(n m:Nat) (f:Nat→Nat→Rat),sumQ n (fun i=>sumQ m fun j=>f i j)=sumQ m fun j=>sumQ n fun i=>f i j
 | 0,m,f=>(qcs m _ fun _ _=>rfl).symm
 | n+1,m,f=>by
  show sumQ n (fun i=>sumQ m fun j=>f i j)+sumQ m (fun j=>f n j)=sumQ m fun j=>(sumQ n (fun i=>f i j)+f n j)
  rw [qdF n m f,qdP]
theorem qcY:∀(n k:Nat) (f:Nat→Rat),k<n→(∀i,i<n→i≠k→f i=0)→sumQ n f=f k
 | 0,k,_,h,_=>absurd h (by omega)
 | n+1,k,f,h,h0=>by
  show sumQ n f+f n=f k
  by_cases e:k=n
  ·subst e
   rw [qcs k f fun i hi=>h0 i (by omega) (by omega)];grind
  ·rw [qcY n k f (by omega) fun i hi hik=>h0 i (by omega) hik,h0 n (by omega) (fun h=>e h.symm)];grind
theorem sumQ_two (n k l:Nat) (f:Nat→Rat) (hk:k<n) (hl:l<n) (hkl:k≠l) (h0:∀i,i<n→i≠k→i≠l→f i=0):sumQ n f=f k+f l:=by
 have e:sumQ n f=sumQ n (fun i=>(if i=k then f i else 0)+(if i=k then 0 else f i)):=qbz fun i _=>by split <;> grind
 rw [e,qdP,qcY n k _ hk (fun i _ hik=>if_neg hik),qcY n l _ hl (fun i hi hil=>by
  by_cases h:i=k
  ·rw [if_pos h]
  ·rw [if_neg h];exact h0 i hi h hil),if_pos rfl,if_neg (fun h=>hkl h.symm)]
theorem qeO:∀(n m:Nat) (f:Nat→Rat),sumQ (n+m) f=sumQ n f+sumQ m fun i=>f (n+i)
 | n,0,f=>by simp [sumQ];try grind
 | n,m+1,f=>by
  show sumQ (n+m) f+f (n+m)=sumQ n f+(sumQ m (fun i=>f (n+i))+f (n+m))
  rw [qeO n m f];grind
def Span (R n:Nat) (A:Nat→Nat→Rat) (v:Nat→Rat):Prop:=∃c:Nat→Rat,∀j,j<n→v j=sumQ R fun i=>c i*A i j
theorem Span.row {R n:Nat} {A:Nat→Nat→Rat} {i:Nat} (hi:i<R):Span R n A (A i) :=
 ⟨fun k=>if k=i then 1 else 0,fun j _=>by
  rw [qcY R i _ hi (fun k _ hk=>by simp [hk])];simp⟩
theorem Span.congr {R n:Nat} {A B:Nat→Nat→Rat} {v u:Nat→Rat} (h:Span R n A v) (hA:∀i,i<R→∀j,j<n→A i j=B i j) (hv:∀j,j<n→v j=u j):Span R n B u:=by
 obtain⟨c,hc⟩:=h
 exact⟨c,fun j hj=>by rw [←hv j hj,hc j hj];exact qbz fun i hi=>by rw [hA i hi j hj]⟩
theorem Span.zero {R n:Nat} {A:Nat→Nat→Rat} {v:Nat→Rat} (h:∀j,j<n→v j=0):Span R n A v :=
 ⟨fun _=>0,fun j hj=>by rw [h j hj,qcs];intro i _;grind⟩
theorem Span.comb {R n:Nat} {A:Nat→Nat→Rat} {u v:Nat→Rat} (hu:Span R n A u) (hv:Span R n A v) (a b:Rat):Span R n A (fun j=>a*u j+b*v j):=by
 obtain⟨c,hc⟩:=hu
 obtain⟨d,hd⟩:=hv
 refine⟨fun i=>a*c i+b*d i,fun j hj=>?_⟩
 show a*u j+b*v j=_
 rw [hc j hj,hd j hj,←qbZ,←qbZ,←qdP]
 exact qbz fun i _=>by grind
theorem Span.trans {R S n:Nat} {A B:Nat→Nat→Rat} {v:Nat→Rat} (h:Span R n A v) (hA:∀i,i<R→Span S n B (A i)):Span S n B v:=by
 obtain⟨c,hc⟩:=h
 have:∀i,∃d:Nat→Rat,i<R→∀j,j<n→A i j=sumQ S fun k=>d k*B k j:=fun i=>by
  by_cases hi:i<R
  ·obtain⟨d,hd⟩:=hA i hi
   exact⟨d,fun _=>hd⟩
  ·exact⟨fun _=>0,fun h=>absurd h hi⟩
 refine⟨fun k=>sumQ R fun i=>c i*(Classical.choose (this i)) k,fun j hj=>?_⟩
 rw [hc j hj]
 have e1:sumQ S (fun k=>sumQ R (fun i=>c i*(Classical.choose (this i)) k)*B k j)=sumQ S fun k=>sumQ R fun i=>c i*((Classical.choose (this i)) k*B k j):=qbz fun k _=>by
  rw [show sumQ R (fun i=>c i*(Classical.choose (this i)) k)*B k j=B k j*sumQ R (fun i=>c i*(Classical.choose (this i)) k) by grind,←qbZ]
  exact qbz fun i _=>by grind
 rw [e1,←qdF]
 refine qbz fun i hi=>?_
 rw [qbZ,Classical.choose_spec (this i) hi j hj]
def qcc (R S n:Nat) (A B:Nat→Nat→Rat):Prop:=(∀i,i<R→Span S n B (A i))∧∀i,i<S→Span R n A (B i)
theorem qcc.refl (R n:Nat) (A:Nat→Nat→Rat):qcc R R n A A:=⟨fun _ hi=>Span.row hi,fun _ hi=>Span.row hi⟩
theorem qcc.symm {R S n:Nat} {A B:Nat→Nat→Rat} (h:qcc R S n A B):qcc S R n B A:=⟨h.2,h.1⟩
theorem qcc.trans {R S T n:Nat} {A B C:Nat→Nat→Rat} (h:qcc R S n A B) (k:qcc S T n B C):qcc R T n A C :=
 ⟨fun i hi=>(h.1 i hi).trans k.1,fun i hi=>(k.2 i hi).trans h.2⟩
def Indep (k n:Nat) (v:Nat→Nat→Rat):Prop:=∀c:Nat→Rat,(∀j,j<n→sumQ k (fun i=>c i*v i j)=0)→∀i,i<k→c i=0
theorem qee:∀(m k:Nat) (C:Nat→Nat→Rat),m<k→∃c:Nat→Rat,(∃i,i<k∧c i≠0)∧∀l,l<m→sumQ k (fun i=>c i*C i l)=0
 | 0,k,C,h=>⟨fun _=>1,⟨0,h,by decide⟩,fun l hl=>absurd hl (by omega)⟩
 | m+1,0,C,h=>absurd h (by omega)
 | m+1,k+1,C,h=>by
  by_cases h0:∀l,l<m+1→C k l=0
  ·refine⟨fun i=>if i=k then 1 else 0,⟨k,by omega,by simp⟩,fun l hl=>?_⟩
   rw [qcY (k+1) k _ (by omega) (fun i _ hi=>by simp [hi])]
   simp [h0 l hl]
  ·have:∃p,p<m+1∧C k p≠0:=by
    apply Classical.byContradiction
    intro hn
    exact h0 fun l hl=>Classical.byContradiction fun hc=>hn ⟨l,hl,hc⟩
   obtain⟨p,hp,hC⟩:=this
   obtain⟨c,⟨i,hi,hci⟩,hc⟩:=qee m k (fun i l=>C i (skip p l)-C i p / C k p*C k (skip p l)) (by omega)
   have key:∀l,l<m+1→l≠p→sumQ k (fun i=>c i*(C i l-C i p / C k p*C k l))=0:=by
    intro l hl hlp
    by_cases hlt:l<p
    ·have:=hc l (by omega)
     have e:skip p l=l:=by unfold skip;rw [if_pos hlt]
     simpa only [e] using this
    ·have:=hc (l-1) (by omega)
     have e:skip p (l-1)=l:=by unfold skip;rw [if_neg (by omega)];omega
     simpa only [e] using this
   refine⟨fun i=>if i<k then c i else-sumQ k (fun i=>c i*(C i p / C k p)),⟨i,by omega,by show (if i<k then c i else _)≠0;rw [if_pos hi];exact hci⟩,fun l hl=>?_⟩
   show sumQ k _+(if k<k then c k else-sumQ k (fun i=>c i*(C i p / C k p)))*C k l=0
   have e1:sumQ k (fun i=>(if i<k then c i else-sumQ k (fun i=>c i*(C i p / C k p)))*C i l)=sumQ k (fun i=>c i*C i l):=qbz fun i hi=>by rw [if_pos hi]
   rw [e1,if_neg (Nat.lt_irrefl k)]
   have e2:sumQ k (fun i=>c i*(C i l-C i p / C k p*C k l))=sumQ k (fun i=>c i*C i l) + - sumQ k (fun i=>c i*(C i p / C k p))*C k l:=by
    rw [show-sumQ k (fun i=>c i*(C i p / C k p))*C k l=(- C k l)*sumQ k (fun i=>c i*(C i p / C k p)) by grind,←qbZ,←qdP]
    exact qbz fun i _=>by grind
   rw [←e2]
   by_cases hlp:l=p
   ·subst hlp
    refine qcs _ _ fun i _=>?_
    rw [Rat.div_mul_cancel hC];grind
   ·exact key l hl hlp
theorem qhR {m k n:Nat} {u v:Nat→Nat→Rat} (h:∀i,i<k→Span m n u (v i)) (hi:Indep k n v):k≤m:=by
 apply Classical.byContradiction
 intro hn
 have:∀i,∃d:Nat→Rat,i<k→∀j,j<n→v i j=sumQ m fun l=>d l*u l j:=fun i=>by
  by_cases hik:i<k
  ·obtain⟨d,hd⟩:=h i hik
   exact⟨d,fun _=>hd⟩
  ·exact⟨fun _=>0,fun h=>absurd h hik⟩
 obtain⟨c,⟨i,hik,hci⟩,hc⟩:=qee m k (fun i l=>(Classical.choose (this i)) l) (by omega)
 refine hci (hi c (fun j hj=>?_) i hik)
 have e1:sumQ k (fun i=>c i*v i j)=sumQ k fun i=>sumQ m fun l=>c i*((Classical.choose (this i)) l*u l j):=qbz fun i hi=>by
  rw [Classical.choose_spec (this i) hi j hj,qbZ]
 rw [e1,qdF]
 refine qcs _ _ fun l hl=>?_
 have e2:sumQ k (fun i=>c i*((Classical.choose (this i)) l*u l j))=u l j*sumQ k fun i=>c i*(Classical.choose (this i)) l:=by
  rw [←qbZ];exact qbz fun i _=>by grind
 rw [e2,hc l hl];grind
def qbQ (R n:Nat) (A:Nat→Nat→Rat) (k:Nat):Prop:=∃v:Nat→Nat→Rat,Indep k n v∧qcc R k n A v
theorem qbQ.uniq {R S n k l:Nat} {A B:Nat→Nat→Rat} (h:qbQ R n A k) (h':qbQ S n B l) (e:qcc R S n A B):k=l:=by
 obtain⟨v,iv,sv⟩:=h
 obtain⟨u,iu,su⟩:=h'
 have s:=(sv.symm.trans e).trans su
 exact Nat.le_antisymm (qhR s.1 iv) (qhR s.2 iu)
theorem qbQ.more {R n k:Nat} {A:Nat→Nat→Rat} (h:qbQ R n A k):qbQ (R+1) n A k∨qbQ (R+1) n A (k+1):=by
 obtain⟨v,iv,sv⟩:=h
 by_cases hs:Span k n v (A R)
 ·refine .inl ⟨v,iv,fun i hi=>?_,fun i hi=>?_⟩
  ·by_cases e:i<R
   ·exact sv.1 i e
   ·obtain rfl:i=R:=by omega
    exact hs
  ·exact (sv.2 i hi).trans fun j hj=>Span.row (by omega)
 ·refine .inr ⟨fun i=>if i<k then v i else A R,fun c hc=>?_,fun i hi=>?_,fun i hi=>?_⟩
  ·have hc':∀j,j<n→sumQ k (fun i=>c i*v i j)+c k*A R j=0:=fun j hj=>by
    have:=hc j hj
    rw [←this]
    show _=sumQ k _+c k*(if k<k then v k else A R) j
    rw [if_neg (Nat.lt_irrefl k)]
    congr 1
    exact qbz fun i hi=>by show _=c i*(if i<k then v i else A R) j;rw [if_pos hi]
   have hk:c k=0:=by
    apply Classical.byContradiction
    intro hk
    refine hs ⟨fun i=>- (c i / c k),fun j hj=>?_⟩
    have:=hc' j hj
    have e:sumQ k (fun i=>-(c i / c k)*v i j)=(- 1 / c k)*sumQ k (fun i=>c i*v i j):=by
     rw [←qbZ];exact qbz fun i _=>by grind
    rw [e]
    have h1:sumQ k (fun i=>c i*v i j) = - (c k*A R j):=by grind
    rw [h1]
    grind
   have h0:=iv c fun j hj=>by have:=hc' j hj;rw [hk] at this;grind
   intro i hi
   by_cases e:i<k
   ·exact h0 i e
   ·obtain rfl:i=k:=by omega
    exact hk
  ·by_cases e:i<R
   ·refine (sv.1 i e).trans fun j hj=>?_
    have:=Span.row (R:=k+1) (n:=n) (A:=fun i=>if i<k then v i else A R) (i:=j) (by omega)
    simpa only [if_pos hj] using this
   ·obtain rfl:i=R:=by omega
    have:=Span.row (R:=k+1) (n:=n) (A:=fun j=>if j<k then v j else A i) (i:=k) (by omega)
    simpa only [if_neg (Nat.lt_irrefl k)] using this
  ·by_cases e:i<k
   ·simp only [if_pos e]
    exact (sv.2 i e).trans fun j hj=>Span.row (by omega)
   ·simp only [if_neg e]
    exact Span.row (by omega)
theorem qbQ.steps {R n k:Nat} {A:Nat→Nat→Rat} (hk:k≤R) (σ:Nat→Nat) (hσ:∀s,s<k→σ s<n∧A s (σ s)≠0∧∀i,s<i→i<k→A i (σ s)=0) (h0:∀i,k≤i→i<R→∀j,j<n→A i j=0):qbQ R n A k:=by
 refine⟨A,fun c hc=>?_,fun i hi=>?_,fun i hi=>Span.row (by omega)⟩
 ·have:∀m i,i<m→i<k→c i=0:=by
   intro m
   induction m with
   | zero=>intro i hi;omega
   | succ m ih =>
    intro i hi hik
    by_cases e:i<m
    ·exact ih i e hik
    ·obtain rfl:i=m:=by omega
     obtain⟨h1,h2,h3⟩:=hσ i hik
     have:=hc (σ i) h1
     rw [qcY k i _ hik (fun l hl hli=>by
      by_cases hlt:l<i
      ·rw [ih l hlt hl];grind
      ·rw [h3 l (by omega) hl];grind)] at this
     rcases Rat.mul_eq_zero.1 this with h | h
     ·exact h
     ·exact absurd h h2
  intro i hi
  exact this (i+1) i (by omega) hi
 ·by_cases e:i<k
  ·exact Span.row e
  ·exact Span.zero (h0 i (by omega) hi)
def sel {α:Type} (a:α) (P:Nat→α):Nat→α
 | 0=>a
 | s+1=>P s
def BR (k:Nat) (P:Nat→Nat→Int) (σ:Nat→Nat) (a:Nat→Int) (j:Nat):Int:=det (k+1) fun r x=>sel a P r (sel j σ x)
def DR (k:Nat) (P:Nat→Nat→Int) (σ:Nat→Nat):Int:=det k fun r x=>P r (σ x)
theorem qis (P:Nat→Nat→Int) (σ:Nat→Nat) (a:Nat→Int) (j:Nat):BR 0 P σ a j=a j:=by
 show sumN 1 _=_
 show 0+sg 0*a j*1=a j
 rw [sg0];omega
theorem qeR {k:Nat} {P:Nat→Nat→Int} {σ:Nat→Nat} (hd:DR k P σ≠0) (a p:Nat→Int) (c j:Nat) :
  BR k P σ a j*BR k P σ p c-BR k P σ a c*BR k P σ p j=DR k P σ*BR (k+1) (sel p P) (sel c σ) a j:=by
 have h:=qjx k (fun r x=>sel a (sel p P) r (sel j (sel c σ) x)) hd
 have e00:bord k (fun r x=>sel a (sel p P) r (sel j (sel c σ) x)) 0 0=BR k P σ a j:=by
  unfold bord BR
  congr 1;funext r x
  cases r <;> cases x <;> rfl
 have e11:bord k (fun r x=>sel a (sel p P) r (sel j (sel c σ) x)) 1 1=BR k P σ p c:=by
  unfold bord BR
  congr 1;funext r x
  cases r <;> cases x <;> rfl
 have e01:bord k (fun r x=>sel a (sel p P) r (sel j (sel c σ) x)) 0 1=BR k P σ a c:=by
  unfold bord BR
  congr 1;funext r x
  cases r <;> cases x <;> rfl
 have e10:bord k (fun r x=>sel a (sel p P) r (sel j (sel c σ) x)) 1 0=BR k P σ p j:=by
  unfold bord BR
  congr 1;funext r x
  cases r <;> cases x <;> rfl
 rw [e00,e11,e01,e10] at h
 exact h
theorem qit (k:Nat) (P:Nat→Nat→Int) (σ:Nat→Nat) (p:Nat→Int) (c:Nat):DR (k+1) (sel p P) (sel c σ)=BR k P σ p c:=rfl
theorem qir (k:Nat) (P:Nat→Nat→Int) (σ:Nat→Nat) (a:Nat→Int) (j:Nat) (h:∀s,s<k→a (σ s)=0):BR k P σ a j=DR k P σ*a j:=by
 show sumN (k+1) (fun x=>sg x*sel a P 0 (sel j σ x)*det k fun r c=>sel a P (r+1) (sel j σ (skip x c)))=_
 rw [qen k _ fun i hi=>by
  show sg (i+1)*a (σ i)*_=0
  rw [h i hi,qbn,Int.zero_mul]]
 have e:(fun r c=>sel a P (r+1) (sel j σ (skip 0 c)))=fun r x=>P r (σ x):=by
  funext r c;rw [qcS];rfl
 rw [e,sg0,Int.one_mul,qbd];rfl
abbrev castM (M:Nat→Nat→Int):Nat→Nat→Rat:=fun i j=>(M i j:Rat)
def qbB (f:Nat→Bool) (M:Nat→Nat→Int) (p c:Nat) (D:Int):Nat→Nat→Int:=fun i=>if f i=true∧i≠p then fun j=>(M p c*M i j-M i c*M p j).tdiv D else M i
theorem qgQ {f:Nat→Bool} {R n p c:Nat} {M:Nat→Nat→Int} {D:Int} (hp:p<R) (hD:D≠0) (hc:M p c≠0) (hx:∀i,i<R→f i=true→i≠p→∀j,j<n→D∣M p c*M i j-M i c*M p j):qcc R R n (castM M) (castM (qbB f M p c D)):=by
 have hD':(D:Rat)≠0:=by exact_mod_cast hD
 have hc':(M p c:Rat)≠0:=by exact_mod_cast hc
 have hrow:∀i,i<R→f i=true→i≠p→∀j,j<n→(D:Rat)*((qbB f M p c D i j:Int):Rat)=M p c*M i j-M i c*M p j:=by
  intro i hi hf hip j hj
  have e:qbB f M p c D i j=(M p c*M i j-M i c*M p j).tdiv D:=by unfold qbB;rw [if_pos ⟨hf,hip⟩]
  have:=Int.mul_tdiv_cancel' (hx i hi hf hip j hj)
  rw [e]
  exact_mod_cast this
 have hother:∀i,¬(f i=true∧i≠p)→qbB f M p c D i=M i:=fun i h=>by unfold qbB;rw [if_neg h]
 have hself:qbB f M p c D p=M p:=hother p (fun h=>h.2 rfl)
 refine⟨fun i hi=>?_,fun i hi=>?_⟩
 ·by_cases h:f i=true∧i≠p
  ·refine Span.congr (Span.comb (Span.row (A:=castM (qbB f M p c D)) hi) (Span.row (A:=castM (qbB f M p c D)) hp) ((D:Rat) / M p c) ((M i c:Rat) / M p c)) (fun _ _ _ _=>rfl) fun j hj=>?_
   have:=hrow i hi h.1 h.2 j hj
   show (D:Rat) / M p c*((qbB f M p c D i j:Int):Rat)+(M i c:Rat) / M p c*((qbB f M p c D p j:Int):Rat)=(M i j:Rat)
   rw [hself]
   grind
  ·have:=Span.row (R:=R) (n:=n) (A:=castM (qbB f M p c D)) (i:=i) hi
   exact Span.congr this (fun _ _ _ _=>rfl) fun j _=>by show ((qbB f M p c D i j:Int):Rat)=_;rw [hother i h]
 ·by_cases h:f i=true∧i≠p
  ·refine Span.congr (Span.comb (Span.row (A:=castM M) hi) (Span.row (A:=castM M) hp) ((M p c:Rat) / D) (-(M i c:Rat) / D)) (fun _ _ _ _=>rfl) fun j hj=>?_
   have:=hrow i hi h.1 h.2 j hj
   show (M p c:Rat) / D*(M i j:Rat) + -(M i c:Rat) / D*(M p j:Rat)=((qbB f M p c D i j:Int):Rat)
   grind
  ·have:=Span.row (R:=R) (n:=n) (A:=castM M) (i:=i) hi
   exact Span.congr this (fun _ _ _ _=>rfl) fun j _=>by show (M i j:Rat)=((qbB f M p c D i j:Int):Rat);rw [hother i h]
def qbH {α:Type} (M:Nat→α) (k a:Nat):Nat→α:=fun j=>if j=k then M a else if j=a then M k else M j
theorem qgR {R n k a:Nat} {M:Nat→Nat→Int} (hk:k<R) (ha:a<R):qcc R R n (castM M) (castM (qbH M k a)):=by
 have row:∀i l,i<R→qbH M k a i=M l→Span R n (castM (qbH M k a)) (castM M l):=fun i l hi h =>
  Span.congr (Span.row (R:=R) (n:=n) (A:=castM (qbH M k a)) (i:=i) hi) (fun _ _ _ _=>rfl) fun j _=>by show ((qbH M k a i j:Int):Rat)=_;rw [h]
 have row':∀i l,l<R→qbH M k a i=M l→Span R n (castM M) (castM (qbH M k a) i):=fun i l hl h =>
  Span.congr (Span.row (R:=R) (n:=n) (A:=castM M) (i:=l) hl) (fun _ _ _ _=>rfl) fun j _=>by show (M l j:Rat)=((qbH M k a i j:Int):Rat);rw [h]
 refine⟨fun i hi=>?_,fun i hi=>?_⟩
 ·by_cases e:i=k
  ·subst e
   by_cases e2:a=i
   ·subst e2;exact row a a ha (by unfold qbH;rw [if_pos rfl])
   ·exact row a i ha (by unfold qbH;rw [if_neg e2,if_pos rfl])
  ·by_cases e2:i=a
   ·subst e2;exact row k i hk (by unfold qbH;rw [if_pos rfl])
   ·exact row i i hi (by unfold qbH;rw [if_neg e,if_neg e2])
 ·by_cases e:i=k
  ·exact row' i a ha (by unfold qbH;rw [if_pos e])
  ·by_cases e2:i=a
   ·exact row' i k hk (by unfold qbH;rw [if_neg e,if_pos e2])
   ·exact row' i i hi (by unfold qbH;rw [if_neg e,if_neg e2])
structure RankSt (R n k c:Nat) (D:Int) (M A:Nat→Nat→Int):Prop where
 span:qcc R R n (castM M) (castM A)
 dets:∃(P:Nat→Nat→Int) (σ:Nat→Nat) (a:Nat→Nat→Int),DR k P σ=D∧∀i,k≤i→i<R→∀j,j<n→M i j=BR k P σ (a i) j
 zero:∀i,k≤i→i<R→∀j,j<c→M i j=0
 step:∃τ:Nat→Nat,∀s,s<k→τ s<c∧M s (τ s)≠0∧∀i,s<i→i<R→M i (τ s)=0
 nz:D≠0
theorem RankSt.start (R n:Nat) (A:Nat→Nat→Int):RankSt R n 0 0 1 A A :=
 ⟨qcc.refl _ _ _,⟨fun _ _=>0,fun _=>0,A,rfl,fun i _ _ j _=>(qis _ _ _ _).symm⟩,fun _ _ _ j hj=>absurd hj (by omega),⟨fun _=>0,fun s hs=>absurd hs (by omega)⟩,by decide⟩
theorem RankSt.none {R n k c:Nat} {D:Int} {M A:Nat→Nat→Int} (h:RankSt R n k c D M A) (h0:∀i,k≤i→i<R→M i c=0):RankSt R n k (c+1) D M A :=
 ⟨h.span,h.dets,fun i hi hR j hj=>by
  by_cases e:j<c
  ·exact h.zero i hi hR j e
  ·obtain rfl:j=c:=by omega
   exact h0 i hi hR,by
  obtain⟨τ,hτ⟩:=h.step
  exact⟨τ,fun s hs=>⟨by have:=(hτ s hs).1;omega,(hτ s hs).2⟩⟩,h.nz⟩
theorem qjw {α:Type} {M:Nat→α} {k a i:Nat} (hi:i<k) (ha:k≤a):qbH M k a i=M i:=by unfold qbH;rw [if_neg (by omega),if_neg (by omega)]
theorem RankSt.swap {R n k c a:Nat} {D:Int} {M A:Nat→Nat→Int} (h:RankSt R n k c D M A) (hk:k≤a) (ha:a<R):RankSt R n k c D (qbH M k a) A:=by
 have kR:k<R:=by omega
 refine⟨(qgR kR ha).symm.trans h.span,?_,?_,?_,h.nz⟩
 ·obtain⟨P,σ,b,hD,hb⟩:=h.dets
  refine⟨P,σ,qbH b k a,hD,fun i hi hR j hj=>?_⟩
  unfold qbH
  by_cases e:i=k
  ·rw [if_pos e,if_pos e];exact hb a hk ha j hj
  ·by_cases e2:i=a
   ·rw [if_neg e,if_neg e,if_pos e2,if_pos e2];exact hb k qN kR j hj
   ·rw [if_neg e,if_neg e,if_neg e2,if_neg e2];exact hb i hi hR j hj
 ·intro i hi hR j hj
  unfold qbH
  by_cases e:i=k
  ·rw [if_pos e];exact h.zero a hk ha j hj
  ·by_cases e2:i=a
   ·rw [if_neg e,if_pos e2];exact h.zero k qN kR j hj
   ·rw [if_neg e,if_neg e2];exact h.zero i hi hR j hj
 ·obtain⟨τ,hτ⟩:=h.step
  refine⟨τ,fun s hs=>⟨(hτ s hs).1,by rw [qjw hs hk];exact (hτ s hs).2.1,fun i hi hR=>?_⟩⟩
  unfold qbH
  by_cases e:i=k
  ·rw [if_pos e];exact (hτ s hs).2.2 a (by omega) ha
  ·by_cases e2:i=a
   ·rw [if_neg e,if_pos e2];exact (hτ s hs).2.2 k (by omega) kR
   ·rw [if_neg e,if_neg e2];exact (hτ s hs).2.2 i hi hR
theorem RankSt.exact {R n k c:Nat} {D:Int} {M A:Nat→Nat→Int} (h:RankSt R n k c D M A) (hk:k<R) (hc:c<n):∃(P:Nat→Nat→Int) (σ:Nat→Nat) (b:Nat→Nat→Int),DR (k+1) P σ=M k c∧∀i,k<i→i<R→∀j,j<n→M k c*M i j-M i c*M k j=D*BR (k+1) P σ (b i) j:=by
 obtain⟨P,σ,b,hD,hb⟩:=h.dets
 refine⟨sel (b k) P,sel c σ,b,by rw [qit];exact (hb k qN hk c hc).symm,fun i hi hR j hj=>?_⟩
 have:=qeR (k:=k) (P:=P) (σ:=σ) (by rw [hD];exact h.nz) (b i) (b k) c j
 rw [hD,←hb i (by omega) hR j hj,←hb k qN hk c hc,←hb i (by omega) hR c hc,←hb k qN hk j hj] at this
 rw [←this,qbd (M i j)]
theorem RankSt.next {R n k c:Nat} {D:Int} {M A:Nat→Nat→Int} (h:RankSt R n k c D M A) (hk:k<R) (hc:c<n) (h0:M k c≠0):RankSt R n (k+1) (c+1) (M k c) (qbB (fun i=>decide (k<i)) M k c D) A:=by
 obtain⟨P,σ,b,hD,hb⟩:=h.exact hk hc
 have hrow:∀i,k<i→∀j,qbB (fun i=>decide (k<i)) M k c D i j=(M k c*M i j-M i c*M k j).tdiv D:=fun i hi j=>by
  unfold qbB;rw [if_pos ⟨decide_eq_true hi,by omega⟩]
 have hrow2:∀i,k<i→i<R→∀j,j<n→qbB (fun i=>decide (k<i)) M k c D i j=BR (k+1) P σ (b i) j:=fun i hi hR j hj=>by
  rw [hrow i hi j,hb i hi hR j hj,Int.mul_tdiv_cancel_left _ h.nz]
 have hlow:∀i,i≤k→qbB (fun i=>decide (k<i)) M k c D i=M i:=fun i hi=>by
  unfold qbB;rw [if_neg]
  intro h;have:=of_decide_eq_true h.1;omega
 refine⟨(qgQ hk h.nz h0 fun i hi hf _ j hj=>⟨_,hb i (of_decide_eq_true hf) hi j hj⟩).symm.trans h.span,⟨P,σ,b,hD,fun i hi hR j hj=>hrow2 i (by omega) hR j hj⟩,fun i hi hR j hj=>?_,?_,h0⟩
 ·rw [hrow i (by omega) j]
  by_cases e:j<c
  ·rw [h.zero i (by omega) hR j e,h.zero k qN hk j e,qbn,qbn];exact Int.zero_tdiv _
  ·obtain rfl:j=c:=by omega
   rw [qbd,Int.sub_self];exact Int.zero_tdiv _
 ·obtain⟨τ,hτ⟩:=h.step
  refine⟨fun s=>if s=k then c else τ s,fun s hs=>?_⟩
  by_cases e:s=k
  ·subst e
   simp only [if_true]
   refine⟨by omega,by rw [hlow s qN];exact h0,fun i hi hR=>?_⟩
   rw [hrow i hi c,qbd,Int.sub_self];exact Int.zero_tdiv _
  ·simp only [if_neg e]
   have hsk:s<k:=by omega
   refine⟨by have:=(hτ s hsk).1;omega,by rw [hlow s (by omega)];exact (hτ s hsk).2.1,fun i hi hR=>?_⟩
   by_cases e2:i≤k
   ·rw [hlow i e2];exact (hτ s hsk).2.2 i hi hR
   ·rw [hrow i (by omega),(hτ s hsk).2.2 i hi hR,(hτ s hsk).2.2 k hsk hk,qbn,qbn];exact Int.zero_tdiv _
theorem RankSt.done {R n k c:Nat} {D:Int} {M A:Nat→Nat→Int} (h:RankSt R n k c D M A) (hk:k≤R) (hc:c≤n) (he:c=n∨k=R):qbQ R n (castM A) k:=by
 obtain⟨τ,hτ⟩:=h.step
 have hr:qbQ R n (castM M) k:=qbQ.steps hk τ (fun s hs=>⟨by have:=(hτ s hs).1;omega,by have:=(hτ s hs).2.1;show ((M s (τ s):Int):Rat)≠0;exact_mod_cast this,fun i hi hik=>by
  have:=(hτ s hs).2.2 i hi (by omega)
  show ((M i (τ s):Int):Rat)=0
  rw [this];rfl⟩) fun i hi hR j hj=>by
   show ((M i j:Int):Rat)=0
   rcases he with e | e
   ·rw [h.zero i hi hR j (by omega)];rfl
   ·omega
 obtain⟨v,iv,sv⟩:=hr
 exact⟨v,iv,h.span.symm.trans sv⟩
structure ElimSt (R n k:Nat) (D:Int) (M A:Nat→Nat→Int):Prop where
 span:qcc R R n (castM M) (castM A)
 dets:∃(P:Nat→Nat→Int) (σ:Nat→Nat) (a:Nat→Nat→Int),DR k P σ=D∧(∀s,s<k→σ s<k)∧(∀i,k≤i→i<R→∀j,j<n→M i j=BR k P σ (a i) j) ∧
  ∀i,i<k→∀j,j<n→M i j=D*(if j=i then 1 else 0)-BR k P σ (fun x=>if x=i then 1 else 0) j
 diag:∀i,i<R→∀c,c<k→M i c=if i=c then D else 0
 nz:D≠0
theorem ElimSt.start (R n:Nat) (A:Nat→Nat→Int):ElimSt R n 0 1 A A :=
 ⟨qcc.refl _ _ _,⟨fun _ _=>0,fun _=>0,A,rfl,fun s hs=>absurd hs (by omega),fun i _ _ j _=>(qis _ _ _ _).symm,fun i hi=>absurd hi (by omega)⟩,fun _ _ j hj=>absurd hj (by omega),by decide⟩
theorem ElimSt.swap {R n k a:Nat} {D:Int} {M A:Nat→Nat→Int} (h:ElimSt R n k D M A) (hk:k≤a) (ha:a<R):ElimSt R n k D (qbH M k a) A:=by
 have kR:k<R:=by omega
 refine⟨(qgR kR ha).symm.trans h.span,?_,?_,h.nz⟩
 ·obtain⟨P,σ,b,hD,hσ,hb,hl⟩:=h.dets
  refine⟨P,σ,qbH b k a,hD,hσ,fun i hi hR j hj=>?_,fun i hi j hj=>by rw [qjw hi hk];exact hl i hi j hj⟩
  unfold qbH
  by_cases e:i=k
  ·rw [if_pos e,if_pos e];exact hb a hk ha j hj
  ·by_cases e2:i=a
   ·rw [if_neg e,if_neg e,if_pos e2,if_pos e2];exact hb k qN kR j hj
   ·rw [if_neg e,if_neg e,if_neg e2,if_neg e2];exact hb i hi hR j hj
 ·intro i hi c hc
  have hd:=h.diag i hi c hc
  unfold qbH
  by_cases e:i=k
  ·rw [if_pos e,h.diag a ha c hc,if_neg (by omega),if_neg (by omega)]
  ·by_cases e2:i=a
   ·rw [if_neg e,if_pos e2,h.diag k kR c hc,if_neg (by omega),if_neg (by omega)]
   ·rw [if_neg e,if_neg e2,hd]
theorem ElimSt.next {R n k:Nat} {D:Int} {M A:Nat→Nat→Int} (h:ElimSt R n k D M A) (hk:k<R) (hc:k<n) (h0:M k k≠0):ElimSt R n (k+1) (M k k) (qbB (fun _=>true) M k k D) A:=by
 obtain⟨P,σ,b,hD,hσ,hb,hl⟩:=h.dets
 have hnz:DR k P σ≠0:=by rw [hD];exact h.nz
 have hp:∀j,j<n→M k j=BR k P σ (b k) j:=hb k qN hk
 have hrow:∀i,i≠k→∀j,qbB (fun _=>true) M k k D i j=(M k k*M i j-M i k*M k j).tdiv D:=fun i hi j=>by
  unfold qbB;rw [if_pos ⟨rfl,hi⟩]
 have hself:qbB (fun _=>true) M k k D k=M k:=by unfold qbB;rw [if_neg (fun h=>h.2 rfl)]
 have hhi:∀i,k<i→i<R→∀j,j<n→M k k*M i j-M i k*M k j=D*BR (k+1) (sel (b k) P) (sel k σ) (b i) j:=fun i hi hR j hj=>by
  have:=qeR hnz (b i) (b k) k j
  rw [hD,←hb i (by omega) hR j hj,←hp k hc,←hb i (by omega) hR k hc,←hp j hj] at this
  rw [←this,qbd (M i j)]
 have hlo:∀i,i<k→∀j,j<n→M k k*M i j-M i k*M k j=D*(M k k*(if j=i then 1 else 0)-BR (k+1) (sel (b k) P) (sel k σ) (fun x=>if x=i then 1 else 0) j):=fun i hi j hj=>by
  have:=qeR hnz (fun x=>if x=i then 1 else 0) (b k) k j
  rw [hD,←hp k hc,←hp j hj] at this
  rw [hl i hi j hj,hl i hi k hc,if_neg (by omega:¬k=i),Int.mul_sub D,←this]
  generalize BR k P σ (fun x=>if x=i then 1 else 0) j=X
  generalize BR k P σ (fun x=>if x=i then 1 else 0) k=Y
  generalize (if j=i then (1:Int) else 0)=E
  rw [qbn,Int.zero_sub,Int.neg_mul,Int.sub_neg,Int.mul_sub,qbd X,Int.mul_left_comm (M k k) D]
  omega
 have hkk:∀j,j<n→M k j=M k k*(if j=k then 1 else 0)-BR (k+1) (sel (b k) P) (sel k σ) (fun x=>if x=k then 1 else 0) j:=fun j hj=>by
  have:=qeR hnz (fun x=>if x=k then 1 else 0) (b k) k j
  rw [hD,←hp k hc,←hp j hj,qir k P σ _ j (fun s hs=>if_neg (by have:=hσ s hs;omega)),qir k P σ _ k (fun s hs=>if_neg (by have:=hσ s hs;omega)),hD,if_pos rfl] at this
  have e:D*(M k k*(if j=k then 1 else 0)-M k j)=D*BR (k+1) (sel (b k) P) (sel k σ) (fun x=>if x=k then 1 else 0) j:=by
   rw [←this,Int.mul_sub,Int.mul_one]
   generalize (if j=k then (1:Int) else 0)=E
   rw [qbi,qbd E]
  have:=Int.eq_of_mul_eq_mul_left h.nz e
  omega
 refine⟨(qgQ hk h.nz h0 fun i hi _ hik j hj=>?_).symm.trans h.span,⟨sel (b k) P,sel k σ,b,by rw [qit];exact (hp k hc).symm,?_,fun i hi hR j hj=>?_,fun i hi j hj=>?_⟩,fun i hi c hcc=>?_,h0⟩
 ·rcases Nat.lt_or_gt_of_ne hik with e | e
  ·exact⟨_,hlo i e j hj⟩
  ·exact⟨_,hhi i e hi j hj⟩
 ·intro s hs
  cases s with
  | zero=>show k<k+1;omega
  | succ s=>show σ s<k+1;have:=hσ s (by omega);omega
 ·rw [hrow i (by omega) j,hhi i (by omega) hR j hj,Int.mul_tdiv_cancel_left _ h.nz]
 ·by_cases e:i=k
  ·subst e;rw [hself];exact hkk j hj
  ·rw [hrow i e j,hlo i (by omega) j hj,Int.mul_tdiv_cancel_left _ h.nz]
 ·by_cases e:i=k
  ·subst e
   rw [hself]
   by_cases e2:i=c
   ·rw [if_pos e2,e2]
   ·rw [if_neg e2,h.diag i hi c (by omega),if_neg e2]
  ·rw [hrow i e c]
   by_cases e2:c=k
   ·subst e2
    rw [if_neg e,qbd,Int.sub_self];exact Int.zero_tdiv _
   ·rw [h.diag i hi c (by omega),h.diag k hk c (by omega),if_neg (fun h:k=c=>e2 h.symm),qbn,Int.sub_zero]
    by_cases e3:i=c
    ·rw [if_pos e3,if_pos e3,Int.mul_tdiv_cancel _ h.nz]
    ·rw [if_neg e3,if_neg e3,qbn];exact Int.zero_tdiv _
def Sing (R:Nat) (A:Nat→Nat→Rat):Prop:=∃y:Nat→Rat,(∃j,j<R∧y j≠0)∧∀i,i<R→sumQ R (fun j=>A i j*y j)=0
def qb6 (R:Nat) (A:Nat→Nat→Rat) (b x:Nat→Rat):Prop:=∀i,i<R→sumQ R (fun j=>A i j*x j)=b i
theorem qb6.uniq {R:Nat} {A:Nat→Nat→Rat} {b x y:Nat→Rat} (h:¬Sing R A) (hx:qb6 R A b x) (hy:qb6 R A b y):∀i,i<R→x i=y i:=by
 intro i hi
 apply Classical.byContradiction
 intro hne
 refine h ⟨fun j=>x j-y j,⟨i,hi,fun h=>hne (by grind)⟩,fun k hk=>?_⟩
 have e:sumQ R (fun j=>A k j*(x j-y j))=sumQ R (fun j=>A k j*x j)+(-1)*sumQ R (fun j=>A k j*y j):=by
  rw [←qbZ,←qdP];exact qbz fun j _=>by grind
 rw [e,hx k hk,hy k hk];grind
theorem Sing.congr {R:Nat} {A B:Nat→Nat→Rat} (h:Sing R A) (e:∀i,i<R→∀j,j<R→A i j=B i j):Sing R B:=by
 obtain⟨y,hy,h0⟩:=h
 exact⟨y,hy,fun i hi=>by rw [←h0 i hi];exact qbz fun j hj=>by rw [e i hi j hj]⟩
theorem qb6.congr {R:Nat} {A B:Nat→Nat→Rat} {b c x y:Nat→Rat} (h:qb6 R A b x) (e:∀i,i<R→∀j,j<R→A i j=B i j) (eb:∀i,i<R→b i=c i) (ex:∀i,i<R→x i=y i):qb6 R B c y:=fun i hi=>by
 rw [←eb i hi,←h i hi];exact qbz fun j hj=>by rw [e i hi j hj,ex j hj]
theorem Span.kill {R n:Nat} {A:Nat→Nat→Rat} {v y:Nat→Rat} (h:Span R n A v) (h0:∀i,i<R→sumQ n (fun j=>A i j*y j)=0):sumQ n (fun j=>v j*y j)=0:=by
 obtain⟨c,hc⟩:=h
 have e:sumQ n (fun j=>v j*y j)=sumQ n fun j=>sumQ R fun i=>c i*(A i j*y j):=qbz fun j hj=>by
  rw [hc j hj,show sumQ R (fun i=>c i*A i j)*y j=y j*sumQ R (fun i=>c i*A i j) by grind,←qbZ]
  exact qbz fun i _=>by grind
 rw [e,qdF]
 refine qcs _ _ fun i hi=>?_
 rw [qbZ,h0 i hi];grind
theorem qfr (n:Nat) (f x:Nat→Rat) (a:Rat):sumQ (n+1) (fun j=>f j*(if j<n then x j else a))=sumQ n (fun j=>f j*x j)+f n*a:=by
 show sumQ n _+f n*(if n<n then x n else a)=_
 rw [if_neg (Nat.lt_irrefl n)]
 congr 1
 exact qbz fun j hj=>by rw [if_pos hj]
theorem qiI {R n k:Nat} {D:Int} {M A:Nat→Nat→Int} (h:ElimSt R n k D M A) (hn:R≤n) (hk:k<R) (h0:∀i,k≤i→i<R→M i k=0):Sing R (castM A):=by
 have hD:(D:Rat)≠0:=by exact_mod_cast h.nz
 refine⟨fun j=>if j<k then -(M j k:Rat) else if j=k then (D:Rat) else 0,⟨k,hk,by simp only [Nat.lt_irrefl,if_false,if_true];exact hD⟩,?_⟩
 have hM:∀i,i<R→sumQ n (fun j=>castM M i j*(if j<k then -(M j k:Rat) else if j=k then (D:Rat) else 0))=0:=by
  intro i hi
  by_cases hik:i<k
  ·rw [sumQ_two n i k _ (by omega) (by omega) (by omega) fun j hj hji hjk=>by
    by_cases e:j<k
    ·show (M i j:Rat)*_=0
     rw [h.diag i hi j e,if_neg (fun h=>hji h.symm)];simp
    ·rw [if_neg e,if_neg hjk];grind]
   rw [if_pos hik,if_neg (Nat.lt_irrefl k),if_pos rfl]
   show (M i i:Rat)*_+(M i k:Rat)*_=0
   rw [h.diag i hi i hik,if_pos rfl];grind
  ·refine qcs _ _ fun j hj=>?_
   by_cases e:j<k
   ·show (M i j:Rat)*_=0
    rw [h.diag i hi j e,if_neg (by omega)];simp
   ·by_cases e2:j=k
    ·show (M i j:Rat)*_=0
     rw [e2,h0 i (by omega) hi];simp
    ·rw [if_neg e,if_neg e2];grind
 intro i hi
 have hkill:=(h.span.2 i hi).kill hM
 have e:sumQ n (fun j=>castM A i j*(if j<k then -(M j k:Rat) else if j=k then (D:Rat) else 0))=sumQ R (fun j=>castM A i j*(if j<k then -(M j k:Rat) else if j=k then (D:Rat) else 0)):=by
  obtain⟨m,rfl⟩:∃m,n=R+m:=⟨n-R,by omega⟩
  rw [qeO,qcs m _ fun j _=>by rw [if_neg (by omega),if_neg (by omega)];grind]
  grind
 rw [e] at hkill
 exact hkill
theorem qeT {R:Nat} {z:Int} {M A:Nat→Nat→Int} (h:ElimSt R (R+1) R z M A):qb6 R (castM A) (fun i=>castM A i R) (fun i=>(M i R:Rat) / z)∧¬Sing R (castM A):=by
 have hz:(z:Rat)≠0:=by exact_mod_cast h.nz
 have hM:∀(x:Nat→Rat) (a:Rat) i,i<R→sumQ (R+1) (fun j=>castM M i j*(if j<R then x j else a))=z*x i+M i R*a:=by
  intro x a i hi
  rw [qfr,qcY R i _ hi fun j hj hji=>by show (M i j:Rat)*_=0;rw [h.diag i hi j hj,if_neg (fun h=>hji h.symm)];simp]
  show (M i i:Rat)*x i+(M i R:Rat)*a=_
  rw [h.diag i hi i hi,if_pos rfl]
 refine⟨fun i hi=>?_,?_⟩
 ·have:=(h.span.2 i hi).kill (y:=fun j=>if j<R then (M j R:Rat) / z else -1) fun i hi=>by rw [hM _ _ i hi];grind
  rw [qfr] at this
  show sumQ R _=castM A i R
  grind
 ·rintro ⟨y,⟨j,hj,hy⟩,h0⟩
  have:=(h.span.1 j hj).kill (y:=fun j=>if j<R then y j else 0) fun i hi=>by rw [qfr,h0 i hi];grind
  rw [hM _ _ j hj] at this
  apply hy
  have:(z:Rat)*y j=0:=by grind
  rcases Rat.mul_eq_zero.1 this with h | h
  ·exact absurd h hz
  ·exact h
def resR (n:Nat) (A:Nat→Nat→Rat) (b z:Nat→Rat) (i:Nat):Rat:=sumQ n (fun j=>A i j*z j)-b i
def msR (R n:Nat) (A:Nat→Nat→Rat) (b w z:Nat→Rat):Rat:=sumQ R fun i=>w i*(resR n A b z i*resR n A b z i)
end Go.Proofs.YtfminfgabiipjaaGreatDoor
