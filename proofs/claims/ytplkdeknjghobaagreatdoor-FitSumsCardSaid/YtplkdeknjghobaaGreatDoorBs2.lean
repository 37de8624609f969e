import Derived.Lib.ItoaNum
import Derived.Test.YtplkdeknjghobaaGreatDoorBs1
set_option maxRecDepth 100000
set_option maxHeartbeats 0
namespace Go.Proofs.YtplkdeknjghobaaGreatDoor
open Go.Lib
theorem qj3 {t l:List UInt8} (h:t≠[]):(t++l).head? = t.head?:=by
 cases t with
 | nil=>exact absurd rfl h
 | cons=>rfl
def dval (s:List UInt8):Nat:=s.foldl (fun v c=>v*10+(c.toNat-48)) 0
theorem qeu (s:List UInt8) (c:UInt8):dval (s++[c])=dval s*10+(c.toNat-48):=by
 unfold dval;rw [List.foldl_append];rfl
def Nums (s:List UInt8):Prop:=∀c∈s,48<=c.toNat/\c.toNat<=57
theorem qly:∀(n:Nat) (s:List UInt8),s.length=n->Nums s->dval s<10 ^ n
 | 0,s,h,_=>by rw [List.length_eq_zero_iff.1 h];decide
 | n+1,s,h,hn=>by
  obtain⟨t,c,rfl⟩:∃t c,s=t++[c]:=⟨s.dropLast,s.getLast (by intro e;rw [e] at h;simp at h),(List.dropLast_concat_getLast _).symm⟩;have h1:=qly n t (by simpa using h) (fun c hc=>hn c (List.mem_append_left _ hc));have h2:=hn c (by simp);rw [qeu,qaD];omega
theorem qdX (s:List UInt8) (k:Nat) (h:k<s.length):s.take (k+1)=s.take k++[s[k]]:=by
 rw [List.take_add_one,qaf h];rfl
theorem qgz (s:List UInt8) (k:Nat) (h:k<s.length):dval (s.take (k+1))=dval (s.take k)*10+(s[k].toNat-48):=by
 rw [qdX s k h,qeu]
def qjd (s:List UInt8):Prop:=s≠[]/\Nums s/\(s.head? = some 48->s.length=1)
theorem qbW {u:Nat} (h:u<10):decDigits u=[UInt8.ofNat (48+u)]:=by rw [decDigits,dif_pos h]
theorem qb4 {u:Nat} (h:10<=u):decDigits u=decDigits (u / 10)++[UInt8.ofNat (48+u % 10)]:=by rw [decDigits,dif_neg (by omega)]
theorem qcZ {u:Nat} (h:u<10):(UInt8.ofNat (48+u)).toNat=48+u:=by
 rw [UInt8.toNat_ofNat'];exact Nat.mod_eq_of_lt (by omega)
theorem qdu (u:Nat):decDigits u≠[]:=by
 rcases qaH u 10 with h | h
 ·rw [qbW h];simp
 ·rw [qb4 h];simp
theorem qdr:∀u:Nat,Nums (decDigits u):=by
 intro u
 induction u using Nat.strongRecOn with
 | ind u ih =>
  rcases qaH u 10 with h | h
  ·rw [qbW h];intro c hc;rw [qar.1 hc,qcZ h];omega
  ·rw [qb4 h];intro c hc;rcases qaK.1 hc with hc | hc
   ·exact ih (u / 10) (by omega) c hc
   ·rw [qar.1 hc,qcZ (by omega)];omega
theorem qeW:∀u:Nat,dval (decDigits u)=u:=by
 intro u
 induction u using Nat.strongRecOn with
 | ind u ih =>
  rcases qaH u 10 with h | h
  ·rw [qbW h]
   show 0*10+((UInt8.ofNat (48+u)).toNat-48)=u
   rw [qcZ h];omega
  ·rw [qb4 h,qeu,ih (u / 10) (by omega),qcZ (by omega)];omega
theorem qhh:∀u:Nat,(decDigits u).head? = some 48->u=0:=by
 intro u
 induction u using Nat.strongRecOn with
 | ind u ih =>
  rcases qaH u 10 with h | h
  ·rw [qbW h];intro hh;have h1:UInt8.ofNat (48+u)=48:=qai hh;have h2:=qcZ h;rw [h1] at h2;have:(48:UInt8).toNat=48:=rfl;omega
  ·rw [qb4 h];intro hh;rw [qj3 (qdu _)] at hh;have:=ih (u / 10) (by omega) hh;omega
theorem qkt {a b:UInt8} (h:a.toNat=b.toNat):a=b:=UInt8.toNat_inj.1 h
theorem qhB:∀(s:List UInt8),qjd s->s=decDigits (dval s):=by
 intro s
 induction hn:s.length using Nat.strongRecOn generalizing s with
 | ind n ih =>
  intro ⟨h0,h1,h2⟩;obtain⟨t,c,rfl⟩:∃t c,s=t++[c]:=⟨s.dropLast,s.getLast h0,(List.dropLast_concat_getLast _).symm⟩;have hc:=h1 c (by simp);have hcv:UInt8.ofNat (48+(c.toNat-48))=c:=qkt (by rw [qcZ (by omega)];omega)
  by_cases ht:t=[]
  ·subst ht;rw [qeu]
   show [c]=decDigits (0*10+(c.toNat-48))
   rw [Nat.zero_mul,qaI,qbW (by omega),hcv]
  ·have hpt:qjd t:=⟨ht,fun c hc=>h1 c (List.mem_append_left _ hc),fun hh=>by
    have:=h2 (by rw [qj3 ht];exact hh);rw [qae,qav] at this;have:=List.length_pos_iff.2 ht;omega⟩
   have hih:=ih t.length (by rw [<-hn];simp) t rfl hpt;have hpos:0<dval t:=by
    rcases qaP (dval t) with h | h
    ·exfalso;rw [h,qbW (by omega)] at hih;have:=h2 (by rw [hih];rfl);rw [hih] at this;simp at this
    ·exact h
   rw [qeu,qb4 (by omega),show (dval t*10+(c.toNat-48)) / 10=dval t by omega,show (dval t*10+(c.toNat-48)) % 10=c.toNat-48 by omega,<-hih,hcv]
theorem qb7:∀(k u:Nat),0<k->u<10 ^ k->(decDigits u).length<=k
 | 1,u,_,h=>by rw [qbW (by simpa using h)];simp
 | k+2,u,_,h=>by
  rcases qaH u 10 with h1 | h1
  ·rw [qbW h1];simp
  ·rw [qb4 h1,qae,qav];have:=qb7 (k+1) (u / 10) (by omega) (by rw [qaD] at h;omega);omega
def padk:Nat->Nat->List UInt8
 | 0,_=>[]
 | k+1,d=>padk k (d / 10)++[UInt8.ofNat (48+d % 10)]
theorem qhy:∀(k:Nat),padk k 0=List.replicate k 48
 | 0=>rfl
 | k+1=>by rw [padk,Nat.zero_div,qhy k];exact (List.replicate_succ').symm
theorem qmB:∀(k d:Nat),0<k->d<10 ^ k->padk k d=List.replicate (k-(decDigits d).length) 48++decDigits d
 | 1,d,_,h=>by
  have h1:d<10:=by simpa using h
  rw [qbW h1,padk,Nat.mod_eq_of_lt h1];rfl
 | k+2,d,_,h=>by
  rw [padk];rcases qaH d 10 with h1 | h1
  ·rw [qbW h1,Nat.div_eq_of_lt h1,qhy,Nat.mod_eq_of_lt h1];rfl
  ·rw [qmB (k+1) (d / 10) (by omega) (by rw [qaD] at h;omega),qb4 h1,qae,qav,<-qay]
   congr 3
   omega
theorem qea:∀(k a d:Nat),0<a->d<10 ^ k->decDigits (a*10 ^ k+d)=decDigits a++padk k d
 | 0,a,d,_,h=>by
  have:d=0:=by simpa using h
  subst this;simp [padk]
 | k+1,a,d,ha,h=>by
  have hp:=Nat.pow_pos (n:=k) (show 0<10 by decide);have h1:1*10 ^ k<=a*10 ^ k:=qaR _ ha;have e:a*10 ^ (k+1)=a*10 ^ k*10:=by rw [qaD,qaz]
  rw [qb4 (by omega),e,show (a*10 ^ k*10+d) / 10=a*10 ^ k+d / 10 by omega,show (a*10 ^ k*10+d) % 10=d % 10 by omega,
   qea k a (d / 10) ha (by rw [qaD] at h;omega),padk,qay]
theorem ten9:(10:Nat) ^ 9=1000000000:=by decide
theorem qkf:∀k d:Nat,(padk k d).length=k
 | 0,_=>rfl
 | k+1,d=>by rw [padk,qae,qkf k];rfl
theorem pow9 (k:Nat):(1000000000:Nat) ^ k=10 ^ (9*k):=by
 rw [Nat.pow_mul]
theorem qm7 {L:List Nat} {n:Nat} (hd:Dig L) (hl:L.length=n+1) (h0:L.getD n 0≠0):(decDigits (mval L)).length=n*9+(decDigits (L.getD n 0)).length:=by
 have e:=qbT L n;rw [<-hl,qbh] at e;have h1:=(hd.take n).lt;rw [qat,hl,qa3 (by omega),pow9] at h1;rw [e,pow9,Nat.add_comm,qaw (10 ^ (9*n)),qea _ _ _ (qbd h0) h1,qae,qkf];omega
theorem qjZ {L:List Nat} {j:Nat} (hd:Dig L) (h0:0<mval (L.drop (j+1))):decDigits (mval (L.drop j))=decDigits (mval (L.drop (j+1)))++(List.replicate (9-(decDigits (L.getD j 0)).length) 48++decDigits (L.getD j 0)):=by
 have h1:L.getD j 0<10 ^ 9:=by rw [ten9];exact hd j
 rw [qcC L j,Nat.add_comm,qaw,<-ten9,qea 9 _ _ h0 h1,qmB 9 _ (by decide) h1]
theorem ten8:(10:Nat) ^ 8=100000000:=by decide
theorem qlm {v m:Nat} (h:v<10 ^ m) (hm:m<=9):v<1000000000:=by
 rw [<-ten9];exact qag h (qaX (by decide) hm)
theorem qll {v m:Nat} (h:v<10 ^ m) (hm:m<=8):v<100000000:=by
 rw [<-ten8];exact qag h (qaX (by decide) hm)
theorem qew {D Dst Di v d m:Nat} (h:v<10 ^ m/\Di=Dst*10 ^ m+v) (hD:D=Di*10+d) (hd:d<=9):v*10+d<10 ^ (m+1)/\D=Dst*10 ^ (m+1)+(v*10+d):=by
 obtain⟨h1,h2⟩:=h;rw [hD,h2,qaD];refine⟨by omega,?_⟩;rw [qaE,qaz];omega
theorem qkL {P B D E m v:Nat} (h:D*E=D*B):m+P*v+P*B*D=m+(P*(D*E)+P*v):=by
 rw [h,qaz,qaw D B];omega
theorem qe4 {L:List UInt8} {S:List Nat} {st i k v:Nat} (hSl:S.length=k) (h:mval S+1000000000 ^ k*dval (L.take i)=dval L) (hv:dval (L.take i)=dval (L.take st)*10 ^ (i-st)+v) (hc:(st=0/\i<=9)\/st+9=i) :
  mval (S++[v])+1000000000 ^ (k+1)*dval (L.take st)=dval L:=by
 rw [hv,qaV] at h;rw [qcD,hSl,qaD,<-h];refine qkL ?_;rcases hc with ⟨h2,_⟩ | h2
 ·subst h2;have e:dval (L.take 0)=0:=rfl;rw [e,Nat.zero_mul,Nat.zero_mul]
 ·have e:i-st=9:=by omega
  rw [e,ten9]
