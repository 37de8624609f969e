import Derived.Lib.ItoaNum
import Derived.Test.YtplkdeknjghobaaGreatDoorBe1
set_option maxRecDepth 100000
set_option maxHeartbeats 0
namespace Go.Proofs.YtplkdeknjghobaaGreatDoor
open Go.Lib
theorem qjV {t l:List UInt8} (h:t≠[]):(t++l).head? = t.head?:=by
 cases t with
 | nil=>exact absurd rfl h
 | cons=>rfl
def dval (s:List UInt8):Nat:=s.foldl (fun v c=>v*10+(c.toNat-48)) 0
theorem qeu (s:List UInt8) (c:UInt8):dval (s++[c])=dval s*10+(c.toNat-48):=by
 unfold dval;rw [List.foldl_append];rfl
def Nums (s:List UInt8):Prop:=∀c∈s,48<=c.toNat/\c.toNat<=57
theorem qlv:∀(n:Nat) (s:List UInt8),s.length=n->Nums s->dval s<10 ^ n
 | 0,s,h,_=>by rw [qbu.1 h];decide
 | n+1,s,h,hn=>by
  obtain⟨t,c,rfl⟩:∃t c,s=t++[c]:=⟨s.dropLast,s.getLast (by intro e;rw [e] at h;simp at h),(List.dropLast_concat_getLast _).symm⟩;have h1:=qlv n t (by simpa using h) (fun c hc=>hn c (List.mem_append_left _ hc));have h2:=hn c (by simp);rw [qeu,qaD];omega
theorem qd4 (s:List UInt8) (k:Nat) (h:k<s.length):s.take (k+1)=s.take k++[s[k]]:=by
 rw [List.take_add_one,qae h];rfl
theorem qgG (s:List UInt8) (k:Nat) (h:k<s.length):dval (s.take (k+1))=dval (s.take k)*10+(s[k].toNat-48):=by
 rw [qd4 s k h,qeu]
def qi8 (s:List UInt8):Prop:=s≠[]/\Nums s/\(s.head? = some 48->s.length=1)
theorem qbZ {u:Nat} (h:u<10):decDigits u=[UInt8.ofNat (48+u)]:=by rw [decDigits,dif_pos h]
theorem qcf {u:Nat} (h:10<=u):decDigits u=decDigits (u / 10)++[UInt8.ofNat (48+u % 10)]:=by rw [decDigits,dif_neg (by omega)]
theorem qcs {u:Nat} (h:u<10):(UInt8.ofNat (48+u)).toNat=48+u:=by
 rw [UInt8.toNat_ofNat'];exact Nat.mod_eq_of_lt (by omega)
theorem qdg (u:Nat):decDigits u≠[]:=by
 rcases qaT u 10 with h | h
 ·rw [qbZ h];simp
 ·rw [qcf h];simp
theorem qdt:∀u:Nat,Nums (decDigits u):=by
 intro u
 induction u using Nat.strongRecOn with
 | ind u ih =>
  rcases qaT u 10 with h | h
  ·rw [qbZ h];intro c hc;rw [qap.1 hc,qcs h];omega
  ·rw [qcf h];intro c hc;rcases qaN.1 hc with hc | hc
   ·exact ih (u / 10) (by omega) c hc
   ·rw [qap.1 hc,qcs (by omega)];omega
theorem qeY:∀u:Nat,dval (decDigits u)=u:=by
 intro u
 induction u using Nat.strongRecOn with
 | ind u ih =>
  rcases qaT u 10 with h | h
  ·rw [qbZ h]
   show 0*10+((UInt8.ofNat (48+u)).toNat-48)=u
   rw [qcs h];omega
  ·rw [qcf h,qeu,ih (u / 10) (by omega),qcs (by omega)];omega
theorem qeX:∀u:Nat,(decDigits u).head? = some 48->u=0:=by
 intro u
 induction u using Nat.strongRecOn with
 | ind u ih =>
  rcases qaT u 10 with h | h
  ·rw [qbZ h];intro hh;have h1:UInt8.ofNat (48+u)=48:=qai hh;have h2:=qcs h;rw [h1] at h2;have:(48:UInt8).toNat=48:=rfl;omega
  ·rw [qcf h];intro hh;rw [qjV (qdg _)] at hh;have:=ih (u / 10) (by omega) hh;omega
theorem qib {a b:UInt8} (h:a.toNat=b.toNat):a=b:=UInt8.toNat_inj.1 h
theorem qhA:∀(s:List UInt8),qi8 s->s=decDigits (dval s):=by
 intro s
 induction hn:s.length using Nat.strongRecOn generalizing s with
 | ind n ih =>
  intro ⟨h0,h1,h2⟩;obtain⟨t,c,rfl⟩:∃t c,s=t++[c]:=⟨s.dropLast,s.getLast h0,(List.dropLast_concat_getLast _).symm⟩;have hc:=h1 c (by simp);have hcv:UInt8.ofNat (48+(c.toNat-48))=c:=qib (by rw [qcs (by omega)];omega)
  by_cases ht:t=[]
  ·subst ht;rw [qeu]
   show [c]=decDigits (0*10+(c.toNat-48))
   rw [Nat.zero_mul,qaO,qbZ (by omega),hcv]
  ·have hpt:qi8 t:=⟨ht,fun c hc=>h1 c (List.mem_append_left _ hc),fun hh=>by
    have:=h2 (by rw [qjV ht];exact hh);rw [qaf,qax] at this;have:=List.length_pos_iff.2 ht;omega⟩
   have hih:=ih t.length (by rw [<-hn];simp) t rfl hpt;have hpos:0<dval t:=by
    rcases qaK (dval t) with h | h
    ·exfalso;rw [h,qbZ (by omega)] at hih;have:=h2 (by rw [hih];rfl);rw [hih] at this;simp at this
    ·exact h
   rw [qeu,qcf (by omega),show (dval t*10+(c.toNat-48)) / 10=dval t by omega,show (dval t*10+(c.toNat-48)) % 10=c.toNat-48 by omega,<-hih,hcv]
theorem qb9:∀(k u:Nat),0<k->u<10 ^ k->(decDigits u).length<=k
 | 1,u,_,h=>by rw [qbZ (by simpa using h)];simp
 | k+2,u,_,h=>by
  rcases qaT u 10 with h1 | h1
  ·rw [qbZ h1];simp
  ·rw [qcf h1,qaf,qax];have:=qb9 (k+1) (u / 10) (by omega) (by rw [qaD] at h;omega);omega
def padk:Nat->Nat->List UInt8
 | 0,_=>[]
 | k+1,d=>padk k (d / 10)++[UInt8.ofNat (48+d % 10)]
theorem qfX:∀(k:Nat),padk k 0=List.replicate k 48
 | 0=>rfl
 | k+1=>by rw [padk,Nat.zero_div,qfX k];exact (List.replicate_succ').symm
theorem qjv:∀(k d:Nat),0<k->d<10 ^ k->padk k d=List.replicate (k-(decDigits d).length) 48++decDigits d
 | 1,d,_,h=>by
  have h1:d<10:=by simpa using h
  rw [qbZ h1,padk,Nat.mod_eq_of_lt h1];rfl
 | k+2,d,_,h=>by
  rw [padk];rcases qaT d 10 with h1 | h1
  ·rw [qbZ h1,Nat.div_eq_of_lt h1,qfX,Nat.mod_eq_of_lt h1];rfl
  ·rw [qjv (k+1) (d / 10) (by omega) (by rw [qaD] at h;omega),qcf h1,qaf,qax,<-qay]
   congr 3
   omega
theorem qeg:∀(k a d:Nat),0<a->d<10 ^ k->decDigits (a*10 ^ k+d)=decDigits a++padk k d
 | 0,a,d,_,h=>by
  have:d=0:=by simpa using h
  subst this;simp [padk]
 | k+1,a,d,ha,h=>by
  have hp:=Nat.pow_pos (n:=k) (show 0<10 by decide);have h1:1*10 ^ k<=a*10 ^ k:=qa7 _ ha;have e:a*10 ^ (k+1)=a*10 ^ k*10:=by rw [qaD,qav]
  rw [qcf (by omega),e,show (a*10 ^ k*10+d) / 10=a*10 ^ k+d / 10 by omega,show (a*10 ^ k*10+d) % 10=d % 10 by omega,
   qeg k a (d / 10) ha (by rw [qaD] at h;omega),padk,qay]
theorem ten9:(10:Nat) ^ 9=1000000000:=by decide
theorem qgw:∀k d:Nat,(padk k d).length=k
 | 0,_=>rfl
 | k+1,d=>by rw [padk,qaf,qgw k];rfl
theorem pow9 (k:Nat):(1000000000:Nat) ^ k=10 ^ (9*k):=by
 rw [Nat.pow_mul]
theorem qnc {L:List Nat} {n:Nat} (hd:Dig L) (hl:L.length=n+1) (h0:L.getD n 0≠0):(decDigits (mval L)).length=n*9+(decDigits (L.getD n 0)).length:=by
 have e:=qbV L n;rw [<-hl,qbi] at e;have h1:=(hd.take n).lt;rw [qar,hl,qaZ (by omega),pow9] at h1;rw [e,pow9,Nat.add_comm,qau (10 ^ (9*n)),qeg _ _ _ (qbe h0) h1,qaf,qgw];omega
theorem qjQ {L:List Nat} {j:Nat} (hd:Dig L) (h0:0<mval (L.drop (j+1))):decDigits (mval (L.drop j))=decDigits (mval (L.drop (j+1)))++(List.replicate (9-(decDigits (L.getD j 0)).length) 48++decDigits (L.getD j 0)):=by
 have h1:L.getD j 0<10 ^ 9:=by rw [ten9];exact hd j
 rw [qcJ L j,Nat.add_comm,qau,<-ten9,qeg 9 _ _ h0 h1,qjv 9 _ (by decide) h1]
theorem ten8:(10:Nat) ^ 8=100000000:=by decide
theorem qli {v m:Nat} (h:v<10 ^ m) (hm:m<=9):v<1000000000:=by
 rw [<-ten9];exact qag h (qa3 (by decide) hm)
theorem qlh {v m:Nat} (h:v<10 ^ m) (hm:m<=8):v<100000000:=by
 rw [<-ten8];exact qag h (qa3 (by decide) hm)
theorem qew {D Dst Di v d m:Nat} (h:v<10 ^ m/\Di=Dst*10 ^ m+v) (hD:D=Di*10+d) (hd:d<=9):v*10+d<10 ^ (m+1)/\D=Dst*10 ^ (m+1)+(v*10+d):=by
 obtain⟨h1,h2⟩:=h;rw [hD,h2,qaD];refine⟨by omega,?_⟩;rw [qaB,qav];omega
theorem qkB {P B D E m v:Nat} (h:D*E=D*B):m+P*v+P*B*D=m+(P*(D*E)+P*v):=by
 rw [h,qav,qau D B];omega
theorem qe7 {L:List UInt8} {S:List Nat} {st i k v:Nat} (hSl:S.length=k) (h:mval S+1000000000 ^ k*dval (L.take i)=dval L) (hv:dval (L.take i)=dval (L.take st)*10 ^ (i-st)+v) (hc:(st=0/\i<=9)\/st+9=i) :
  mval (S++[v])+1000000000 ^ (k+1)*dval (L.take st)=dval L:=by
 rw [hv,qaX] at h;rw [qcK,hSl,qaD,<-h];refine qkB ?_;rcases hc with ⟨h2,_⟩ | h2
 ·subst h2;have e:dval (L.take 0)=0:=rfl;rw [e,Nat.zero_mul,Nat.zero_mul]
 ·have e:i-st=9:=by omega
  rw [e,ten9]
