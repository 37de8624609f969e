import Derived.Lib.ItoaNum
import Derived.Test.YtplkdeknjghobaaGreatDoorBb1
set_option maxRecDepth 100000
set_option maxHeartbeats 0
namespace Go.Proofs.YtplkdeknjghobaaGreatDoor
open Go.Lib
theorem qkm {t l:List UInt8} (h:t≠[]):(t++l).head? = t.head?:=by
 cases t with
 | nil=>exact absurd rfl h
 | cons=>rfl
def dval (s:List UInt8):Nat:=s.foldl (fun v c=>v*10+(c.toNat-48)) 0
theorem qez (s:List UInt8) (c:UInt8):dval (s++[c])=dval s*10+(c.toNat-48):=by
 unfold dval;rw [List.foldl_append];rfl
def Nums (s:List UInt8):Prop:=∀c∈s,48<=c.toNat/\c.toNat<=57
theorem ql4:∀(n:Nat) (s:List UInt8),s.length=n->Nums s->dval s<10 ^ n
 | 0,s,h,_=>by rw [qbI.1 h];decide
 | n+1,s,h,hn=>by
  obtain⟨t,c,rfl⟩:∃t c,s=t++[c]:=⟨s.dropLast,s.getLast (by intro e;rw [e] at h;simp at h),(List.dropLast_concat_getLast _).symm⟩;have H:=ql4 n t (by simpa using h) (fun c F=>hn c (List.mem_append_left _ F));have I:=hn c (by simp);rw [qez,qaB];omega
theorem qd8 (s:List UInt8) (k:Nat) (h:k<s.length):s.take (k+1)=s.take k++[s[k]]:=by
 rw [List.take_add_one,qad h];rfl
theorem qiw (s:List UInt8) (k:Nat) (h:k<s.length):dval (s.take (k+1))=dval (s.take k)*10+(s[k].toNat-48):=by
 rw [qd8 s k h,qez]
def qjq (s:List UInt8):Prop:=s≠[]/\Nums s/\(s.head? = some 48->s.length=1)
theorem qb1 {u:Nat} (h:u<10):decDigits u=[UInt8.ofNat (48+u)]:=by rw [decDigits,dif_pos h]
theorem qca {u:Nat} (h:10<=u):decDigits u=decDigits (u / 10)++[UInt8.ofNat (48+u % 10)]:=by rw [decDigits,dif_neg (by omega)]
theorem qcu {u:Nat} (h:u<10):(UInt8.ofNat (48+u)).toNat=48+u:=by
 rw [UInt8.toNat_ofNat'];exact Nat.mod_eq_of_lt (by omega)
theorem qdd (u:Nat):decDigits u≠[]:=by
 rcases qaQ u 10 with h | h
 ·rw [qb1 h];simp
 ·rw [qca h];simp
theorem qdt:∀u:Nat,Nums (decDigits u):=by
 intro u
 induction u using Nat.strongRecOn with
 | ind u ih =>
  rcases qaQ u 10 with h | h
  ·rw [qb1 h];intro c F;rw [qap.1 F,qcu h];omega
  ·rw [qca h];intro c F;rcases qaK.1 F with F | F
   ·exact ih (u / 10) (by omega) c F
   ·rw [qap.1 F,qcu (by omega)];omega
theorem qe0:∀u:Nat,dval (decDigits u)=u:=by
 intro u
 induction u using Nat.strongRecOn with
 | ind u ih =>
  rcases qaQ u 10 with h | h
  ·rw [qb1 h]
   show 0*10+((UInt8.ofNat (48+u)).toNat-48)=u
   rw [qcu h];omega
  ·rw [qca h,qez,ih (u / 10) (by omega),qcu (by omega)];omega
theorem qeZ:∀u:Nat,(decDigits u).head? = some 48->u=0:=by
 intro u
 induction u using Nat.strongRecOn with
 | ind u ih =>
  rcases qaQ u 10 with h | h
  ·rw [qb1 h];intro F;have H:UInt8.ofNat (48+u)=48:=qah F;have I:=qcu h;rw [H] at I;have:(48:UInt8).toNat=48:=rfl;omega
  ·rw [qca h];intro F;rw [qkm (qdd _)] at F;have:=ih (u / 10) (by omega) F;omega
theorem qif {a b:UInt8} (h:a.toNat=b.toNat):a=b:=UInt8.toNat_inj.1 h
theorem qhF:∀(s:List UInt8),qjq s->s=decDigits (dval s):=by
 intro s
 induction hn:s.length using Nat.strongRecOn generalizing s with
 | ind n ih =>
  intro ⟨Z,O,U⟩;obtain⟨t,c,rfl⟩:∃t c,s=t++[c]:=⟨s.dropLast,s.getLast Z,(List.dropLast_concat_getLast _).symm⟩;have V:=O c (by simp);have H:UInt8.ofNat (48+(c.toNat-48))=c:=qif (by rw [qcu (by omega)];omega)
  by_cases I:t=[]
  ·subst I;rw [qez]
   show [c]=decDigits (0*10+(c.toNat-48))
   rw [Nat.zero_mul,qaM,qb1 (by omega),H]
  ·have J:qjq t:=⟨I,fun c V=>O c (List.mem_append_left _ V),fun hh=>by
    have:=U (by rw [qkm I];exact hh);rw [qaf,qaz] at this;have:=List.length_pos_iff.2 I;omega⟩
   have F:=ih t.length (by rw [<-hn];simp) t rfl J;have Y:0<dval t:=by
    rcases qaU (dval t) with h | h
    ·exfalso;rw [h,qb1 (by omega)] at F;have:=U (by rw [F];rfl);rw [F] at this;simp at this
    ·exact h
   rw [qez,qca (by omega),show (dval t*10+(c.toNat-48)) / 10=dval t by omega,show (dval t*10+(c.toNat-48)) % 10=c.toNat-48 by omega,<-F,H]
theorem qcq:∀(k u:Nat),0<k->u<10 ^ k->(decDigits u).length<=k
 | 1,u,_,h=>by rw [qb1 (by simpa using h)];simp
 | k+2,u,_,h=>by
  rcases qaQ u 10 with h1 | h1
  ·rw [qb1 h1];simp
  ·rw [qca h1,qaf,qaz];have:=qcq (k+1) (u / 10) (by omega) (by rw [qaB] at h;omega);omega
def padk:Nat->Nat->List UInt8
 | 0,_=>[]
 | k+1,d=>padk k (d / 10)++[UInt8.ofNat (48+d % 10)]
theorem qfQ:∀(k:Nat),padk k 0=List.replicate k 48
 | 0=>rfl
 | k+1=>by rw [padk,Nat.zero_div,qfQ k];exact (List.replicate_succ').symm
theorem qjT:∀(k d:Nat),0<k->d<10 ^ k->padk k d=List.replicate (k-(decDigits d).length) 48++decDigits d
 | 1,d,_,h=>by
  have F:d<10:=by simpa using h
  rw [qb1 F,padk,Nat.mod_eq_of_lt F];rfl
 | k+2,d,_,h=>by
  rw [padk];rcases qaQ d 10 with F | F
  ·rw [qb1 F,Nat.div_eq_of_lt F,qfQ,Nat.mod_eq_of_lt F];rfl
  ·rw [qjT (k+1) (d / 10) (by omega) (by rw [qaB] at h;omega),qca F,qaf,qaz,<-qaI]
   congr 3
   omega
theorem qei:∀(k a d:Nat),0<a->d<10 ^ k->decDigits (a*10 ^ k+d)=decDigits a++padk k d
 | 0,a,d,_,h=>by
  have:d=0:=by simpa using h
  subst this;simp [padk]
 | k+1,a,d,F,h=>by
  have I:=Nat.pow_pos (n:=k) (show 0<10 by decide);have H:1*10 ^ k<=a*10 ^ k:=qaH _ F;have e:a*10 ^ (k+1)=a*10 ^ k*10:=by rw [qaB,qaw]
  rw [qca (by omega),e,show (a*10 ^ k*10+d) / 10=a*10 ^ k+d / 10 by omega,show (a*10 ^ k*10+d) % 10=d % 10 by omega,
   qei k a (d / 10) F (by rw [qaB] at h;omega),padk,qaI]
theorem ten9:(10:Nat) ^ 9=1000000000:=by decide
theorem qgm:∀k d:Nat,(padk k d).length=k
 | 0,_=>rfl
 | k+1,d=>by rw [padk,qaf,qgm k];rfl
theorem pow9 (k:Nat):(1000000000:Nat) ^ k=10 ^ (9*k):=by
 rw [Nat.pow_mul]
theorem top_num {L:List Nat} {n:Nat} (J:Dig L) (H:L.length=n+1) (I:L.getD n 0≠0):(decDigits (mval L)).length=n*9+(decDigits (L.getD n 0)).length:=by
 have e:=qbY L n;rw [<-H,qbh] at e;have F:=(J.take n).lt;rw [qax,H,qa9 (by omega),pow9] at F;rw [e,pow9,Nat.add_comm,qat (10 ^ (9*n)),qei _ _ _ (qbe I) F,qaf,qgm];omega
theorem drop_num {L:List Nat} {j:Nat} (I:Dig L) (H:0<mval (L.drop (j+1))):decDigits (mval (L.drop j))=decDigits (mval (L.drop (j+1)))++(List.replicate (9-(decDigits (L.getD j 0)).length) 48++decDigits (L.getD j 0)):=by
 have F:L.getD j 0<10 ^ 9:=by rw [ten9];exact I j
 rw [qcV L j,Nat.add_comm,qat,<-ten9,qei 9 _ _ H F,qjT 9 _ (by decide) F]
theorem ten8:(10:Nat) ^ 8=100000000:=by decide
theorem below9 {v m:Nat} (h:v<10 ^ m) (F:m<=9):v<1000000000:=by
 rw [<-ten9];exact qai h (qa4 (by decide) F)
theorem below8 {v m:Nat} (h:v<10 ^ m) (F:m<=8):v<100000000:=by
 rw [<-ten8];exact qai h (qa4 (by decide) F)
theorem qf6 {D F H v d m:Nat} (h:v<10 ^ m/\H=F*10 ^ m+v) (J:D=H*10+d) (U:d<=9):v*10+d<10 ^ (m+1)/\D=F*10 ^ (m+1)+(v*10+d):=by
 obtain⟨O,I⟩:=h;rw [J,I,qaB];refine⟨by omega,?_⟩;rw [qaE,qaw];omega
theorem qk5 {P B D E m v:Nat} (h:D*E=D*B):m+P*v+P*B*D=m+(P*(D*E)+P*v):=by
 rw [h,qaw,qat D B];omega
theorem qgA {L:List UInt8} {S:List Nat} {st i k v:Nat} (F:S.length=k) (h:mval S+1000000000 ^ k*dval (L.take i)=dval L) (J:dval (L.take i)=dval (L.take st)*10 ^ (i-st)+v) (I:(st=0/\i<=9)\/st+9=i) :
  mval (S++[v])+1000000000 ^ (k+1)*dval (L.take st)=dval L:=by
 rw [J,qaZ] at h;rw [qcW,F,qaB,<-h];refine qk5 ?_;rcases I with ⟨H,_⟩ | H
 ·subst H;have e:dval (L.take 0)=0:=rfl;rw [e,Nat.zero_mul,Nat.zero_mul]
 ·have e:i-st=9:=by omega
  rw [e,ten9]
