import Derived.Lib.ItoaNum
import Derived.Test.YtplkdeknjghobaaGreatDoorBx1
set_option maxRecDepth 100000
set_option maxHeartbeats 0
namespace Go.Proofs.YtplkdeknjghobaaGreatDoor
open Go.Lib
theorem qkb {t l:List UInt8} (h:t≠[]):(t++l).head? = t.head?:=by
 cases t with
 | nil=>exact absurd rfl h
 | cons=>rfl
def dval (s:List UInt8):Nat:=s.foldl (fun v c=>v*10+(c.toNat-48)) 0
theorem qeu (s:List UInt8) (c:UInt8):dval (s++[c])=dval s*10+(c.toNat-48):=by
 unfold dval;rw [List.foldl_append];rfl
def Nums (s:List UInt8):Prop:=∀c∈s,48<=c.toNat/\c.toNat<=57
theorem qlJ:∀(n:Nat) (s:List UInt8),s.length=n->Nums s->dval s<10 ^ n
 | 0,s,h,_=>by rw [List.length_eq_zero_iff.1 h];decide
 | n+1,s,h,hn=>by
  obtain⟨t,c,rfl⟩:∃t c,s=t++[c]:=⟨s.dropLast,s.getLast (by intro e;rw [e] at h;simp at h),(List.dropLast_concat_getLast _).symm⟩;have G:=qlJ n t (by simpa using h) (fun c F=>hn c (List.mem_append_left _ F));have H:=hn c (by simp);rw [qeu,qaI];omega
theorem qd0 (s:List UInt8) (k:Nat) (h:k<s.length):s.take (k+1)=s.take k++[s[k]]:=by
 rw [List.take_add_one,qad h];rfl
theorem qiu (s:List UInt8) (k:Nat) (h:k<s.length):dval (s.take (k+1))=dval (s.take k)*10+(s[k].toNat-48):=by
 rw [qd0 s k h,qeu]
def qjm (s:List UInt8):Prop:=s≠[]/\Nums s/\(s.head? = some 48->s.length=1)
theorem qbZ {u:Nat} (h:u<10):decDigits u=[UInt8.ofNat (48+u)]:=by rw [decDigits,dif_pos h]
theorem qb5 {u:Nat} (h:10<=u):decDigits u=decDigits (u / 10)++[UInt8.ofNat (48+u % 10)]:=by rw [decDigits,dif_neg (by omega)]
theorem qcU {u:Nat} (h:u<10):(UInt8.ofNat (48+u)).toNat=48+u:=by
 rw [UInt8.toNat_ofNat'];exact Nat.mod_eq_of_lt (by omega)
theorem qdr (u:Nat):decDigits u≠[]:=by
 rcases qaM u 10 with h | h
 ·rw [qbZ h];simp
 ·rw [qb5 h];simp
theorem qdp:∀u:Nat,Nums (decDigits u):=by
 intro u
 induction u using Nat.strongRecOn with
 | ind u ih =>
  rcases qaM u 10 with h | h
  ·rw [qbZ h];intro c F;rw [qas.1 F,qcU h];omega
  ·rw [qb5 h];intro c F;rcases qaK.1 F with F | F
   ·exact ih (u / 10) (by omega) c F
   ·rw [qas.1 F,qcU (by omega)];omega
theorem qeV:∀u:Nat,dval (decDigits u)=u:=by
 intro u
 induction u using Nat.strongRecOn with
 | ind u ih =>
  rcases qaM u 10 with h | h
  ·rw [qbZ h]
   show 0*10+((UInt8.ofNat (48+u)).toNat-48)=u
   rw [qcU h];omega
  ·rw [qb5 h,qeu,ih (u / 10) (by omega),qcU (by omega)];omega
theorem qha:∀u:Nat,(decDigits u).head? = some 48->u=0:=by
 intro u
 induction u using Nat.strongRecOn with
 | ind u ih =>
  rcases qaM u 10 with h | h
  ·rw [qbZ h];intro F;have G:UInt8.ofNat (48+u)=48:=qah F;have H:=qcU h;rw [G] at H;have:(48:UInt8).toNat=48:=rfl;omega
  ·rw [qb5 h];intro F;rw [qkb (qdr _)] at F;have:=ih (u / 10) (by omega) F;omega
theorem qkE {a b:UInt8} (h:a.toNat=b.toNat):a=b:=UInt8.toNat_inj.1 h
theorem qhy:∀(s:List UInt8),qjm s->s=decDigits (dval s):=by
 intro s
 induction hn:s.length using Nat.strongRecOn generalizing s with
 | ind n ih =>
  intro ⟨Y,J,O⟩;obtain⟨t,c,rfl⟩:∃t c,s=t++[c]:=⟨s.dropLast,s.getLast Y,(List.dropLast_concat_getLast _).symm⟩;have U:=J c (by simp);have G:UInt8.ofNat (48+(c.toNat-48))=c:=qkE (by rw [qcU (by omega)];omega)
  by_cases H:t=[]
  ·subst H;rw [qeu]
   show [c]=decDigits (0*10+(c.toNat-48))
   rw [Nat.zero_mul,qaH,qbZ (by omega),G]
  ·have I:qjm t:=⟨H,fun c U=>J c (List.mem_append_left _ U),fun Z=>by
    have:=O (by rw [qkb H];exact Z);rw [qaf,qaw] at this;have:=List.length_pos_iff.2 H;omega⟩
   have F:=ih t.length (by rw [<-hn];simp) t rfl I;have V:0<dval t:=by
    rcases qaW (dval t) with h | h
    ·exfalso;rw [h,qbZ (by omega)] at F;have:=O (by rw [F];rfl);rw [F] at this;simp at this
    ·exact h
   rw [qeu,qb5 (by omega),show (dval t*10+(c.toNat-48)) / 10=dval t by omega,show (dval t*10+(c.toNat-48)) % 10=c.toNat-48 by omega,<-F,G]
theorem qcp:∀(k u:Nat),0<k->u<10 ^ k->(decDigits u).length<=k
 | 1,u,_,h=>by rw [qbZ (by simpa using h)];simp
 | k+2,u,_,h=>by
  rcases qaM u 10 with h1 | h1
  ·rw [qbZ h1];simp
  ·rw [qb5 h1,qaf,qaw];have:=qcp (k+1) (u / 10) (by omega) (by rw [qaI] at h;omega);omega
def padk:Nat->Nat->List UInt8
 | 0,_=>[]
 | k+1,d=>padk k (d / 10)++[UInt8.ofNat (48+d % 10)]
theorem qhv:∀(k:Nat),padk k 0=List.replicate k 48
 | 0=>rfl
 | k+1=>by rw [padk,Nat.zero_div,qhv k];exact (List.replicate_succ').symm
theorem qmL:∀(k d:Nat),0<k->d<10 ^ k->padk k d=List.replicate (k-(decDigits d).length) 48++decDigits d
 | 1,d,_,h=>by
  have F:d<10:=by simpa using h
  rw [qbZ F,padk,Nat.mod_eq_of_lt F];rfl
 | k+2,d,_,h=>by
  rw [padk];rcases qaM d 10 with F | F
  ·rw [qbZ F,Nat.div_eq_of_lt F,qhv,Nat.mod_eq_of_lt F];rfl
  ·rw [qmL (k+1) (d / 10) (by omega) (by rw [qaI] at h;omega),qb5 F,qaf,qaw,<-qaE]
   congr 3
   omega
theorem qec:∀(k a d:Nat),0<a->d<10 ^ k->decDigits (a*10 ^ k+d)=decDigits a++padk k d
 | 0,a,d,_,h=>by
  have:d=0:=by simpa using h
  subst this;simp [padk]
 | k+1,a,d,F,h=>by
  have H:=Nat.pow_pos (n:=k) (show 0<10 by decide);have G:1*10 ^ k<=a*10 ^ k:=qa5 _ F;have e:a*10 ^ (k+1)=a*10 ^ k*10:=by rw [qaI,qaz]
  rw [qb5 (by omega),e,show (a*10 ^ k*10+d) / 10=a*10 ^ k+d / 10 by omega,show (a*10 ^ k*10+d) % 10=d % 10 by omega,
   qec k a (d / 10) F (by rw [qaI] at h;omega),padk,qaE]
theorem ten9:(10:Nat) ^ 9=1000000000:=by decide
theorem qks:∀k d:Nat,(padk k d).length=k
 | 0,_=>rfl
 | k+1,d=>by rw [padk,qaf,qks k];rfl
theorem pow9 (k:Nat):(1000000000:Nat) ^ k=10 ^ (9*k):=by
 rw [Nat.pow_mul]
theorem top_num {L:List Nat} {n:Nat} (I:Dig L) (G:L.length=n+1) (H:L.getD n 0≠0):(decDigits (mval L)).length=n*9+(decDigits (L.getD n 0)).length:=by
 have e:=qbU L n;rw [<-G,qbg] at e;have F:=(I.take n).lt;rw [qay,G,qa7 (by omega),pow9] at F;rw [e,pow9,Nat.add_comm,qax (10 ^ (9*n)),qec _ _ _ (qbe H) F,qaf,qks];omega
theorem drop_num {L:List Nat} {j:Nat} (H:Dig L) (G:0<mval (L.drop (j+1))):decDigits (mval (L.drop j))=decDigits (mval (L.drop (j+1)))++(List.replicate (9-(decDigits (L.getD j 0)).length) 48++decDigits (L.getD j 0)):=by
 have F:L.getD j 0<10 ^ 9:=by rw [ten9];exact H j
 rw [qcO L j,Nat.add_comm,qax,<-ten9,qec 9 _ _ G F,qmL 9 _ (by decide) F]
theorem ten8:(10:Nat) ^ 8=100000000:=by decide
theorem below9 {v m:Nat} (h:v<10 ^ m) (F:m<=9):v<1000000000:=by
 rw [<-ten9];exact qai h (qaX (by decide) F)
theorem below8 {v m:Nat} (h:v<10 ^ m) (F:m<=8):v<100000000:=by
 rw [<-ten8];exact qai h (qaX (by decide) F)
theorem qfR {D F G v d m:Nat} (h:v<10 ^ m/\G=F*10 ^ m+v) (I:D=G*10+d) (O:d<=9):v*10+d<10 ^ (m+1)/\D=F*10 ^ (m+1)+(v*10+d):=by
 obtain⟨J,H⟩:=h;rw [I,H,qaI];refine⟨by omega,?_⟩;rw [qaG,qaz];omega
theorem qkV {P B D E m v:Nat} (h:D*E=D*B):m+P*v+P*B*D=m+(P*(D*E)+P*v):=by
 rw [h,qaz,qax D B];omega
theorem qgo {L:List UInt8} {S:List Nat} {st i k v:Nat} (F:S.length=k) (h:mval S+1000000000 ^ k*dval (L.take i)=dval L) (I:dval (L.take i)=dval (L.take st)*10 ^ (i-st)+v) (H:(st=0/\i<=9)\/st+9=i) :
  mval (S++[v])+1000000000 ^ (k+1)*dval (L.take st)=dval L:=by
 rw [I,qaT] at h;rw [qcP,F,qaI,<-h];refine qkV ?_;rcases H with ⟨G,_⟩ | G
 ·subst G;have e:dval (L.take 0)=0:=rfl;rw [e,Nat.zero_mul,Nat.zero_mul]
 ·have e:i-st=9:=by omega
  rw [e,ten9]
