import Derived.KernelRfl
import Derived.Lib.ItoaNum
import Derived.Test.YtjalhnlhcdfncaaGreatDoorBk0
set_option maxRecDepth 100000
set_option maxHeartbeats 0
namespace Go.Proofs.YtjalhnlhcdfncaaGreatDoor
def mval:List Nat->Nat
 | []=>0
 | d :: l=>d+1000000000*mval l
theorem qcA (l r:List Nat):mval (l++r)=mval l+1000000000 ^ l.length*mval r:=by
 induction l with
 | nil=>simp [mval]
 | cons d l ih =>
  simp only [List.cons_append,mval,ih,qbH,qaQ];rw [qa7,qaC (1000000000 ^ l.length) 1000000000,qaI];omega
theorem qhI (l:List Nat) (h:∀d∈l,d<1000000000):mval l<1000000000 ^ l.length:=by
 induction l with
 | nil=>simp [mval]
 | cons d l ih =>
  have G:=h d qbg;have H:=ih fun x F=>h x (qbs _ F)
  simp only [mval,qbH,qaQ];omega
theorem qhe (n:Nat):mval (List.replicate n 0)=0:=by
 induction n with
 | zero=>rfl
 | succ n ih=>simp [qbn,mval,ih]
theorem qdS (l:List Nat) (d:Nat):mval (l++[d])=mval l+1000000000 ^ l.length*d:=by
 rw [qcA];simp [mval]
theorem mval_set (l:List Nat) (i d:Nat) (h:i<l.length):mval (l.set i d)+1000000000 ^ i*l[i]=mval l+1000000000 ^ i*d:=by
 induction l generalizing i with
 | nil=>exact absurd h (by simp)
 | cons x l ih =>
  cases i with
  | zero=>simp [mval];omega
  | succ i =>
   have F:i<l.length:=by simpa using h
   have:=ih i F;simp only [List.set_cons_succ,mval,List.getElem_cons_succ,qaQ];have G:1000000000 ^ i*1000000000*l[i]=1000000000*(1000000000 ^ i*l[i]):=by rw [qaC (1000000000 ^ i),qaI]
   have H:1000000000 ^ i*1000000000*d=1000000000*(1000000000 ^ i*d):=by rw [qaC (1000000000 ^ i),qaI]
   omega
theorem qir (l m:List Nat) (i:Nat) (O:∀d∈l,d<1000000000) (J:i<l.length) (G:i<m.length) (h:l[i]<m[i]) (F:l.drop (i+1)=m.drop (i+1)):mval l<mval m:=by
 have H:l=l.take i++(l[i] :: l.drop (i+1)):=by rw [<-List.drop_eq_getElem_cons J,List.take_append_drop]
 have I:m=m.take i++(m[i] :: m.drop (i+1)):=by rw [<-List.drop_eq_getElem_cons G,List.take_append_drop]
 have U:mval (l.take i)<1000000000 ^ i:=by
  have:=qhI (l.take i) fun d F=>O d (qbe F)
  rwa [qat,qaY (by omega)] at this
 rw [H,I,qcA,qcA,qat,qat,qaY (by omega),qaY (by omega)];simp only [mval,F];generalize mval (m.drop (i+1))=x;have:1000000000 ^ i*(l[i]+1000000000*x)+1000000000 ^ i<=1000000000 ^ i*(m[i]+1000000000*x):=by
  rw [<-Nat.mul_succ];exact qaJ _ (by omega)
 omega
theorem qgs (l m:List Nat) (H:∀d∈l,d<1000000000) (h:l.length<m.length) (I:m.getLast?≠some 0):mval l<mval m:=by
 have J:=qhI l H;cases G:m.reverse with
 | nil=>rw [List.reverse_eq_nil_iff] at G;subst G;exact absurd h (by simp)
 | cons d r =>
  have e:m=r.reverse++[d]:=by rw [<-List.reverse_reverse m,G,List.reverse_cons]
  have V:d≠0:=by
   rintro rfl;apply I;rw [e];simp
  rw [e,qdS];have F:l.length<=r.reverse.length:=by rw [e] at h;simp at h ⊢;omega
  have O:1000000000 ^ l.length<=1000000000 ^ r.reverse.length:=qaZ (by omega) F;have U:1000000000 ^ r.reverse.length*1<=1000000000 ^ r.reverse.length*d:=qaJ _ (by omega);omega
section
variable {B U V T head top u2 v2 lu lv:Nat}
theorem qlq (_hT:0<T) (hU:U=(head*B+u2)*T+lu) (G:V=(top*B+v2)*T+lv) (J:u2<B) (H:lu<T) (I:0<top):U / V<=head / top:=by
 rw [Nat.le_div_iff_mul_le I];have Z:U / V*V<=U:=Nat.div_mul_le_self U V;generalize U / V=Q at *;have h2:Q*(top*B*T)<=Q*V:=qaJ _ (by
  rw [G,qaE];omega)
 have h3:U<(head+1)*B*T:=by
  rw [hU];have:(head*B+u2+1)*T<=(head+1)*B*T:=qaP _ (by rw [qaE head 1,qbo];omega);have e:(head*B+u2+1)*T=(head*B+u2)*T+T:=by rw [qaE _ 1,qbo]
  omega
 have F:Q*top*(B*T)<(head+1)*(B*T):=by
  have O:Q*top*(B*T)=Q*(top*B*T):=by rw [qaI,qaI]
  have Y:(head+1)*(B*T)=(head+1)*B*T:=by rw [qaI]
  omega
 have:=Nat.lt_of_mul_lt_mul_right F;omega
theorem est_test (F:0<V) (hU:U=(head*B+u2)*T+lu) (hV:V=(top*B+v2)*T+lv) (H:lu<T) {q r:Nat} (I:q*top+r=head) (h:r*B+u2<q*v2):U / V<q:=by
 rw [Nat.div_lt_iff_lt_mul F];have G:head*B+u2+1<=q*(top*B+v2):=by
  have e:q*top*B+r*B=head*B:=by rw [<-I,qaE]
  have J:q*(top*B+v2)=q*top*B+q*v2:=by rw [qa7,qaI]
  omega
 have O:(head*B+u2+1)*T<=q*(top*B+v2)*T:=qaP _ G;have Y:q*(top*B+v2)*T<=q*V:=by
  rw [qaI];exact qaJ _ (by omega)
 have Z:(head*B+u2+1)*T=(head*B+u2)*T+T:=by rw [qaE _ 1,qbo]
 omega
theorem est_done (F:0<V) (hU:U=(head*B+u2)*T+lu) (Y:V=(top*B+v2)*T+lv) (Z:lv<T) (ht:0<top) {q r:Nat} (aa:q<=B) (hq:q*top+r=head) (h:q*v2<=r*B+u2):q<=U / V+1:=by
 rcases qaW q with rfl | hq0
 ·exact qan _
 obtain⟨p,rfl⟩:∃p,q=p+1:=⟨q-1,by omega⟩;have:p<=U / V:=by
  rw [Nat.le_div_iff_mul_le F];have h1:p*V<=p*((top*B+v2+1)*T):=qaJ _ (by rw [Y,qaE (top*B+v2) 1,qbo];omega);have J:p*(top*B+v2+1)<=head*B+u2:=by
   have e:(p+1)*top*B+r*B=head*B:=by rw [<-hq];exact (qaE _ _ _).symm
   have G:(p+1)*top*B=p*(top*B)+top*B:=by rw [qaE p 1,qbo,qaE,qaI]
   have H:p*(top*B+v2+1)=p*(top*B)+p*v2+p:=by rw [qa7,qa7,qbK]
   have I:(p+1)*v2=p*v2+v2:=by rw [qaE,qbo]
   have e5:B<=top*B:=Nat.le_mul_of_pos_left _ ht;rw [H];rw [G] at e;rw [I] at h;omega
  have O:p*(top*B+v2+1)*T<=(head*B+u2)*T:=qaP _ J;rw [qaI] at O;omega
 omega
theorem est_head (_hT:0<T) (_hB:0<B) (hU:U=(head*B+u2)*T+lu) (hV:V=(top*B+v2)*T+lv) (I:v2<B) (H:lv<T) (h:U<B*V):head<(top+1)*B:=by
 have F:V<(top+1)*B*T:=by
  have e:(top*B+v2+1)*T<=(top+1)*B*T:=qaP _ (by rw [qaE top 1,qbo];omega);have J:(top*B+v2+1)*T=(top*B+v2)*T+T:=by rw [qaE _ 1,qbo]
  omega
 have O:head*(B*T)<=U:=by
  rw [hU,qaE,qaI head];omega
 have Y:B*V<=B*((top+1)*B*T):=qaJ _ (qap F);have Z:B*((top+1)*B*T)=(top+1)*B*(B*T):=by
  rw [<-qaI,qaC B ((top+1)*B),qaI]
 have G:head*(B*T)<(top+1)*B*(B*T):=by omega
 exact Nat.lt_of_mul_lt_mul_right G
end
def Dig (L:List Nat):Prop:=∀k,L.getD k 0<1000000000
theorem Dig.mem {L:List Nat} (h:Dig L):∀d∈L,d<1000000000:=fun d F=>by
 obtain⟨i,G,rfl⟩:=List.getElem_of_mem F;have:=h i
 rwa [qab,qad G] at this
theorem Dig.of {L:List Nat} (h:∀d∈L,d<1000000000):Dig L:=fun k=>by
 rw [qab];cases hk:L[k]? with
 | none=>exact (by decide:0<1000000000)
 | some x=>exact h x (List.mem_of_getElem? hk)
theorem Dig.nil:Dig []:=Dig.of (by simp)
theorem Dig.snoc {L:List Nat} (h:Dig L) {d:Nat} (G:d<1000000000):Dig (L++[d]):=Dig.of fun x F=>by
 rcases qaG.1 F with F | F
 ·exact h.mem x F
 ·rw [qao.1 F];exact G
theorem Dig.set {L:List Nat} (h:Dig L) {d:Nat} (G:d<1000000000) (i:Nat):Dig (L.set i d):=Dig.of fun x F=>by
 rcases List.mem_or_eq_of_mem_set F with F | rfl
 ·exact h.mem x F
 ·exact G
theorem Dig.take {L:List Nat} (h:Dig L) (n:Nat):Dig (L.take n):=Dig.of fun x F=>h.mem x (qbe F)
theorem Dig.drop {L:List Nat} (h:Dig L) (n:Nat):Dig (L.drop n):=Dig.of fun x F=>h.mem x (List.mem_of_mem_drop F)
theorem Dig.append {L M:List Nat} (h:Dig L) (F:Dig M):Dig (L++M):=Dig.of fun x G=>(qaG.1 G).elim (h.mem x) (F.mem x)
theorem Dig.zeros (n:Nat):Dig (List.replicate n 0):=Dig.of fun x F=>by rw [(List.mem_replicate.1 F).2];decide
theorem Dig.lt {L:List Nat} (h:Dig L):mval L<1000000000 ^ L.length:=qhI L h.mem
theorem qgb {L:List Nat} {k:Nat} (h:k<L.length):L[k]? = some (L.getD k 0):=by
 rw [qad h,qab,qad h];rfl
theorem qeM {L:List Nat} {k:Nat} (h:L.length<=k):L.getD k 0=0:=by
 rw [qab,qa8 h];rfl
theorem qbT (L:List Nat) (k:Nat):mval (L.take (k+1))=mval (L.take k)+1000000000 ^ k*L.getD k 0:=by
 by_cases h:k<L.length
 ·rw [List.take_add_one,qgb h]
  show mval (L.take k++[L.getD k 0])=_
  rw [qdS,qat,qaY (qap h)]
 ·rw [qal (by omega),qal (by omega),qeM (by omega)];simp
theorem qdR (L:List Nat) (k:Nat):mval (L.drop k)=L.getD k 0+1000000000*mval (L.drop (k+1)):=by
 by_cases h:k<L.length
 ·rw [List.drop_eq_getElem_cons h];simp only [mval];rw [qab,qad h];rfl
 ·rw [qbk (by omega),qbk (by omega),qeM (by omega)];simp [mval]
theorem qgR (L:List Nat) (k:Nat) (F:k<=L.length):mval L=mval (L.take k)+1000000000 ^ k*mval (L.drop k):=by
 conv=>lhs;rw [<-List.take_append_drop k L]
 rw [qcA,qat,qaY F]
theorem getD_set_ne {L:List Nat} {i j d:Nat} (h:i≠j):(L.set i d).getD j 0=L.getD j 0:=by
 rw [qab,List.getElem?_set_ne h,<-qab]
theorem qd7 {L:List Nat} {i d:Nat} (h:i<L.length):(L.set i d).getD i 0=d:=by
 rw [qab,List.getElem?_set_self h];rfl
theorem qdj {L:List Nat} {k d:Nat} (h:k<L.length):mval ((L.set k d).take (k+1))=mval (L.take k)+1000000000 ^ k*d:=by
 rw [qbT,qd7 h]
 congr 2
 rw [List.take_set_of_le qN]
theorem qff {L:List Nat} {k d:Nat} (h:k<L.length):mval ((L.set k d).drop k)=d+1000000000*mval (L.drop (k+1)):=by
 rw [qdR,qd7 h,List.drop_set_of_lt (by omega)]
theorem qis {L:List Nat} {k d:Nat} (h:k<L.length):mval (L.set k d)+1000000000 ^ k*L.getD k 0=mval L+1000000000 ^ k*d:=by
 have:=mval_set L k d h
 rwa [qab,qad h]
def Zero (L:List Nat) (n:Nat):Prop:=∀k,n<=k->L.getD k 0=0
theorem Zero.all (L:List Nat):Zero L L.length:=fun _ h=>qeM h
theorem Zero.mono {L:List Nat} {n m:Nat} (h:Zero L n) (G:n<=m):Zero L m:=fun k F=>h k (by omega)
theorem Zero.zeros (n m:Nat):Zero (List.replicate n 0) m:=fun k _=>by
 by_cases h:k<n
 ·rw [qab,qbq,if_pos h];rfl
 ·exact qeM (by rw [qbm];omega)
theorem Zero.set {L:List Nat} {n k d:Nat} (h:Zero L n) (G:k<n):Zero (L.set k d) n:=fun j F=>by rw [getD_set_ne (by omega)];exact h j F
theorem Zero.set_succ {L:List Nat} {n d:Nat} (h:Zero L n):Zero (L.set n d) (n+1):=fun j F=>by rw [getD_set_ne (by omega)];exact h j (by omega)
theorem Zero.down {L:List Nat} {n:Nat} (h:Zero L (n+1)) (F:L.getD n 0=0):Zero L n:=fun k G=>by
 by_cases e:k=n
 ·rw [e];exact F
 ·exact h k (by omega)
theorem qeF {L:List Nat} {n:Nat} (h:Zero L n):mval (L.drop n)=0:=by
 induction hm:L.length-n generalizing n with
 | zero=>rw [qbk (by omega)];rfl
 | succ m ih =>
  rw [qdR,h n qN,ih (h.mono (by omega)) (by omega)]
theorem qcK {L:List Nat} {n:Nat} (h:Zero L n):mval (L.take n)=mval L:=by
 by_cases F:n<=L.length
 ·rw [qgR L n F,qeF h];omega
 ·rw [qal (by omega)]
def Nrm (L:List Nat):Prop:=L.length=0\/L.getD (L.length-1) 0≠0
theorem Nrm.ge {L:List Nat} (h:Nrm L) (G:0<L.length):1000000000 ^ (L.length-1)<=mval L:=by
 have F:=h.resolve_left (by omega);have e:=qbT L (L.length-1);rw [show L.length-1+1=L.length by omega,qba] at e;rw [e];exact qak (Nat.le_mul_of_pos_right _ (qbc F)) (Nat.le_add_left _ _)
theorem Nrm.of_ge {L:List Nat} (G:Dig L) (h:L.length=0\/1000000000 ^ (L.length-1)<=mval L):Nrm L:=by
 rcases h with h | h
 ·exact qav h
 ·rcases qaW L.length with h0 | h0
  ·exact qav h0
  ·right
   intro H;have e:=qbT L (L.length-1);rw [show L.length-1+1=L.length by omega,qba,H,Nat.mul_zero,qbA] at e;have F:=qhI (L.take (L.length-1)) (G.mem · <| qbe ·);rw [qat,qaY (by omega)] at F;omega
theorem Nrm.snoc (L:List Nat) {d:Nat} (h:d≠0):Nrm (L++[d]):=by
 right
 rw [qaf,qaB,Nat.add_sub_cancel,qab,qar qN,qaK];exact h
theorem Nrm.zero {L:List Nat} (h:Nrm L):mval L=0↔L.length=0:=by
 constructor
 ·intro e;rcases qaW L.length with h0 | h0
  ·exact h0
  ·have:=h.ge h0;have:=Nat.pow_pos (n:=L.length-1) (show 0<1000000000 by decide);omega
 ·intro e;rw [List.length_eq_zero_iff.1 e];rfl
theorem Nrm.len {L:List Nat} (h:Nrm L) {n:Nat} (G:mval L<1000000000 ^ n):L.length<=n:=by
 rcases qaW L.length with h0 | h0
 ·omega
 ·have F:=h.ge h0;have H:=(Nat.pow_lt_pow_iff_right (show 1<1000000000 by decide)).1 (qaX F G);omega
theorem qj8 {P B x y z s c c' m o:Nat} (H:x+P*c=y+z) (F:s+B*c'=m+c+o):x+P*s+P*B*c'=y+P*m+(z+P*o):=by
 have h:=congrArg (P * ·) F;simp only [qa7] at h;have G:P*B*c'=P*(B*c'):=by simp only [qaI]
 omega
theorem ql7 {P B x y z s b F m o:Nat} (I:x+z=y+P*b) (G:s+b+o=m+B*F):x+P*s+(z+P*o)=y+P*m+P*B*F:=by
 have h:=congrArg (P * ·) G;simp only [qa7] at h;have H:P*B*F=P*(B*F):=by simp only [qaI]
 omega
theorem qmP {A C B x p s c c' d e X Y Z: Nat} (I:Y+A*C*p=x+A*C*s) (J:x+A*C*c=X+A*d*Z) (F:s+B*c'=c+(p+d*e)):Y+A*(C*B)*c'=X+A*d*(Z+C*e):=by
 have h:=congrArg (A*C * ·) F;simp only [qa7] at h ⊢;have G:A*(C*B)*c'=A*C*(B*c'):=by simp only [qaI]
 have H:A*d*(C*e)=A*C*(d*e):=by simp only [qaI,qbr]
 omega
theorem next_alg {A F E G x c d H X Y Z:Nat} (I:Y+E*0=x+E*c) (J:x+E*c=X*Z+A*d*Z):Y+G*0=(X+A*d)*Z+F*H*mval []:=by
 simp only [mval,Nat.mul_zero,qbA,qaE] at *;omega
theorem qmB {B R d r m M q t:Nat} (F:R*d+r=M) (J:d*q+t=r*B+m):(q+B*R)*d+t=m+B*M:=by
 subst F;simp only [qa7,qaE];have G:B*R*d=B*(R*d):=by simp only [qaI]
 have H:q*d=d*q:=qaC _ _;have I:r*B=B*r:=qaC _ _;omega
structure PlusInv (m o:List Nat) (k:Nat) (L:List Nat) (c:Nat):Prop where
 len:L.length=k
 dig:Dig L
 carry:c<=1
 val:mval L+1000000000 ^ k*c=mval (m.take k)+mval (o.take k)
theorem PlusInv.start (m o:List Nat):PlusInv m o 0 [] 0:=⟨rfl,Dig.nil,by decide,by simp [mval]⟩
theorem PlusInv.step {m o L:List Nat} {k c s c':Nat} (h:PlusInv m o k L c) (G:s<1000000000) (F:c'<=1) (e:s+1000000000*c'=m.getD k 0+c+o.getD k 0):PlusInv m o (k+1) (L++[s]) c':=by
 refine⟨by rw [qaf,h.len];rfl,h.dig.snoc G,F,?_⟩;have H:=h.val;rw [qdS,h.len,qbT,qbT,qaQ];exact qj8 H e
theorem PlusInv.done {m o L:List Nat} {c:Nat} (h:PlusInv m o m.length L c) (F:o.length<=m.length):mval L+1000000000 ^ m.length*c=mval m+mval o:=by
 have:=h.val
 rwa [qal qN,qal F] at this
structure MinusInv (m o:List Nat) (k:Nat) (R:List Nat) (b:Nat):Prop where
 len:R.length=m.length
 dig:Dig R
 carry:b<=1
 val:mval (R.take k)+mval (o.take k)=mval (m.take k)+1000000000 ^ k*b
theorem MinusInv.start (m o:List Nat):MinusInv m o 0 (List.replicate m.length 0) 0:=⟨by simp,Dig.zeros _,by decide,by simp [mval]⟩
theorem MinusInv.step {m o R:List Nat} {k b s F:Nat} (h:MinusInv m o k R b) (H:k<m.length) (I:s<1000000000) (G:F<=1) (e:s+b+o.getD k 0=m.getD k 0+1000000000*F):MinusInv m o (k+1) (R.set k s) F:=by
 refine⟨by rw [qa9,h.len],h.dig.set I _,G,?_⟩;have J:=h.val;rw [qdj (by rw [h.len];exact H),qbT,qbT,qaQ];exact ql7 J e
theorem MinusInv.done {m o R:List Nat} {b:Nat} (h:MinusInv m o m.length R b) (H:o.length<=m.length) (G:mval o<=mval m):mval R=mval m-mval o:=by
 have I:=h.val;rw [qal qN,qal H,qal (by rw [h.len];exact qae _)] at I;have F:=h.dig.lt;rw [h.len] at F;have J:=h.carry;rcases (show b=0\/b=1 by omega) with rfl | rfl
 ·omega
 ·omega
structure TimesInv (m o:List Nat) (i j:Nat) (P:List Nat) (c:Nat):Prop where
 len:P.length=m.length+o.length
 dig:Dig P
 carry:c<1000000000
 zero:Zero P (i+o.length)
 val:mval P+1000000000 ^ (i+j)*c=mval (m.take i)*mval o+1000000000 ^ i*m.getD i 0*mval (o.take j)
theorem TimesInv.start (m o:List Nat):TimesInv m o 0 0 (List.replicate (m.length+o.length) 0) 0:=⟨by simp,Dig.zeros _,by decide,Zero.zeros _ _,by simp [mval,qhe]⟩
theorem TimesInv.step {m o P:List Nat} {i j c s c':Nat} (h:TimesInv m o i j P c) (I:i<m.length) (J:j<o.length) (F:s<1000000000) (H:c'<1000000000) (e:s+1000000000*c'=c+(P.getD (i+j) 0+m.getD i 0*o.getD j 0)):TimesInv m o i (j+1) (P.set (i+j) s) c':=by
 refine⟨by rw [qa9,h.len],h.dig.set F _,H,h.zero.set (by omega),?_⟩;have G:=h.val;have F:=qis (L:=P) (k:=i+j) (d:=s) (by rw [h.len];omega);rw [qbT,Nat.pow_add,qaQ];rw [Nat.pow_add] at F G;exact qmP F G e
theorem TimesInv.next {m o P:List Nat} {i c:Nat} (h:TimesInv m o i o.length P c) (H:i<m.length):TimesInv m o (i+1) 0 (P.set (i+o.length) c) 0:=by
 refine⟨by rw [qa9,h.len],h.dig.set h.carry _,by decide,?_,?_⟩
 ·have:=h.zero.set_succ (d:=c)
  rwa [show i+o.length+1=i+1+o.length by omega] at this
 have G:=h.val;have F:=qis (L:=P) (k:=i+o.length) (d:=c) (by rw [h.len];omega);rw [h.zero _ qN] at F;rw [qal qN] at G;rw [qbT,List.take_zero];exact next_alg F G
theorem TimesInv.done {m o P:List Nat} {c:Nat} (h:TimesInv m o m.length 0 P c) (G:c=0):mval P=mval m*mval o:=by
 have F:=h.val;subst G;rw [qal qN] at F
 simpa [mval] using F
theorem qjw {c p d e:Nat} (F:c<1000000000) (H:p<1000000000) (G:d<1000000000) (he:e<1000000000):c+(p+d*e)<1000000000000000000:=by
 have:d*e<=999999999*999999999:=Nat.mul_le_mul (by omega) (by omega);omega
structure ShortInv (m:List Nat) (d k:Nat) (R:List Nat) (r:Nat):Prop where
 len:R.length=m.length
 dig:Dig R
 rest:r<d
 val:mval (R.drop k)*d+r=mval (m.drop k)
theorem ShortInv.start (m:List Nat) {d:Nat} (F:0<d):ShortInv m d m.length (List.replicate m.length 0) 0:=⟨by simp,Dig.zeros _,F,by rw [qbk (by simp),qbk (by simp)];simp [mval]⟩
theorem ShortInv.step {m R:List Nat} {d k r:Nat} (h:ShortInv m d (k+1) R r) (G:k<m.length) (H:Dig m):ShortInv m d k (R.set k ((r*1000000000+m.getD k 0) / d)) ((r*1000000000+m.getD k 0) % d):=by
 have F:0<d:=by have:=h.rest;omega
 have I:(r*1000000000+m.getD k 0) / d<1000000000:=by
  rw [Nat.div_lt_iff_lt_mul F];have J:=H k;have O:=h.rest;have:(r+1)*1000000000<=d*1000000000:=qaP _ (by omega);omega
 refine⟨by rw [qa9,h.len],h.dig.set I _,Nat.mod_lt _ F,?_⟩;rw [qff (by rw [h.len];exact G),qdR m k,<-h.val];have:=Nat.div_add_mod (r*1000000000+m.getD k 0) d;exact qmB rfl this
theorem ShortInv.done {m R:List Nat} {d r:Nat} (h:ShortInv m d 0 R r):mval R=mval m / d/\r=mval m % d:=by
 have F:=h.val;simp only [List.drop_zero] at F;have hr:=h.rest;rw [<-F]
 constructor
 ·rw [qaC,Nat.mul_add_div (by omega),Nat.div_eq_of_lt hr];rfl
 ·rw [qaC,Nat.mul_add_mod,Nat.mod_eq_of_lt hr]
theorem qfY (n:Nat):0<1000000000 ^ n:=Nat.pow_pos (by decide)
theorem sub_alg {P B R q V U b c r F c' t d x:Nat} (h1:R+q*V=U+P*(b+c)) (G:c+q*d=B*c'+t) (H:r+b+t=x+B*F):R+P*r+q*(V+P*d)=U+P*x+P*B*(F+c'):=by
 have I:=congrArg (P * ·) G;have J:=congrArg (P * ·) H;simp only [qa7] at *;have O:q*(P*d)=P*(q*d):=qbr _ _ _;have Y:P*B*F=P*(B*F):=qaI _ _ _;have Z:P*B*c'=P*(B*c'):=qaI _ _ _;omega
structure SubInv (u v:List Nat) (q k:Nat) (R:List Nat) (b c:Nat):Prop where
 len:R.length=u.length
 dig:Dig R
 borrow:b<=1
 carry:c<1000000000
 rest:∀j,k<=j->R.getD j 0=u.getD j 0
 val:mval (R.take k)+q*mval (v.take k)=mval (u.take k)+1000000000 ^ k*(b+c)
theorem SubInv.start {u v:List Nat} {q:Nat} (F:Dig u):SubInv u v q 0 u 0 0:=⟨rfl,F,by decide,by decide,fun _ _=>rfl,by simp [mval]⟩
theorem SubInv.step {u v R:List Nat} {q k b c r F c' t:Nat} (h:SubInv u v q k R b c) (O:k<u.length) (hr:r<1000000000) (I:F<=1) (J:c'<1000000000) (G:c+q*v.getD k 0=1000000000*c'+t) (H:r+b+t=u.getD k 0+1000000000*F) :
  SubInv u v q (k+1) (R.set k r) F c':=by
 refine⟨by rw [qa9,h.len],h.dig.set hr _,I,J,fun j U=>by rw [getD_set_ne (by omega)];exact h.rest j (by omega),?_⟩;rw [qdj (by rw [h.len];exact O),qbT,qbT,qaQ];exact sub_alg h.val G H
theorem qmF {c q d:Nat} (F:c<1000000000) (H:q<1000000000) (G:d<1000000000):c+q*d<1000000000000000000:=by
 have:q*d<=999999999*999999999:=Nat.mul_le_mul (by omega) (by omega);omega
structure BackInv (u v:List Nat) (k:Nat) (R:List Nat) (c:Nat):Prop where
 len:R.length=u.length
 dig:Dig R
 carry:c<=1
 rest:∀j,k<=j->R.getD j 0=u.getD j 0
 val:mval (R.take k)+1000000000 ^ k*c=mval (u.take k)+mval (v.take k)
theorem BackInv.start {u v:List Nat} (F:Dig u):BackInv u v 0 u 0:=⟨rfl,F,by decide,fun _ _=>rfl,by simp [mval]⟩
theorem BackInv.step {u v R:List Nat} {k c s c':Nat} (h:BackInv u v k R c) (G:k<u.length) (H:s<1000000000) (F:c'<=1) (e:s+1000000000*c'=u.getD k 0+c+v.getD k 0):BackInv u v (k+1) (R.set k s) c':=by
 refine⟨by rw [qa9,h.len],h.dig.set H _,F,fun j I=>by rw [getD_set_ne (by omega)];exact h.rest j (by omega),?_⟩;rw [qdj (by rw [h.len];exact G),qbT,qbT,qaQ];exact qj8 h.val e
structure Reduced (u v:List Nat) (R:List Nat) (q:Nat):Prop where
 len:R.length=u.length
 dig:Dig R
 quot:q=mval u / mval v
 val:mval R=mval u % mval v
 top:Zero R v.length
theorem qgy {u v R:List Nat} {n:Nat} (Z:u.length=n+1) (V:v.length=n) (O:R.length=u.length) (U:Dig R) {q:Nat} (_hv:0<mval v) (F:mval (R.take n)=mval u-q*mval v) (G:q*mval v<=mval u) (H:mval u<(q+1)*mval v) :
  Reduced u v (R.set n 0) q:=by
 have I:q=mval u / mval v:=((Nat.div_eq_of_lt_le G H)).symm;have J:mval (R.set n 0)=mval (R.take n):=by
  have:=qdj (L:=R) (k:=n) (d:=0) (by omega)
  rwa [qal (by rw [qa9];omega),Nat.mul_zero,qbA] at this
 refine⟨by rw [qa9,O],U.set (by decide) _,I,?_,?_⟩
 ·rw [J,F,I,qaC,Nat.sub_eq_of_eq_add];exact (Nat.mod_add_div _ _).symm
 ·intro j Y
  by_cases e:j=n
  ·rw [e,qd7 (by omega)]
  ·exact qeM (by rw [qa9];omega)
theorem qhN {u v R:List Nat} {n q b c:Nat} (h:SubInv u v q n R b c) (Z:u.length=n+1) (G:v.length=n) (Y:Dig v) (V:0<mval v) (hq:mval u / mval v<=q) (aa:¬u.getD n 0<b+c):Reduced u v (R.set n 0) q:=by
 have F:=h.val;have e:mval u=mval (u.take n)+1000000000 ^ n*u.getD n 0:=by
  have:=qbT u n
  rwa [qal (by omega)] at this
 rw [qal (l:=v) (by omega)] at F;have H:=(h.dig.take n).lt;rw [qat,qaY (by rw [h.len];omega)] at H;have O:=Y.lt;rw [G] at O;have U:mval u<(q+1)*mval v:=by
  have:=(Nat.div_lt_iff_lt_mul V).1 (Nat.lt_succ_of_le hq);exact this
 obtain⟨s,hs⟩:∃s,u.getD n 0=b+c+s:=⟨u.getD n 0-(b+c),by omega⟩;rw [hs,qa7] at e;have I:q*mval v<=mval u:=by omega
 have J:s=0:=by
  rcases qaW s with h0 | h0
  ·exact h0
  ·have:1000000000 ^ n*1<=1000000000 ^ n*s:=qaJ _ h0;rw [qaE,qbo] at U;omega
 subst J;exact qgy Z G h.len h.dig V (by omega) I U
theorem qiF {u v R S:List Nat} {n q b c o:Nat} (h:SubInv u v q n R b c) (k:BackInv R v n S o) (Z:u.length=n+1) (H:v.length=n) (Y:Dig v) (V:0<mval v) (hq:q<=mval u / mval v+1) (aa:u.getD n 0<b+c):Reduced u v (S.set n 0) (q-1):=by
 have F:=h.val;have G:=k.val;have e:mval u=mval (u.take n)+1000000000 ^ n*u.getD n 0:=by
  have:=qbT u n
  rwa [qal (by omega)] at this
 rw [qal (l:=v) (by omega)] at F G;have I:=(h.dig.take n).lt;have hSt:=(k.dig.take n).lt;have U:=Y.lt;rw [H] at U;rw [qat,qaY (by rw [h.len];omega)] at I;rw [qat,qaY (by rw [k.len,h.len];omega)] at hSt;obtain⟨s,hs⟩:∃s,b+c=u.getD n 0+1+s:=⟨b+c-(u.getD n 0+1),by omega⟩;rw [hs,qa7,qa7] at F;have J:mval u<q*mval v:=by omega
 have ae:0<q:=by
  rcases qaW q with h0 | h0
  ·subst h0;omega
  ·exact h0
 obtain⟨p,rfl⟩:∃p,q=p+1:=⟨q-1,by omega⟩;have O:p*mval v<=mval u:=(Nat.le_div_iff_mul_le V).1 (by omega);have e2:(p+1)*mval v=p*mval v+mval v:=by rw [qaE,qbo]
 have h3:=k.carry;have ho:mval (S.take n)=mval u-p*mval v:=by
  rcases (show o=0\/o=1 by omega) with rfl | rfl
  ·rcases qaW s with h0 | h0
   ·subst h0;omega
   ·have:1000000000 ^ n*1<=1000000000 ^ n*s:=qaJ _ h0;omega
  ·rcases qaW s with h0 | h0
   ·subst h0;omega
   ·have:1000000000 ^ n*1<=1000000000 ^ n*s:=qaJ _ h0;omega
 rw [Nat.add_sub_cancel];exact qgy Z H (by rw [k.len,h.len]) k.dig V ho O J
theorem div_alg {P V B Q q W R U:Nat} (H:Q*(P*B)*V+U=W) (I:P*(q*V)+R=U):(q+B*Q)*P*V+R=W:=by
 subst H I;have F:Q*(P*B)*V=B*Q*P*V:=by simp only [qaC,qbr]
 have G:P*(q*V)=q*P*V:=by simp only [qaI,qbr]
 rw [qaE,qaE,F,G];omega
structure DivInv (w v:List Nat) (k:Nat) (q u:List Nat):Prop where
 lenu:u.length=w.length
 lenq:q.length=w.length-v.length
 digu:Dig u
 digq:Dig q
 zero:Zero u (k+v.length)
 val:mval (q.drop k)*1000000000 ^ k*mval v+mval u=mval w
 small:mval u<1000000000 ^ k*mval v
theorem DivInv.start {w v:List Nat} (G:Dig w) (H:mval w<1000000000 ^ (w.length-v.length)*mval v) (F:v.length<=w.length):DivInv w v (w.length-v.length) (List.replicate (w.length-v.length) 0) w :=
 ⟨rfl,by simp,G,Dig.zeros _,by rw [Nat.sub_add_cancel F];exact Zero.all w,by rw [qbk (by simp)];simp [mval],H⟩
theorem qj7 {u:List Nat} {k n:Nat} (G:k+n<=u.length) (F:Zero u (k+n)):mval u=mval (u.take k)+1000000000 ^ k*mval ((u.drop k).take n):=by
 rw [<-qcK F,List.take_add,qcA,qat,qaY (by omega)]
theorem DivInv.part {w v q u:List Nat} {k:Nat} (h:DivInv w v (k+1) q u) (H:k+1+v.length<=w.length):mval ((u.drop k).take (v.length+1))<1000000000*mval v/\((u.drop k).take (v.length+1)).length=v.length+1/\Dig ((u.drop k).take (v.length+1)):=by
 have I:=h.lenu;refine⟨?_,by rw [qat,qbp];omega,(h.digu.drop _).take _⟩;have F:=h.small;have G:=qj7 (u:=u) (k:=k) (n:=v.length+1) (by omega) (by have:=h.zero;rwa [show k+1+v.length=k+(v.length+1) by omega] at this);rw [qaQ,qaI] at F;exact Nat.lt_of_mul_lt_mul_left (a:=1000000000 ^ k) (by omega)
theorem DivInv.step {w v q u R:List Nat} {k x:Nat} (h:DivInv w v (k+1) q u) (hk:k+1+v.length<=w.length) (hv:0<mval v) (hr:Reduced ((u.drop k).take (v.length+1)) v R x) :
  DivInv w v k (q.set k x) (u.take k++R++u.drop (k+(v.length+1))):=by
 have hl:=h.lenu;have U:=h.lenq;obtain⟨p1,p2,p3⟩:=h.part hk;have G:=hr.len;rw [p2] at G;have hx:x<1000000000:=by
  rw [hr.quot,Nat.div_lt_iff_lt_mul hv];exact p1
 have Z:mval R<mval v:=by rw [hr.val];exact Nat.mod_lt _ hv
 have F:(u.take k).length=k:=by rw [qat];omega
 have Y:=qj7 (u:=u) (k:=k) (n:=v.length+1) (by omega) (by have:=h.zero;rwa [show k+1+v.length=k+(v.length+1) by omega] at this);have af:mval (u.drop (k+(v.length+1)))=0:=qeF (by have:=h.zero;rwa [show k+1+v.length=k+(v.length+1) by omega] at this);have H:mval (u.take k++R++u.drop (k+(v.length+1)))=mval (u.take k)+1000000000 ^ k*mval R:=by
  rw [qcA,qcA,af,F];omega
 have I:Dig (u.take k++R++u.drop (k+(v.length+1))):=((h.digu.take _).append hr.dig).append (h.digu.drop _);have ae:=(h.digu.take k).lt;rw [F] at ae;have aa:mval (u.take k++R++u.drop (k+(v.length+1)))<1000000000 ^ k*mval v:=by
  rw [H];have:1000000000 ^ k*(mval R+1)<=1000000000 ^ k*mval v:=qaJ _ Z;rw [qa7] at this;omega
 have O:(u.take k++R++u.drop (k+(v.length+1))).length=w.length:=by
  rw [qaf,qaf,F,G,qbp];omega
 refine⟨O,by rw [qa9,U],I,h.digq.set hx _,?_,?_,aa⟩
 ·intro j hj;have hz:=h.zero;rw [qab,List.getElem?_append];split
  ·rename_i h1;rw [qar (by omega),<-qab];exact hr.top _ (by omega)
  ·rename_i h1;rw [qaf,F,G] at h1;rw [qaf,F,G,List.getElem?_drop,<-qab];exact hz _ (by omega)
 ·rw [qff (by rw [U];omega),H];have V:=h.val;rw [qaQ,Y] at V;have J:=Nat.div_add_mod (mval ((u.drop k).take (v.length+1))) (mval v);rw [<-hr.quot,<-hr.val] at J;refine div_alg V ?_;rw [<-J,qa7,qaC x];omega
theorem qhm {v:List Nat} {n:Nat} (O:2<=n) (H:v.length=n):mval v=(v.getD (n-1) 0*1000000000+v.getD (n-2) 0)*1000000000 ^ (n-2)+mval (v.take (n-2)):=by
 have F:=qbT v (n-1);have G:=qbT v (n-2);rw [show n-1+1=n by omega,<-H,qba,H] at F;rw [show n-2+1=n-1 by omega] at G;rw [F,G,show n-1=(n-2)+1 by omega,qaQ];generalize 1000000000 ^ (n-2)=P;have I:P*1000000000*v.getD (n-2+1) 0=v.getD (n-2+1) 0*1000000000*P:=by simp only [qaC,qbr]
 have J:P*v.getD (n-2) 0=v.getD (n-2) 0*P:=qaC _ _;rw [qaE,I,J];omega
theorem qkb {u:List Nat} {n:Nat} (J:2<=n) (I:u.length=n+1):mval u=((u.getD n 0*1000000000+u.getD (n-1) 0)*1000000000+u.getD (n-2) 0)*1000000000 ^ (n-2)+mval (u.take (n-2)):=by
 have F:=qbT u n;have h:=qhm (v:=u.take n) J (by rw [qat];omega);have G:(u.take n).getD (n-1) 0=u.getD (n-1) 0:=by rw [qab,List.getElem?_take_of_lt (by omega),<-qab]
 have H:(u.take n).getD (n-2) 0=u.getD (n-2) 0:=by rw [qab,List.getElem?_take_of_lt (by omega),<-qab]
 rw [<-I,qba] at F;rw [G,H,List.take_take,qaY (by omega)] at h;rw [F,h,show 1000000000 ^ n=1000000000 ^ (n-2)*(1000000000*1000000000) by rw [<-Nat.pow_two,<-Nat.pow_add];congr 1;omega];generalize 1000000000 ^ (n-2)=P;simp only [qaE];have:P*(1000000000*1000000000)*u.getD n 0=u.getD n 0*1000000000*1000000000*P:=by
  simp only [qaC,qbr]
 omega
structure Est (u v:List Nat) (n:Nat):Prop where
 two:2<=n
 lu:u.length=n+1
 lv:v.length=n
 du:Dig u
 dv:Dig v
 half:1000000000<=2*v.getD (n-1) 0+1
 small:mval u<1000000000*mval v
namespace Est
variable {u v:List Nat} {n:Nat}
def top (v:List Nat) (n:Nat):Nat:=v.getD (n-1) 0
def head (u:List Nat) (n:Nat):Nat:=u.getD n 0*1000000000+u.getD (n-1) 0
theorem top_pos (h:Est u v n):0<top v n:=by have:=h.half;unfold top;omega
theorem v_pos (h:Est u v n):0<mval v:=by
 rw [qhm h.two h.lv];have F:=h.top_pos;have G:=qfY (n-2);have:0<(v.getD (n-1) 0*1000000000+v.getD (n-2) 0)*1000000000 ^ (n-2):=qbL (by unfold top at F;omega) G;omega
theorem low (h:Est u v n):mval (u.take (n-2))<1000000000 ^ (n-2)/\mval (v.take (n-2))<1000000000 ^ (n-2):=by
 have F:=(h.du.take (n-2)).lt;have G:=(h.dv.take (n-2)).lt;rw [qat,qaY (by have:=h.lu;omega)] at F;rw [qat,qaY (by have:=h.lv;omega)] at G;exact⟨F,G⟩
theorem head_lt (h:Est u v n):head u n<(top v n+1)*1000000000 :=
 est_head (qfY _) (by decide) (qkb h.two h.lu) (qhm h.two h.lv) (h.dv _) h.low.2 h.small
theorem quot_lt (h:Est u v n):mval u / mval v<1000000000:=(Nat.div_lt_iff_lt_mul h.v_pos).2 h.small
theorem first (h:Est u v n):mval u / mval v<=head u n / top v n/\head u n / top v n<=1000000002:=by
 refine⟨qlq (qfY _) (qkb h.two h.lu) (qhm h.two h.lv) (h.du _) h.low.1 h.top_pos,?_⟩;have F:=h.head_lt;have G:=h.half;have:head u n / top v n<1000000003:=by
  rw [Nat.div_lt_iff_lt_mul h.top_pos];unfold top at *;omega
 omega
theorem down (h:Est u v n) {q r:Nat} (F:q*top v n+r=head u n) (H:mval u / mval v<=q) (G:1000000000<=q\/r*1000000000+u.getD (n-2) 0<q*v.getD (n-2) 0) :
  1<=q/\mval u / mval v<=q-1/\(q-1)*top v n+(r+top v n)=head u n:=by
 have I:mval u / mval v<q:=by
  rcases G with h1 | h1
  ·have:=h.quot_lt;omega
  ·exact est_test h.v_pos (qkb h.two h.lu) (qhm h.two h.lv) h.low.1 F h1
 clear G;generalize mval u / mval v=Q at *;obtain⟨p,rfl⟩:∃p,q=p+1:=⟨q-1,by omega⟩;rw [qaE,qbo] at F;refine⟨by omega,by omega,?_⟩;rw [Nat.add_sub_cancel];omega
theorem done (h:Est u v n) {q r:Nat} (G:q*top v n+r=head u n) (H:q<1000000000) (F:q*v.getD (n-2) 0<=r*1000000000+u.getD (n-2) 0):q<=mval u / mval v+1 :=
 est_done h.v_pos (qkb h.two h.lu) (qhm h.two h.lv) h.low.2 h.top_pos (by omega) G F
theorem broke (h:Est u v n) {q r:Nat} (J:q*top v n+r=head u n) (hr:1000000000<=r):q<1000000000/\q<=mval u / mval v+1:=by
 have G:=h.head_lt;have F:q<1000000000:=by
  rcases qaV q 1000000000 with h2 | h2
  ·exact h2
  ·have:1000000000*top v n<=q*top v n:=qaP _ h2;rw [qaE,qaC (top v n)] at G;omega
 refine⟨F,h.done J F ?_⟩;have H:q*v.getD (n-2) 0<=q*1000000000:=qaJ _ (qap (h.dv _));have I:q*1000000000<=r*1000000000:=qaP _ (qak (qap F) hr);exact qak H (qak I (Nat.le_add_right _ _))
end Est
theorem qhk {t s:Nat} (ht:0<t) (aa:t<1000000000) (F:1000000000 / (t+1)=s):0<s/\s<=500000000/\(t+1)*s<=1000000000/\1000000000<=2*(t*s)+1:=by
 have U:(t+1)*s<=1000000000:=by rw [<-F];exact Nat.mul_div_le _ _
 have O:0<s:=by rw [<-F];exact Nat.div_pos (by omega) (by omega)
 have V:1000000000<(t+1)*(s+1):=by
  rw [<-F,qaC];exact Nat.lt_mul_of_div_lt (Nat.lt_succ_self _) (by omega)
 have h3:s<=500000000:=by
  have:2*s<=(t+1)*s:=qaP _ (by omega);omega
 refine⟨O,h3,U,?_⟩
 by_cases hb:1000000000<=2*t+1
 ·have:t*1<=t*s:=qaJ _ O;omega
 ·obtain⟨d,hd⟩:∃d,1000000000=2*t+1+d:=⟨1000000000-(2*t+1),by omega⟩;obtain⟨p,rfl⟩:∃p,t=p+1:=⟨t-1,by omega⟩;have Y:1000000000+1<=(p+1+1)*(s+1):=V;have h5:(p+1)*(1000000000+1)<=(p+1)*((p+1+1)*(s+1)):=qaJ _ Y;refine Nat.le_of_mul_le_mul_left (c:=p+1+1) ?_ (by omega);have e1:(p+1)*((p+1+1)*(s+1))=(p+1+1)*((p+1)*s)+(p+1+1)*(p+1):=by
   rw [qbr,qa7 (p+1),qbK,qa7]
  have e2:(p+1+1)*(2*((p+1)*s)+1)=2*((p+1+1)*((p+1)*s))+(p+1+1):=by
   rw [qa7,qbK,qbr]
  rw [e2];rw [e1] at h5;have G:(p+1+1)*(p+1)=p*p+3*p+2:=by
   simp only [qaE,qa7,qbK,qbo];omega
  have e4:p*d+p*(2*p+3)=p*1000000000:=by rw [<-qa7];congr 1;omega
  have H:p*(2*p+3)=2*(p*p)+3*p:=by rw [qa7,qbr,qaC p 3]
  have I:(p+1)*(1000000000+1)=p*(1000000000+1)+(1000000000+1):=by rw [qaE p 1,qbo]
  have J:p*(1000000000+1)=p*1000000000+p:=by rw [qa7,qbK]
  rw [I,J,G] at h5;rw [H] at e4;generalize (p+1+1)*((p+1)*s)=Z at *;generalize p*p=pp at *;clear G H I J Y V U F;omega
theorem qgT {O V:List Nat} {n s:Nat} (hO:Dig O) (U:O.length=n) (hn:2<=n) (nO:Nrm O) (hs:1000000000 / (O.getD (n-1) 0+1)=s) (hV:Dig V) (nV:Nrm V) (hv:mval V=mval O*s):V.length=n/\1000000000<=2*V.getD (n-1) 0+1:=by
 have ht:O.getD (n-1) 0≠0:=by rw [<-U];exact nO.resolve_left (by omega)
 obtain⟨s0,s1,s2,s3⟩:=qhk (qbc ht) (hO (n-1)) hs;have e:=qbT O (n-1);rw [show n-1+1=n by omega,<-U,qba,U] at e;have H:=(hO.take (n-1)).lt;rw [qat,qaY (by omega)] at H;generalize O.getD (n-1) 0=t at *;have hP:1000000000 ^ n=1000000000 ^ (n-1)*1000000000:=by rw [<-qaQ];congr 1;omega
 have aa:mval V<1000000000 ^ n:=by
  rw [hv,e,hP];have I:(mval (O.take (n-1))+1000000000 ^ (n-1)*t)*s<1000000000 ^ (n-1)*(t+1)*s:=by
   apply Nat.mul_lt_mul_of_pos_right ?_ s0;rw [qa7];omega
  have h2:1000000000 ^ (n-1)*(t+1)*s<=1000000000 ^ (n-1)*1000000000:=by
   rw [qaI];exact qaJ _ s2
  omega
 have J:1000000000 ^ (n-1)*(t*s)<=mval V:=by
  rw [hv,e,qaE,qaI];omega
 have Y:=nV.len aa;have Z:n<=V.length:=by
  rcases qaV V.length n with h | h
  ·exfalso;have I:=hV.lt;have h2:1000000000 ^ V.length<=1000000000 ^ (n-1):=qaZ (by decide) (by omega);have h3:1000000000 ^ (n-1)*1<=1000000000 ^ (n-1)*(t*s):=qaJ _ (qbL (qbc ht) s0);omega
  ·exact h
 have F:V.length=n:=by omega
 refine⟨F,?_⟩;have eV:=qbT V (n-1);rw [show n-1+1=n by omega,<-F,qba,F] at eV;have G:=(hV.take (n-1)).lt;rw [qat,qaY (by omega)] at G;have:t*s<=V.getD (n-1) 0:=by
  have I:1000000000 ^ (n-1)*(t*s)<1000000000 ^ (n-1)*(V.getD (n-1) 0+1):=by
   rw [qa7,qbK];omega
  have:=Nat.lt_of_mul_lt_mul_left I;omega
 omega
theorem div_end {x y s r Q:Nat} (G:0<s) (h:Q*(y*s)+r=x*s) (hr:r<y*s):Q=x / y/\r / s=x % y:=by
 have J:0<y:=by
  rcases qaW y with h0 | h0
  ·subst h0;omega
  ·exact h0
 have F:s∣r:=by
  have I:s∣Q*(y*s):=⟨Q*y,by rw [<-qaI,qaC]⟩;exact (Nat.dvd_add_right I).1 (by rw [h];exact⟨x,qaC _ _⟩)
 obtain⟨z,rfl⟩:=F;rw [qaO _ G];have H:z<y:=by
  apply Nat.lt_of_mul_lt_mul_left (a:=s);rw [qaC s y];exact hr
 have e:Q*y+z=x:=by
  apply Nat.eq_of_mul_eq_mul_right G;rw [<-h,qaE,qaI,qaC s z]
 rw [<-e]
 constructor
 ·rw [qaC Q y,Nat.mul_add_div J,Nat.div_eq_of_lt H];rfl
 ·rw [qaC Q y,Nat.mul_add_mod,Nat.mod_eq_of_lt H]
theorem qll {M O V:List Nat} {F n s:Nat} (J:Dig M) (G:M.length=F) (U:O.length=n) (hn:0<n) (nO:Nrm O) (Z:0<s) (Y:n<=F) (hv:mval V=mval O*s):mval M*s<1000000000 ^ (F+1-n)*mval V:=by
 have H:=nO.ge (by omega);rw [U] at H;have I:=J.lt;rw [G] at I;have e:1000000000 ^ F=1000000000 ^ (F+1-n)*1000000000 ^ (n-1):=by rw [<-Nat.pow_add];congr 1;omega
 rw [hv,<-qaI];apply Nat.mul_lt_mul_of_pos_right ?_ Z;have:1000000000 ^ (F+1-n)*1000000000 ^ (n-1)<=1000000000 ^ (F+1-n)*mval O:=qaJ _ H;omega
open Go.Lib
theorem qjM {t l:List UInt8} (h:t≠[]):(t++l).head? = t.head?:=by
 cases t with
 | nil=>exact absurd rfl h
 | cons=>rfl
def dval (s:List UInt8):Nat:=s.foldl (fun v c=>v*10+(c.toNat-48)) 0
theorem qee (s:List UInt8) (c:UInt8):dval (s++[c])=dval s*10+(c.toNat-48):=by
 unfold dval;rw [List.foldl_append];rfl
def Nums (s:List UInt8):Prop:=∀c∈s,48<=c.toNat/\c.toNat<=57
theorem qlm:∀(n:Nat) (s:List UInt8),s.length=n->Nums s->dval s<10 ^ n
 | 0,s,h,_=>by rw [List.length_eq_zero_iff.1 h];decide
 | n+1,s,h,hn=>by
  obtain⟨t,c,rfl⟩:∃t c,s=t++[c]:=⟨s.dropLast,s.getLast (by intro e;rw [e] at h;simp at h),(List.dropLast_concat_getLast _).symm⟩;have G:=qlm n t (by simpa using h) (fun c F=>hn c (List.mem_append_left _ F));have H:=hn c (by simp);rw [qee,qaQ];omega
theorem qdO (s:List UInt8) (k:Nat) (h:k<s.length):s.take (k+1)=s.take k++[s[k]]:=by
 rw [List.take_add_one,qad h];rfl
theorem qh4 (s:List UInt8) (k:Nat) (h:k<s.length):dval (s.take (k+1))=dval (s.take k)*10+(s[k].toNat-48):=by
 rw [qdO s k h,qee]
def qiV (s:List UInt8):Prop:=s≠[]/\Nums s/\(s.head? = some 48->s.length=1)
theorem qbX {u:Nat} (h:u<10):decDigits u=[UInt8.ofNat (48+u)]:=by rw [decDigits,dif_pos h]
theorem qcl {u:Nat} (h:10<=u):decDigits u=decDigits (u / 10)++[UInt8.ofNat (48+u % 10)]:=by rw [decDigits,dif_neg (by omega)]
theorem qcE {u:Nat} (h:u<10):(UInt8.ofNat (48+u)).toNat=48+u:=by
 rw [UInt8.toNat_ofNat'];exact Nat.mod_eq_of_lt (by omega)
theorem qec (u:Nat):decDigits u≠[]:=by
 rcases qaV u 10 with h | h
 ·rw [qbX h];simp
 ·rw [qcl h];simp
theorem qeE:∀u:Nat,Nums (decDigits u):=by
 intro u
 induction u using Nat.strongRecOn with
 | ind u ih =>
  rcases qaV u 10 with h | h
  ·rw [qbX h];intro c F;rw [qao.1 F,qcE h];omega
  ·rw [qcl h];intro c F;rcases qaG.1 F with F | F
   ·exact ih (u / 10) (by omega) c F
   ·rw [qao.1 F,qcE (by omega)];omega
theorem qgP:∀u:Nat,dval (decDigits u)=u:=by
 intro u
 induction u using Nat.strongRecOn with
 | ind u ih =>
  rcases qaV u 10 with h | h
  ·rw [qbX h]
   show 0*10+((UInt8.ofNat (48+u)).toNat-48)=u
   rw [qcE h];omega
  ·rw [qcl h,qee,ih (u / 10) (by omega),qcE (by omega)];omega
theorem qgO:∀u:Nat,(decDigits u).head? = some 48->u=0:=by
 intro u
 induction u using Nat.strongRecOn with
 | ind u ih =>
  rcases qaV u 10 with h | h
  ·rw [qbX h];intro F;have G:UInt8.ofNat (48+u)=48:=qag F;have H:=qcE h;rw [G] at H;have:(48:UInt8).toNat=48:=rfl;omega
  ·rw [qcl h];intro F;rw [qjM (qec _)] at F;have:=ih (u / 10) (by omega) F;omega
theorem qkf {a b:UInt8} (h:a.toNat=b.toNat):a=b:=UInt8.toNat_inj.1 h
theorem qhj:∀(s:List UInt8),qiV s->s=decDigits (dval s):=by
 intro s
 induction hn:s.length using Nat.strongRecOn generalizing s with
 | ind n ih =>
  intro ⟨Y,J,O⟩;obtain⟨t,c,rfl⟩:∃t c,s=t++[c]:=⟨s.dropLast,s.getLast Y,(List.dropLast_concat_getLast _).symm⟩;have U:=J c (by simp);have G:UInt8.ofNat (48+(c.toNat-48))=c:=qkf (by rw [qcE (by omega)];omega)
  by_cases H:t=[]
  ·subst H;rw [qee]
   show [c]=decDigits (0*10+(c.toNat-48))
   rw [Nat.zero_mul,qaL,qbX (by omega),G]
  ·have I:qiV t:=⟨H,fun c U=>J c (List.mem_append_left _ U),fun Z=>by
    have:=O (by rw [qjM H];exact Z);rw [qaf,qaB] at this;have:=List.length_pos_iff.2 H;omega⟩
   have F:=ih t.length (by rw [<-hn];simp) t rfl I;have V:0<dval t:=by
    rcases qaW (dval t) with h | h
    ·exfalso;rw [h,qbX (by omega)] at F;have:=O (by rw [F];rfl);rw [F] at this;simp at this
    ·exact h
   rw [qee,qcl (by omega),show (dval t*10+(c.toNat-48)) / 10=dval t by omega,show (dval t*10+(c.toNat-48)) % 10=c.toNat-48 by omega,<-F,G]
theorem qck:∀(k u:Nat),0<k->u<10 ^ k->(decDigits u).length<=k
 | 1,u,_,h=>by rw [qbX (by simpa using h)];simp
 | k+2,u,_,h=>by
  rcases qaV u 10 with h1 | h1
  ·rw [qbX h1];simp
  ·rw [qcl h1,qaf,qaB];have:=qck (k+1) (u / 10) (by omega) (by rw [qaQ] at h;omega);omega
def padk:Nat->Nat->List UInt8
 | 0,_=>[]
 | k+1,d=>padk k (d / 10)++[UInt8.ofNat (48+d % 10)]
theorem qhi:∀(k:Nat),padk k 0=List.replicate k 48
 | 0=>rfl
 | k+1=>by rw [padk,Nat.zero_div,qhi k];exact (List.replicate_succ').symm
theorem qmo:∀(k d:Nat),0<k->d<10 ^ k->padk k d=List.replicate (k-(decDigits d).length) 48++decDigits d
 | 1,d,_,h=>by
  have F:d<10:=by simpa using h
  rw [qbX F,padk,Nat.mod_eq_of_lt F];rfl
 | k+2,d,_,h=>by
  rw [padk];rcases qaV d 10 with F | F
  ·rw [qbX F,Nat.div_eq_of_lt F,qhi,Nat.mod_eq_of_lt F];rfl
  ·rw [qmo (k+1) (d / 10) (by omega) (by rw [qaQ] at h;omega),qcl F,qaf,qaB,<-qaA]
   congr 3
   omega
theorem qd2:∀(k a d:Nat),0<a->d<10 ^ k->decDigits (a*10 ^ k+d)=decDigits a++padk k d
 | 0,a,d,_,h=>by
  have:d=0:=by simpa using h
  subst this;simp [padk]
 | k+1,a,d,F,h=>by
  have H:=Nat.pow_pos (n:=k) (show 0<10 by decide);have G:1*10 ^ k<=a*10 ^ k:=qaP _ F;have e:a*10 ^ (k+1)=a*10 ^ k*10:=by rw [qaQ,qaI]
  rw [qcl (by omega),e,show (a*10 ^ k*10+d) / 10=a*10 ^ k+d / 10 by omega,show (a*10 ^ k*10+d) % 10=d % 10 by omega,
   qd2 k a (d / 10) F (by rw [qaQ] at h;omega),padk,qaA]
theorem ten9:(10:Nat) ^ 9=1000000000:=by decide
theorem qj6:∀k d:Nat,(padk k d).length=k
 | 0,_=>rfl
 | k+1,d=>by rw [padk,qaf,qj6 k];rfl
theorem pow9 (k:Nat):(1000000000:Nat) ^ k=10 ^ (9*k):=by
 rw [Nat.pow_mul]
theorem top_num {L:List Nat} {n:Nat} (I:Dig L) (G:L.length=n+1) (H:L.getD n 0≠0):(decDigits (mval L)).length=n*9+(decDigits (L.getD n 0)).length:=by
 have e:=qbT L n;rw [<-G,qba] at e;have F:=(I.take n).lt;rw [qat,G,qaY (by omega),pow9] at F;rw [e,pow9,Nat.add_comm,qaC (10 ^ (9*n)),qd2 _ _ _ (qbc H) F,qaf,qj6];omega
theorem drop_num {L:List Nat} {j:Nat} (H:Dig L) (G:0<mval (L.drop (j+1))):decDigits (mval (L.drop j))=decDigits (mval (L.drop (j+1)))++(List.replicate (9-(decDigits (L.getD j 0)).length) 48++decDigits (L.getD j 0)):=by
 have F:L.getD j 0<10 ^ 9:=by rw [ten9];exact H j
 rw [qdR L j,Nat.add_comm,qaC,<-ten9,qd2 9 _ _ G F,qmo 9 _ (by decide) F]
theorem ten8:(10:Nat) ^ 8=100000000:=by decide
theorem below9 {v m:Nat} (h:v<10 ^ m) (F:m<=9):v<1000000000:=by
 rw [<-ten9];exact qai h (qaZ (by decide) F)
theorem below8 {v m:Nat} (h:v<10 ^ m) (F:m<=8):v<100000000:=by
 rw [<-ten8];exact qai h (qaZ (by decide) F)
theorem qfH {D F G v d m:Nat} (h:v<10 ^ m/\G=F*10 ^ m+v) (I:D=G*10+d) (O:d<=9):v*10+d<10 ^ (m+1)/\D=F*10 ^ (m+1)+(v*10+d):=by
 obtain⟨J,H⟩:=h;rw [I,H,qaQ];refine⟨by omega,?_⟩;rw [qaE,qaI];omega
theorem qkt {P B D E m v:Nat} (h:D*E=D*B):m+P*v+P*B*D=m+(P*(D*E)+P*v):=by
 rw [h,qaI,qaC D B];omega
theorem qf8 {L:List UInt8} {S:List Nat} {st i k v:Nat} (F:S.length=k) (h:mval S+1000000000 ^ k*dval (L.take i)=dval L) (I:dval (L.take i)=dval (L.take st)*10 ^ (i-st)+v) (H:(st=0/\i<=9)\/st+9=i) :
  mval (S++[v])+1000000000 ^ (k+1)*dval (L.take st)=dval L:=by
 rw [I,qa7] at h;rw [qdS,F,qaQ,<-h];refine qkt ?_;rcases H with ⟨G,_⟩ | G
 ·subst G;have e:dval (L.take 0)=0:=rfl;rw [e,Nat.zero_mul,Nat.zero_mul]
 ·have e:i-st=9:=by omega
  rw [e,ten9]
