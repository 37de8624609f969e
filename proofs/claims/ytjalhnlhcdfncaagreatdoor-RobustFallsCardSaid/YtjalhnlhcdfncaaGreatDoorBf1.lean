import Derived.KernelRfl
import Derived.Lib.ItoaNum
import Derived.Test.YtjalhnlhcdfncaaGreatDoorBf0
set_option maxRecDepth 100000
set_option maxHeartbeats 0
namespace Go.Proofs.YtjalhnlhcdfncaaGreatDoor
def mval:List Nat->Nat
 | []=>0
 | d :: l=>d+1000000000*mval l
theorem qcB (l r:List Nat):mval (l++r)=mval l+1000000000 ^ l.length*mval r:=by
 induction l with
 | nil=>simp [mval]
 | cons d l ih =>
  simp only [List.cons_append,mval,ih,qbJ,qaR];rw [qba,qaD (1000000000 ^ l.length) 1000000000,qaJ];omega
theorem qhF (l:List Nat) (h:∀d∈l,d<1000000000):mval l<1000000000 ^ l.length:=by
 induction l with
 | nil=>simp [mval]
 | cons d l ih =>
  have G:=h d qa7;have H:=ih fun x F=>h x (qbn _ F)
  simp only [mval,qbJ,qaR];omega
theorem qg8 (n:Nat):mval (List.replicate n 0)=0:=by
 induction n with
 | zero=>rfl
 | succ n ih=>simp [qbp,mval,ih]
theorem qdO (l:List Nat) (d:Nat):mval (l++[d])=mval l+1000000000 ^ l.length*d:=by
 rw [qcB];simp [mval]
theorem mval_set (l:List Nat) (i d:Nat) (h:i<l.length):mval (l.set i d)+1000000000 ^ i*l[i]=mval l+1000000000 ^ i*d:=by
 induction l generalizing i with
 | nil=>exact absurd h (by simp)
 | cons x l ih =>
  cases i with
  | zero=>simp [mval];omega
  | succ i =>
   have F:i<l.length:=by simpa using h
   have:=ih i F;simp only [List.set_cons_succ,mval,List.getElem_cons_succ,qaR];have G:1000000000 ^ i*1000000000*l[i]=1000000000*(1000000000 ^ i*l[i]):=by rw [qaD (1000000000 ^ i),qaJ]
   have H:1000000000 ^ i*1000000000*d=1000000000*(1000000000 ^ i*d):=by rw [qaD (1000000000 ^ i),qaJ]
   omega
theorem qim (l m:List Nat) (i:Nat) (O:∀d∈l,d<1000000000) (J:i<l.length) (G:i<m.length) (h:l[i]<m[i]) (F:l.drop (i+1)=m.drop (i+1)):mval l<mval m:=by
 have H:l=l.take i++(l[i] :: l.drop (i+1)):=by rw [<-List.drop_eq_getElem_cons J,List.take_append_drop]
 have I:m=m.take i++(m[i] :: m.drop (i+1)):=by rw [<-List.drop_eq_getElem_cons G,List.take_append_drop]
 have U:mval (l.take i)<1000000000 ^ i:=by
  have:=qhF (l.take i) fun d F=>O d (qbg F)
  rwa [qas,qaZ (by omega)] at this
 rw [H,I,qcB,qcB,qas,qas,qaZ (by omega),qaZ (by omega)];simp only [mval,F];generalize mval (m.drop (i+1))=x;have:1000000000 ^ i*(l[i]+1000000000*x)+1000000000 ^ i<=1000000000 ^ i*(m[i]+1000000000*x):=by
  rw [<-Nat.mul_succ];exact qaG _ (by omega)
 omega
theorem qgi (l m:List Nat) (H:∀d∈l,d<1000000000) (h:l.length<m.length) (I:m.getLast?≠some 0):mval l<mval m:=by
 have J:=qhF l H;cases G:m.reverse with
 | nil=>rw [List.reverse_eq_nil_iff] at G;subst G;exact absurd h (by simp)
 | cons d r =>
  have e:m=r.reverse++[d]:=by rw [<-List.reverse_reverse m,G,List.reverse_cons]
  have V:d≠0:=by
   rintro rfl;apply I;rw [e];simp
  rw [e,qdO];have F:l.length<=r.reverse.length:=by rw [e] at h;simp at h ⊢;omega
  have O:1000000000 ^ l.length<=1000000000 ^ r.reverse.length:=qa1 (by omega) F;have U:1000000000 ^ r.reverse.length*1<=1000000000 ^ r.reverse.length*d:=qaG _ (by omega);omega
section
variable {B U V T head top u2 v2 lu lv:Nat}
theorem qlt (_hT:0<T) (hU:U=(head*B+u2)*T+lu) (G:V=(top*B+v2)*T+lv) (J:u2<B) (H:lu<T) (I:0<top):U / V<=head / top:=by
 rw [Nat.le_div_iff_mul_le I];have Z:U / V*V<=U:=Nat.div_mul_le_self U V;generalize U / V=Q at *;have h2:Q*(top*B*T)<=Q*V:=qaG _ (by
  rw [G,qaF];omega)
 have h3:U<(head+1)*B*T:=by
  rw [hU];have:(head*B+u2+1)*T<=(head+1)*B*T:=qaQ _ (by rw [qaF head 1,qbq];omega);have e:(head*B+u2+1)*T=(head*B+u2)*T+T:=by rw [qaF _ 1,qbq]
  omega
 have F:Q*top*(B*T)<(head+1)*(B*T):=by
  have O:Q*top*(B*T)=Q*(top*B*T):=by rw [qaJ,qaJ]
  have Y:(head+1)*(B*T)=(head+1)*B*T:=by rw [qaJ]
  omega
 have:=Nat.lt_of_mul_lt_mul_right F;omega
theorem est_test (F:0<V) (hU:U=(head*B+u2)*T+lu) (hV:V=(top*B+v2)*T+lv) (H:lu<T) {q r:Nat} (I:q*top+r=head) (h:r*B+u2<q*v2):U / V<q:=by
 rw [Nat.div_lt_iff_lt_mul F];have G:head*B+u2+1<=q*(top*B+v2):=by
  have e:q*top*B+r*B=head*B:=by rw [<-I,qaF]
  have J:q*(top*B+v2)=q*top*B+q*v2:=by rw [qba,qaJ]
  omega
 have O:(head*B+u2+1)*T<=q*(top*B+v2)*T:=qaQ _ G;have Y:q*(top*B+v2)*T<=q*V:=by
  rw [qaJ];exact qaG _ (by omega)
 have Z:(head*B+u2+1)*T=(head*B+u2)*T+T:=by rw [qaF _ 1,qbq]
 omega
theorem est_done (F:0<V) (hU:U=(head*B+u2)*T+lu) (Y:V=(top*B+v2)*T+lv) (Z:lv<T) (ht:0<top) {q r:Nat} (aa:q<=B) (hq:q*top+r=head) (h:q*v2<=r*B+u2):q<=U / V+1:=by
 rcases qaV q with rfl | hq0
 ·exact qam _
 obtain⟨p,rfl⟩:∃p,q=p+1:=⟨q-1,by omega⟩;have:p<=U / V:=by
  rw [Nat.le_div_iff_mul_le F];have h1:p*V<=p*((top*B+v2+1)*T):=qaG _ (by rw [Y,qaF (top*B+v2) 1,qbq];omega);have J:p*(top*B+v2+1)<=head*B+u2:=by
   have e:(p+1)*top*B+r*B=head*B:=by rw [<-hq];exact (qaF _ _ _).symm
   have G:(p+1)*top*B=p*(top*B)+top*B:=by rw [qaF p 1,qbq,qaF,qaJ]
   have H:p*(top*B+v2+1)=p*(top*B)+p*v2+p:=by rw [qba,qba,qbI]
   have I:(p+1)*v2=p*v2+v2:=by rw [qaF,qbq]
   have e5:B<=top*B:=Nat.le_mul_of_pos_left _ ht;rw [H];rw [G] at e;rw [I] at h;omega
  have O:p*(top*B+v2+1)*T<=(head*B+u2)*T:=qaQ _ J;rw [qaJ] at O;omega
 omega
theorem est_head (_hT:0<T) (_hB:0<B) (hU:U=(head*B+u2)*T+lu) (hV:V=(top*B+v2)*T+lv) (I:v2<B) (H:lv<T) (h:U<B*V):head<(top+1)*B:=by
 have F:V<(top+1)*B*T:=by
  have e:(top*B+v2+1)*T<=(top+1)*B*T:=qaQ _ (by rw [qaF top 1,qbq];omega);have J:(top*B+v2+1)*T=(top*B+v2)*T+T:=by rw [qaF _ 1,qbq]
  omega
 have O:head*(B*T)<=U:=by
  rw [hU,qaF,qaJ head];omega
 have Y:B*V<=B*((top+1)*B*T):=qaG _ (qap F);have Z:B*((top+1)*B*T)=(top+1)*B*(B*T):=by
  rw [<-qaJ,qaD B ((top+1)*B),qaJ]
 have G:head*(B*T)<(top+1)*B*(B*T):=by omega
 exact Nat.lt_of_mul_lt_mul_right G
end
def Dig (L:List Nat):Prop:=∀k,L.getD k 0<1000000000
theorem Dig.mem {L:List Nat} (h:Dig L):∀d∈L,d<1000000000:=fun d F=>by
 obtain⟨i,G,rfl⟩:=List.getElem_of_mem F;have:=h i
 rwa [qab,qad G] at this
theorem Dig.of {L:List Nat} (h:∀d∈L,d<1000000000):Dig L:=fun k=>by
 rw [qab];cases hk:L[k]? with
 | none=>exact (by decide:0<1000000000)
 | some x=>exact h x (List.mem_of_getElem? hk)
theorem Dig.nil:Dig []:=Dig.of (by simp)
theorem Dig.snoc {L:List Nat} (h:Dig L) {d:Nat} (G:d<1000000000):Dig (L++[d]):=Dig.of fun x F=>by
 rcases qaH.1 F with F | F
 ·exact h.mem x F
 ·rw [qao.1 F];exact G
theorem Dig.set {L:List Nat} (h:Dig L) {d:Nat} (G:d<1000000000) (i:Nat):Dig (L.set i d):=Dig.of fun x F=>by
 rcases List.mem_or_eq_of_mem_set F with F | rfl
 ·exact h.mem x F
 ·exact G
theorem Dig.take {L:List Nat} (h:Dig L) (n:Nat):Dig (L.take n):=Dig.of fun x F=>h.mem x (qbg F)
theorem Dig.drop {L:List Nat} (h:Dig L) (n:Nat):Dig (L.drop n):=Dig.of fun x F=>h.mem x (List.mem_of_mem_drop F)
theorem Dig.append {L M:List Nat} (h:Dig L) (F:Dig M):Dig (L++M):=Dig.of fun x G=>(qaH.1 G).elim (h.mem x) (F.mem x)
theorem Dig.zeros (n:Nat):Dig (List.replicate n 0):=Dig.of fun x F=>by rw [(List.mem_replicate.1 F).2];decide
theorem Dig.lt {L:List Nat} (h:Dig L):mval L<1000000000 ^ L.length:=qhF L h.mem
theorem qf3 {L:List Nat} {k:Nat} (h:k<L.length):L[k]? = some (L.getD k 0):=by
 rw [qad h,qab,qad h];rfl
theorem qeI {L:List Nat} {k:Nat} (h:L.length<=k):L.getD k 0=0:=by
 rw [qab,qaX h];rfl
theorem qbV (L:List Nat) (k:Nat):mval (L.take (k+1))=mval (L.take k)+1000000000 ^ k*L.getD k 0:=by
 by_cases h:k<L.length
 ·rw [List.take_add_one,qf3 h]
  show mval (L.take k++[L.getD k 0])=_
  rw [qdO,qas,qaZ (qap h)]
 ·rw [qal (by omega),qal (by omega),qeI (by omega)];simp
theorem qdN (L:List Nat) (k:Nat):mval (L.drop k)=L.getD k 0+1000000000*mval (L.drop (k+1)):=by
 by_cases h:k<L.length
 ·rw [List.drop_eq_getElem_cons h];simp only [mval];rw [qab,qad h];rfl
 ·rw [qbm (by omega),qbm (by omega),qeI (by omega)];simp [mval]
theorem qgI (L:List Nat) (k:Nat) (F:k<=L.length):mval L=mval (L.take k)+1000000000 ^ k*mval (L.drop k):=by
 conv=>lhs;rw [<-List.take_append_drop k L]
 rw [qcB,qas,qaZ F]
theorem getD_set_ne {L:List Nat} {i j d:Nat} (h:i≠j):(L.set i d).getD j 0=L.getD j 0:=by
 rw [qab,List.getElem?_set_ne h,<-qab]
theorem qd1 {L:List Nat} {i d:Nat} (h:i<L.length):(L.set i d).getD i 0=d:=by
 rw [qab,List.getElem?_set_self h];rfl
theorem qdh {L:List Nat} {k d:Nat} (h:k<L.length):mval ((L.set k d).take (k+1))=mval (L.take k)+1000000000 ^ k*d:=by
 rw [qbV,qd1 h]
 congr 2
 rw [List.take_set_of_le qN]
theorem qfb {L:List Nat} {k d:Nat} (h:k<L.length):mval ((L.set k d).drop k)=d+1000000000*mval (L.drop (k+1)):=by
 rw [qdN,qd1 h,List.drop_set_of_lt (by omega)]
theorem qin {L:List Nat} {k d:Nat} (h:k<L.length):mval (L.set k d)+1000000000 ^ k*L.getD k 0=mval L+1000000000 ^ k*d:=by
 have:=mval_set L k d h
 rwa [qab,qad h]
def Zero (L:List Nat) (n:Nat):Prop:=∀k,n<=k->L.getD k 0=0
theorem Zero.all (L:List Nat):Zero L L.length:=fun _ h=>qeI h
theorem Zero.mono {L:List Nat} {n m:Nat} (h:Zero L n) (G:n<=m):Zero L m:=fun k F=>h k (by omega)
theorem Zero.zeros (n m:Nat):Zero (List.replicate n 0) m:=fun k _=>by
 by_cases h:k<n
 ·rw [qab,qbs,if_pos h];rfl
 ·exact qeI (by rw [qa5];omega)
theorem Zero.set {L:List Nat} {n k d:Nat} (h:Zero L n) (G:k<n):Zero (L.set k d) n:=fun j F=>by rw [getD_set_ne (by omega)];exact h j F
theorem Zero.set_succ {L:List Nat} {n d:Nat} (h:Zero L n):Zero (L.set n d) (n+1):=fun j F=>by rw [getD_set_ne (by omega)];exact h j (by omega)
theorem Zero.down {L:List Nat} {n:Nat} (h:Zero L (n+1)) (F:L.getD n 0=0):Zero L n:=fun k G=>by
 by_cases e:k=n
 ·rw [e];exact F
 ·exact h k (by omega)
theorem qeD {L:List Nat} {n:Nat} (h:Zero L n):mval (L.drop n)=0:=by
 induction hm:L.length-n generalizing n with
 | zero=>rw [qbm (by omega)];rfl
 | succ m ih =>
  rw [qdN,h n qN,ih (h.mono (by omega)) (by omega)]
theorem qcJ {L:List Nat} {n:Nat} (h:Zero L n):mval (L.take n)=mval L:=by
 by_cases F:n<=L.length
 ·rw [qgI L n F,qeD h];omega
 ·rw [qal (by omega)]
def Nrm (L:List Nat):Prop:=L.length=0\/L.getD (L.length-1) 0≠0
theorem Nrm.ge {L:List Nat} (h:Nrm L) (G:0<L.length):1000000000 ^ (L.length-1)<=mval L:=by
 have F:=h.resolve_left (by omega);have e:=qbV L (L.length-1);rw [show L.length-1+1=L.length by omega,qbd] at e;rw [e];exact qaj (Nat.le_mul_of_pos_right _ (qbe F)) (Nat.le_add_left _ _)
theorem Nrm.of_ge {L:List Nat} (G:Dig L) (h:L.length=0\/1000000000 ^ (L.length-1)<=mval L):Nrm L:=by
 rcases h with h | h
 ·exact qaw h
 ·rcases qaV L.length with h0 | h0
  ·exact qaw h0
  ·right
   intro H;have e:=qbV L (L.length-1);rw [show L.length-1+1=L.length by omega,qbd,H,Nat.mul_zero,qbD] at e;have F:=qhF (L.take (L.length-1)) (G.mem · <| qbg ·);rw [qas,qaZ (by omega)] at F;omega
theorem Nrm.snoc (L:List Nat) {d:Nat} (h:d≠0):Nrm (L++[d]):=by
 right
 rw [qae,qaC,Nat.add_sub_cancel,qab,qar qN,qaK];exact h
theorem Nrm.zero {L:List Nat} (h:Nrm L):mval L=0↔L.length=0:=by
 constructor
 ·intro e;rcases qaV L.length with h0 | h0
  ·exact h0
  ·have:=h.ge h0;have:=Nat.pow_pos (n:=L.length-1) (show 0<1000000000 by decide);omega
 ·intro e;rw [List.length_eq_zero_iff.1 e];rfl
theorem Nrm.len {L:List Nat} (h:Nrm L) {n:Nat} (G:mval L<1000000000 ^ n):L.length<=n:=by
 rcases qaV L.length with h0 | h0
 ·omega
 ·have F:=h.ge h0;have H:=(Nat.pow_lt_pow_iff_right (show 1<1000000000 by decide)).1 (qaY F G);omega
theorem qj7 {P B x y z s c c' m o:Nat} (H:x+P*c=y+z) (F:s+B*c'=m+c+o):x+P*s+P*B*c'=y+P*m+(z+P*o):=by
 have h:=congrArg (P * ·) F;simp only [qba] at h;have G:P*B*c'=P*(B*c'):=by simp only [qaJ]
 omega
theorem ql8 {P B x y z s b F m o:Nat} (I:x+z=y+P*b) (G:s+b+o=m+B*F):x+P*s+(z+P*o)=y+P*m+P*B*F:=by
 have h:=congrArg (P * ·) G;simp only [qba] at h;have H:P*B*F=P*(B*F):=by simp only [qaJ]
 omega
theorem qm2 {A C B x p s c c' d e X Y Z: Nat} (I:Y+A*C*p=x+A*C*s) (J:x+A*C*c=X+A*d*Z) (F:s+B*c'=c+(p+d*e)):Y+A*(C*B)*c'=X+A*d*(Z+C*e):=by
 have h:=congrArg (A*C * ·) F;simp only [qba] at h ⊢;have G:A*(C*B)*c'=A*C*(B*c'):=by simp only [qaJ]
 have H:A*d*(C*e)=A*C*(d*e):=by simp only [qaJ,qbt]
 omega
theorem next_alg {A F E G x c d H X Y Z:Nat} (I:Y+E*0=x+E*c) (J:x+E*c=X*Z+A*d*Z):Y+G*0=(X+A*d)*Z+F*H*mval []:=by
 simp only [mval,Nat.mul_zero,qbD,qaF] at *;omega
theorem qmJ {B R d r m M q t:Nat} (F:R*d+r=M) (J:d*q+t=r*B+m):(q+B*R)*d+t=m+B*M:=by
 subst F;simp only [qba,qaF];have G:B*R*d=B*(R*d):=by simp only [qaJ]
 have H:q*d=d*q:=qaD _ _;have I:r*B=B*r:=qaD _ _;omega
structure PlusInv (m o:List Nat) (k:Nat) (L:List Nat) (c:Nat):Prop where
 len:L.length=k
 dig:Dig L
 carry:c<=1
 val:mval L+1000000000 ^ k*c=mval (m.take k)+mval (o.take k)
theorem PlusInv.start (m o:List Nat):PlusInv m o 0 [] 0:=⟨rfl,Dig.nil,by decide,by simp [mval]⟩
theorem PlusInv.step {m o L:List Nat} {k c s c':Nat} (h:PlusInv m o k L c) (G:s<1000000000) (F:c'<=1) (e:s+1000000000*c'=m.getD k 0+c+o.getD k 0):PlusInv m o (k+1) (L++[s]) c':=by
 refine⟨by rw [qae,h.len];rfl,h.dig.snoc G,F,?_⟩;have H:=h.val;rw [qdO,h.len,qbV,qbV,qaR];exact qj7 H e
theorem PlusInv.done {m o L:List Nat} {c:Nat} (h:PlusInv m o m.length L c) (F:o.length<=m.length):mval L+1000000000 ^ m.length*c=mval m+mval o:=by
 have:=h.val
 rwa [qal qN,qal F] at this
structure MinusInv (m o:List Nat) (k:Nat) (R:List Nat) (b:Nat):Prop where
 len:R.length=m.length
 dig:Dig R
 carry:b<=1
 val:mval (R.take k)+mval (o.take k)=mval (m.take k)+1000000000 ^ k*b
theorem MinusInv.start (m o:List Nat):MinusInv m o 0 (List.replicate m.length 0) 0:=⟨by simp,Dig.zeros _,by decide,by simp [mval]⟩
theorem MinusInv.step {m o R:List Nat} {k b s F:Nat} (h:MinusInv m o k R b) (H:k<m.length) (I:s<1000000000) (G:F<=1) (e:s+b+o.getD k 0=m.getD k 0+1000000000*F):MinusInv m o (k+1) (R.set k s) F:=by
 refine⟨by rw [qbb,h.len],h.dig.set I _,G,?_⟩;have J:=h.val;rw [qdh (by rw [h.len];exact H),qbV,qbV,qaR];exact ql8 J e
theorem MinusInv.done {m o R:List Nat} {b:Nat} (h:MinusInv m o m.length R b) (H:o.length<=m.length) (G:mval o<=mval m):mval R=mval m-mval o:=by
 have I:=h.val;rw [qal qN,qal H,qal (by rw [h.len];exact qaf _)] at I;have F:=h.dig.lt;rw [h.len] at F;have J:=h.carry;rcases (show b=0\/b=1 by omega) with rfl | rfl
 ·omega
 ·omega
structure TimesInv (m o:List Nat) (i j:Nat) (P:List Nat) (c:Nat):Prop where
 len:P.length=m.length+o.length
 dig:Dig P
 carry:c<1000000000
 zero:Zero P (i+o.length)
 val:mval P+1000000000 ^ (i+j)*c=mval (m.take i)*mval o+1000000000 ^ i*m.getD i 0*mval (o.take j)
theorem TimesInv.start (m o:List Nat):TimesInv m o 0 0 (List.replicate (m.length+o.length) 0) 0:=⟨by simp,Dig.zeros _,by decide,Zero.zeros _ _,by simp [mval,qg8]⟩
theorem TimesInv.step {m o P:List Nat} {i j c s c':Nat} (h:TimesInv m o i j P c) (I:i<m.length) (J:j<o.length) (F:s<1000000000) (H:c'<1000000000) (e:s+1000000000*c'=c+(P.getD (i+j) 0+m.getD i 0*o.getD j 0)):TimesInv m o i (j+1) (P.set (i+j) s) c':=by
 refine⟨by rw [qbb,h.len],h.dig.set F _,H,h.zero.set (by omega),?_⟩;have G:=h.val;have F:=qin (L:=P) (k:=i+j) (d:=s) (by rw [h.len];omega);rw [qbV,Nat.pow_add,qaR];rw [Nat.pow_add] at F G;exact qm2 F G e
theorem TimesInv.next {m o P:List Nat} {i c:Nat} (h:TimesInv m o i o.length P c) (H:i<m.length):TimesInv m o (i+1) 0 (P.set (i+o.length) c) 0:=by
 refine⟨by rw [qbb,h.len],h.dig.set h.carry _,by decide,?_,?_⟩
 ·have:=h.zero.set_succ (d:=c)
  rwa [show i+o.length+1=i+1+o.length by omega] at this
 have G:=h.val;have F:=qin (L:=P) (k:=i+o.length) (d:=c) (by rw [h.len];omega);rw [h.zero _ qN] at F;rw [qal qN] at G;rw [qbV,List.take_zero];exact next_alg F G
theorem TimesInv.done {m o P:List Nat} {c:Nat} (h:TimesInv m o m.length 0 P c) (G:c=0):mval P=mval m*mval o:=by
 have F:=h.val;subst G;rw [qal qN] at F
 simpa [mval] using F
theorem qju {c p d e:Nat} (F:c<1000000000) (H:p<1000000000) (G:d<1000000000) (he:e<1000000000):c+(p+d*e)<1000000000000000000:=by
 have:d*e<=999999999*999999999:=Nat.mul_le_mul (by omega) (by omega);omega
structure ShortInv (m:List Nat) (d k:Nat) (R:List Nat) (r:Nat):Prop where
 len:R.length=m.length
 dig:Dig R
 rest:r<d
 val:mval (R.drop k)*d+r=mval (m.drop k)
theorem ShortInv.start (m:List Nat) {d:Nat} (F:0<d):ShortInv m d m.length (List.replicate m.length 0) 0:=⟨by simp,Dig.zeros _,F,by rw [qbm (by simp),qbm (by simp)];simp [mval]⟩
theorem ShortInv.step {m R:List Nat} {d k r:Nat} (h:ShortInv m d (k+1) R r) (G:k<m.length) (H:Dig m):ShortInv m d k (R.set k ((r*1000000000+m.getD k 0) / d)) ((r*1000000000+m.getD k 0) % d):=by
 have F:0<d:=by have:=h.rest;omega
 have I:(r*1000000000+m.getD k 0) / d<1000000000:=by
  rw [Nat.div_lt_iff_lt_mul F];have J:=H k;have O:=h.rest;have:(r+1)*1000000000<=d*1000000000:=qaQ _ (by omega);omega
 refine⟨by rw [qbb,h.len],h.dig.set I _,Nat.mod_lt _ F,?_⟩;rw [qfb (by rw [h.len];exact G),qdN m k,<-h.val];have:=Nat.div_add_mod (r*1000000000+m.getD k 0) d;exact qmJ rfl this
theorem ShortInv.done {m R:List Nat} {d r:Nat} (h:ShortInv m d 0 R r):mval R=mval m / d/\r=mval m % d:=by
 have G:=h.val;simp only [List.drop_zero] at G;have F:=h.rest;rw [<-G]
 constructor
 ·rw [qaD,Nat.mul_add_div (by omega),Nat.div_eq_of_lt F];rfl
 ·rw [qaD,Nat.mul_add_mod,Nat.mod_eq_of_lt F]
theorem qfM (n:Nat):0<1000000000 ^ n:=Nat.pow_pos (by decide)
theorem sub_alg {P B R q V U b c r F c' t d x:Nat} (h1:R+q*V=U+P*(b+c)) (G:c+q*d=B*c'+t) (H:r+b+t=x+B*F):R+P*r+q*(V+P*d)=U+P*x+P*B*(F+c'):=by
 have I:=congrArg (P * ·) G;have J:=congrArg (P * ·) H;simp only [qba] at *;have O:q*(P*d)=P*(q*d):=qbt _ _ _;have Y:P*B*F=P*(B*F):=qaJ _ _ _;have Z:P*B*c'=P*(B*c'):=qaJ _ _ _;omega
structure SubInv (u v:List Nat) (q k:Nat) (R:List Nat) (b c:Nat):Prop where
 len:R.length=u.length
 dig:Dig R
 borrow:b<=1
 carry:c<1000000000
 rest:∀j,k<=j->R.getD j 0=u.getD j 0
 val:mval (R.take k)+q*mval (v.take k)=mval (u.take k)+1000000000 ^ k*(b+c)
theorem SubInv.start {u v:List Nat} {q:Nat} (F:Dig u):SubInv u v q 0 u 0 0:=⟨rfl,F,by decide,by decide,fun _ _=>rfl,by simp [mval]⟩
theorem SubInv.step {u v R:List Nat} {q k b c r F c' t:Nat} (h:SubInv u v q k R b c) (O:k<u.length) (U:r<1000000000) (I:F<=1) (J:c'<1000000000) (G:c+q*v.getD k 0=1000000000*c'+t) (H:r+b+t=u.getD k 0+1000000000*F) :
  SubInv u v q (k+1) (R.set k r) F c':=by
 refine⟨by rw [qbb,h.len],h.dig.set U _,I,J,fun j V=>by rw [getD_set_ne (by omega)];exact h.rest j (by omega),?_⟩;rw [qdh (by rw [h.len];exact O),qbV,qbV,qaR];exact sub_alg h.val G H
theorem qmQ {c q d:Nat} (F:c<1000000000) (H:q<1000000000) (G:d<1000000000):c+q*d<1000000000000000000:=by
 have:q*d<=999999999*999999999:=Nat.mul_le_mul (by omega) (by omega);omega
structure BackInv (u v:List Nat) (k:Nat) (R:List Nat) (c:Nat):Prop where
 len:R.length=u.length
 dig:Dig R
 carry:c<=1
 rest:∀j,k<=j->R.getD j 0=u.getD j 0
 val:mval (R.take k)+1000000000 ^ k*c=mval (u.take k)+mval (v.take k)
theorem BackInv.start {u v:List Nat} (F:Dig u):BackInv u v 0 u 0:=⟨rfl,F,by decide,fun _ _=>rfl,by simp [mval]⟩
theorem BackInv.step {u v R:List Nat} {k c s c':Nat} (h:BackInv u v k R c) (G:k<u.length) (H:s<1000000000) (F:c'<=1) (e:s+1000000000*c'=u.getD k 0+c+v.getD k 0):BackInv u v (k+1) (R.set k s) c':=by
 refine⟨by rw [qbb,h.len],h.dig.set H _,F,fun j I=>by rw [getD_set_ne (by omega)];exact h.rest j (by omega),?_⟩;rw [qdh (by rw [h.len];exact G),qbV,qbV,qaR];exact qj7 h.val e
structure Reduced (u v:List Nat) (R:List Nat) (q:Nat):Prop where
 len:R.length=u.length
 dig:Dig R
 quot:q=mval u / mval v
 val:mval R=mval u % mval v
 top:Zero R v.length
theorem qgo {u v R:List Nat} {n:Nat} (Z:u.length=n+1) (V:v.length=n) (O:R.length=u.length) (U:Dig R) {q:Nat} (_hv:0<mval v) (F:mval (R.take n)=mval u-q*mval v) (G:q*mval v<=mval u) (H:mval u<(q+1)*mval v) :
  Reduced u v (R.set n 0) q:=by
 have I:q=mval u / mval v:=((Nat.div_eq_of_lt_le G H)).symm;have J:mval (R.set n 0)=mval (R.take n):=by
  have:=qdh (L:=R) (k:=n) (d:=0) (by omega)
  rwa [qal (by rw [qbb];omega),Nat.mul_zero,qbD] at this
 refine⟨by rw [qbb,O],U.set (by decide) _,I,?_,?_⟩
 ·rw [J,F,I,qaD,Nat.sub_eq_of_eq_add];exact (Nat.mod_add_div _ _).symm
 ·intro j Y
  by_cases e:j=n
  ·rw [e,qd1 (by omega)]
  ·exact qeI (by rw [qbb];omega)
theorem qhK {u v R:List Nat} {n q b c:Nat} (h:SubInv u v q n R b c) (Z:u.length=n+1) (G:v.length=n) (Y:Dig v) (V:0<mval v) (hq:mval u / mval v<=q) (aa:¬u.getD n 0<b+c):Reduced u v (R.set n 0) q:=by
 have F:=h.val;have e:mval u=mval (u.take n)+1000000000 ^ n*u.getD n 0:=by
  have:=qbV u n
  rwa [qal (by omega)] at this
 rw [qal (l:=v) (by omega)] at F;have H:=(h.dig.take n).lt;rw [qas,qaZ (by rw [h.len];omega)] at H;have O:=Y.lt;rw [G] at O;have U:mval u<(q+1)*mval v:=by
  have:=(Nat.div_lt_iff_lt_mul V).1 (Nat.lt_succ_of_le hq);exact this
 obtain⟨s,hs⟩:∃s,u.getD n 0=b+c+s:=⟨u.getD n 0-(b+c),by omega⟩;rw [hs,qba] at e;have I:q*mval v<=mval u:=by omega
 have J:s=0:=by
  rcases qaV s with h0 | h0
  ·exact h0
  ·have:1000000000 ^ n*1<=1000000000 ^ n*s:=qaG _ h0;rw [qaF,qbq] at U;omega
 subst J;exact qgo Z G h.len h.dig V (by omega) I U
theorem qiC {u v R S:List Nat} {n q b c o:Nat} (h:SubInv u v q n R b c) (k:BackInv R v n S o) (Z:u.length=n+1) (H:v.length=n) (Y:Dig v) (V:0<mval v) (hq:q<=mval u / mval v+1) (aa:u.getD n 0<b+c):Reduced u v (S.set n 0) (q-1):=by
 have F:=h.val;have G:=k.val;have e:mval u=mval (u.take n)+1000000000 ^ n*u.getD n 0:=by
  have:=qbV u n
  rwa [qal (by omega)] at this
 rw [qal (l:=v) (by omega)] at F G;have I:=(h.dig.take n).lt;have hSt:=(k.dig.take n).lt;have U:=Y.lt;rw [H] at U;rw [qas,qaZ (by rw [h.len];omega)] at I;rw [qas,qaZ (by rw [k.len,h.len];omega)] at hSt;obtain⟨s,hs⟩:∃s,b+c=u.getD n 0+1+s:=⟨b+c-(u.getD n 0+1),by omega⟩;rw [hs,qba,qba] at F;have J:mval u<q*mval v:=by omega
 have ae:0<q:=by
  rcases qaV q with h0 | h0
  ·subst h0;omega
  ·exact h0
 obtain⟨p,rfl⟩:∃p,q=p+1:=⟨q-1,by omega⟩;have O:p*mval v<=mval u:=(Nat.le_div_iff_mul_le V).1 (by omega);have e2:(p+1)*mval v=p*mval v+mval v:=by rw [qaF,qbq]
 have h3:=k.carry;have ho:mval (S.take n)=mval u-p*mval v:=by
  rcases (show o=0\/o=1 by omega) with rfl | rfl
  ·rcases qaV s with h0 | h0
   ·subst h0;omega
   ·have:1000000000 ^ n*1<=1000000000 ^ n*s:=qaG _ h0;omega
  ·rcases qaV s with h0 | h0
   ·subst h0;omega
   ·have:1000000000 ^ n*1<=1000000000 ^ n*s:=qaG _ h0;omega
 rw [Nat.add_sub_cancel];exact qgo Z H (by rw [k.len,h.len]) k.dig V ho O J
theorem div_alg {P V B Q q W R U:Nat} (H:Q*(P*B)*V+U=W) (I:P*(q*V)+R=U):(q+B*Q)*P*V+R=W:=by
 subst H I;have F:Q*(P*B)*V=B*Q*P*V:=by simp only [qaD,qbt]
 have G:P*(q*V)=q*P*V:=by simp only [qaJ,qbt]
 rw [qaF,qaF,F,G];omega
structure DivInv (w v:List Nat) (k:Nat) (q u:List Nat):Prop where
 lenu:u.length=w.length
 lenq:q.length=w.length-v.length
 digu:Dig u
 digq:Dig q
 zero:Zero u (k+v.length)
 val:mval (q.drop k)*1000000000 ^ k*mval v+mval u=mval w
 small:mval u<1000000000 ^ k*mval v
theorem DivInv.start {w v:List Nat} (G:Dig w) (H:mval w<1000000000 ^ (w.length-v.length)*mval v) (F:v.length<=w.length):DivInv w v (w.length-v.length) (List.replicate (w.length-v.length) 0) w :=
 ⟨rfl,by simp,G,Dig.zeros _,by rw [Nat.sub_add_cancel F];exact Zero.all w,by rw [qbm (by simp)];simp [mval],H⟩
theorem qj6 {u:List Nat} {k n:Nat} (G:k+n<=u.length) (F:Zero u (k+n)):mval u=mval (u.take k)+1000000000 ^ k*mval ((u.drop k).take n):=by
 rw [<-qcJ F,List.take_add,qcB,qas,qaZ (by omega)]
theorem DivInv.part {w v q u:List Nat} {k:Nat} (h:DivInv w v (k+1) q u) (H:k+1+v.length<=w.length):mval ((u.drop k).take (v.length+1))<1000000000*mval v/\((u.drop k).take (v.length+1)).length=v.length+1/\Dig ((u.drop k).take (v.length+1)):=by
 have I:=h.lenu;refine⟨?_,by rw [qas,qbr];omega,(h.digu.drop _).take _⟩;have F:=h.small;have G:=qj6 (u:=u) (k:=k) (n:=v.length+1) (by omega) (by have:=h.zero;rwa [show k+1+v.length=k+(v.length+1) by omega] at this);rw [qaR,qaJ] at F;exact Nat.lt_of_mul_lt_mul_left (a:=1000000000 ^ k) (by omega)
theorem DivInv.step {w v q u R:List Nat} {k x:Nat} (h:DivInv w v (k+1) q u) (hk:k+1+v.length<=w.length) (hv:0<mval v) (I:Reduced ((u.drop k).take (v.length+1)) v R x) :
  DivInv w v k (q.set k x) (u.take k++R++u.drop (k+(v.length+1))):=by
 have hl:=h.lenu;have V:=h.lenq;obtain⟨p1,p2,p3⟩:=h.part hk;have G:=I.len;rw [p2] at G;have hx:x<1000000000:=by
  rw [I.quot,Nat.div_lt_iff_lt_mul hv];exact p1
 have aa:mval R<mval v:=by rw [I.val];exact Nat.mod_lt _ hv
 have F:(u.take k).length=k:=by rw [qas];omega
 have Z:=qj6 (u:=u) (k:=k) (n:=v.length+1) (by omega) (by have:=h.zero;rwa [show k+1+v.length=k+(v.length+1) by omega] at this);have ag:mval (u.drop (k+(v.length+1)))=0:=qeD (by have:=h.zero;rwa [show k+1+v.length=k+(v.length+1) by omega] at this);have H:mval (u.take k++R++u.drop (k+(v.length+1)))=mval (u.take k)+1000000000 ^ k*mval R:=by
  rw [qcB,qcB,ag,F];omega
 have J:Dig (u.take k++R++u.drop (k+(v.length+1))):=((h.digu.take _).append I.dig).append (h.digu.drop _);have af:=(h.digu.take k).lt;rw [F] at af;have ae:mval (u.take k++R++u.drop (k+(v.length+1)))<1000000000 ^ k*mval v:=by
  rw [H];have:1000000000 ^ k*(mval R+1)<=1000000000 ^ k*mval v:=qaG _ aa;rw [qba] at this;omega
 have U:(u.take k++R++u.drop (k+(v.length+1))).length=w.length:=by
  rw [qae,qae,F,G,qbr];omega
 refine⟨U,by rw [qbb,V],J,h.digq.set hx _,?_,?_,ae⟩
 ·intro j hj;have hz:=h.zero;rw [qab,List.getElem?_append];split
  ·rename_i h1;rw [qar (by omega),<-qab];exact I.top _ (by omega)
  ·rename_i h1;rw [qae,F,G] at h1;rw [qae,F,G,List.getElem?_drop,<-qab];exact hz _ (by omega)
 ·rw [qfb (by rw [V];omega),H];have Y:=h.val;rw [qaR,Z] at Y;have O:=Nat.div_add_mod (mval ((u.drop k).take (v.length+1))) (mval v);rw [<-I.quot,<-I.val] at O;refine div_alg Y ?_;rw [<-O,qba,qaD x];omega
theorem qhh {v:List Nat} {n:Nat} (O:2<=n) (H:v.length=n):mval v=(v.getD (n-1) 0*1000000000+v.getD (n-2) 0)*1000000000 ^ (n-2)+mval (v.take (n-2)):=by
 have F:=qbV v (n-1);have G:=qbV v (n-2);rw [show n-1+1=n by omega,<-H,qbd,H] at F;rw [show n-2+1=n-1 by omega] at G;rw [F,G,show n-1=(n-2)+1 by omega,qaR];generalize 1000000000 ^ (n-2)=P;have I:P*1000000000*v.getD (n-2+1) 0=v.getD (n-2+1) 0*1000000000*P:=by simp only [qaD,qbt]
 have J:P*v.getD (n-2) 0=v.getD (n-2) 0*P:=qaD _ _;rw [qaF,I,J];omega
theorem qkb {u:List Nat} {n:Nat} (J:2<=n) (I:u.length=n+1):mval u=((u.getD n 0*1000000000+u.getD (n-1) 0)*1000000000+u.getD (n-2) 0)*1000000000 ^ (n-2)+mval (u.take (n-2)):=by
 have F:=qbV u n;have h:=qhh (v:=u.take n) J (by rw [qas];omega);have G:(u.take n).getD (n-1) 0=u.getD (n-1) 0:=by rw [qab,List.getElem?_take_of_lt (by omega),<-qab]
 have H:(u.take n).getD (n-2) 0=u.getD (n-2) 0:=by rw [qab,List.getElem?_take_of_lt (by omega),<-qab]
 rw [<-I,qbd] at F;rw [G,H,List.take_take,qaZ (by omega)] at h;rw [F,h,show 1000000000 ^ n=1000000000 ^ (n-2)*(1000000000*1000000000) by rw [<-Nat.pow_two,<-Nat.pow_add];congr 1;omega];generalize 1000000000 ^ (n-2)=P;simp only [qaF];have:P*(1000000000*1000000000)*u.getD n 0=u.getD n 0*1000000000*1000000000*P:=by
  simp only [qaD,qbt]
 omega
structure Est (u v:List Nat) (n:Nat):Prop where
 two:2<=n
 lu:u.length=n+1
 lv:v.length=n
 du:Dig u
 dv:Dig v
 half:1000000000<=2*v.getD (n-1) 0+1
 small:mval u<1000000000*mval v
namespace Est
variable {u v:List Nat} {n:Nat}
def top (v:List Nat) (n:Nat):Nat:=v.getD (n-1) 0
def head (u:List Nat) (n:Nat):Nat:=u.getD n 0*1000000000+u.getD (n-1) 0
theorem top_pos (h:Est u v n):0<top v n:=by have:=h.half;unfold top;omega
theorem v_pos (h:Est u v n):0<mval v:=by
 rw [qhh h.two h.lv];have F:=h.top_pos;have G:=qfM (n-2);have:0<(v.getD (n-1) 0*1000000000+v.getD (n-2) 0)*1000000000 ^ (n-2):=qbM (by unfold top at F;omega) G;omega
theorem low (h:Est u v n):mval (u.take (n-2))<1000000000 ^ (n-2)/\mval (v.take (n-2))<1000000000 ^ (n-2):=by
 have F:=(h.du.take (n-2)).lt;have G:=(h.dv.take (n-2)).lt;rw [qas,qaZ (by have:=h.lu;omega)] at F;rw [qas,qaZ (by have:=h.lv;omega)] at G;exact⟨F,G⟩
theorem head_lt (h:Est u v n):head u n<(top v n+1)*1000000000 :=
 est_head (qfM _) (by decide) (qkb h.two h.lu) (qhh h.two h.lv) (h.dv _) h.low.2 h.small
theorem quot_lt (h:Est u v n):mval u / mval v<1000000000:=(Nat.div_lt_iff_lt_mul h.v_pos).2 h.small
theorem first (h:Est u v n):mval u / mval v<=head u n / top v n/\head u n / top v n<=1000000002:=by
 refine⟨qlt (qfM _) (qkb h.two h.lu) (qhh h.two h.lv) (h.du _) h.low.1 h.top_pos,?_⟩;have F:=h.head_lt;have G:=h.half;have:head u n / top v n<1000000003:=by
  rw [Nat.div_lt_iff_lt_mul h.top_pos];unfold top at *;omega
 omega
theorem down (h:Est u v n) {q r:Nat} (F:q*top v n+r=head u n) (H:mval u / mval v<=q) (G:1000000000<=q\/r*1000000000+u.getD (n-2) 0<q*v.getD (n-2) 0) :
  1<=q/\mval u / mval v<=q-1/\(q-1)*top v n+(r+top v n)=head u n:=by
 have I:mval u / mval v<q:=by
  rcases G with h1 | h1
  ·have:=h.quot_lt;omega
  ·exact est_test h.v_pos (qkb h.two h.lu) (qhh h.two h.lv) h.low.1 F h1
 clear G;generalize mval u / mval v=Q at *;obtain⟨p,rfl⟩:∃p,q=p+1:=⟨q-1,by omega⟩;rw [qaF,qbq] at F;refine⟨by omega,by omega,?_⟩;rw [Nat.add_sub_cancel];omega
theorem done (h:Est u v n) {q r:Nat} (G:q*top v n+r=head u n) (H:q<1000000000) (F:q*v.getD (n-2) 0<=r*1000000000+u.getD (n-2) 0):q<=mval u / mval v+1 :=
 est_done h.v_pos (qkb h.two h.lu) (qhh h.two h.lv) h.low.2 h.top_pos (by omega) G F
theorem broke (h:Est u v n) {q r:Nat} (J:q*top v n+r=head u n) (O:1000000000<=r):q<1000000000/\q<=mval u / mval v+1:=by
 have G:=h.head_lt;have F:q<1000000000:=by
  rcases qaT q 1000000000 with h2 | h2
  ·exact h2
  ·have:1000000000*top v n<=q*top v n:=qaQ _ h2;rw [qaF,qaD (top v n)] at G;omega
 refine⟨F,h.done J F ?_⟩;have H:q*v.getD (n-2) 0<=q*1000000000:=qaG _ (qap (h.dv _));have I:q*1000000000<=r*1000000000:=qaQ _ (qaj (qap F) O);exact qaj H (qaj I (Nat.le_add_right _ _))
end Est
theorem qhf {t s:Nat} (ht:0<t) (aa:t<1000000000) (F:1000000000 / (t+1)=s):0<s/\s<=500000000/\(t+1)*s<=1000000000/\1000000000<=2*(t*s)+1:=by
 have U:(t+1)*s<=1000000000:=by rw [<-F];exact Nat.mul_div_le _ _
 have O:0<s:=by rw [<-F];exact Nat.div_pos (by omega) (by omega)
 have V:1000000000<(t+1)*(s+1):=by
  rw [<-F,qaD];exact Nat.lt_mul_of_div_lt (Nat.lt_succ_self _) (by omega)
 have h3:s<=500000000:=by
  have:2*s<=(t+1)*s:=qaQ _ (by omega);omega
 refine⟨O,h3,U,?_⟩
 by_cases hb:1000000000<=2*t+1
 ·have:t*1<=t*s:=qaG _ O;omega
 ·obtain⟨d,hd⟩:∃d,1000000000=2*t+1+d:=⟨1000000000-(2*t+1),by omega⟩;obtain⟨p,rfl⟩:∃p,t=p+1:=⟨t-1,by omega⟩;have Y:1000000000+1<=(p+1+1)*(s+1):=V;have h5:(p+1)*(1000000000+1)<=(p+1)*((p+1+1)*(s+1)):=qaG _ Y;refine Nat.le_of_mul_le_mul_left (c:=p+1+1) ?_ (by omega);have e1:(p+1)*((p+1+1)*(s+1))=(p+1+1)*((p+1)*s)+(p+1+1)*(p+1):=by
   rw [qbt,qba (p+1),qbI,qba]
  have e2:(p+1+1)*(2*((p+1)*s)+1)=2*((p+1+1)*((p+1)*s))+(p+1+1):=by
   rw [qba,qbI,qbt]
  rw [e2];rw [e1] at h5;have G:(p+1+1)*(p+1)=p*p+3*p+2:=by
   simp only [qaF,qba,qbI,qbq];omega
  have e4:p*d+p*(2*p+3)=p*1000000000:=by rw [<-qba];congr 1;omega
  have H:p*(2*p+3)=2*(p*p)+3*p:=by rw [qba,qbt,qaD p 3]
  have I:(p+1)*(1000000000+1)=p*(1000000000+1)+(1000000000+1):=by rw [qaF p 1,qbq]
  have J:p*(1000000000+1)=p*1000000000+p:=by rw [qba,qbI]
  rw [I,J,G] at h5;rw [H] at e4;generalize (p+1+1)*((p+1)*s)=Z at *;generalize p*p=pp at *;clear G H I J Y V U F;omega
theorem qgK {O V:List Nat} {n s:Nat} (hO:Dig O) (U:O.length=n) (hn:2<=n) (nO:Nrm O) (hs:1000000000 / (O.getD (n-1) 0+1)=s) (hV:Dig V) (nV:Nrm V) (hv:mval V=mval O*s):V.length=n/\1000000000<=2*V.getD (n-1) 0+1:=by
 have ht:O.getD (n-1) 0≠0:=by rw [<-U];exact nO.resolve_left (by omega)
 obtain⟨s0,s1,s2,s3⟩:=qhf (qbe ht) (hO (n-1)) hs;have e:=qbV O (n-1);rw [show n-1+1=n by omega,<-U,qbd,U] at e;have H:=(hO.take (n-1)).lt;rw [qas,qaZ (by omega)] at H;generalize O.getD (n-1) 0=t at *;have hP:1000000000 ^ n=1000000000 ^ (n-1)*1000000000:=by rw [<-qaR];congr 1;omega
 have aa:mval V<1000000000 ^ n:=by
  rw [hv,e,hP];have I:(mval (O.take (n-1))+1000000000 ^ (n-1)*t)*s<1000000000 ^ (n-1)*(t+1)*s:=by
   apply Nat.mul_lt_mul_of_pos_right ?_ s0;rw [qba];omega
  have h2:1000000000 ^ (n-1)*(t+1)*s<=1000000000 ^ (n-1)*1000000000:=by
   rw [qaJ];exact qaG _ s2
  omega
 have J:1000000000 ^ (n-1)*(t*s)<=mval V:=by
  rw [hv,e,qaF,qaJ];omega
 have Y:=nV.len aa;have Z:n<=V.length:=by
  rcases qaT V.length n with h | h
  ·exfalso;have I:=hV.lt;have h2:1000000000 ^ V.length<=1000000000 ^ (n-1):=qa1 (by decide) (by omega);have h3:1000000000 ^ (n-1)*1<=1000000000 ^ (n-1)*(t*s):=qaG _ (qbM (qbe ht) s0);omega
  ·exact h
 have F:V.length=n:=by omega
 refine⟨F,?_⟩;have eV:=qbV V (n-1);rw [show n-1+1=n by omega,<-F,qbd,F] at eV;have G:=(hV.take (n-1)).lt;rw [qas,qaZ (by omega)] at G;have:t*s<=V.getD (n-1) 0:=by
  have I:1000000000 ^ (n-1)*(t*s)<1000000000 ^ (n-1)*(V.getD (n-1) 0+1):=by
   rw [qba,qbI];omega
  have:=Nat.lt_of_mul_lt_mul_left I;omega
 omega
theorem div_end {x y s r Q:Nat} (G:0<s) (h:Q*(y*s)+r=x*s) (J:r<y*s):Q=x / y/\r / s=x % y:=by
 have O:0<y:=by
  rcases qaV y with h0 | h0
  ·subst h0;omega
  ·exact h0
 have F:s∣r:=by
  have I:s∣Q*(y*s):=⟨Q*y,by rw [<-qaJ,qaD]⟩;exact (Nat.dvd_add_right I).1 (by rw [h];exact⟨x,qaD _ _⟩)
 obtain⟨z,rfl⟩:=F;rw [qaP _ G];have H:z<y:=by
  apply Nat.lt_of_mul_lt_mul_left (a:=s);rw [qaD s y];exact J
 have e:Q*y+z=x:=by
  apply Nat.eq_of_mul_eq_mul_right G;rw [<-h,qaF,qaJ,qaD s z]
 rw [<-e]
 constructor
 ·rw [qaD Q y,Nat.mul_add_div O,Nat.div_eq_of_lt H];rfl
 ·rw [qaD Q y,Nat.mul_add_mod,Nat.mod_eq_of_lt H]
theorem qln {M O V:List Nat} {F n s:Nat} (J:Dig M) (G:M.length=F) (U:O.length=n) (hn:0<n) (nO:Nrm O) (Z:0<s) (Y:n<=F) (hv:mval V=mval O*s):mval M*s<1000000000 ^ (F+1-n)*mval V:=by
 have H:=nO.ge (by omega);rw [U] at H;have I:=J.lt;rw [G] at I;have e:1000000000 ^ F=1000000000 ^ (F+1-n)*1000000000 ^ (n-1):=by rw [<-Nat.pow_add];congr 1;omega
 rw [hv,<-qaJ];apply Nat.mul_lt_mul_of_pos_right ?_ Z;have:1000000000 ^ (F+1-n)*1000000000 ^ (n-1)<=1000000000 ^ (F+1-n)*mval O:=qaG _ H;omega
open Go.Lib
theorem qjJ {t l:List UInt8} (h:t≠[]):(t++l).head? = t.head?:=by
 cases t with
 | nil=>exact absurd rfl h
 | cons=>rfl
def dval (s:List UInt8):Nat:=s.foldl (fun v c=>v*10+(c.toNat-48)) 0
theorem qea (s:List UInt8) (c:UInt8):dval (s++[c])=dval s*10+(c.toNat-48):=by
 unfold dval;rw [List.foldl_append];rfl
def Nums (s:List UInt8):Prop:=∀c∈s,48<=c.toNat/\c.toNat<=57
theorem qlo:∀(n:Nat) (s:List UInt8),s.length=n->Nums s->dval s<10 ^ n
 | 0,s,h,_=>by rw [List.length_eq_zero_iff.1 h];decide
 | n+1,s,h,hn=>by
  obtain⟨t,c,rfl⟩:∃t c,s=t++[c]:=⟨s.dropLast,s.getLast (by intro e;rw [e] at h;simp at h),(List.dropLast_concat_getLast _).symm⟩;have G:=qlo n t (by simpa using h) (fun c F=>hn c (List.mem_append_left _ F));have H:=hn c (by simp);rw [qea,qaR];omega
theorem qdI (s:List UInt8) (k:Nat) (h:k<s.length):s.take (k+1)=s.take k++[s[k]]:=by
 rw [List.take_add_one,qad h];rfl
theorem qh1 (s:List UInt8) (k:Nat) (h:k<s.length):dval (s.take (k+1))=dval (s.take k)*10+(s[k].toNat-48):=by
 rw [qdI s k h,qea]
def qiT (s:List UInt8):Prop:=s≠[]/\Nums s/\(s.head? = some 48->s.length=1)
theorem qbU {u:Nat} (h:u<10):decDigits u=[UInt8.ofNat (48+u)]:=by rw [decDigits,dif_pos h]
theorem qcc {u:Nat} (h:10<=u):decDigits u=decDigits (u / 10)++[UInt8.ofNat (48+u % 10)]:=by rw [decDigits,dif_neg (by omega)]
theorem qcE {u:Nat} (h:u<10):(UInt8.ofNat (48+u)).toNat=48+u:=by
 rw [UInt8.toNat_ofNat'];exact Nat.mod_eq_of_lt (by omega)
theorem qd8 (u:Nat):decDigits u≠[]:=by
 rcases qaT u 10 with h | h
 ·rw [qbU h];simp
 ·rw [qcc h];simp
theorem qeC:∀u:Nat,Nums (decDigits u):=by
 intro u
 induction u using Nat.strongRecOn with
 | ind u ih =>
  rcases qaT u 10 with h | h
  ·rw [qbU h];intro c F;rw [qao.1 F,qcE h];omega
  ·rw [qcc h];intro c F;rcases qaH.1 F with F | F
   ·exact ih (u / 10) (by omega) c F
   ·rw [qao.1 F,qcE (by omega)];omega
theorem qgG:∀u:Nat,dval (decDigits u)=u:=by
 intro u
 induction u using Nat.strongRecOn with
 | ind u ih =>
  rcases qaT u 10 with h | h
  ·rw [qbU h]
   show 0*10+((UInt8.ofNat (48+u)).toNat-48)=u
   rw [qcE h];omega
  ·rw [qcc h,qea,ih (u / 10) (by omega),qcE (by omega)];omega
theorem qgF:∀u:Nat,(decDigits u).head? = some 48->u=0:=by
 intro u
 induction u using Nat.strongRecOn with
 | ind u ih =>
  rcases qaT u 10 with h | h
  ·rw [qbU h];intro F;have G:UInt8.ofNat (48+u)=48:=qag F;have H:=qcE h;rw [G] at H;have:(48:UInt8).toNat=48:=rfl;omega
  ·rw [qcc h];intro F;rw [qjJ (qd8 _)] at F;have:=ih (u / 10) (by omega) F;omega
theorem qkh {a b:UInt8} (h:a.toNat=b.toNat):a=b:=UInt8.toNat_inj.1 h
theorem qhe:∀(s:List UInt8),qiT s->s=decDigits (dval s):=by
 intro s
 induction hn:s.length using Nat.strongRecOn generalizing s with
 | ind n ih =>
  intro ⟨Y,J,O⟩;obtain⟨t,c,rfl⟩:∃t c,s=t++[c]:=⟨s.dropLast,s.getLast Y,(List.dropLast_concat_getLast _).symm⟩;have U:=J c (by simp);have G:UInt8.ofNat (48+(c.toNat-48))=c:=qkh (by rw [qcE (by omega)];omega)
  by_cases H:t=[]
  ·subst H;rw [qea]
   show [c]=decDigits (0*10+(c.toNat-48))
   rw [Nat.zero_mul,qaM,qbU (by omega),G]
  ·have I:qiT t:=⟨H,fun c U=>J c (List.mem_append_left _ U),fun Z=>by
    have:=O (by rw [qjJ H];exact Z);rw [qae,qaC] at this;have:=List.length_pos_iff.2 H;omega⟩
   have F:=ih t.length (by rw [<-hn];simp) t rfl I;have V:0<dval t:=by
    rcases qaV (dval t) with h | h
    ·exfalso;rw [h,qbU (by omega)] at F;have:=O (by rw [F];rfl);rw [F] at this;simp at this
    ·exact h
   rw [qea,qcc (by omega),show (dval t*10+(c.toNat-48)) / 10=dval t by omega,show (dval t*10+(c.toNat-48)) % 10=c.toNat-48 by omega,<-F,G]
theorem qcl:∀(k u:Nat),0<k->u<10 ^ k->(decDigits u).length<=k
 | 1,u,_,h=>by rw [qbU (by simpa using h)];simp
 | k+2,u,_,h=>by
  rcases qaT u 10 with h1 | h1
  ·rw [qbU h1];simp
  ·rw [qcc h1,qae,qaC];have:=qcl (k+1) (u / 10) (by omega) (by rw [qaR] at h;omega);omega
def padk:Nat->Nat->List UInt8
 | 0,_=>[]
 | k+1,d=>padk k (d / 10)++[UInt8.ofNat (48+d % 10)]
theorem qhd:∀(k:Nat),padk k 0=List.replicate k 48
 | 0=>rfl
 | k+1=>by rw [padk,Nat.zero_div,qhd k];exact (List.replicate_succ').symm
theorem qms:∀(k d:Nat),0<k->d<10 ^ k->padk k d=List.replicate (k-(decDigits d).length) 48++decDigits d
 | 1,d,_,h=>by
  have F:d<10:=by simpa using h
  rw [qbU F,padk,Nat.mod_eq_of_lt F];rfl
 | k+2,d,_,h=>by
  rw [padk];rcases qaT d 10 with F | F
  ·rw [qbU F,Nat.div_eq_of_lt F,qhd,Nat.mod_eq_of_lt F];rfl
  ·rw [qms (k+1) (d / 10) (by omega) (by rw [qaR] at h;omega),qcc F,qae,qaC,<-qaB]
   congr 3
   omega
theorem qdV:∀(k a d:Nat),0<a->d<10 ^ k->decDigits (a*10 ^ k+d)=decDigits a++padk k d
 | 0,a,d,_,h=>by
  have:d=0:=by simpa using h
  subst this;simp [padk]
 | k+1,a,d,F,h=>by
  have H:=Nat.pow_pos (n:=k) (show 0<10 by decide);have G:1*10 ^ k<=a*10 ^ k:=qaQ _ F;have e:a*10 ^ (k+1)=a*10 ^ k*10:=by rw [qaR,qaJ]
  rw [qcc (by omega),e,show (a*10 ^ k*10+d) / 10=a*10 ^ k+d / 10 by omega,show (a*10 ^ k*10+d) % 10=d % 10 by omega,
   qdV k a (d / 10) F (by rw [qaR] at h;omega),padk,qaB]
theorem ten9:(10:Nat) ^ 9=1000000000:=by decide
theorem qj5:∀k d:Nat,(padk k d).length=k
 | 0,_=>rfl
 | k+1,d=>by rw [padk,qae,qj5 k];rfl
theorem pow9 (k:Nat):(1000000000:Nat) ^ k=10 ^ (9*k):=by
 rw [Nat.pow_mul]
theorem top_num {L:List Nat} {n:Nat} (I:Dig L) (G:L.length=n+1) (H:L.getD n 0≠0):(decDigits (mval L)).length=n*9+(decDigits (L.getD n 0)).length:=by
 have e:=qbV L n;rw [<-G,qbd] at e;have F:=(I.take n).lt;rw [qas,G,qaZ (by omega),pow9] at F;rw [e,pow9,Nat.add_comm,qaD (10 ^ (9*n)),qdV _ _ _ (qbe H) F,qae,qj5];omega
theorem drop_num {L:List Nat} {j:Nat} (H:Dig L) (G:0<mval (L.drop (j+1))):decDigits (mval (L.drop j))=decDigits (mval (L.drop (j+1)))++(List.replicate (9-(decDigits (L.getD j 0)).length) 48++decDigits (L.getD j 0)):=by
 have F:L.getD j 0<10 ^ 9:=by rw [ten9];exact H j
 rw [qdN L j,Nat.add_comm,qaD,<-ten9,qdV 9 _ _ G F,qms 9 _ (by decide) F]
theorem ten8:(10:Nat) ^ 8=100000000:=by decide
theorem below9 {v m:Nat} (h:v<10 ^ m) (F:m<=9):v<1000000000:=by
 rw [<-ten9];exact qai h (qa1 (by decide) F)
theorem below8 {v m:Nat} (h:v<10 ^ m) (F:m<=8):v<100000000:=by
 rw [<-ten8];exact qai h (qa1 (by decide) F)
theorem qfy {D F G v d m:Nat} (h:v<10 ^ m/\G=F*10 ^ m+v) (I:D=G*10+d) (O:d<=9):v*10+d<10 ^ (m+1)/\D=F*10 ^ (m+1)+(v*10+d):=by
 obtain⟨J,H⟩:=h;rw [I,H,qaR];refine⟨by omega,?_⟩;rw [qaF,qaJ];omega
theorem qkt {P B D E m v:Nat} (h:D*E=D*B):m+P*v+P*B*D=m+(P*(D*E)+P*v):=by
 rw [h,qaJ,qaD D B];omega
theorem qfX {L:List UInt8} {S:List Nat} {st i k v:Nat} (F:S.length=k) (h:mval S+1000000000 ^ k*dval (L.take i)=dval L) (I:dval (L.take i)=dval (L.take st)*10 ^ (i-st)+v) (H:(st=0/\i<=9)\/st+9=i) :
  mval (S++[v])+1000000000 ^ (k+1)*dval (L.take st)=dval L:=by
 rw [I,qba] at h;rw [qdO,F,qaR,<-h];refine qkt ?_;rcases H with ⟨G,_⟩ | G
 ·subst G;have e:dval (L.take 0)=0:=rfl;rw [e,Nat.zero_mul,Nat.zero_mul]
 ·have e:i-st=9:=by omega
  rw [e,ten9]
