import Derived.KernelRfl
import Derived.Lib.ItoaNum
import Derived.Test.YtjalhnlhcdfncaaGreatDoorBo0
set_option maxRecDepth 100000
set_option maxHeartbeats 0
namespace Go.Proofs.YtjalhnlhcdfncaaGreatDoor
def mval:List Nat->Nat
 | []=>0
 | d :: l=>d+1000000000*mval l
theorem qcE (l r:List Nat):mval (l++r)=mval l+1000000000 ^ l.length*mval r:=by
 induction l with
 | nil=>simp [mval]
 | cons d l ih =>
  simp only [List.cons_append,mval,ih,qbH,qaF];rw [qa7,qav (1000000000 ^ l.length) 1000000000,qay];omega
theorem qfA (l:List Nat) (h:∀d∈l,d<1000000000):mval l<1000000000 ^ l.length:=by
 induction l with
 | nil=>simp [mval]
 | cons d l ih =>
  have E:=h d qba;have F:=ih fun x hx=>h x (qbn _ hx)
  simp only [mval,qbH,qaF];omega
theorem qff (n:Nat):mval (List.replicate n 0)=0:=by
 induction n with
 | zero=>rfl
 | succ n ih=>simp [qby,mval,ih]
theorem qc1 (l:List Nat) (d:Nat):mval (l++[d])=mval l+1000000000 ^ l.length*d:=by
 rw [qcE];simp [mval]
theorem qiM (l:List Nat) (i d:Nat) (h:i<l.length):mval (l.set i d)+1000000000 ^ i*l[i]=mval l+1000000000 ^ i*d:=by
 induction l generalizing i with
 | nil=>exact absurd h (by simp)
 | cons x l ih =>
  cases i with
  | zero=>simp [mval];omega
  | succ i =>
   have E:i<l.length:=by simpa using h
   have:=ih i E;simp only [List.set_cons_succ,mval,List.getElem_cons_succ,qaF];have F:1000000000 ^ i*1000000000*l[i]=1000000000*(1000000000 ^ i*l[i]):=by rw [qav (1000000000 ^ i),qay]
   have H:1000000000 ^ i*1000000000*d=1000000000*(1000000000 ^ i*d):=by rw [qav (1000000000 ^ i),qay]
   omega
theorem qeU (l m:List Nat) (i:Nat) (O:∀d∈l,d<1000000000) (J:i<l.length) (F:i<m.length) (h:l[i]<m[i]) (E:l.drop (i+1)=m.drop (i+1)):mval l<mval m:=by
 have H:l=l.take i++(l[i] :: l.drop (i+1)):=by rw [<-qbg J,qbL]
 have I:m=m.take i++(m[i] :: m.drop (i+1)):=by rw [<-qbg F,qbL]
 have U:mval (l.take i)<1000000000 ^ i:=by
  have:=qfA (l.take i) fun d E=>O d (qbd E)
  rwa [qao,qaS (by omega)] at this
 rw [H,I,qcE,qcE,qao,qao,qaS (by omega),qaS (by omega)];simp only [mval,E];generalize mval (m.drop (i+1))=x;have:1000000000 ^ i*(l[i]+1000000000*x)+1000000000 ^ i<=1000000000 ^ i*(m[i]+1000000000*x):=by
  rw [<-Nat.mul_succ];exact qaK _ (by omega)
 omega
theorem qhv (l m:List Nat) (H:∀d∈l,d<1000000000) (h:l.length<m.length) (I:m.getLast?≠some 0):mval l<mval m:=by
 have J:=qfA l H;cases F:m.reverse with
 | nil=>rw [List.reverse_eq_nil_iff] at F;subst F;exact absurd h (by simp)
 | cons d r =>
  have e:m=r.reverse++[d]:=by rw [<-List.reverse_reverse m,F,List.reverse_cons]
  have V:d≠0:=by
   rintro rfl;apply I;rw [e];simp
  rw [e,qc1];have E:l.length<=r.reverse.length:=by rw [e] at h;simp at h ⊢;omega
  have O:1000000000 ^ l.length<=1000000000 ^ r.reverse.length:=qaO (by omega) E;have U:1000000000 ^ r.reverse.length*1<=1000000000 ^ r.reverse.length*d:=qaK _ (by omega);omega
section
variable {B U V T head top u2 v2 lu lv:Nat}
theorem qnu (_hT:0<T) (hU:U=(head*B+u2)*T+lu) (F:V=(top*B+v2)*T+lv) (J:u2<B) (H:lu<T) (I:0<top):U / V<=head / top:=by
 rw [Nat.le_div_iff_mul_le I];have Z:U / V*V<=U:=Nat.div_mul_le_self U V;generalize U / V=Q at *;have h2:Q*(top*B*T)<=Q*V:=qaK _ (by
  rw [F,qaI];omega)
 have h3:U<(head+1)*B*T:=by
  rw [hU];have:(head*B+u2+1)*T<=(head+1)*B*T:=qaW _ (by rw [qaI head 1,qbD];omega);have e:(head*B+u2+1)*T=(head*B+u2)*T+T:=by rw [qaI _ 1,qbD]
  omega
 have E:Q*top*(B*T)<(head+1)*(B*T):=by
  have O:Q*top*(B*T)=Q*(top*B*T):=by rw [qay,qay]
  have Y:(head+1)*(B*T)=(head+1)*B*T:=by rw [qay]
  omega
 have:=Nat.lt_of_mul_lt_mul_right E;omega
theorem est_test (E:0<V) (hU:U=(head*B+u2)*T+lu) (hV:V=(top*B+v2)*T+lv) (H:lu<T) {q r:Nat} (I:q*top+r=head) (h:r*B+u2<q*v2):U / V<q:=by
 rw [qbM E];have F:head*B+u2+1<=q*(top*B+v2):=by
  have e:q*top*B+r*B=head*B:=by rw [<-I,qaI]
  have J:q*(top*B+v2)=q*top*B+q*v2:=by rw [qa7,qay]
  omega
 have O:(head*B+u2+1)*T<=q*(top*B+v2)*T:=qaW _ F;have Y:q*(top*B+v2)*T<=q*V:=by
  rw [qay];exact qaK _ (by omega)
 have Z:(head*B+u2+1)*T=(head*B+u2)*T+T:=by rw [qaI _ 1,qbD]
 omega
theorem est_done (E:0<V) (hU:U=(head*B+u2)*T+lu) (Y:V=(top*B+v2)*T+lv) (Z:lv<T) (ht:0<top) {q r:Nat} (aa:q<=B) (hq:q*top+r=head) (h:q*v2<=r*B+u2):q<=U / V+1:=by
 rcases qaN q with rfl | hq0
 ·exact qaj _
 obtain⟨p,rfl⟩:∃p,q=p+1:=⟨q-1,by omega⟩;have:p<=U / V:=by
  rw [Nat.le_div_iff_mul_le E];have h1:p*V<=p*((top*B+v2+1)*T):=qaK _ (by rw [Y,qaI (top*B+v2) 1,qbD];omega);have J:p*(top*B+v2+1)<=head*B+u2:=by
   have e:(p+1)*top*B+r*B=head*B:=by rw [<-hq];exact (qaI _ _ _).symm
   have F:(p+1)*top*B=p*(top*B)+top*B:=by rw [qaI p 1,qbD,qaI,qay]
   have H:p*(top*B+v2+1)=p*(top*B)+p*v2+p:=by rw [qa7,qa7,qbV]
   have I:(p+1)*v2=p*v2+v2:=by rw [qaI,qbD]
   have e5:B<=top*B:=Nat.le_mul_of_pos_left _ ht;rw [H];rw [F] at e;rw [I] at h;omega
  have O:p*(top*B+v2+1)*T<=(head*B+u2)*T:=qaW _ J;rw [qay] at O;omega
 omega
theorem est_head (_hT:0<T) (_hB:0<B) (hU:U=(head*B+u2)*T+lu) (hV:V=(top*B+v2)*T+lv) (I:v2<B) (H:lv<T) (h:U<B*V):head<(top+1)*B:=by
 have E:V<(top+1)*B*T:=by
  have e:(top*B+v2+1)*T<=(top+1)*B*T:=qaW _ (by rw [qaI top 1,qbD];omega);have J:(top*B+v2+1)*T=(top*B+v2)*T+T:=by rw [qaI _ 1,qbD]
  omega
 have O:head*(B*T)<=U:=by
  rw [hU,qaI,qay head];omega
 have Y:B*V<=B*((top+1)*B*T):=qaK _ (qan E);have Z:B*((top+1)*B*T)=(top+1)*B*(B*T):=by
  rw [<-qay,qav B ((top+1)*B),qay]
 have F:head*(B*T)<(top+1)*B*(B*T):=by omega
 exact Nat.lt_of_mul_lt_mul_right F
end
def Dig (L:List Nat):Prop:=∀k,L.getD k 0<1000000000
theorem Dig.mem {L:List Nat} (h:Dig L):∀d∈L,d<1000000000:=fun d E=>by
 obtain⟨i,F,rfl⟩:=List.getElem_of_mem E;have:=h i
 rwa [qaa,qac F] at this
theorem Dig.of {L:List Nat} (h:∀d∈L,d<1000000000):Dig L:=fun k=>by
 rw [qaa];cases hk:L[k]? with
 | none=>exact (by decide:0<1000000000)
 | some x=>exact h x (qbC hk)
theorem Dig.nil:Dig []:=Dig.of (by simp)
theorem Dig.snoc {L:List Nat} (h:Dig L) {d:Nat} (E:d<1000000000):Dig (L++[d]):=Dig.of fun x hx=>by
 rcases qaL.1 hx with hx | hx
 ·exact h.mem x hx
 ·rw [qap.1 hx];exact E
theorem Dig.set {L:List Nat} (h:Dig L) {d:Nat} (E:d<1000000000) (i:Nat):Dig (L.set i d):=Dig.of fun x hx=>by
 rcases List.mem_or_eq_of_mem_set hx with hx | rfl
 ·exact h.mem x hx
 ·exact E
theorem Dig.take {L:List Nat} (h:Dig L) (n:Nat):Dig (L.take n):=Dig.of fun x hx=>h.mem x (qbd hx)
theorem Dig.drop {L:List Nat} (h:Dig L) (n:Nat):Dig (L.drop n):=Dig.of fun x hx=>h.mem x (List.mem_of_mem_drop hx)
theorem Dig.append {L M:List Nat} (h:Dig L) (E:Dig M):Dig (L++M):=Dig.of fun x hx=>(qaL.1 hx).elim (h.mem x) (E.mem x)
theorem Dig.zeros (n:Nat):Dig (List.replicate n 0):=Dig.of fun x hx=>by rw [(List.mem_replicate.1 hx).2];decide
theorem Dig.lt {L:List Nat} (h:Dig L):mval L<1000000000 ^ L.length:=qfA L h.mem
theorem qd7 {L:List Nat} {k:Nat} (h:k<L.length):L[k]? = some (L.getD k 0):=by
 rw [qac h,qaa,qac h];rfl
theorem qc4 {L:List Nat} {k:Nat} (h:L.length<=k):L.getD k 0=0:=by
 rw [qaa,qaR h];rfl
theorem qb8 (L:List Nat) (k:Nat):mval (L.take (k+1))=mval (L.take k)+1000000000 ^ k*L.getD k 0:=by
 by_cases h:k<L.length
 ·rw [qbw,qd7 h]
  show mval (L.take k++[L.getD k 0])=_
  rw [qc1,qao,qaS (qan h)]
 ·rw [qah (by omega),qah (by omega),qc4 (by omega)];simp
theorem qcS (L:List Nat) (k:Nat):mval (L.drop k)=L.getD k 0+1000000000*mval (L.drop (k+1)):=by
 by_cases h:k<L.length
 ·rw [qbg h];simp only [mval];rw [qaa,qac h];rfl
 ·rw [qaM (by omega),qaM (by omega),qc4 (by omega)];simp [mval]
theorem qdh (L:List Nat) (k:Nat) (E:k<=L.length):mval L=mval (L.take k)+1000000000 ^ k*mval (L.drop k):=by
 conv=>lhs;rw [<-qbL k L]
 rw [qcE,qao,qaS E]
theorem getD_set_ne {L:List Nat} {i j d:Nat} (h:i≠j):(L.set i d).getD j 0=L.getD j 0:=by
 rw [qaa,qbQ h,<-qaa]
theorem qc8 {L:List Nat} {i d:Nat} (h:i<L.length):(L.set i d).getD i 0=d:=by
 rw [qaa,List.getElem?_set_self h];rfl
theorem qdc {L:List Nat} {k d:Nat} (h:k<L.length):mval ((L.set k d).take (k+1))=mval (L.take k)+1000000000 ^ k*d:=by
 rw [qb8,qc8 h]
 congr 2
 rw [List.take_set_of_le qN]
theorem qdt {L:List Nat} {k d:Nat} (h:k<L.length):mval ((L.set k d).drop k)=d+1000000000*mval (L.drop (k+1)):=by
 rw [qcS,qc8 h,List.drop_set_of_lt (by omega)]
theorem qeV {L:List Nat} {k d:Nat} (h:k<L.length):mval (L.set k d)+1000000000 ^ k*L.getD k 0=mval L+1000000000 ^ k*d:=by
 have:=qiM L k d h
 rwa [qaa,qac h]
def Zero (L:List Nat) (n:Nat):Prop:=∀k,n<=k->L.getD k 0=0
theorem Zero.all (L:List Nat):Zero L L.length:=fun _ h=>qc4 h
theorem Zero.mono {L:List Nat} {n m:Nat} (h:Zero L n) (F:n<=m):Zero L m:=fun k E=>h k (by omega)
theorem Zero.zeros (n m:Nat):Zero (List.replicate n 0) m:=fun k _=>by
 by_cases h:k<n
 ·rw [qaa,qbq,if_pos h];rfl
 ·exact qc4 (by rw [qaZ];omega)
theorem Zero.set {L:List Nat} {n k d:Nat} (h:Zero L n) (F:k<n):Zero (L.set k d) n:=fun j E=>by rw [getD_set_ne (by omega)];exact h j E
theorem Zero.set_succ {L:List Nat} {n d:Nat} (h:Zero L n):Zero (L.set n d) (n+1):=fun j E=>by rw [getD_set_ne (by omega)];exact h j (by omega)
theorem Zero.down {L:List Nat} {n:Nat} (h:Zero L (n+1)) (E:L.getD n 0=0):Zero L n:=fun k F=>by
 by_cases e:k=n
 ·rw [e];exact E
 ·exact h k (by omega)
theorem qdK {L:List Nat} {n:Nat} (h:Zero L n):mval (L.drop n)=0:=by
 induction hm:L.length-n generalizing n with
 | zero=>rw [qaM (by omega)];rfl
 | succ m ih =>
  rw [qcS,h n qN,ih (h.mono (by omega)) (by omega)]
theorem qcH {L:List Nat} {n:Nat} (h:Zero L n):mval (L.take n)=mval L:=by
 by_cases E:n<=L.length
 ·rw [qdh L n E,qdK h];omega
 ·rw [qah (by omega)]
def Nrm (L:List Nat):Prop:=L.length=0\/L.getD (L.length-1) 0≠0
theorem Nrm.ge {L:List Nat} (h:Nrm L) (F:0<L.length):1000000000 ^ (L.length-1)<=mval L:=by
 have E:=h.resolve_left (by omega);have e:=qb8 L (L.length-1);rw [show L.length-1+1=L.length by omega,qbl] at e;rw [e];exact qak (Nat.le_mul_of_pos_right _ (qbm E)) (Nat.le_add_left _ _)
theorem Nrm.of_ge {L:List Nat} (F:Dig L) (h:L.length=0\/1000000000 ^ (L.length-1)<=mval L):Nrm L:=by
 rcases h with h | h
 ·exact qaw h
 ·rcases qaN L.length with h0 | h0
  ·exact qaw h0
  ·right
   intro H;have e:=qb8 L (L.length-1);rw [show L.length-1+1=L.length by omega,qbl,H,Nat.mul_zero,qbt] at e;have E:=qfA (L.take (L.length-1)) (F.mem · <| qbd ·);rw [qao,qaS (by omega)] at E;omega
theorem Nrm.snoc (L:List Nat) {d:Nat} (h:d≠0):Nrm (L++[d]):=by
 right
 rw [qaf,qaH,qbR,qaa,qau qN,qaJ];exact h
theorem Nrm.zero {L:List Nat} (h:Nrm L):mval L=0↔L.length=0:=by
 constructor
 ·intro e;rcases qaN L.length with h0 | h0
  ·exact h0
  ·have:=h.ge h0;have:=Nat.pow_pos (n:=L.length-1) (show 0<1000000000 by decide);omega
 ·intro e;rw [qbk.1 e];rfl
theorem Nrm.len {L:List Nat} (h:Nrm L) {n:Nat} (F:mval L<1000000000 ^ n):L.length<=n:=by
 rcases qaN L.length with h0 | h0
 ·omega
 ·have E:=h.ge h0;have H:=(Nat.pow_lt_pow_iff_right (show 1<1000000000 by decide)).1 (qaU E F);omega
theorem qgX {P B x y z s c E m o:Nat} (I:x+P*c=y+z) (F:s+B*E=m+c+o):x+P*s+P*B*E=y+P*m+(z+P*o):=by
 have h:=congrArg (P * ·) F;simp only [qa7] at h;have H:P*B*E=P*(B*E):=by simp only [qay]
 omega
theorem qf7 {P B x y z s b b' m o:Nat} (H:x+z=y+P*b) (E:s+b+o=m+B*b'):x+P*s+(z+P*o)=y+P*m+P*B*b':=by
 have h:=congrArg (P * ·) E;simp only [qa7] at h;have F:P*B*b'=P*(B*b'):=by simp only [qay]
 omega
theorem qhT {A C B x p s c E d e X Y Z: Nat} (J:Y+A*C*p=x+A*C*s) (O:x+A*C*c=X+A*d*Z) (F:s+B*E=c+(p+d*e)):Y+A*(C*B)*E=X+A*d*(Z+C*e):=by
 have h:=congrArg (A*C * ·) F;simp only [qa7] at h ⊢;have H:A*(C*B)*E=A*C*(B*E):=by simp only [qay]
 have I:A*d*(C*e)=A*C*(d*e):=by simp only [qay,qbB]
 omega
theorem qiP {A F E H x c d d1 X Y Z:Nat} (I:Y+E*0=x+E*c) (J:x+E*c=X*Z+A*d*Z):Y+H*0=(X+A*d)*Z+F*d1*mval []:=by
 simp only [mval,Nat.mul_zero,qbt,qaI] at *;omega
theorem qhJ {B R d r m M q t:Nat} (E:R*d+r=M) (J:d*q+t=r*B+m):(q+B*R)*d+t=m+B*M:=by
 subst E;simp only [qa7,qaI];have F:B*R*d=B*(R*d):=by simp only [qay]
 have H:q*d=d*q:=qav _ _;have I:r*B=B*r:=qav _ _;omega
structure PlusInv (m o:List Nat) (k:Nat) (L:List Nat) (c:Nat):Prop where
 len:L.length=k
 dig:Dig L
 carry:c<=1
 val:mval L+1000000000 ^ k*c=mval (m.take k)+mval (o.take k)
theorem PlusInv.start (m o:List Nat):PlusInv m o 0 [] 0:=⟨rfl,Dig.nil,by decide,by simp [mval]⟩
theorem PlusInv.step {m o L:List Nat} {k c s E:Nat} (h:PlusInv m o k L c) (H:s<1000000000) (F:E<=1) (e:s+1000000000*E=m.getD k 0+c+o.getD k 0):PlusInv m o (k+1) (L++[s]) E:=by
 refine⟨by rw [qaf,h.len];rfl,h.dig.snoc H,F,?_⟩;have I:=h.val;rw [qc1,h.len,qb8,qb8,qaF];exact qgX I e
theorem PlusInv.done {m o L:List Nat} {c:Nat} (h:PlusInv m o m.length L c) (E:o.length<=m.length):mval L+1000000000 ^ m.length*c=mval m+mval o:=by
 have:=h.val
 rwa [qah qN,qah E] at this
structure MinusInv (m o:List Nat) (k:Nat) (R:List Nat) (b:Nat):Prop where
 len:R.length=m.length
 dig:Dig R
 carry:b<=1
 val:mval (R.take k)+mval (o.take k)=mval (m.take k)+1000000000 ^ k*b
theorem MinusInv.start (m o:List Nat):MinusInv m o 0 (List.replicate m.length 0) 0:=⟨by simp,Dig.zeros _,by decide,by simp [mval]⟩
theorem MinusInv.step {m o R:List Nat} {k b s b':Nat} (h:MinusInv m o k R b) (F:k<m.length) (H:s<1000000000) (E:b'<=1) (e:s+b+o.getD k 0=m.getD k 0+1000000000*b'):MinusInv m o (k+1) (R.set k s) b':=by
 refine⟨by rw [qa8,h.len],h.dig.set H _,E,?_⟩;have I:=h.val;rw [qdc (by rw [h.len];exact F),qb8,qb8,qaF];exact qf7 I e
theorem MinusInv.done {m o R:List Nat} {b:Nat} (h:MinusInv m o m.length R b) (H:o.length<=m.length) (F:mval o<=mval m):mval R=mval m-mval o:=by
 have I:=h.val;rw [qah qN,qah H,qah (by rw [h.len];exact qad _)] at I;have E:=h.dig.lt;rw [h.len] at E;have J:=h.carry;rcases (show b=0\/b=1 by omega) with rfl | rfl
 ·omega
 ·omega
structure TimesInv (m o:List Nat) (i j:Nat) (P:List Nat) (c:Nat):Prop where
 len:P.length=m.length+o.length
 dig:Dig P
 carry:c<1000000000
 zero:Zero P (i+o.length)
 val:mval P+1000000000 ^ (i+j)*c=mval (m.take i)*mval o+1000000000 ^ i*m.getD i 0*mval (o.take j)
theorem TimesInv.start (m o:List Nat):TimesInv m o 0 0 (List.replicate (m.length+o.length) 0) 0:=⟨by simp,Dig.zeros _,by decide,Zero.zeros _ _,by simp [mval,qff]⟩
theorem TimesInv.step {m o P:List Nat} {i j c s F:Nat} (h:TimesInv m o i j P c) (J:i<m.length) (O:j<o.length) (E:s<1000000000) (I:F<1000000000) (e:s+1000000000*F=c+(P.getD (i+j) 0+m.getD i 0*o.getD j 0)):TimesInv m o i (j+1) (P.set (i+j) s) F:=by
 refine⟨by rw [qa8,h.len],h.dig.set E _,I,h.zero.set (by omega),?_⟩;have H:=h.val;have E:=qeV (L:=P) (k:=i+j) (d:=s) (by rw [h.len];omega);rw [qb8,Nat.pow_add,qaF];rw [Nat.pow_add] at E H;exact qhT E H e
theorem TimesInv.next {m o P:List Nat} {i c:Nat} (h:TimesInv m o i o.length P c) (H:i<m.length):TimesInv m o (i+1) 0 (P.set (i+o.length) c) 0:=by
 refine⟨by rw [qa8,h.len],h.dig.set h.carry _,by decide,?_,?_⟩
 ·have:=h.zero.set_succ (d:=c)
  rwa [show i+o.length+1=i+1+o.length by omega] at this
 have F:=h.val;have E:=qeV (L:=P) (k:=i+o.length) (d:=c) (by rw [h.len];omega);rw [h.zero _ qN] at E;rw [qah qN] at F;rw [qb8,List.take_zero];exact qiP E F
theorem TimesInv.done {m o P:List Nat} {c:Nat} (h:TimesInv m o m.length 0 P c) (F:c=0):mval P=mval m*mval o:=by
 have E:=h.val;subst F;rw [qah qN] at E
 simpa [mval] using E
theorem qfD {c p d e:Nat} (E:c<1000000000) (H:p<1000000000) (F:d<1000000000) (he:e<1000000000):c+(p+d*e)<1000000000000000000:=by
 have:d*e<=999999999*999999999:=Nat.mul_le_mul (by omega) (by omega);omega
structure ShortInv (m:List Nat) (d k:Nat) (R:List Nat) (r:Nat):Prop where
 len:R.length=m.length
 dig:Dig R
 rest:r<d
 val:mval (R.drop k)*d+r=mval (m.drop k)
theorem ShortInv.start (m:List Nat) {d:Nat} (E:0<d):ShortInv m d m.length (List.replicate m.length 0) 0:=⟨by simp,Dig.zeros _,E,by rw [qaM (by simp),qaM (by simp)];simp [mval]⟩
theorem ShortInv.step {m R:List Nat} {d k r:Nat} (h:ShortInv m d (k+1) R r) (F:k<m.length) (H:Dig m):ShortInv m d k (R.set k ((r*1000000000+m.getD k 0) / d)) ((r*1000000000+m.getD k 0) % d):=by
 have E:0<d:=by have:=h.rest;omega
 have I:(r*1000000000+m.getD k 0) / d<1000000000:=by
  rw [qbM E];have J:=H k;have O:=h.rest;have:(r+1)*1000000000<=d*1000000000:=qaW _ (by omega);omega
 refine⟨by rw [qa8,h.len],h.dig.set I _,qbS _ E,?_⟩;rw [qdt (by rw [h.len];exact F),qcS m k,<-h.val];have:=Nat.div_add_mod (r*1000000000+m.getD k 0) d;exact qhJ rfl this
theorem ShortInv.done {m R:List Nat} {d r:Nat} (h:ShortInv m d 0 R r):mval R=mval m / d/\r=mval m % d:=by
 have E:=h.val;simp only [List.drop_zero] at E;have hr:=h.rest;rw [<-E]
 constructor
 ·rw [qav,Nat.mul_add_div (by omega),Nat.div_eq_of_lt hr];rfl
 ·rw [qav,Nat.mul_add_mod,Nat.mod_eq_of_lt hr]
theorem qgY (n:Nat):0<1000000000 ^ n:=Nat.pow_pos (by decide)
theorem sub_alg {P B R q V U b c r b' E t d x:Nat} (h1:R+q*V=U+P*(b+c)) (F:c+q*d=B*E+t) (H:r+b+t=x+B*b'):R+P*r+q*(V+P*d)=U+P*x+P*B*(b'+E):=by
 have I:=congrArg (P * ·) F;have J:=congrArg (P * ·) H;simp only [qa7] at *;have O:q*(P*d)=P*(q*d):=qbB _ _ _;have Y:P*B*b'=P*(B*b'):=qay _ _ _;have Z:P*B*E=P*(B*E):=qay _ _ _;omega
structure SubInv (u v:List Nat) (q k:Nat) (R:List Nat) (b c:Nat):Prop where
 len:R.length=u.length
 dig:Dig R
 borrow:b<=1
 carry:c<1000000000
 rest:∀j,k<=j->R.getD j 0=u.getD j 0
 val:mval (R.take k)+q*mval (v.take k)=mval (u.take k)+1000000000 ^ k*(b+c)
theorem SubInv.start {u v:List Nat} {q:Nat} (E:Dig u):SubInv u v q 0 u 0 0:=⟨rfl,E,by decide,by decide,fun _ _=>rfl,by simp [mval]⟩
theorem SubInv.step {u v R:List Nat} {q k b c r b' E t:Nat} (h:SubInv u v q k R b c) (O:k<u.length) (hr:r<1000000000) (I:b'<=1) (J:E<1000000000) (F:c+q*v.getD k 0=1000000000*E+t) (H:r+b+t=u.getD k 0+1000000000*b') :
  SubInv u v q (k+1) (R.set k r) b' E:=by
 refine⟨by rw [qa8,h.len],h.dig.set hr _,I,J,fun j U=>by rw [getD_set_ne (by omega)];exact h.rest j (by omega),?_⟩;rw [qdc (by rw [h.len];exact O),qb8,qb8,qaF];exact sub_alg h.val F H
theorem qo4 {c q d:Nat} (E:c<1000000000) (H:q<1000000000) (F:d<1000000000):c+q*d<1000000000000000000:=by
 have:q*d<=999999999*999999999:=Nat.mul_le_mul (by omega) (by omega);omega
structure BackInv (u v:List Nat) (k:Nat) (R:List Nat) (c:Nat):Prop where
 len:R.length=u.length
 dig:Dig R
 carry:c<=1
 rest:∀j,k<=j->R.getD j 0=u.getD j 0
 val:mval (R.take k)+1000000000 ^ k*c=mval (u.take k)+mval (v.take k)
theorem BackInv.start {u v:List Nat} (E:Dig u):BackInv u v 0 u 0:=⟨rfl,E,by decide,fun _ _=>rfl,by simp [mval]⟩
theorem BackInv.step {u v R:List Nat} {k c s E:Nat} (h:BackInv u v k R c) (H:k<u.length) (I:s<1000000000) (F:E<=1) (e:s+1000000000*E=u.getD k 0+c+v.getD k 0):BackInv u v (k+1) (R.set k s) E:=by
 refine⟨by rw [qa8,h.len],h.dig.set I _,F,fun j J=>by rw [getD_set_ne (by omega)];exact h.rest j (by omega),?_⟩;rw [qdc (by rw [h.len];exact H),qb8,qb8,qaF];exact qgX h.val e
structure Reduced (u v:List Nat) (R:List Nat) (q:Nat):Prop where
 len:R.length=u.length
 dig:Dig R
 quot:q=mval u / mval v
 val:mval R=mval u % mval v
 top:Zero R v.length
theorem qhF {u v R:List Nat} {n:Nat} (Z:u.length=n+1) (V:v.length=n) (O:R.length=u.length) (U:Dig R) {q:Nat} (_hv:0<mval v) (E:mval (R.take n)=mval u-q*mval v) (F:q*mval v<=mval u) (H:mval u<(q+1)*mval v) :
  Reduced u v (R.set n 0) q:=by
 have I:q=mval u / mval v:=((Nat.div_eq_of_lt_le F H)).symm;have J:mval (R.set n 0)=mval (R.take n):=by
  have:=qdc (L:=R) (k:=n) (d:=0) (by omega)
  rwa [qah (by rw [qa8];omega),Nat.mul_zero,qbt] at this
 refine⟨by rw [qa8,O],U.set (by decide) _,I,?_,?_⟩
 ·rw [J,E,I,qav,Nat.sub_eq_of_eq_add];exact (Nat.mod_add_div _ _).symm
 ·intro j Y
  by_cases e:j=n
  ·rw [e,qc8 (by omega)]
  ·exact qc4 (by rw [qa8];omega)
theorem qiT {u v R:List Nat} {n q b c:Nat} (h:SubInv u v q n R b c) (Z:u.length=n+1) (F:v.length=n) (Y:Dig v) (V:0<mval v) (hq:mval u / mval v<=q) (aa:¬u.getD n 0<b+c):Reduced u v (R.set n 0) q:=by
 have E:=h.val;have e:mval u=mval (u.take n)+1000000000 ^ n*u.getD n 0:=by
  have:=qb8 u n
  rwa [qah (by omega)] at this
 rw [qah (l:=v) (by omega)] at E;have H:=(h.dig.take n).lt;rw [qao,qaS (by rw [h.len];omega)] at H;have O:=Y.lt;rw [F] at O;have U:mval u<(q+1)*mval v:=by
  have:=(qbM V).1 (Nat.lt_succ_of_le hq);exact this
 obtain⟨s,hs⟩:∃s,u.getD n 0=b+c+s:=⟨u.getD n 0-(b+c),by omega⟩;rw [hs,qa7] at e;have I:q*mval v<=mval u:=by omega
 have J:s=0:=by
  rcases qaN s with h0 | h0
  ·exact h0
  ·have:1000000000 ^ n*1<=1000000000 ^ n*s:=qaK _ h0;rw [qaI,qbD] at U;omega
 subst J;exact qhF Z F h.len h.dig V (by omega) I U
theorem qjT {u v R S:List Nat} {n q b c o:Nat} (h:SubInv u v q n R b c) (k:BackInv R v n S o) (Z:u.length=n+1) (H:v.length=n) (Y:Dig v) (V:0<mval v) (hq:q<=mval u / mval v+1) (aa:u.getD n 0<b+c):Reduced u v (S.set n 0) (q-1):=by
 have E:=h.val;have F:=k.val;have e:mval u=mval (u.take n)+1000000000 ^ n*u.getD n 0:=by
  have:=qb8 u n
  rwa [qah (by omega)] at this
 rw [qah (l:=v) (by omega)] at E F;have I:=(h.dig.take n).lt;have hSt:=(k.dig.take n).lt;have U:=Y.lt;rw [H] at U;rw [qao,qaS (by rw [h.len];omega)] at I;rw [qao,qaS (by rw [k.len,h.len];omega)] at hSt;obtain⟨s,hs⟩:∃s,b+c=u.getD n 0+1+s:=⟨b+c-(u.getD n 0+1),by omega⟩;rw [hs,qa7,qa7] at E;have J:mval u<q*mval v:=by omega
 have ae:0<q:=by
  rcases qaN q with h0 | h0
  ·subst h0;omega
  ·exact h0
 obtain⟨p,rfl⟩:∃p,q=p+1:=⟨q-1,by omega⟩;have O:p*mval v<=mval u:=(Nat.le_div_iff_mul_le V).1 (by omega);have e2:(p+1)*mval v=p*mval v+mval v:=by rw [qaI,qbD]
 have h3:=k.carry;have ho:mval (S.take n)=mval u-p*mval v:=by
  rcases (show o=0\/o=1 by omega) with rfl | rfl
  ·rcases qaN s with h0 | h0
   ·subst h0;omega
   ·have:1000000000 ^ n*1<=1000000000 ^ n*s:=qaK _ h0;omega
  ·rcases qaN s with h0 | h0
   ·subst h0;omega
   ·have:1000000000 ^ n*1<=1000000000 ^ n*s:=qaK _ h0;omega
 rw [qbR];exact qhF Z H (by rw [k.len,h.len]) k.dig V ho O J
theorem div_alg {P V B Q q W R U:Nat} (H:Q*(P*B)*V+U=W) (I:P*(q*V)+R=U):(q+B*Q)*P*V+R=W:=by
 subst H I;have E:Q*(P*B)*V=B*Q*P*V:=by simp only [qav,qbB]
 have F:P*(q*V)=q*P*V:=by simp only [qay,qbB]
 rw [qaI,qaI,E,F];omega
structure DivInv (w v:List Nat) (k:Nat) (q u:List Nat):Prop where
 lenu:u.length=w.length
 lenq:q.length=w.length-v.length
 digu:Dig u
 digq:Dig q
 zero:Zero u (k+v.length)
 val:mval (q.drop k)*1000000000 ^ k*mval v+mval u=mval w
 small:mval u<1000000000 ^ k*mval v
theorem DivInv.start {w v:List Nat} (F:Dig w) (H:mval w<1000000000 ^ (w.length-v.length)*mval v) (E:v.length<=w.length):DivInv w v (w.length-v.length) (List.replicate (w.length-v.length) 0) w :=
 ⟨rfl,by simp,F,Dig.zeros _,by rw [Nat.sub_add_cancel E];exact Zero.all w,by rw [qaM (by simp)];simp [mval],H⟩
theorem qlG {u:List Nat} {k n:Nat} (F:k+n<=u.length) (E:Zero u (k+n)):mval u=mval (u.take k)+1000000000 ^ k*mval ((u.drop k).take n):=by
 rw [<-qcH E,List.take_add,qcE,qao,qaS (by omega)]
theorem DivInv.part {w v q u:List Nat} {k:Nat} (h:DivInv w v (k+1) q u) (H:k+1+v.length<=w.length):mval ((u.drop k).take (v.length+1))<1000000000*mval v/\((u.drop k).take (v.length+1)).length=v.length+1/\Dig ((u.drop k).take (v.length+1)):=by
 have I:=h.lenu;refine⟨?_,by rw [qao,qaY];omega,(h.digu.drop _).take _⟩;have E:=h.small;have F:=qlG (u:=u) (k:=k) (n:=v.length+1) (by omega) (by have:=h.zero;rwa [show k+1+v.length=k+(v.length+1) by omega] at this);rw [qaF,qay] at E;exact Nat.lt_of_mul_lt_mul_left (a:=1000000000 ^ k) (by omega)
theorem DivInv.step {w v q u R:List Nat} {k x:Nat} (h:DivInv w v (k+1) q u) (hk:k+1+v.length<=w.length) (hv:0<mval v) (hr:Reduced ((u.drop k).take (v.length+1)) v R x) :
  DivInv w v k (q.set k x) (u.take k++R++u.drop (k+(v.length+1))):=by
 have hl:=h.lenu;have U:=h.lenq;obtain⟨p1,p2,p3⟩:=h.part hk;have F:=hr.len;rw [p2] at F;have hx:x<1000000000:=by
  rw [hr.quot,qbM hv];exact p1
 have Z:mval R<mval v:=by rw [hr.val];exact qbS _ hv
 have E:(u.take k).length=k:=by rw [qao];omega
 have Y:=qlG (u:=u) (k:=k) (n:=v.length+1) (by omega) (by have:=h.zero;rwa [show k+1+v.length=k+(v.length+1) by omega] at this);have af:mval (u.drop (k+(v.length+1)))=0:=qdK (by have:=h.zero;rwa [show k+1+v.length=k+(v.length+1) by omega] at this);have H:mval (u.take k++R++u.drop (k+(v.length+1)))=mval (u.take k)+1000000000 ^ k*mval R:=by
  rw [qcE,qcE,af,E];omega
 have I:Dig (u.take k++R++u.drop (k+(v.length+1))):=((h.digu.take _).append hr.dig).append (h.digu.drop _);have ae:=(h.digu.take k).lt;rw [E] at ae;have aa:mval (u.take k++R++u.drop (k+(v.length+1)))<1000000000 ^ k*mval v:=by
  rw [H];have:1000000000 ^ k*(mval R+1)<=1000000000 ^ k*mval v:=qaK _ Z;rw [qa7] at this;omega
 have O:(u.take k++R++u.drop (k+(v.length+1))).length=w.length:=by
  rw [qaf,qaf,E,F,qaY];omega
 refine⟨O,by rw [qa8,U],I,h.digq.set hx _,?_,?_,aa⟩
 ·intro j hj;have hz:=h.zero;rw [qaa,List.getElem?_append];split
  ·rename_i h1;rw [qau (by omega),<-qaa];exact hr.top _ (by omega)
  ·rename_i h1;rw [qaf,E,F] at h1;rw [qaf,E,F,List.getElem?_drop,<-qaa];exact hz _ (by omega)
 ·rw [qdt (by rw [U];omega),H];have V:=h.val;rw [qaF,Y] at V;have J:=Nat.div_add_mod (mval ((u.drop k).take (v.length+1))) (mval v);rw [<-hr.quot,<-hr.val] at J;refine div_alg V ?_;rw [<-J,qa7,qav x];omega
theorem qit {v:List Nat} {n:Nat} (O:2<=n) (H:v.length=n):mval v=(v.getD (n-1) 0*1000000000+v.getD (n-2) 0)*1000000000 ^ (n-2)+mval (v.take (n-2)):=by
 have E:=qb8 v (n-1);have F:=qb8 v (n-2);rw [show n-1+1=n by omega,<-H,qbl,H] at E;rw [show n-2+1=n-1 by omega] at F;rw [E,F,show n-1=(n-2)+1 by omega,qaF];generalize 1000000000 ^ (n-2)=P;have I:P*1000000000*v.getD (n-2+1) 0=v.getD (n-2+1) 0*1000000000*P:=by simp only [qav,qbB]
 have J:P*v.getD (n-2) 0=v.getD (n-2) 0*P:=qav _ _;rw [qaI,I,J];omega
theorem qlN {u:List Nat} {n:Nat} (H:2<=n) (F:u.length=n+1):mval u=((u.getD n 0*1000000000+u.getD (n-1) 0)*1000000000+u.getD (n-2) 0)*1000000000 ^ (n-2)+mval (u.take (n-2)):=by
 have E:=qb8 u n;have h:=qit (v:=u.take n) H (by rw [qao];omega);have g1:(u.take n).getD (n-1) 0=u.getD (n-1) 0:=by rw [qaa,qbE (by omega),<-qaa]
 have g2:(u.take n).getD (n-2) 0=u.getD (n-2) 0:=by rw [qaa,qbE (by omega),<-qaa]
 rw [<-F,qbl] at E;rw [g1,g2,List.take_take,qaS (by omega)] at h;rw [E,h,show 1000000000 ^ n=1000000000 ^ (n-2)*(1000000000*1000000000) by rw [<-Nat.pow_two,<-Nat.pow_add];congr 1;omega];generalize 1000000000 ^ (n-2)=P;simp only [qaI];have:P*(1000000000*1000000000)*u.getD n 0=u.getD n 0*1000000000*1000000000*P:=by
  simp only [qav,qbB]
 omega
structure Est (u v:List Nat) (n:Nat):Prop where
 two:2<=n
 lu:u.length=n+1
 lv:v.length=n
 du:Dig u
 dv:Dig v
 half:1000000000<=2*v.getD (n-1) 0+1
 small:mval u<1000000000*mval v
namespace Est
variable {u v:List Nat} {n:Nat}
def top (v:List Nat) (n:Nat):Nat:=v.getD (n-1) 0
def head (u:List Nat) (n:Nat):Nat:=u.getD n 0*1000000000+u.getD (n-1) 0
theorem top_pos (h:Est u v n):0<top v n:=by have:=h.half;unfold top;omega
theorem v_pos (h:Est u v n):0<mval v:=by
 rw [qit h.two h.lv];have E:=h.top_pos;have F:=qgY (n-2);have:0<(v.getD (n-1) 0*1000000000+v.getD (n-2) 0)*1000000000 ^ (n-2):=qb3 (by unfold top at E;omega) F;omega
theorem low (h:Est u v n):mval (u.take (n-2))<1000000000 ^ (n-2)/\mval (v.take (n-2))<1000000000 ^ (n-2):=by
 have E:=(h.du.take (n-2)).lt;have F:=(h.dv.take (n-2)).lt;rw [qao,qaS (by have:=h.lu;omega)] at E;rw [qao,qaS (by have:=h.lv;omega)] at F;exact⟨E,F⟩
theorem head_lt (h:Est u v n):head u n<(top v n+1)*1000000000 :=
 est_head (qgY _) (by decide) (qlN h.two h.lu) (qit h.two h.lv) (h.dv _) h.low.2 h.small
theorem quot_lt (h:Est u v n):mval u / mval v<1000000000:=(qbM h.v_pos).2 h.small
theorem first (h:Est u v n):mval u / mval v<=head u n / top v n/\head u n / top v n<=1000000002:=by
 refine⟨qnu (qgY _) (qlN h.two h.lu) (qit h.two h.lv) (h.du _) h.low.1 h.top_pos,?_⟩;have E:=h.head_lt;have F:=h.half;have:head u n / top v n<1000000003:=by
  rw [qbM h.top_pos];unfold top at *;omega
 omega
theorem down (h:Est u v n) {q r:Nat} (E:q*top v n+r=head u n) (H:mval u / mval v<=q) (F:1000000000<=q\/r*1000000000+u.getD (n-2) 0<q*v.getD (n-2) 0) :
  1<=q/\mval u / mval v<=q-1/\(q-1)*top v n+(r+top v n)=head u n:=by
 have I:mval u / mval v<q:=by
  rcases F with h1 | h1
  ·have:=h.quot_lt;omega
  ·exact est_test h.v_pos (qlN h.two h.lu) (qit h.two h.lv) h.low.1 E h1
 clear F;generalize mval u / mval v=Q at *;obtain⟨p,rfl⟩:∃p,q=p+1:=⟨q-1,by omega⟩;rw [qaI,qbD] at E;refine⟨by omega,by omega,?_⟩;rw [qbR];omega
theorem done (h:Est u v n) {q r:Nat} (F:q*top v n+r=head u n) (H:q<1000000000) (E:q*v.getD (n-2) 0<=r*1000000000+u.getD (n-2) 0):q<=mval u / mval v+1 :=
 est_done h.v_pos (qlN h.two h.lu) (qit h.two h.lv) h.low.2 h.top_pos (by omega) F E
theorem broke (h:Est u v n) {q r:Nat} (J:q*top v n+r=head u n) (hr:1000000000<=r):q<1000000000/\q<=mval u / mval v+1:=by
 have F:=h.head_lt;have E:q<1000000000:=by
  rcases qaB q 1000000000 with h2 | h2
  ·exact h2
  ·have:1000000000*top v n<=q*top v n:=qaW _ h2;rw [qaI,qav (top v n)] at F;omega
 refine⟨E,h.done J E ?_⟩;have H:q*v.getD (n-2) 0<=q*1000000000:=qaK _ (qan (h.dv _));have I:q*1000000000<=r*1000000000:=qaW _ (qak (qan E) hr);exact qak H (qak I (Nat.le_add_right _ _))
end Est
theorem qiq {t s:Nat} (ht:0<t) (aa:t<1000000000) (E:1000000000 / (t+1)=s):0<s/\s<=500000000/\(t+1)*s<=1000000000/\1000000000<=2*(t*s)+1:=by
 have U:(t+1)*s<=1000000000:=by rw [<-E];exact Nat.mul_div_le _ _
 have O:0<s:=by rw [<-E];exact Nat.div_pos (by omega) (by omega)
 have V:1000000000<(t+1)*(s+1):=by
  rw [<-E,qav];exact Nat.lt_mul_of_div_lt (qbU _) (by omega)
 have h3:s<=500000000:=by
  have:2*s<=(t+1)*s:=qaW _ (by omega);omega
 refine⟨O,h3,U,?_⟩
 by_cases hb:1000000000<=2*t+1
 ·have:t*1<=t*s:=qaK _ O;omega
 ·obtain⟨d,hd⟩:∃d,1000000000=2*t+1+d:=⟨1000000000-(2*t+1),by omega⟩;obtain⟨p,rfl⟩:∃p,t=p+1:=⟨t-1,by omega⟩;have Y:1000000000+1<=(p+1+1)*(s+1):=V;have h5:(p+1)*(1000000000+1)<=(p+1)*((p+1+1)*(s+1)):=qaK _ Y;refine Nat.le_of_mul_le_mul_left (c:=p+1+1) ?_ (by omega);have e1:(p+1)*((p+1+1)*(s+1))=(p+1+1)*((p+1)*s)+(p+1+1)*(p+1):=by
   rw [qbB,qa7 (p+1),qbV,qa7]
  have e2:(p+1+1)*(2*((p+1)*s)+1)=2*((p+1+1)*((p+1)*s))+(p+1+1):=by
   rw [qa7,qbV,qbB]
  rw [e2];rw [e1] at h5;have F:(p+1+1)*(p+1)=p*p+3*p+2:=by
   simp only [qaI,qa7,qbV,qbD];omega
  have e4:p*d+p*(2*p+3)=p*1000000000:=by rw [<-qa7];congr 1;omega
  have H:p*(2*p+3)=2*(p*p)+3*p:=by rw [qa7,qbB,qav p 3]
  have I:(p+1)*(1000000000+1)=p*(1000000000+1)+(1000000000+1):=by rw [qaI p 1,qbD]
  have J:p*(1000000000+1)=p*1000000000+p:=by rw [qa7,qbV]
  rw [I,J,F] at h5;rw [H] at e4;generalize (p+1+1)*((p+1)*s)=Z at *;generalize p*p=pp at *;clear F H I J Y V U E;omega
theorem qh0 {O V:List Nat} {n s:Nat} (hO:Dig O) (U:O.length=n) (hn:2<=n) (nO:Nrm O) (hs:1000000000 / (O.getD (n-1) 0+1)=s) (hV:Dig V) (nV:Nrm V) (hv:mval V=mval O*s):V.length=n/\1000000000<=2*V.getD (n-1) 0+1:=by
 have ht:O.getD (n-1) 0≠0:=by rw [<-U];exact nO.resolve_left (by omega)
 obtain⟨s0,s1,s2,s3⟩:=qiq (qbm ht) (hO (n-1)) hs;have e:=qb8 O (n-1);rw [show n-1+1=n by omega,<-U,qbl,U] at e;have H:=(hO.take (n-1)).lt;rw [qao,qaS (by omega)] at H;generalize O.getD (n-1) 0=t at *;have hP:1000000000 ^ n=1000000000 ^ (n-1)*1000000000:=by rw [<-qaF];congr 1;omega
 have aa:mval V<1000000000 ^ n:=by
  rw [hv,e,hP];have I:(mval (O.take (n-1))+1000000000 ^ (n-1)*t)*s<1000000000 ^ (n-1)*(t+1)*s:=by
   apply Nat.mul_lt_mul_of_pos_right ?_ s0;rw [qa7];omega
  have h2:1000000000 ^ (n-1)*(t+1)*s<=1000000000 ^ (n-1)*1000000000:=by
   rw [qay];exact qaK _ s2
  omega
 have J:1000000000 ^ (n-1)*(t*s)<=mval V:=by
  rw [hv,e,qaI,qay];omega
 have Y:=nV.len aa;have Z:n<=V.length:=by
  rcases qaB V.length n with h | h
  ·exfalso;have I:=hV.lt;have h2:1000000000 ^ V.length<=1000000000 ^ (n-1):=qaO (by decide) (by omega);have h3:1000000000 ^ (n-1)*1<=1000000000 ^ (n-1)*(t*s):=qaK _ (qb3 (qbm ht) s0);omega
  ·exact h
 have E:V.length=n:=by omega
 refine⟨E,?_⟩;have eV:=qb8 V (n-1);rw [show n-1+1=n by omega,<-E,qbl,E] at eV;have F:=(hV.take (n-1)).lt;rw [qao,qaS (by omega)] at F;have:t*s<=V.getD (n-1) 0:=by
  have I:1000000000 ^ (n-1)*(t*s)<1000000000 ^ (n-1)*(V.getD (n-1) 0+1):=by
   rw [qa7,qbV];omega
  have:=Nat.lt_of_mul_lt_mul_left I;omega
 omega
theorem div_end {x y s r Q:Nat} (F:0<s) (h:Q*(y*s)+r=x*s) (hr:r<y*s):Q=x / y/\r / s=x % y:=by
 have hy:0<y:=by
  rcases qaN y with h0 | h0
  ·subst h0;omega
  ·exact h0
 have E:s∣r:=by
  have I:s∣Q*(y*s):=⟨Q*y,by rw [<-qay,qav]⟩;exact (Nat.dvd_add_right I).1 (by rw [h];exact⟨x,qav _ _⟩)
 obtain⟨z,rfl⟩:=E;rw [qa6 _ F];have H:z<y:=by
  apply Nat.lt_of_mul_lt_mul_left (a:=s);rw [qav s y];exact hr
 have e:Q*y+z=x:=by
  apply Nat.eq_of_mul_eq_mul_right F;rw [<-h,qaI,qay,qav s z]
 rw [<-e]
 constructor
 ·rw [qav Q y,Nat.mul_add_div hy,Nat.div_eq_of_lt H];rfl
 ·rw [qav Q y,Nat.mul_add_mod,Nat.mod_eq_of_lt H]
theorem qnp {M O V:List Nat} {E n s:Nat} (J:Dig M) (F:M.length=E) (U:O.length=n) (hn:0<n) (nO:Nrm O) (Z:0<s) (Y:n<=E) (hv:mval V=mval O*s):mval M*s<1000000000 ^ (E+1-n)*mval V:=by
 have H:=nO.ge (by omega);rw [U] at H;have I:=J.lt;rw [F] at I;have e:1000000000 ^ E=1000000000 ^ (E+1-n)*1000000000 ^ (n-1):=by rw [<-Nat.pow_add];congr 1;omega
 rw [hv,<-qay];apply Nat.mul_lt_mul_of_pos_right ?_ Z;have:1000000000 ^ (E+1-n)*1000000000 ^ (n-1)<=1000000000 ^ (E+1-n)*mval O:=qaK _ H;omega
open Go.Lib
theorem qlh {t l:List UInt8} (h:t≠[]):(t++l).head? = t.head?:=by
 cases t with
 | nil=>exact absurd rfl h
 | cons=>rfl
def dval (s:List UInt8):Nat:=s.foldl (fun v c=>v*10+(c.toNat-48)) 0
theorem qeM (s:List UInt8) (c:UInt8):dval (s++[c])=dval s*10+(c.toNat-48):=by
 unfold dval;rw [List.foldl_append];rfl
def Nums (s:List UInt8):Prop:=∀c∈s,48<=c.toNat/\c.toNat<=57
theorem qkv:∀(n:Nat) (s:List UInt8),s.length=n->Nums s->dval s<10 ^ n
 | 0,s,h,_=>by rw [qbk.1 h];decide
 | n+1,s,h,hn=>by
  obtain⟨t,c,rfl⟩:∃t c,s=t++[c]:=⟨s.dropLast,s.getLast (by intro e;rw [e] at h;simp at h),(List.dropLast_concat_getLast _).symm⟩;have F:=qkv n t (by simpa using h) (fun c E=>hn c (List.mem_append_left _ E));have H:=hn c (by simp);rw [qeM,qaF];omega
theorem qep (s:List UInt8) (k:Nat) (h:k<s.length):s.take (k+1)=s.take k++[s[k]]:=by
 rw [qbw,qac h];rfl
theorem qfO (s:List UInt8) (k:Nat) (h:k<s.length):dval (s.take (k+1))=dval (s.take k)*10+(s[k].toNat-48):=by
 rw [qep s k h,qeM]
def qkg (s:List UInt8):Prop:=s≠[]/\Nums s/\(s.head? = some 48->s.length=1)
theorem qcg {u:Nat} (h:u<10):decDigits u=[UInt8.ofNat (48+u)]:=by rw [decDigits,dif_pos h]
theorem qcQ {u:Nat} (h:10<=u):decDigits u=decDigits (u / 10)++[UInt8.ofNat (48+u % 10)]:=by rw [decDigits,dif_neg (by omega)]
theorem qcI {u:Nat} (h:u<10):(UInt8.ofNat (48+u)).toNat=48+u:=by
 rw [UInt8.toNat_ofNat'];exact Nat.mod_eq_of_lt (by omega)
theorem qee (u:Nat):decDigits u≠[]:=by
 rcases qaB u 10 with h | h
 ·rw [qcg h];simp
 ·rw [qcQ h];simp
theorem qfr:∀u:Nat,Nums (decDigits u):=by
 intro u
 induction u using Nat.strongRecOn with
 | ind u ih =>
  rcases qaB u 10 with h | h
  ·rw [qcg h];intro c E;rw [qap.1 E,qcI h];omega
  ·rw [qcQ h];intro c E;rcases qaL.1 E with E | E
   ·exact ih (u / 10) (by omega) c E
   ·rw [qap.1 E,qcI (by omega)];omega
theorem qhX:∀u:Nat,dval (decDigits u)=u:=by
 intro u
 induction u using Nat.strongRecOn with
 | ind u ih =>
  rcases qaB u 10 with h | h
  ·rw [qcg h]
   show 0*10+((UInt8.ofNat (48+u)).toNat-48)=u
   rw [qcI h];omega
  ·rw [qcQ h,qeM,ih (u / 10) (by omega),qcI (by omega)];omega
theorem qfq:∀u:Nat,(decDigits u).head? = some 48->u=0:=by
 intro u
 induction u using Nat.strongRecOn with
 | ind u ih =>
  rcases qaB u 10 with h | h
  ·rw [qcg h];intro E;have F:UInt8.ofNat (48+u)=48:=qag E;have H:=qcI h;rw [F] at H;have:(48:UInt8).toNat=48:=rfl;omega
  ·rw [qcQ h];intro E;rw [qlh (qee _)] at E;have:=ih (u / 10) (by omega) E;omega
theorem qgi {a b:UInt8} (h:a.toNat=b.toNat):a=b:=UInt8.toNat_inj.1 h
theorem qin:∀(s:List UInt8),qkg s->s=decDigits (dval s):=by
 intro s
 induction hn:s.length using Nat.strongRecOn generalizing s with
 | ind n ih =>
  intro ⟨Y,J,O⟩;obtain⟨t,c,rfl⟩:∃t c,s=t++[c]:=⟨s.dropLast,s.getLast Y,(List.dropLast_concat_getLast _).symm⟩;have U:=J c (by simp);have F:UInt8.ofNat (48+(c.toNat-48))=c:=qgi (by rw [qcI (by omega)];omega)
  by_cases H:t=[]
  ·subst H;rw [qeM]
   show [c]=decDigits (0*10+(c.toNat-48))
   rw [Nat.zero_mul,qaT,qcg (by omega),F]
  ·have I:qkg t:=⟨H,fun c U=>J c (List.mem_append_left _ U),fun Z=>by
    have:=O (by rw [qlh H];exact Z);rw [qaf,qaH] at this;have:=List.length_pos_iff.2 H;omega⟩
   have E:=ih t.length (by rw [<-hn];simp) t rfl I;have V:0<dval t:=by
    rcases qaN (dval t) with h | h
    ·exfalso;rw [h,qcg (by omega)] at E;have:=O (by rw [E];rfl);rw [E] at this;simp at this
    ·exact h
   rw [qeM,qcQ (by omega),show (dval t*10+(c.toNat-48)) / 10=dval t by omega,show (dval t*10+(c.toNat-48)) % 10=c.toNat-48 by omega,<-E,F]
theorem qcL:∀(k u:Nat),0<k->u<10 ^ k->(decDigits u).length<=k
 | 1,u,_,h=>by rw [qcg (by simpa using h)];simp
 | k+2,u,_,h=>by
  rcases qaB u 10 with h1 | h1
  ·rw [qcg h1];simp
  ·rw [qcQ h1,qaf,qaH];have:=qcL (k+1) (u / 10) (by omega) (by rw [qaF] at h;omega);omega
def padk:Nat->Nat->List UInt8
 | 0,_=>[]
 | k+1,d=>padk k (d / 10)++[UInt8.ofNat (48+d % 10)]
theorem qgu:∀(k:Nat),padk k 0=List.replicate k 48
 | 0=>rfl
 | k+1=>by rw [padk,Nat.zero_div,qgu k];exact (List.replicate_succ').symm
theorem qkQ:∀(k d:Nat),0<k->d<10 ^ k->padk k d=List.replicate (k-(decDigits d).length) 48++decDigits d
 | 1,d,_,h=>by
  have E:d<10:=by simpa using h
  rw [qcg E,padk,Nat.mod_eq_of_lt E];rfl
 | k+2,d,_,h=>by
  rw [padk];rcases qaB d 10 with E | E
  ·rw [qcg E,Nat.div_eq_of_lt E,qgu,Nat.mod_eq_of_lt E];rfl
  ·rw [qkQ (k+1) (d / 10) (by omega) (by rw [qaF] at h;omega),qcQ E,qaf,qaH,<-qaG]
   congr 3
   omega
theorem qeA:∀(k a d:Nat),0<a->d<10 ^ k->decDigits (a*10 ^ k+d)=decDigits a++padk k d
 | 0,a,d,_,h=>by
  have:d=0:=by simpa using h
  subst this;simp [padk]
 | k+1,a,d,E,h=>by
  have H:=Nat.pow_pos (n:=k) (show 0<10 by decide);have F:1*10 ^ k<=a*10 ^ k:=qaW _ E;have e:a*10 ^ (k+1)=a*10 ^ k*10:=by rw [qaF,qay]
  rw [qcQ (by omega),e,show (a*10 ^ k*10+d) / 10=a*10 ^ k+d / 10 by omega,show (a*10 ^ k*10+d) % 10=d % 10 by omega,
   qeA k a (d / 10) E (by rw [qaF] at h;omega),padk,qaG]
theorem ten9:(10:Nat) ^ 9=1000000000:=by decide
theorem qgW:∀k d:Nat,(padk k d).length=k
 | 0,_=>rfl
 | k+1,d=>by rw [padk,qaf,qgW k];rfl
theorem pow9 (k:Nat):(1000000000:Nat) ^ k=10 ^ (9*k):=by
 rw [Nat.pow_mul]
theorem top_num {L:List Nat} {n:Nat} (I:Dig L) (F:L.length=n+1) (H:L.getD n 0≠0):(decDigits (mval L)).length=n*9+(decDigits (L.getD n 0)).length:=by
 have e:=qb8 L n;rw [<-F,qbl] at e;have E:=(I.take n).lt;rw [qao,F,qaS (by omega),pow9] at E;rw [e,pow9,Nat.add_comm,qav (10 ^ (9*n)),qeA _ _ _ (qbm H) E,qaf,qgW];omega
theorem drop_num {L:List Nat} {j:Nat} (H:Dig L) (F:0<mval (L.drop (j+1))):decDigits (mval (L.drop j))=decDigits (mval (L.drop (j+1)))++(List.replicate (9-(decDigits (L.getD j 0)).length) 48++decDigits (L.getD j 0)):=by
 have E:L.getD j 0<10 ^ 9:=by rw [ten9];exact H j
 rw [qcS L j,Nat.add_comm,qav,<-ten9,qeA 9 _ _ F E,qkQ 9 _ (by decide) E]
theorem ten8:(10:Nat) ^ 8=100000000:=by decide
theorem below9 {v m:Nat} (h:v<10 ^ m) (E:m<=9):v<1000000000:=by
 rw [<-ten9];exact qai h (qaO (by decide) E)
theorem below8 {v m:Nat} (h:v<10 ^ m) (E:m<=8):v<100000000:=by
 rw [<-ten8];exact qai h (qaO (by decide) E)
theorem qef {D E F v d m:Nat} (h:v<10 ^ m/\F=E*10 ^ m+v) (I:D=F*10+d) (O:d<=9):v*10+d<10 ^ (m+1)/\D=E*10 ^ (m+1)+(v*10+d):=by
 obtain⟨J,H⟩:=h;rw [I,H,qaF];refine⟨by omega,?_⟩;rw [qaI,qay];omega
theorem qh5 {P B D E m v:Nat} (h:D*E=D*B):m+P*v+P*B*D=m+(P*(D*E)+P*v):=by
 rw [h,qay,qav D B];omega
theorem qhc {L:List UInt8} {S:List Nat} {E i k v:Nat} (F:S.length=k) (h:mval S+1000000000 ^ k*dval (L.take i)=dval L) (J:dval (L.take i)=dval (L.take E)*10 ^ (i-E)+v) (I:(E=0/\i<=9)\/E+9=i) :
  mval (S++[v])+1000000000 ^ (k+1)*dval (L.take E)=dval L:=by
 rw [J,qa7] at h;rw [qc1,F,qaF,<-h];refine qh5 ?_;rcases I with ⟨H,_⟩ | H
 ·subst H;have e:dval (L.take 0)=0:=rfl;rw [e,Nat.zero_mul,Nat.zero_mul]
 ·have e:i-E=9:=by omega
  rw [e,ten9]
