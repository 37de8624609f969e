/- Ae, part 1: P4 Mag Mag2 Mag3 Mag4 Mag5 -/
import Derived.KernelRfl
import Derived.Test.YtfminfgabiipjaaGreatDoorAe0
set_option maxRecDepth 100000
set_option maxHeartbeats 16000000
namespace Go.Proofs.YtfminfgabiipjaaGreatDoor.p4
def mval:List Nat→Nat
 | []=>0
 | d :: l=>d+10000*mval l
theorem qbS (l r:List Nat):mval (l++r)=mval l+10000 ^ l.length*mval r:=by
 induction l with
 | nil=>simp [mval]
 | cons d l ih =>
  simp only [List.cons_append,mval,ih,List.length_cons,qaz]
  rw [qaM,qav (10000 ^ l.length) 10000,qau];omega
theorem qd0 (l:List Nat) (h:∀d∈l,d<10000):mval l<10000 ^ l.length:=by
 induction l with
 | nil=>simp [mval]
 | cons d l ih =>
  have h1:=h d List.mem_cons_self
  have h2:=ih fun x hx=>h x (List.mem_cons_of_mem _ hx)
  simp only [mval,List.length_cons,qaz]
  omega
theorem qdc (n:Nat):mval (List.replicate n 0)=0:=by
 induction n with
 | zero=>rfl
 | succ n ih=>simp [qaP,mval,ih]
theorem qcr (l:List Nat) (d:Nat):mval (l++[d])=mval l+10000 ^ l.length*d:=by
 rw [qbS];simp [mval]
theorem qgb (l:List Nat) (i d:Nat) (h:i<l.length):mval (l.set i d)+10000 ^ i*l[i]=mval l+10000 ^ i*d:=by
 induction l generalizing i with
 | nil=>exact absurd h (by simp)
 | cons x l ih =>
  cases i with
  | zero=>simp [mval];omega
  | succ i =>
   have h':i<l.length:=by simpa using h
   have:=ih i h'
   simp only [qaf,mval,List.getElem_cons_succ,qaz]
   have e1:10000 ^ i*10000*l[i]=10000*(10000 ^ i*l[i]):=by rw [qav (10000 ^ i),qau]
   have e2:10000 ^ i*10000*d=10000*(10000 ^ i*d):=by rw [qav (10000 ^ i),qau]
   omega
def Dig (L:List Nat):Prop:=∀k,L.getD k 0<10000
theorem Dig.mem {L:List Nat} (h:Dig L):∀d∈L,d<10000:=fun d hd=>by
 obtain⟨i,hi,rfl⟩:=List.getElem_of_mem hd
 have:=h i
 rwa [qaa,qai hi] at this
theorem Dig.of {L:List Nat} (h:∀d∈L,d<10000):Dig L:=fun k=>by
 rw [qaa]
 cases hk:L[k]? with
 | none=>exact (by decide:0<10000)
 | some x=>exact h x (List.mem_of_getElem? hk)
theorem Dig.nil:Dig []:=Dig.of (by simp)
theorem Dig.snoc {L:List Nat} (h:Dig L) {d:Nat} (hd:d<10000):Dig (L++[d]):=Dig.of fun x hx=>by
 rcases qaZ.1 hx with hx | hx
 ·exact h.mem x hx
 ·rw [qao.1 hx];exact hd
theorem Dig.set {L:List Nat} (h:Dig L) {d:Nat} (hd:d<10000) (i:Nat):Dig (L.set i d):=Dig.of fun x hx=>by
 rcases List.mem_or_eq_of_mem_set hx with hx | rfl
 ·exact h.mem x hx
 ·exact hd
theorem Dig.take {L:List Nat} (h:Dig L) (n:Nat):Dig (L.take n):=Dig.of fun x hx=>h.mem x (List.mem_of_mem_take hx)
theorem Dig.drop {L:List Nat} (h:Dig L) (n:Nat):Dig (L.drop n):=Dig.of fun x hx=>h.mem x (List.mem_of_mem_drop hx)
theorem Dig.append {L M:List Nat} (h:Dig L) (h':Dig M):Dig (L++M):=Dig.of fun x hx=>(qaZ.1 hx).elim (h.mem x) (h'.mem x)
theorem Dig.zeros (n:Nat):Dig (List.replicate n 0):=Dig.of fun x hx=>by rw [(List.mem_replicate.1 hx).2];decide
theorem Dig.lt {L:List Nat} (h:Dig L):mval L<10000 ^ L.length:=qd0 L h.mem
theorem qdp {L:List Nat} {k:Nat} (h:k<L.length):L[k]? = some (L.getD k 0):=by
 rw [qai h,qaa,qai h];rfl
theorem qcK {L:List Nat} {k:Nat} (h:L.length≤k):L.getD k 0=0:=by
 rw [qaa,qaX h];rfl
theorem qbq (L:List Nat) (k:Nat):mval (L.take (k+1))=mval (L.take k)+10000 ^ k*L.getD k 0:=by
 by_cases h:k<L.length
 ·rw [List.take_add_one,qdp h]
  show mval (L.take k++[L.getD k 0])=_
  rw [qcr,qap,qaK (qaC h)]
 ·rw [qaj (by omega),qaj (by omega),qcK (by omega)];simp
theorem qcl (L:List Nat) (k:Nat):mval (L.drop k)=L.getD k 0+10000*mval (L.drop (k+1)):=by
 by_cases h:k<L.length
 ·rw [qbc h]
  simp only [mval]
  rw [qaa,qai h];rfl
 ·rw [qaD (by omega),qaD (by omega),qcK (by omega)];simp [mval]
theorem qc0 (L:List Nat) (k:Nat) (hk:k≤L.length):mval L=mval (L.take k)+10000 ^ k*mval (L.drop k):=by
 conv=>lhs;rw [←List.take_append_drop k L]
 rw [qbS,qap,qaK hk]
theorem getD_set_ne {L:List Nat} {i j d:Nat} (h:i≠j):(L.set i d).getD j 0=L.getD j 0:=by
 rw [qaa,List.getElem?_set_ne h,←qaa]
theorem qcj {L:List Nat} {i d:Nat} (h:i<L.length):(L.set i d).getD i 0=d:=by
 rw [qaa,List.getElem?_set_self h];rfl
theorem qcn {L:List Nat} {k d:Nat} (h:k<L.length):mval ((L.set k d).take (k+1))=mval (L.take k)+10000 ^ k*d:=by
 rw [qbq,qcj h]
 congr 2
 rw [List.take_set_of_le qN]
theorem qcM {L:List Nat} {k d:Nat} (h:k<L.length):mval ((L.set k d).drop k)=d+10000*mval (L.drop (k+1)):=by
 rw [qcl,qcj h,List.drop_set_of_lt (by omega)]
theorem qdC {L:List Nat} {k d:Nat} (h:k<L.length):mval (L.set k d)+10000 ^ k*L.getD k 0=mval L+10000 ^ k*d:=by
 have:=qgb L k d h
 rwa [qaa,qai h]
def Zero (L:List Nat) (n:Nat):Prop:=∀k,n≤k→L.getD k 0=0
theorem Zero.all (L:List Nat):Zero L L.length:=fun _ h=>qcK h
theorem Zero.mono {L:List Nat} {n m:Nat} (h:Zero L n) (hm:n≤m):Zero L m:=fun k hk=>h k (by omega)
theorem Zero.zeros (n m:Nat):Zero (List.replicate n 0) m:=fun k _=>by
 by_cases h:k<n
 ·rw [qaa,qa8,if_pos h];rfl
 ·exact qcK (by rw [qaY];omega)
theorem Zero.set {L:List Nat} {n k d:Nat} (h:Zero L n) (hk:k<n):Zero (L.set k d) n:=fun j hj=>by rw [getD_set_ne (by omega)];exact h j hj
theorem Zero.set_succ {L:List Nat} {n d:Nat} (h:Zero L n):Zero (L.set n d) (n+1):=fun j hj=>by rw [getD_set_ne (by omega)];exact h j (by omega)
theorem Zero.down {L:List Nat} {n:Nat} (h:Zero L (n+1)) (h0:L.getD n 0=0):Zero L n:=fun k hk=>by
 by_cases e:k=n
 ·rw [e];exact h0
 ·exact h k (by omega)
theorem qcE {L:List Nat} {n:Nat} (h:Zero L n):mval (L.drop n)=0:=by
 induction hm:L.length-n generalizing n with
 | zero=>rw [qaD (by omega)];rfl
 | succ m ih =>
  rw [qcl,h n qN,ih (h.mono (by omega)) (by omega)]
theorem qbO {L:List Nat} {n:Nat} (h:Zero L n):mval (L.take n)=mval L:=by
 by_cases hn:n≤L.length
 ·rw [qc0 L n hn,qcE h];omega
 ·rw [qaj (by omega)]
theorem Zero.lt {L:List Nat} {n:Nat} (h:Zero L n) (hd:Dig L):mval L<10000 ^ n:=by
 rw [←qbO h]
 refine qal (hd.take n).lt (qa6 (by decide) ?_)
 rw [qap];exact Nat.min_le_left _ _
def Nrm (L:List Nat):Prop:=L.length=0∨L.getD (L.length-1) 0≠0
theorem Nrm.ge {L:List Nat} (h:Nrm L) (h0:0<L.length):10000 ^ (L.length-1)≤mval L:=by
 have h1:=h.resolve_left (by omega)
 have e:=qbq L (L.length-1)
 rw [show L.length-1+1=L.length by omega,qa4] at e
 rw [e]
 exact qak (Nat.le_mul_of_pos_right _ (Nat.pos_of_ne_zero h1)) (Nat.le_add_left _ _)
theorem Nrm.of_ge {L:List Nat} (hd:Dig L) (h:L.length=0∨10000 ^ (L.length-1)≤mval L):Nrm L:=by
 rcases h with h | h
 ·exact qaJ h
 ·rcases qaI L.length with h0 | h0
  ·exact qaJ h0
  ·right
   intro hz
   have e:=qbq L (L.length-1)
   rw [show L.length-1+1=L.length by omega,qa4,hz,Nat.mul_zero,qba] at e
   have h1:=qd0 (L.take (L.length-1)) (hd.mem · <| List.mem_of_mem_take ·)
   rw [qap,qaK (by omega)] at h1
   omega
theorem Nrm.snoc (L:List Nat) {d:Nat} (h:d≠0):Nrm (L++[d]):=by
 right
 rw [qag,qaw,Nat.add_sub_cancel,qaa,qay qN,qaU]
 exact h
theorem Nrm.zero {L:List Nat} (h:Nrm L):mval L=0↔L.length=0:=by
 constructor
 ·intro e
  rcases qaI L.length with h0 | h0
  ·exact h0
  ·have:=h.ge h0
   have:=Nat.pow_pos (n:=L.length-1) (show 0<10000 by decide)
   omega
 ·intro e
  rw [List.length_eq_zero_iff.1 e];rfl
theorem Nrm.len {L:List Nat} (h:Nrm L) {n:Nat} (hv:mval L<10000 ^ n):L.length≤n:=by
 rcases qaI L.length with h0 | h0
 ·omega
 ·have h1:=h.ge h0
  have h2:=(Nat.pow_lt_pow_iff_right (show 1<10000 by decide)).1 (qa7 h1 hv)
  omega
theorem Nrm.uniq:∀{L M:List Nat},Dig L→Dig M→L.length=M.length→mval L=mval M→L=M
 | [],[],_,_,_,_=>rfl
 | [],_ :: _,_,_,h,_=>by simp at h
 | _ :: _,[],_,_,h,_=>by simp at h
 | x :: L,y :: M,hL,hM,h,hv=>by
  have h1:x<10000:=hL 0
  have h2:y<10000:=hM 0
  simp only [mval] at hv
  have e:x=y:=by omega
  rw [e,Nrm.uniq (L:=L) (M:=M) (fun k=>hL (k+1)) (fun k=>hM (k+1)) (by simpa using h) (by omega)]
theorem Nrm.same {L M:List Nat} (hL:Dig L) (hM:Dig M) (nL:Nrm L) (nM:Nrm M) (h:mval L=mval M):L=M:=by
 have h1:=nL.len (n:=M.length) (by rw [h];exact hM.lt)
 have h2:=nM.len (n:=L.length) (by rw [←h];exact hL.lt)
 exact Nrm.uniq hL hM (by omega) h
theorem qe1 {P B x y z s c c' m o:Nat} (h1:x+P*c=y+z) (h2:s+B*c'=m+c+o):x+P*s+P*B*c'=y+P*m+(z+P*o):=by
 have h:=congrArg (P * ·) h2
 simp only [qaM] at h
 have e1:P*B*c'=P*(B*c'):=by simp only [qau]
 omega
theorem qfh {P B x y z s b b' m o:Nat} (h1:x+z=y+P*b) (h2:s+b+o=m+B*b'):x+P*s+(z+P*o)=y+P*m+P*B*b':=by
 have h:=congrArg (P * ·) h2
 simp only [qaM] at h
 have e1:P*B*b'=P*(B*b'):=by simp only [qau]
 omega
theorem qft {A C B x p s c c' d e X Y Z: Nat} (h1:Y+A*C*p=x+A*C*s) (h2:x+A*C*c=X+A*d*Z) (h3:s+B*c'=c+(p+d*e)):Y+A*(C*B)*c'=X+A*d*(Z+C*e):=by
 have h:=congrArg (A*C * ·) h3
 simp only [qaM] at h ⊢
 have e1:A*(C*B)*c'=A*C*(B*c'):=by simp only [qau]
 have e2:A*d*(C*e)=A*C*(d*e):=by simp only [qau,qbe]
 omega
theorem qgd {A A1 E E1 x c d d1 X Y Z:Nat} (h1:Y+E*0=x+E*c) (h2:x+E*c=X*Z+A*d*Z):Y+E1*0=(X+A*d)*Z+A1*d1*mval []:=by
 simp only [mval,Nat.mul_zero,qba,qaE] at *
 omega
theorem qfn {B R d r m M q t:Nat} (h1:R*d+r=M) (h2:d*q+t=r*B+m):(q+B*R)*d+t=m+B*M:=by
 subst h1
 simp only [qaM,qaE]
 have e1:B*R*d=B*(R*d):=by simp only [qau]
 have e2:q*d=d*q:=qav _ _
 have e3:r*B=B*r:=qav _ _
 omega
structure PlusInv (m o:List Nat) (k:Nat) (L:List Nat) (c:Nat):Prop where
 len:L.length=k
 dig:Dig L
 carry:c≤1
 val:mval L+10000 ^ k*c=mval (m.take k)+mval (o.take k)
theorem PlusInv.start (m o:List Nat):PlusInv m o 0 [] 0:=⟨rfl,Dig.nil,by decide,by simp [mval]⟩
theorem PlusInv.step {m o L:List Nat} {k c s c':Nat} (h:PlusInv m o k L c) (hs:s<10000) (hc:c'≤1) (e:s+10000*c'=m.getD k 0+c+o.getD k 0):PlusInv m o (k+1) (L++[s]) c':=by
 refine⟨by rw [qag,h.len];rfl,h.dig.snoc hs,hc,?_⟩
 have hv:=h.val
 rw [qcr,h.len,qbq,qbq,qaz]
 exact qe1 hv e
theorem PlusInv.done {m o L:List Nat} {c:Nat} (h:PlusInv m o m.length L c) (ho:o.length≤m.length):mval L+10000 ^ m.length*c=mval m+mval o:=by
 have:=h.val
 rwa [qaj qN,qaj ho] at this
structure MinusInv (m o:List Nat) (k:Nat) (R:List Nat) (b:Nat):Prop where
 len:R.length=m.length
 dig:Dig R
 carry:b≤1
 val:mval (R.take k)+mval (o.take k)=mval (m.take k)+10000 ^ k*b
theorem MinusInv.start (m o:List Nat):MinusInv m o 0 (List.replicate m.length 0) 0:=⟨by simp,Dig.zeros _,by decide,by simp [mval]⟩
theorem MinusInv.step {m o R:List Nat} {k b s b':Nat} (h:MinusInv m o k R b) (hk:k<m.length) (hs:s<10000) (hb:b'≤1) (e:s+b+o.getD k 0=m.getD k 0+10000*b'):MinusInv m o (k+1) (R.set k s) b':=by
 refine⟨by rw [qaT,h.len],h.dig.set hs _,hb,?_⟩
 have hv:=h.val
 rw [qcn (by rw [h.len];exact hk),qbq,qbq,qaz]
 exact qfh hv e
theorem MinusInv.done {m o R:List Nat} {b:Nat} (h:MinusInv m o m.length R b) (ho:o.length≤m.length) (hle:mval o≤mval m):mval R=mval m-mval o:=by
 have hv:=h.val
 rw [qaj qN,qaj ho,qaj (by rw [h.len];exact qah _)] at hv
 have h1:=h.dig.lt
 rw [h.len] at h1
 have h2:=h.carry
 rcases (show b=0∨b=1 by omega) with rfl | rfl
 ·omega
 ·omega
structure TimesInv (m o:List Nat) (i j:Nat) (P:List Nat) (c:Nat):Prop where
 len:P.length=m.length+o.length
 dig:Dig P
 carry:c<10000
 zero:Zero P (i+o.length)
 val:mval P+10000 ^ (i+j)*c=mval (m.take i)*mval o+10000 ^ i*m.getD i 0*mval (o.take j)
theorem TimesInv.start (m o:List Nat):TimesInv m o 0 0 (List.replicate (m.length+o.length) 0) 0:=⟨by simp,Dig.zeros _,by decide,Zero.zeros _ _,by simp [mval,qdc]⟩
theorem TimesInv.step {m o P:List Nat} {i j c s c':Nat} (h:TimesInv m o i j P c) (hi:i<m.length) (hj:j<o.length) (hs:s<10000) (hc:c'<10000) (e:s+10000*c'=c+(P.getD (i+j) 0+m.getD i 0*o.getD j 0)):TimesInv m o i (j+1) (P.set (i+j) s) c':=by
 refine⟨by rw [qaT,h.len],h.dig.set hs _,hc,h.zero.set (by omega),?_⟩
 have hv:=h.val
 have hs:=qdC (L:=P) (k:=i+j) (d:=s) (by rw [h.len];omega)
 rw [qbq,Nat.pow_add,qaz]
 rw [Nat.pow_add] at hs hv
 exact qft hs hv e
theorem TimesInv.next {m o P:List Nat} {i c:Nat} (h:TimesInv m o i o.length P c) (hi:i<m.length):TimesInv m o (i+1) 0 (P.set (i+o.length) c) 0:=by
 refine⟨by rw [qaT,h.len],h.dig.set h.carry _,by decide,?_,?_⟩
 ·have:=h.zero.set_succ (d:=c)
  rwa [show i+o.length+1=i+1+o.length by omega] at this
 have hv:=h.val
 have hs:=qdC (L:=P) (k:=i+o.length) (d:=c) (by rw [h.len];omega)
 rw [h.zero _ qN] at hs
 rw [qaj qN] at hv
 rw [qbq,List.take_zero]
 exact qgd hs hv
theorem TimesInv.done {m o P:List Nat} {c:Nat} (h:TimesInv m o m.length 0 P c) (hc:c=0):mval P=mval m*mval o:=by
 have hv:=h.val
 subst hc
 rw [qaj qN] at hv
 simpa [mval] using hv
structure ShortInv (m:List Nat) (d k:Nat) (R:List Nat) (r:Nat):Prop where
 len:R.length=m.length
 dig:Dig R
 rest:r<d
 val:mval (R.drop k)*d+r=mval (m.drop k)
theorem ShortInv.start (m:List Nat) {d:Nat} (hd:0<d):ShortInv m d m.length (List.replicate m.length 0) 0:=⟨by simp,Dig.zeros _,hd,by rw [qaD (by simp),qaD (by simp)];simp [mval]⟩
theorem ShortInv.step {m R:List Nat} {d k r:Nat} (h:ShortInv m d (k+1) R r) (hk:k<m.length) (hm:Dig m):ShortInv m d k (R.set k ((r*10000+m.getD k 0) / d)) ((r*10000+m.getD k 0) % d):=by
 have hd:0<d:=by have:=h.rest;omega
 have hq:(r*10000+m.getD k 0) / d<10000:=by
  rw [Nat.div_lt_iff_lt_mul hd]
  have h1:=hm k
  have h2:=h.rest
  have:(r+1)*10000≤d*10000:=qaS _ (by omega)
  omega
 refine⟨by rw [qaT,h.len],h.dig.set hq _,qbg _ hd,?_⟩
 rw [qcM (by rw [h.len];exact hk),qcl m k,←h.val]
 have:=Nat.div_add_mod (r*10000+m.getD k 0) d
 exact qfn rfl this
theorem ShortInv.done {m R:List Nat} {d r:Nat} (h:ShortInv m d 0 R r):mval R=mval m / d∧r=mval m % d:=by
 have hv:=h.val
 simp only [List.drop_zero] at hv
 have hr:=h.rest
 rw [←hv]
 constructor
 ·rw [qav,Nat.mul_add_div (by omega),Nat.div_eq_of_lt hr];rfl
 ·rw [qav,Nat.mul_add_mod,Nat.mod_eq_of_lt hr]
end Go.Proofs.YtfminfgabiipjaaGreatDoor.p4
namespace Go.Proofs.YtfminfgabiipjaaGreatDoor
def mval:List Nat→Nat
 | []=>0
 | d :: l=>d+1000000000*mval l
theorem qbS (l r:List Nat):mval (l++r)=mval l+1000000000 ^ l.length*mval r:=by
 induction l with
 | nil=>simp [mval]
 | cons d l ih =>
  simp only [List.cons_append,mval,ih,List.length_cons,qaz]
  rw [qaM,qav (1000000000 ^ l.length) 1000000000,qau];omega
theorem qd0 (l:List Nat) (h:∀d∈l,d<1000000000):mval l<1000000000 ^ l.length:=by
 induction l with
 | nil=>simp [mval]
 | cons d l ih =>
  have h1:=h d List.mem_cons_self
  have h2:=ih fun x hx=>h x (List.mem_cons_of_mem _ hx)
  simp only [mval,List.length_cons,qaz]
  omega
theorem qdc (n:Nat):mval (List.replicate n 0)=0:=by
 induction n with
 | zero=>rfl
 | succ n ih=>simp [qaP,mval,ih]
theorem qcr (l:List Nat) (d:Nat):mval (l++[d])=mval l+1000000000 ^ l.length*d:=by
 rw [qbS];simp [mval]
theorem qgb (l:List Nat) (i d:Nat) (h:i<l.length):mval (l.set i d)+1000000000 ^ i*l[i]=mval l+1000000000 ^ i*d:=by
 induction l generalizing i with
 | nil=>exact absurd h (by simp)
 | cons x l ih =>
  cases i with
  | zero=>simp [mval];omega
  | succ i =>
   have h':i<l.length:=by simpa using h
   have:=ih i h'
   simp only [qaf,mval,List.getElem_cons_succ,qaz]
   have e1:1000000000 ^ i*1000000000*l[i]=1000000000*(1000000000 ^ i*l[i]):=by rw [qav (1000000000 ^ i),qau]
   have e2:1000000000 ^ i*1000000000*d=1000000000*(1000000000 ^ i*d):=by rw [qav (1000000000 ^ i),qau]
   omega
theorem qeg (l m:List Nat) (i:Nat) (hl:∀d∈l,d<1000000000) (hi:i<l.length) (hi':i<m.length) (h:l[i]<m[i]) (hd:l.drop (i+1)=m.drop (i+1)):mval l<mval m:=by
 have e1:l=l.take i++(l[i] :: l.drop (i+1)):=by rw [←qbc hi,List.take_append_drop]
 have e2:m=m.take i++(m[i] :: m.drop (i+1)):=by rw [←qbc hi',List.take_append_drop]
 have b1:mval (l.take i)<1000000000 ^ i:=by
  have:=qd0 (l.take i) fun d hd=>hl d (List.mem_of_mem_take hd)
  rwa [qap,qaK (by omega)] at this
 rw [e1,e2,qbS,qbS,qap,qap,qaK (by omega),qaK (by omega)]
 simp only [mval,hd]
 generalize mval (m.drop (i+1))=x
 have:1000000000 ^ i*(l[i]+1000000000*x)+1000000000 ^ i≤1000000000 ^ i*(m[i]+1000000000*x):=by
  rw [←Nat.mul_succ]
  exact qaG _ (by omega)
 omega
theorem qdr (l m:List Nat) (hl:∀d∈l,d<1000000000) (h:l.length<m.length) (ht:m.getLast?≠some 0):mval l<mval m:=by
 have h1:=qd0 l hl
 cases hm:m.reverse with
 | nil=>rw [List.reverse_eq_nil_iff] at hm;subst hm;exact absurd h (by simp)
 | cons d r =>
  have e:m=r.reverse++[d]:=by rw [←List.reverse_reverse m,hm,List.reverse_cons]
  have hd:d≠0:=by
   rintro rfl
   apply ht
   rw [e];simp
  rw [e,qcr]
  have hlen:l.length≤r.reverse.length:=by rw [e] at h;simp at h ⊢;omega
  have h2:1000000000 ^ l.length≤1000000000 ^ r.reverse.length:=qa6 (by omega) hlen
  have h3:1000000000 ^ r.reverse.length*1≤1000000000 ^ r.reverse.length*d:=qaG _ (by omega)
  omega
section
variable {B U V T head top u2 v2 lu lv:Nat}
theorem qiM (_hT:0<T) (hU:U=(head*B+u2)*T+lu) (hV:V=(top*B+v2)*T+lv) (hu2:u2<B) (hlu:lu<T) (ht:0<top):U / V≤head / top:=by
 rw [Nat.le_div_iff_mul_le ht]
 have h1:U / V*V≤U:=Nat.div_mul_le_self U V
 generalize U / V=Q at *
 have h2:Q*(top*B*T)≤Q*V:=qaG _ (by
  rw [hV,qaE];omega)
 have h3:U<(head+1)*B*T:=by
  rw [hU]
  have:(head*B+u2+1)*T≤(head+1)*B*T:=qaS _ (by rw [qaE head 1,qbl];omega)
  have e:(head*B+u2+1)*T=(head*B+u2)*T+T:=by rw [qaE _ 1,qbl]
  omega
 have h4:Q*top*(B*T)<(head+1)*(B*T):=by
  have e1:Q*top*(B*T)=Q*(top*B*T):=by rw [qau,qau]
  have e2:(head+1)*(B*T)=(head+1)*B*T:=by rw [qau]
  omega
 have:=Nat.lt_of_mul_lt_mul_right h4
 omega
theorem est_test (hV0:0<V) (hU:U=(head*B+u2)*T+lu) (hV:V=(top*B+v2)*T+lv) (hlu:lu<T) {q r:Nat} (hq:q*top+r=head) (h:r*B+u2<q*v2):U / V<q:=by
 rw [Nat.div_lt_iff_lt_mul hV0]
 have h1:head*B+u2+1≤q*(top*B+v2):=by
  have e:q*top*B+r*B=head*B:=by rw [←hq,qaE]
  have e2:q*(top*B+v2)=q*top*B+q*v2:=by rw [qaM,qau]
  omega
 have h2:(head*B+u2+1)*T≤q*(top*B+v2)*T:=qaS _ h1
 have h3:q*(top*B+v2)*T≤q*V:=by
  rw [qau];exact qaG _ (by omega)
 have h4:(head*B+u2+1)*T=(head*B+u2)*T+T:=by rw [qaE _ 1,qbl]
 omega
theorem est_done (hV0:0<V) (hU:U=(head*B+u2)*T+lu) (hV:V=(top*B+v2)*T+lv) (hlv:lv<T) (ht:0<top) {q r:Nat} (hqB:q≤B) (hq:q*top+r=head) (h:q*v2≤r*B+u2):q≤U / V+1:=by
 rcases qaI q with rfl | hq0
 ·exact qat _
 obtain⟨p,rfl⟩:∃p,q=p+1:=⟨q-1,by omega⟩
 have:p≤U / V:=by
  rw [Nat.le_div_iff_mul_le hV0]
  have h1:p*V≤p*((top*B+v2+1)*T):=qaG _ (by rw [hV,qaE (top*B+v2) 1,qbl];omega)
  have h2:p*(top*B+v2+1)≤head*B+u2:=by
   have e:(p+1)*top*B+r*B=head*B:=by rw [←hq];exact (qaE _ _ _).symm
   have e2:(p+1)*top*B=p*(top*B)+top*B:=by rw [qaE p 1,qbl,qaE,qau]
   have e3:p*(top*B+v2+1)=p*(top*B)+p*v2+p:=by rw [qaM,qaM,Nat.mul_one]
   have e4:(p+1)*v2=p*v2+v2:=by rw [qaE,qbl]
   have e5:B≤top*B:=Nat.le_mul_of_pos_left _ ht
   rw [e3]
   rw [e2] at e
   rw [e4] at h
   omega
  have h3:p*(top*B+v2+1)*T≤(head*B+u2)*T:=qaS _ h2
  rw [qau] at h3
  omega
 omega
theorem est_head (_hT:0<T) (_hB:0<B) (hU:U=(head*B+u2)*T+lu) (hV:V=(top*B+v2)*T+lv) (hv2:v2<B) (hlv:lv<T) (h:U<B*V):head<(top+1)*B:=by
 have h1:V<(top+1)*B*T:=by
  have e:(top*B+v2+1)*T≤(top+1)*B*T:=qaS _ (by rw [qaE top 1,qbl];omega)
  have e2:(top*B+v2+1)*T=(top*B+v2)*T+T:=by rw [qaE _ 1,qbl]
  omega
 have h2:head*(B*T)≤U:=by
  rw [hU,qaE,qau head];omega
 have h3:B*V≤B*((top+1)*B*T):=qaG _ (qaC h1)
 have h4:B*((top+1)*B*T)=(top+1)*B*(B*T):=by
  rw [←qau,qav B ((top+1)*B),qau]
 have h5:head*(B*T)<(top+1)*B*(B*T):=by omega
 exact Nat.lt_of_mul_lt_mul_right h5
end
def Dig (L:List Nat):Prop:=∀k,L.getD k 0<1000000000
theorem Dig.mem {L:List Nat} (h:Dig L):∀d∈L,d<1000000000:=fun d hd=>by
 obtain⟨i,hi,rfl⟩:=List.getElem_of_mem hd
 have:=h i
 rwa [qaa,qai hi] at this
theorem Dig.of {L:List Nat} (h:∀d∈L,d<1000000000):Dig L:=fun k=>by
 rw [qaa]
 cases hk:L[k]? with
 | none=>exact (by decide:0<1000000000)
 | some x=>exact h x (List.mem_of_getElem? hk)
theorem Dig.nil:Dig []:=Dig.of (by simp)
theorem Dig.snoc {L:List Nat} (h:Dig L) {d:Nat} (hd:d<1000000000):Dig (L++[d]):=Dig.of fun x hx=>by
 rcases qaZ.1 hx with hx | hx
 ·exact h.mem x hx
 ·rw [qao.1 hx];exact hd
theorem Dig.set {L:List Nat} (h:Dig L) {d:Nat} (hd:d<1000000000) (i:Nat):Dig (L.set i d):=Dig.of fun x hx=>by
 rcases List.mem_or_eq_of_mem_set hx with hx | rfl
 ·exact h.mem x hx
 ·exact hd
theorem Dig.take {L:List Nat} (h:Dig L) (n:Nat):Dig (L.take n):=Dig.of fun x hx=>h.mem x (List.mem_of_mem_take hx)
theorem Dig.drop {L:List Nat} (h:Dig L) (n:Nat):Dig (L.drop n):=Dig.of fun x hx=>h.mem x (List.mem_of_mem_drop hx)
theorem Dig.append {L M:List Nat} (h:Dig L) (h':Dig M):Dig (L++M):=Dig.of fun x hx=>(qaZ.1 hx).elim (h.mem x) (h'.mem x)
theorem Dig.zeros (n:Nat):Dig (List.replicate n 0):=Dig.of fun x hx=>by rw [(List.mem_replicate.1 hx).2];decide
theorem Dig.lt {L:List Nat} (h:Dig L):mval L<1000000000 ^ L.length:=qd0 L h.mem
theorem qdp {L:List Nat} {k:Nat} (h:k<L.length):L[k]? = some (L.getD k 0):=by
 rw [qai h,qaa,qai h];rfl
theorem qcK {L:List Nat} {k:Nat} (h:L.length≤k):L.getD k 0=0:=by
 rw [qaa,qaX h];rfl
theorem qbq (L:List Nat) (k:Nat):mval (L.take (k+1))=mval (L.take k)+1000000000 ^ k*L.getD k 0:=by
 by_cases h:k<L.length
 ·rw [List.take_add_one,qdp h]
  show mval (L.take k++[L.getD k 0])=_
  rw [qcr,qap,qaK (qaC h)]
 ·rw [qaj (by omega),qaj (by omega),qcK (by omega)];simp
theorem qcl (L:List Nat) (k:Nat):mval (L.drop k)=L.getD k 0+1000000000*mval (L.drop (k+1)):=by
 by_cases h:k<L.length
 ·rw [qbc h]
  simp only [mval]
  rw [qaa,qai h];rfl
 ·rw [qaD (by omega),qaD (by omega),qcK (by omega)];simp [mval]
theorem qc0 (L:List Nat) (k:Nat) (hk:k≤L.length):mval L=mval (L.take k)+1000000000 ^ k*mval (L.drop k):=by
 conv=>lhs;rw [←List.take_append_drop k L]
 rw [qbS,qap,qaK hk]
theorem getD_set_ne {L:List Nat} {i j d:Nat} (h:i≠j):(L.set i d).getD j 0=L.getD j 0:=by
 rw [qaa,List.getElem?_set_ne h,←qaa]
theorem qcj {L:List Nat} {i d:Nat} (h:i<L.length):(L.set i d).getD i 0=d:=by
 rw [qaa,List.getElem?_set_self h];rfl
theorem qcn {L:List Nat} {k d:Nat} (h:k<L.length):mval ((L.set k d).take (k+1))=mval (L.take k)+1000000000 ^ k*d:=by
 rw [qbq,qcj h]
 congr 2
 rw [List.take_set_of_le qN]
theorem qcM {L:List Nat} {k d:Nat} (h:k<L.length):mval ((L.set k d).drop k)=d+1000000000*mval (L.drop (k+1)):=by
 rw [qcl,qcj h,List.drop_set_of_lt (by omega)]
theorem qdC {L:List Nat} {k d:Nat} (h:k<L.length):mval (L.set k d)+1000000000 ^ k*L.getD k 0=mval L+1000000000 ^ k*d:=by
 have:=qgb L k d h
 rwa [qaa,qai h]
def Zero (L:List Nat) (n:Nat):Prop:=∀k,n≤k→L.getD k 0=0
theorem Zero.all (L:List Nat):Zero L L.length:=fun _ h=>qcK h
theorem Zero.mono {L:List Nat} {n m:Nat} (h:Zero L n) (hm:n≤m):Zero L m:=fun k hk=>h k (by omega)
theorem Zero.zeros (n m:Nat):Zero (List.replicate n 0) m:=fun k _=>by
 by_cases h:k<n
 ·rw [qaa,qa8,if_pos h];rfl
 ·exact qcK (by rw [qaY];omega)
theorem Zero.set {L:List Nat} {n k d:Nat} (h:Zero L n) (hk:k<n):Zero (L.set k d) n:=fun j hj=>by rw [getD_set_ne (by omega)];exact h j hj
theorem Zero.set_succ {L:List Nat} {n d:Nat} (h:Zero L n):Zero (L.set n d) (n+1):=fun j hj=>by rw [getD_set_ne (by omega)];exact h j (by omega)
theorem Zero.down {L:List Nat} {n:Nat} (h:Zero L (n+1)) (h0:L.getD n 0=0):Zero L n:=fun k hk=>by
 by_cases e:k=n
 ·rw [e];exact h0
 ·exact h k (by omega)
theorem qcE {L:List Nat} {n:Nat} (h:Zero L n):mval (L.drop n)=0:=by
 induction hm:L.length-n generalizing n with
 | zero=>rw [qaD (by omega)];rfl
 | succ m ih =>
  rw [qcl,h n qN,ih (h.mono (by omega)) (by omega)]
theorem qbO {L:List Nat} {n:Nat} (h:Zero L n):mval (L.take n)=mval L:=by
 by_cases hn:n≤L.length
 ·rw [qc0 L n hn,qcE h];omega
 ·rw [qaj (by omega)]
theorem Zero.lt {L:List Nat} {n:Nat} (h:Zero L n) (hd:Dig L):mval L<1000000000 ^ n:=by
 rw [←qbO h]
 refine qal (hd.take n).lt (qa6 (by decide) ?_)
 rw [qap];exact Nat.min_le_left _ _
def Nrm (L:List Nat):Prop:=L.length=0∨L.getD (L.length-1) 0≠0
theorem Nrm.ge {L:List Nat} (h:Nrm L) (h0:0<L.length):1000000000 ^ (L.length-1)≤mval L:=by
 have h1:=h.resolve_left (by omega)
 have e:=qbq L (L.length-1)
 rw [show L.length-1+1=L.length by omega,qa4] at e
 rw [e]
 exact qak (Nat.le_mul_of_pos_right _ (Nat.pos_of_ne_zero h1)) (Nat.le_add_left _ _)
theorem Nrm.of_ge {L:List Nat} (hd:Dig L) (h:L.length=0∨1000000000 ^ (L.length-1)≤mval L):Nrm L:=by
 rcases h with h | h
 ·exact qaJ h
 ·rcases qaI L.length with h0 | h0
  ·exact qaJ h0
  ·right
   intro hz
   have e:=qbq L (L.length-1)
   rw [show L.length-1+1=L.length by omega,qa4,hz,Nat.mul_zero,qba] at e
   have h1:=qd0 (L.take (L.length-1)) (hd.mem · <| List.mem_of_mem_take ·)
   rw [qap,qaK (by omega)] at h1
   omega
theorem Nrm.snoc (L:List Nat) {d:Nat} (h:d≠0):Nrm (L++[d]):=by
 right
 rw [qag,qaw,Nat.add_sub_cancel,qaa,qay qN,qaU]
 exact h
theorem Nrm.zero {L:List Nat} (h:Nrm L):mval L=0↔L.length=0:=by
 constructor
 ·intro e
  rcases qaI L.length with h0 | h0
  ·exact h0
  ·have:=h.ge h0
   have:=Nat.pow_pos (n:=L.length-1) (show 0<1000000000 by decide)
   omega
 ·intro e
  rw [List.length_eq_zero_iff.1 e];rfl
theorem Nrm.len {L:List Nat} (h:Nrm L) {n:Nat} (hv:mval L<1000000000 ^ n):L.length≤n:=by
 rcases qaI L.length with h0 | h0
 ·omega
 ·have h1:=h.ge h0
  have h2:=(Nat.pow_lt_pow_iff_right (show 1<1000000000 by decide)).1 (qa7 h1 hv)
  omega
theorem Nrm.uniq:∀{L M:List Nat},Dig L→Dig M→L.length=M.length→mval L=mval M→L=M
 | [],[],_,_,_,_=>rfl
 | [],_ :: _,_,_,h,_=>by simp at h
 | _ :: _,[],_,_,h,_=>by simp at h
 | x :: L,y :: M,hL,hM,h,hv=>by
  have h1:x<1000000000:=hL 0
  have h2:y<1000000000:=hM 0
  simp only [mval] at hv
  have e:x=y:=by omega
  rw [e,Nrm.uniq (L:=L) (M:=M) (fun k=>hL (k+1)) (fun k=>hM (k+1)) (by simpa using h) (by omega)]
theorem Nrm.same {L M:List Nat} (hL:Dig L) (hM:Dig M) (nL:Nrm L) (nM:Nrm M) (h:mval L=mval M):L=M:=by
 have h1:=nL.len (n:=M.length) (by rw [h];exact hM.lt)
 have h2:=nM.len (n:=L.length) (by rw [←h];exact hL.lt)
 exact Nrm.uniq hL hM (by omega) h
theorem qe1 {P B x y z s c c' m o:Nat} (h1:x+P*c=y+z) (h2:s+B*c'=m+c+o):x+P*s+P*B*c'=y+P*m+(z+P*o):=by
 have h:=congrArg (P * ·) h2
 simp only [qaM] at h
 have e1:P*B*c'=P*(B*c'):=by simp only [qau]
 omega
theorem qfh {P B x y z s b b' m o:Nat} (h1:x+z=y+P*b) (h2:s+b+o=m+B*b'):x+P*s+(z+P*o)=y+P*m+P*B*b':=by
 have h:=congrArg (P * ·) h2
 simp only [qaM] at h
 have e1:P*B*b'=P*(B*b'):=by simp only [qau]
 omega
theorem qft {A C B x p s c c' d e X Y Z: Nat} (h1:Y+A*C*p=x+A*C*s) (h2:x+A*C*c=X+A*d*Z) (h3:s+B*c'=c+(p+d*e)):Y+A*(C*B)*c'=X+A*d*(Z+C*e):=by
 have h:=congrArg (A*C * ·) h3
 simp only [qaM] at h ⊢
 have e1:A*(C*B)*c'=A*C*(B*c'):=by simp only [qau]
 have e2:A*d*(C*e)=A*C*(d*e):=by simp only [qau,qbe]
 omega
theorem qgd {A A1 E E1 x c d d1 X Y Z:Nat} (h1:Y+E*0=x+E*c) (h2:x+E*c=X*Z+A*d*Z):Y+E1*0=(X+A*d)*Z+A1*d1*mval []:=by
 simp only [mval,Nat.mul_zero,qba,qaE] at *
 omega
theorem qfn {B R d r m M q t:Nat} (h1:R*d+r=M) (h2:d*q+t=r*B+m):(q+B*R)*d+t=m+B*M:=by
 subst h1
 simp only [qaM,qaE]
 have e1:B*R*d=B*(R*d):=by simp only [qau]
 have e2:q*d=d*q:=qav _ _
 have e3:r*B=B*r:=qav _ _
 omega
structure PlusInv (m o:List Nat) (k:Nat) (L:List Nat) (c:Nat):Prop where
 len:L.length=k
 dig:Dig L
 carry:c≤1
 val:mval L+1000000000 ^ k*c=mval (m.take k)+mval (o.take k)
theorem PlusInv.start (m o:List Nat):PlusInv m o 0 [] 0:=⟨rfl,Dig.nil,by decide,by simp [mval]⟩
theorem PlusInv.step {m o L:List Nat} {k c s c':Nat} (h:PlusInv m o k L c) (hs:s<1000000000) (hc:c'≤1) (e:s+1000000000*c'=m.getD k 0+c+o.getD k 0):PlusInv m o (k+1) (L++[s]) c':=by
 refine⟨by rw [qag,h.len];rfl,h.dig.snoc hs,hc,?_⟩
 have hv:=h.val
 rw [qcr,h.len,qbq,qbq,qaz]
 exact qe1 hv e
theorem PlusInv.done {m o L:List Nat} {c:Nat} (h:PlusInv m o m.length L c) (ho:o.length≤m.length):mval L+1000000000 ^ m.length*c=mval m+mval o:=by
 have:=h.val
 rwa [qaj qN,qaj ho] at this
structure MinusInv (m o:List Nat) (k:Nat) (R:List Nat) (b:Nat):Prop where
 len:R.length=m.length
 dig:Dig R
 carry:b≤1
 val:mval (R.take k)+mval (o.take k)=mval (m.take k)+1000000000 ^ k*b
theorem MinusInv.start (m o:List Nat):MinusInv m o 0 (List.replicate m.length 0) 0:=⟨by simp,Dig.zeros _,by decide,by simp [mval]⟩
theorem MinusInv.step {m o R:List Nat} {k b s b':Nat} (h:MinusInv m o k R b) (hk:k<m.length) (hs:s<1000000000) (hb:b'≤1) (e:s+b+o.getD k 0=m.getD k 0+1000000000*b'):MinusInv m o (k+1) (R.set k s) b':=by
 refine⟨by rw [qaT,h.len],h.dig.set hs _,hb,?_⟩
 have hv:=h.val
 rw [qcn (by rw [h.len];exact hk),qbq,qbq,qaz]
 exact qfh hv e
theorem MinusInv.done {m o R:List Nat} {b:Nat} (h:MinusInv m o m.length R b) (ho:o.length≤m.length) (hle:mval o≤mval m):mval R=mval m-mval o:=by
 have hv:=h.val
 rw [qaj qN,qaj ho,qaj (by rw [h.len];exact qah _)] at hv
 have h1:=h.dig.lt
 rw [h.len] at h1
 have h2:=h.carry
 rcases (show b=0∨b=1 by omega) with rfl | rfl
 ·omega
 ·omega
structure TimesInv (m o:List Nat) (i j:Nat) (P:List Nat) (c:Nat):Prop where
 len:P.length=m.length+o.length
 dig:Dig P
 carry:c<1000000000
 zero:Zero P (i+o.length)
 val:mval P+1000000000 ^ (i+j)*c=mval (m.take i)*mval o+1000000000 ^ i*m.getD i 0*mval (o.take j)
theorem TimesInv.start (m o:List Nat):TimesInv m o 0 0 (List.replicate (m.length+o.length) 0) 0:=⟨by simp,Dig.zeros _,by decide,Zero.zeros _ _,by simp [mval,qdc]⟩
theorem TimesInv.step {m o P:List Nat} {i j c s c':Nat} (h:TimesInv m o i j P c) (hi:i<m.length) (hj:j<o.length) (hs:s<1000000000) (hc:c'<1000000000) (e:s+1000000000*c'=c+(P.getD (i+j) 0+m.getD i 0*o.getD j 0)):TimesInv m o i (j+1) (P.set (i+j) s) c':=by
 refine⟨by rw [qaT,h.len],h.dig.set hs _,hc,h.zero.set (by omega),?_⟩
 have hv:=h.val
 have hs:=qdC (L:=P) (k:=i+j) (d:=s) (by rw [h.len];omega)
 rw [qbq,Nat.pow_add,qaz]
 rw [Nat.pow_add] at hs hv
 exact qft hs hv e
theorem TimesInv.next {m o P:List Nat} {i c:Nat} (h:TimesInv m o i o.length P c) (hi:i<m.length):TimesInv m o (i+1) 0 (P.set (i+o.length) c) 0:=by
 refine⟨by rw [qaT,h.len],h.dig.set h.carry _,by decide,?_,?_⟩
 ·have:=h.zero.set_succ (d:=c)
  rwa [show i+o.length+1=i+1+o.length by omega] at this
 have hv:=h.val
 have hs:=qdC (L:=P) (k:=i+o.length) (d:=c) (by rw [h.len];omega)
 rw [h.zero _ qN] at hs
 rw [qaj qN] at hv
 rw [qbq,List.take_zero]
 exact qgd hs hv
theorem TimesInv.done {m o P:List Nat} {c:Nat} (h:TimesInv m o m.length 0 P c) (hc:c=0):mval P=mval m*mval o:=by
 have hv:=h.val
 subst hc
 rw [qaj qN] at hv
 simpa [mval] using hv
theorem qfu {c p d e:Nat} (hc:c<1000000000) (hp:p<1000000000) (hd:d<1000000000) (he:e<1000000000):c+(p+d*e)<1000000000000000000:=by
 have:d*e≤999999999*999999999:=Nat.mul_le_mul (by omega) (by omega)
 omega
structure ShortInv (m:List Nat) (d k:Nat) (R:List Nat) (r:Nat):Prop where
 len:R.length=m.length
 dig:Dig R
 rest:r<d
 val:mval (R.drop k)*d+r=mval (m.drop k)
theorem ShortInv.start (m:List Nat) {d:Nat} (hd:0<d):ShortInv m d m.length (List.replicate m.length 0) 0:=⟨by simp,Dig.zeros _,hd,by rw [qaD (by simp),qaD (by simp)];simp [mval]⟩
theorem ShortInv.step {m R:List Nat} {d k r:Nat} (h:ShortInv m d (k+1) R r) (hk:k<m.length) (hm:Dig m):ShortInv m d k (R.set k ((r*1000000000+m.getD k 0) / d)) ((r*1000000000+m.getD k 0) % d):=by
 have hd:0<d:=by have:=h.rest;omega
 have hq:(r*1000000000+m.getD k 0) / d<1000000000:=by
  rw [Nat.div_lt_iff_lt_mul hd]
  have h1:=hm k
  have h2:=h.rest
  have:(r+1)*1000000000≤d*1000000000:=qaS _ (by omega)
  omega
 refine⟨by rw [qaT,h.len],h.dig.set hq _,qbg _ hd,?_⟩
 rw [qcM (by rw [h.len];exact hk),qcl m k,←h.val]
 have:=Nat.div_add_mod (r*1000000000+m.getD k 0) d
 exact qfn rfl this
theorem ShortInv.done {m R:List Nat} {d r:Nat} (h:ShortInv m d 0 R r):mval R=mval m / d∧r=mval m % d:=by
 have hv:=h.val
 simp only [List.drop_zero] at hv
 have hr:=h.rest
 rw [←hv]
 constructor
 ·rw [qav,Nat.mul_add_div (by omega),Nat.div_eq_of_lt hr];rfl
 ·rw [qav,Nat.mul_add_mod,Nat.mod_eq_of_lt hr]
theorem qej (n:Nat):0<1000000000 ^ n:=Nat.pow_pos (by decide)
theorem sub_alg {P B R q V U b c r b' c' t d x:Nat} (h1:R+q*V=U+P*(b+c)) (h2:c+q*d=B*c'+t) (h3:r+b+t=x+B*b'):R+P*r+q*(V+P*d)=U+P*x+P*B*(b'+c'):=by
 have e1:=congrArg (P * ·) h2
 have e2:=congrArg (P * ·) h3
 simp only [qaM] at *
 have e3:q*(P*d)=P*(q*d):=qbe _ _ _
 have e4:P*B*b'=P*(B*b'):=qau _ _ _
 have e5:P*B*c'=P*(B*c'):=qau _ _ _
 omega
structure SubInv (u v:List Nat) (q k:Nat) (R:List Nat) (b c:Nat):Prop where
 len:R.length=u.length
 dig:Dig R
 borrow:b≤1
 carry:c<1000000000
 rest:∀j,k≤j→R.getD j 0=u.getD j 0
 val:mval (R.take k)+q*mval (v.take k)=mval (u.take k)+1000000000 ^ k*(b+c)
theorem SubInv.start {u v:List Nat} {q:Nat} (hu:Dig u):SubInv u v q 0 u 0 0:=⟨rfl,hu,by decide,by decide,fun _ _=>rfl,by simp [mval]⟩
theorem SubInv.step {u v R:List Nat} {q k b c r b' c' t:Nat} (h:SubInv u v q k R b c) (hk:k<u.length) (hr:r<1000000000) (hb:b'≤1) (hc:c'<1000000000) (h2:c+q*v.getD k 0=1000000000*c'+t) (h3:r+b+t=u.getD k 0+1000000000*b') :
  SubInv u v q (k+1) (R.set k r) b' c':=by
 refine⟨by rw [qaT,h.len],h.dig.set hr _,hb,hc,fun j hj=>by rw [getD_set_ne (by omega)];exact h.rest j (by omega),?_⟩
 rw [qcn (by rw [h.len];exact hk),qbq,qbq,qaz]
 exact sub_alg h.val h2 h3
theorem qgS {c q d:Nat} (hc:c<1000000000) (hq:q<1000000000) (hd:d<1000000000):c+q*d<1000000000000000000:=by
 have:q*d≤999999999*999999999:=Nat.mul_le_mul (by omega) (by omega)
 omega
structure BackInv (u v:List Nat) (k:Nat) (R:List Nat) (c:Nat):Prop where
 len:R.length=u.length
 dig:Dig R
 carry:c≤1
 rest:∀j,k≤j→R.getD j 0=u.getD j 0
 val:mval (R.take k)+1000000000 ^ k*c=mval (u.take k)+mval (v.take k)
theorem BackInv.start {u v:List Nat} (hu:Dig u):BackInv u v 0 u 0:=⟨rfl,hu,by decide,fun _ _=>rfl,by simp [mval]⟩
theorem BackInv.step {u v R:List Nat} {k c s c':Nat} (h:BackInv u v k R c) (hk:k<u.length) (hs:s<1000000000) (hc:c'≤1) (e:s+1000000000*c'=u.getD k 0+c+v.getD k 0):BackInv u v (k+1) (R.set k s) c':=by
 refine⟨by rw [qaT,h.len],h.dig.set hs _,hc,fun j hj=>by rw [getD_set_ne (by omega)];exact h.rest j (by omega),?_⟩
 rw [qcn (by rw [h.len];exact hk),qbq,qbq,qaz]
 exact qe1 h.val e
structure Reduced (u v:List Nat) (R:List Nat) (q:Nat):Prop where
 len:R.length=u.length
 dig:Dig R
 quot:q=mval u / mval v
 val:mval R=mval u % mval v
 top:Zero R v.length
theorem qfl {u v R:List Nat} {n:Nat} (hl:u.length=n+1) (hvl:v.length=n) (hR:R.length=u.length) (hd:Dig R) {q:Nat} (_hv:0<mval v) (hval:mval (R.take n)=mval u-q*mval v) (hle:q*mval v≤mval u) (hlt:mval u<(q+1)*mval v) :
  Reduced u v (R.set n 0) q:=by
 have hq:q=mval u / mval v:=((Nat.div_eq_of_lt_le hle hlt)).symm
 have h1:mval (R.set n 0)=mval (R.take n):=by
  have:=qcn (L:=R) (k:=n) (d:=0) (by omega)
  rwa [qaj (by rw [qaT];omega),Nat.mul_zero,qba] at this
 refine⟨by rw [qaT,hR],hd.set (by decide) _,hq,?_,?_⟩
 ·rw [h1,hval,hq,qav,Nat.sub_eq_of_eq_add]
  exact (Nat.mod_add_div _ _).symm
 ·intro j hj
  by_cases e:j=n
  ·rw [e,qcj (by omega)]
  ·exact qcK (by rw [qaT];omega)
theorem qek {u v R:List Nat} {n q b c:Nat} (h:SubInv u v q n R b c) (hl:u.length=n+1) (hvl:v.length=n) (hd:Dig v) (hv:0<mval v) (hq:mval u / mval v≤q) (hno:¬u.getD n 0<b+c):Reduced u v (R.set n 0) q:=by
 have hval:=h.val
 have e:mval u=mval (u.take n)+1000000000 ^ n*u.getD n 0:=by
  have:=qbq u n
  rwa [qaj (by omega)] at this
 rw [qaj (l:=v) (by omega)] at hval
 have hRt:=(h.dig.take n).lt
 rw [qap,qaK (by rw [h.len];omega)] at hRt
 have hvt:=hd.lt
 rw [hvl] at hvt
 have h2:mval u<(q+1)*mval v:=by
  have:=(Nat.div_lt_iff_lt_mul hv).1 (Nat.lt_succ_of_le hq)
  exact this
 obtain⟨s,hs⟩:∃s,u.getD n 0=b+c+s:=⟨u.getD n 0-(b+c),by omega⟩
 rw [hs,qaM] at e
 have hle:q*mval v≤mval u:=by omega
 have hs0:s=0:=by
  rcases qaI s with h0 | h0
  ·exact h0
  ·have:1000000000 ^ n*1≤1000000000 ^ n*s:=qaG _ h0
   rw [qaE,qbl] at h2
   omega
 subst hs0
 exact qfl hl hvl h.len h.dig hv (by omega) hle h2
theorem qeL {u v R S:List Nat} {n q b c o:Nat} (h:SubInv u v q n R b c) (k:BackInv R v n S o) (hl:u.length=n+1) (hvl:v.length=n) (hd:Dig v) (hv:0<mval v) (hq:q≤mval u / mval v+1) (hlt:u.getD n 0<b+c):Reduced u v (S.set n 0) (q-1):=by
 have hval:=h.val
 have hval2:=k.val
 have e:mval u=mval (u.take n)+1000000000 ^ n*u.getD n 0:=by
  have:=qbq u n
  rwa [qaj (by omega)] at this
 rw [qaj (l:=v) (by omega)] at hval hval2
 have hRt:=(h.dig.take n).lt
 have hSt:=(k.dig.take n).lt
 have hvt:=hd.lt
 rw [hvl] at hvt
 rw [qap,qaK (by rw [h.len];omega)] at hRt
 rw [qap,qaK (by rw [k.len,h.len];omega)] at hSt
 obtain⟨s,hs⟩:∃s,b+c=u.getD n 0+1+s:=⟨b+c-(u.getD n 0+1),by omega⟩
 rw [hs,qaM,qaM] at hval
 have hgt:mval u<q*mval v:=by omega
 have hq0:0<q:=by
  rcases qaI q with h0 | h0
  ·subst h0;omega
  ·exact h0
 obtain⟨p,rfl⟩:∃p,q=p+1:=⟨q-1,by omega⟩
 have hle:p*mval v≤mval u:=(Nat.le_div_iff_mul_le hv).1 (by omega)
 have e2:(p+1)*mval v=p*mval v+mval v:=by rw [qaE,qbl]
 have h3:=k.carry
 have ho:mval (S.take n)=mval u-p*mval v:=by
  rcases (show o=0∨o=1 by omega) with rfl | rfl
  ·rcases qaI s with h0 | h0
   ·subst h0;omega
   ·have:1000000000 ^ n*1≤1000000000 ^ n*s:=qaG _ h0
    omega
  ·rcases qaI s with h0 | h0
   ·subst h0;omega
   ·have:1000000000 ^ n*1≤1000000000 ^ n*s:=qaG _ h0
    omega
 rw [Nat.add_sub_cancel]
 exact qfl hl hvl (by rw [k.len,h.len]) k.dig hv ho hle hgt
theorem div_alg {P V B Q q W R U:Nat} (h1:Q*(P*B)*V+U=W) (h2:P*(q*V)+R=U):(q+B*Q)*P*V+R=W:=by
 subst h1 h2
 have e1:Q*(P*B)*V=B*Q*P*V:=by simp only [qav,qbe]
 have e2:P*(q*V)=q*P*V:=by simp only [qau,qbe]
 rw [qaE,qaE,e1,e2];omega
structure DivInv (w v:List Nat) (k:Nat) (q u:List Nat):Prop where
 lenu:u.length=w.length
 lenq:q.length=w.length-v.length
 digu:Dig u
 digq:Dig q
 zero:Zero u (k+v.length)
 val:mval (q.drop k)*1000000000 ^ k*mval v+mval u=mval w
 small:mval u<1000000000 ^ k*mval v
theorem DivInv.start {w v:List Nat} (hw:Dig w) (hz:mval w<1000000000 ^ (w.length-v.length)*mval v) (hl:v.length≤w.length):DivInv w v (w.length-v.length) (List.replicate (w.length-v.length) 0) w :=
 ⟨rfl,by simp,hw,Dig.zeros _,by rw [Nat.sub_add_cancel hl];exact Zero.all w,by rw [qaD (by simp)];simp [mval],hz⟩
theorem qhI {u:List Nat} {k n:Nat} (hk:k+n≤u.length) (hz:Zero u (k+n)):mval u=mval (u.take k)+1000000000 ^ k*mval ((u.drop k).take n):=by
 rw [←qbO hz,List.take_add,qbS,qap,qaK (by omega)]
theorem DivInv.part {w v q u:List Nat} {k:Nat} (h:DivInv w v (k+1) q u) (hk:k+1+v.length≤w.length):mval ((u.drop k).take (v.length+1))<1000000000*mval v∧((u.drop k).take (v.length+1)).length=v.length+1∧Dig ((u.drop k).take (v.length+1)):=by
 have hl:=h.lenu
 refine⟨?_,by rw [qap,qa0];omega,(h.digu.drop _).take _⟩
 have h1:=h.small
 have h2:=qhI (u:=u) (k:=k) (n:=v.length+1) (by omega) (by have:=h.zero;rwa [show k+1+v.length=k+(v.length+1) by omega] at this)
 rw [qaz,qau] at h1
 exact Nat.lt_of_mul_lt_mul_left (a:=1000000000 ^ k) (by omega)
theorem DivInv.step {w v q u R:List Nat} {k x:Nat} (h:DivInv w v (k+1) q u) (hk:k+1+v.length≤w.length) (hv:0<mval v) (hr:Reduced ((u.drop k).take (v.length+1)) v R x) :
  DivInv w v k (q.set k x) (u.take k++R++u.drop (k+(v.length+1))):=by
 have hl:=h.lenu
 have hlq:=h.lenq
 obtain⟨p1,p2,p3⟩:=h.part hk
 have hRl:=hr.len
 rw [p2] at hRl
 have hx:x<1000000000:=by
  rw [hr.quot,Nat.div_lt_iff_lt_mul hv];exact p1
 have hRv:mval R<mval v:=by rw [hr.val];exact qbg _ hv
 have htk:(u.take k).length=k:=by rw [qap];omega
 have hval:=qhI (u:=u) (k:=k) (n:=v.length+1) (by omega) (by have:=h.zero;rwa [show k+1+v.length=k+(v.length+1) by omega] at this)
 have hz0:mval (u.drop (k+(v.length+1)))=0:=qcE (by have:=h.zero;rwa [show k+1+v.length=k+(v.length+1) by omega] at this)
 have hnew:mval (u.take k++R++u.drop (k+(v.length+1)))=mval (u.take k)+1000000000 ^ k*mval R:=by
  rw [qbS,qbS,hz0,htk];omega
 have hdig:Dig (u.take k++R++u.drop (k+(v.length+1))):=((h.digu.take _).append hr.dig).append (h.digu.drop _)
 have hut:=(h.digu.take k).lt
 rw [htk] at hut
 have hsm:mval (u.take k++R++u.drop (k+(v.length+1)))<1000000000 ^ k*mval v:=by
  rw [hnew]
  have:1000000000 ^ k*(mval R+1)≤1000000000 ^ k*mval v:=qaG _ hRv
  rw [qaM] at this
  omega
 have hlen:(u.take k++R++u.drop (k+(v.length+1))).length=w.length:=by
  rw [qag,qag,htk,hRl,qa0];omega
 refine⟨hlen,by rw [qaT,hlq],hdig,h.digq.set hx _,?_,?_,hsm⟩
 ·intro j hj
  have hz:=h.zero
  rw [qaa,List.getElem?_append]
  split
  ·rename_i h1
   rw [qay (by omega),←qaa]
   exact hr.top _ (by omega)
  ·rename_i h1
   rw [qag,htk,hRl] at h1
   rw [qag,htk,hRl,List.getElem?_drop,←qaa]
   exact hz _ (by omega)
 ·rw [qcM (by rw [hlq];omega),hnew]
  have hv1:=h.val
  rw [qaz,hval] at hv1
  have hdm:=Nat.div_add_mod (mval ((u.drop k).take (v.length+1))) (mval v)
  rw [←hr.quot,←hr.val] at hdm
  refine div_alg hv1 ?_
  rw [←hdm,qaM,qav x]
  omega
theorem qfQ {v:List Nat} {n:Nat} (hn:2≤n) (hl:v.length=n):mval v=(v.getD (n-1) 0*1000000000+v.getD (n-2) 0)*1000000000 ^ (n-2)+mval (v.take (n-2)):=by
 have e1:=qbq v (n-1)
 have e2:=qbq v (n-2)
 rw [show n-1+1=n by omega,←hl,qa4,hl] at e1
 rw [show n-2+1=n-1 by omega] at e2
 rw [e1,e2,show n-1=(n-2)+1 by omega,qaz]
 generalize 1000000000 ^ (n-2)=P
 have e3:P*1000000000*v.getD (n-2+1) 0=v.getD (n-2+1) 0*1000000000*P:=by simp only [qav,qbe]
 have e4:P*v.getD (n-2) 0=v.getD (n-2) 0*P:=qav _ _
 rw [qaE,e3,e4]
 omega
theorem qhQ {u:List Nat} {n:Nat} (hn:2≤n) (hl:u.length=n+1):mval u=((u.getD n 0*1000000000+u.getD (n-1) 0)*1000000000+u.getD (n-2) 0)*1000000000 ^ (n-2)+mval (u.take (n-2)):=by
 have e0:=qbq u n
 have h:=qfQ (v:=u.take n) hn (by rw [qap];omega)
 have g1:(u.take n).getD (n-1) 0=u.getD (n-1) 0:=by rw [qaa,qa9 (by omega),←qaa]
 have g2:(u.take n).getD (n-2) 0=u.getD (n-2) 0:=by rw [qaa,qa9 (by omega),←qaa]
 rw [←hl,qa4] at e0
 rw [g1,g2,List.take_take,qaK (by omega)] at h
 rw [e0,h,show 1000000000 ^ n=1000000000 ^ (n-2)*(1000000000*1000000000) by rw [←Nat.pow_two,←Nat.pow_add];congr 1;omega]
 generalize 1000000000 ^ (n-2)=P
 simp only [qaE]
 have:P*(1000000000*1000000000)*u.getD n 0=u.getD n 0*1000000000*1000000000*P:=by
  simp only [qav,qbe]
 omega
structure Est (u v:List Nat) (n:Nat):Prop where
 two:2≤n
 lu:u.length=n+1
 lv:v.length=n
 du:Dig u
 dv:Dig v
 half:1000000000≤2*v.getD (n-1) 0+1
 small:mval u<1000000000*mval v
namespace Est
variable {u v:List Nat} {n:Nat}
def top (v:List Nat) (n:Nat):Nat:=v.getD (n-1) 0
def head (u:List Nat) (n:Nat):Nat:=u.getD n 0*1000000000+u.getD (n-1) 0
theorem top_pos (h:Est u v n):0<top v n:=by have:=h.half;unfold top;omega
theorem v_pos (h:Est u v n):0<mval v:=by
 rw [qfQ h.two h.lv]
 have h1:=h.top_pos
 have h2:=qej (n-2)
 have:0<(v.getD (n-1) 0*1000000000+v.getD (n-2) 0)*1000000000 ^ (n-2):=Nat.mul_pos (by unfold top at h1;omega) h2
 omega
theorem low (h:Est u v n):mval (u.take (n-2))<1000000000 ^ (n-2)∧mval (v.take (n-2))<1000000000 ^ (n-2):=by
 have h1:=(h.du.take (n-2)).lt
 have h2:=(h.dv.take (n-2)).lt
 rw [qap,qaK (by have:=h.lu;omega)] at h1
 rw [qap,qaK (by have:=h.lv;omega)] at h2
 exact⟨h1,h2⟩
theorem head_lt (h:Est u v n):head u n<(top v n+1)*1000000000 :=
 est_head (qej _) (by decide) (qhQ h.two h.lu) (qfQ h.two h.lv) (h.dv _) h.low.2 h.small
theorem quot_lt (h:Est u v n):mval u / mval v<1000000000:=(Nat.div_lt_iff_lt_mul h.v_pos).2 h.small
theorem first (h:Est u v n):mval u / mval v≤head u n / top v n∧head u n / top v n≤1000000002:=by
 refine⟨qiM (qej _) (qhQ h.two h.lu) (qfQ h.two h.lv) (h.du _) h.low.1 h.top_pos,?_⟩
 have h1:=h.head_lt
 have h2:=h.half
 have:head u n / top v n<1000000003:=by
  rw [Nat.div_lt_iff_lt_mul h.top_pos]
  unfold top at *
  omega
 omega
theorem down (h:Est u v n) {q r:Nat} (hq:q*top v n+r=head u n) (hle:mval u / mval v≤q) (ht:1000000000≤q∨r*1000000000+u.getD (n-2) 0<q*v.getD (n-2) 0) :
  1≤q∧mval u / mval v≤q-1∧(q-1)*top v n+(r+top v n)=head u n:=by
 have hlt:mval u / mval v<q:=by
  rcases ht with h1 | h1
  ·have:=h.quot_lt;omega
  ·exact est_test h.v_pos (qhQ h.two h.lu) (qfQ h.two h.lv) h.low.1 hq h1
 clear ht
 generalize mval u / mval v=Q at *
 obtain⟨p,rfl⟩:∃p,q=p+1:=⟨q-1,by omega⟩
 rw [qaE,qbl] at hq
 refine⟨by omega,by omega,?_⟩
 rw [Nat.add_sub_cancel];omega
theorem done (h:Est u v n) {q r:Nat} (hq:q*top v n+r=head u n) (h1:q<1000000000) (h2:q*v.getD (n-2) 0≤r*1000000000+u.getD (n-2) 0):q≤mval u / mval v+1 :=
 est_done h.v_pos (qhQ h.two h.lu) (qfQ h.two h.lv) h.low.2 h.top_pos (by omega) hq h2
theorem broke (h:Est u v n) {q r:Nat} (hq:q*top v n+r=head u n) (hr:1000000000≤r):q<1000000000∧q≤mval u / mval v+1:=by
 have h1:=h.head_lt
 have hlt:q<1000000000:=by
  rcases qa2 q 1000000000 with h2 | h2
  ·exact h2
  ·have:1000000000*top v n≤q*top v n:=qaS _ h2
   rw [qaE,qav (top v n)] at h1
   omega
 refine⟨hlt,h.done hq hlt ?_⟩
 have h3:q*v.getD (n-2) 0≤q*1000000000:=qaG _ (qaC (h.dv _))
 have h4:q*1000000000≤r*1000000000:=qaS _ (qak (qaC hlt) hr)
 exact qak h3 (qak h4 (Nat.le_add_right _ _))
end Est
theorem qeA {t s:Nat} (ht:0<t) (ht2:t<1000000000) (hs:1000000000 / (t+1)=s):0<s∧s≤500000000∧(t+1)*s≤1000000000∧1000000000≤2*(t*s)+1:=by
 have h1:(t+1)*s≤1000000000:=by rw [←hs];exact Nat.mul_div_le _ _
 have h0:0<s:=by rw [←hs];exact Nat.div_pos (by omega) (by omega)
 have h2:1000000000<(t+1)*(s+1):=by
  rw [←hs,qav]
  exact Nat.lt_mul_of_div_lt (Nat.lt_succ_self _) (by omega)
 have h3:s≤500000000:=by
  have:2*s≤(t+1)*s:=qaS _ (by omega)
  omega
 refine⟨h0,h3,h1,?_⟩
 by_cases hb:1000000000≤2*t+1
 ·have:t*1≤t*s:=qaG _ h0
  omega
 ·obtain⟨d,hd⟩:∃d,1000000000=2*t+1+d:=⟨1000000000-(2*t+1),by omega⟩
  obtain⟨p,rfl⟩:∃p,t=p+1:=⟨t-1,by omega⟩
  have h4:1000000000+1≤(p+1+1)*(s+1):=h2
  have h5:(p+1)*(1000000000+1)≤(p+1)*((p+1+1)*(s+1)):=qaG _ h4
  refine Nat.le_of_mul_le_mul_left (c:=p+1+1) ?_ (by omega)
  have e1:(p+1)*((p+1+1)*(s+1))=(p+1+1)*((p+1)*s)+(p+1+1)*(p+1):=by
   rw [qbe,qaM (p+1),Nat.mul_one,qaM]
  have e2:(p+1+1)*(2*((p+1)*s)+1)=2*((p+1+1)*((p+1)*s))+(p+1+1):=by
   rw [qaM,Nat.mul_one,qbe]
  rw [e2]
  rw [e1] at h5
  have e3:(p+1+1)*(p+1)=p*p+3*p+2:=by
   simp only [qaE,qaM,Nat.mul_one,qbl];omega
  have e4:p*d+p*(2*p+3)=p*1000000000:=by rw [←qaM];congr 1;omega
  have e5:p*(2*p+3)=2*(p*p)+3*p:=by rw [qaM,qbe,qav p 3]
  have e6:(p+1)*(1000000000+1)=p*(1000000000+1)+(1000000000+1):=by rw [qaE p 1,qbl]
  have e7:p*(1000000000+1)=p*1000000000+p:=by rw [qaM,Nat.mul_one]
  rw [e6,e7,e3] at h5
  rw [e5] at e4
  generalize (p+1+1)*((p+1)*s)=Z at *
  generalize p*p=pp at *
  clear e3 e5 e6 e7 h4 h2 h1 hs
  omega
theorem qdS {O V:List Nat} {n s:Nat} (hO:Dig O) (hl:O.length=n) (hn:2≤n) (nO:Nrm O) (hs:1000000000 / (O.getD (n-1) 0+1)=s) (hV:Dig V) (nV:Nrm V) (hv:mval V=mval O*s):V.length=n∧1000000000≤2*V.getD (n-1) 0+1:=by
 have ht:O.getD (n-1) 0≠0:=by rw [←hl];exact nO.resolve_left (by omega)
 obtain⟨s0,s1,s2,s3⟩:=qeA (Nat.pos_of_ne_zero ht) (hO (n-1)) hs
 have e:=qbq O (n-1)
 rw [show n-1+1=n by omega,←hl,qa4,hl] at e
 have hlow:=(hO.take (n-1)).lt
 rw [qap,qaK (by omega)] at hlow
 generalize O.getD (n-1) 0=t at *
 have hP:1000000000 ^ n=1000000000 ^ (n-1)*1000000000:=by rw [←qaz];congr 1;omega
 have hup:mval V<1000000000 ^ n:=by
  rw [hv,e,hP]
  have h1:(mval (O.take (n-1))+1000000000 ^ (n-1)*t)*s<1000000000 ^ (n-1)*(t+1)*s:=by
   apply Nat.mul_lt_mul_of_pos_right ?_ s0
   rw [qaM];omega
  have h2:1000000000 ^ (n-1)*(t+1)*s≤1000000000 ^ (n-1)*1000000000:=by
   rw [qau];exact qaG _ s2
  omega
 have hdown:1000000000 ^ (n-1)*(t*s)≤mval V:=by
  rw [hv,e,qaE,qau];omega
 have hlen1:=nV.len hup
 have hlen2:n≤V.length:=by
  rcases qa2 V.length n with h | h
  ·exfalso
   have h1:=hV.lt
   have h2:1000000000 ^ V.length≤1000000000 ^ (n-1):=qa6 (by decide) (by omega)
   have h3:1000000000 ^ (n-1)*1≤1000000000 ^ (n-1)*(t*s):=qaG _ (Nat.mul_pos (Nat.pos_of_ne_zero ht) s0)
   omega
  ·exact h
 have hVl:V.length=n:=by omega
 refine⟨hVl,?_⟩
 have eV:=qbq V (n-1)
 rw [show n-1+1=n by omega,←hVl,qa4,hVl] at eV
 have hlowV:=(hV.take (n-1)).lt
 rw [qap,qaK (by omega)] at hlowV
 have:t*s≤V.getD (n-1) 0:=by
  have h1:1000000000 ^ (n-1)*(t*s)<1000000000 ^ (n-1)*(V.getD (n-1) 0+1):=by
   rw [qaM,Nat.mul_one];omega
  have:=Nat.lt_of_mul_lt_mul_left h1
  omega
 omega
theorem qiG {x y s r Q:Nat} (hs:0<s) (h:Q*(y*s)+r=x*s) (hr:r<y*s):Q=x / y∧r / s=x % y:=by
 have hy:0<y:=by
  rcases qaI y with h0 | h0
  ·subst h0;omega
  ·exact h0
 have hdvd:s∣r:=by
  have h1:s∣Q*(y*s):=⟨Q*y,by rw [←qau,qav]⟩
  exact (Nat.dvd_add_right h1).1 (by rw [h];exact⟨x,qav _ _⟩)
 obtain⟨z,rfl⟩:=hdvd
 rw [Nat.mul_div_cancel_left _ hs]
 have hz:z<y:=by
  apply Nat.lt_of_mul_lt_mul_left (a:=s)
  rw [qav s y];exact hr
 have e:Q*y+z=x:=by
  apply Nat.eq_of_mul_eq_mul_right hs
  rw [←h,qaE,qau,qav s z]
 rw [←e]
 constructor
 ·rw [qav Q y,Nat.mul_add_div hy,Nat.div_eq_of_lt hz];rfl
 ·rw [qav Q y,Nat.mul_add_mod,Nat.mod_eq_of_lt hz]
theorem qgw {M O V:List Nat} {lm n s:Nat} (hM:Dig M) (hlm:M.length=lm) (hl:O.length=n) (hn:0<n) (nO:Nrm O) (hs:0<s) (hle:n≤lm) (hv:mval V=mval O*s):mval M*s<1000000000 ^ (lm+1-n)*mval V:=by
 have h1:=nO.ge (by omega)
 rw [hl] at h1
 have h2:=hM.lt
 rw [hlm] at h2
 have e:1000000000 ^ lm=1000000000 ^ (lm+1-n)*1000000000 ^ (n-1):=by rw [←Nat.pow_add];congr 1;omega
 rw [hv,←qau]
 apply Nat.mul_lt_mul_of_pos_right ?_ hs
 have:1000000000 ^ (lm+1-n)*1000000000 ^ (n-1)≤1000000000 ^ (lm+1-n)*mval O:=qaG _ h1
 omega
end Go.Proofs.YtfminfgabiipjaaGreatDoor
