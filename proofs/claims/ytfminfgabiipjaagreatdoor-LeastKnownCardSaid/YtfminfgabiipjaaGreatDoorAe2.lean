/- Ae, part 2: Txt -/
import Derived.Lib.ItoaNum
import Derived.Test.YtfminfgabiipjaaGreatDoorAe0
import Derived.Test.YtfminfgabiipjaaGreatDoorAe1
set_option maxRecDepth 100000
set_option maxHeartbeats 16000000
namespace Go.Proofs.YtfminfgabiipjaaGreatDoor
open Go.Lib
theorem qht {t l:List UInt8} (h:t≠[]):(t++l).head? = t.head?:=by
 cases t with
 | nil=>exact absurd rfl h
 | cons=>rfl
def dval (s:List UInt8):Nat:=s.foldl (fun v c=>v*10+(c.toNat-48)) 0
theorem qdz (s:List UInt8) (c:UInt8):dval (s++[c])=dval s*10+(c.toNat-48):=by
 unfold dval;rw [List.foldl_append];rfl
def Nums (s:List UInt8):Prop:=∀c∈s,48≤c.toNat∧c.toNat≤57
theorem Nums.take {s:List UInt8} (h:Nums s) (n:Nat):Nums (s.take n):=fun c hc=>h c (List.mem_of_mem_take hc)
theorem qiH:∀(n:Nat) (s:List UInt8),s.length=n→Nums s→dval s<10 ^ n
 | 0,s,h,_=>by rw [List.length_eq_zero_iff.1 h];decide
 | n+1,s,h,hn=>by
  obtain⟨t,c,rfl⟩:∃t c,s=t++[c]:=⟨s.dropLast,s.getLast (by intro e;rw [e] at h;simp at h),(List.dropLast_concat_getLast _).symm⟩
  have h1:=qiH n t (by simpa using h) (fun c hc=>hn c (List.mem_append_left _ hc))
  have h2:=hn c (by simp)
  rw [qdz,qaz];omega
theorem qc7 (s:List UInt8) (k:Nat) (h:k<s.length):s.take (k+1)=s.take k++[s[k]]:=by
 rw [List.take_add_one,qai h];rfl
theorem qfa (s:List UInt8) (k:Nat) (h:k<s.length):dval (s.take (k+1))=dval (s.take k)*10+(s[k].toNat-48):=by
 rw [qc7 s k h,qdz]
def qgY (s:List UInt8):Prop:=s≠[]∧Nums s∧(s.head? = some 48→s.length=1)
theorem qbx {u:Nat} (h:u<10):decDigits u=[UInt8.ofNat (48+u)]:=by rw [decDigits,dif_pos h]
theorem qbM {u:Nat} (h:10≤u):decDigits u=decDigits (u / 10)++[UInt8.ofNat (48+u % 10)]:=by rw [decDigits,dif_neg (by omega)]
theorem qcp {u:Nat} (h:u<10):(UInt8.ofNat (48+u)).toNat=48+u:=by
 rw [UInt8.toNat_ofNat'];exact Nat.mod_eq_of_lt (by omega)
theorem qcT (u:Nat):decDigits u≠[]:=by
 rcases qa2 u 10 with h | h
 ·rw [qbx h];simp
 ·rw [qbM h];simp
theorem qdQ:∀u:Nat,Nums (decDigits u):=by
 intro u
 induction u using Nat.strongRecOn with
 | ind u ih =>
  rcases qa2 u 10 with h | h
  ·rw [qbx h]
   intro c hc
   rw [qao.1 hc,qcp h];omega
  ·rw [qbM h]
   intro c hc
   rcases qaZ.1 hc with hc | hc
   ·exact ih (u / 10) (by omega) c hc
   ·rw [qao.1 hc,qcp (by omega)];omega
theorem qfz:∀u:Nat,dval (decDigits u)=u:=by
 intro u
 induction u using Nat.strongRecOn with
 | ind u ih =>
  rcases qa2 u 10 with h | h
  ·rw [qbx h]
   show 0*10+((UInt8.ofNat (48+u)).toNat-48)=u
   rw [qcp h];omega
  ·rw [qbM h,qdz,ih (u / 10) (by omega),qcp (by omega)];omega
theorem qfy:∀u:Nat,(decDigits u).head? = some 48→u=0:=by
 intro u
 induction u using Nat.strongRecOn with
 | ind u ih =>
  rcases qa2 u 10 with h | h
  ·rw [qbx h]
   intro hh
   have h1:UInt8.ofNat (48+u)=48:=qam hh
   have h2:=qcp h
   rw [h1] at h2
   have:(48:UInt8).toNat=48:=rfl
   omega
  ·rw [qbM h]
   intro hh
   rw [qht (qcT _)] at hh
   have:=ih (u / 10) (by omega) hh
   omega
theorem qhU {a b:UInt8} (h:a.toNat=b.toNat):a=b:=UInt8.toNat_inj.1 h
theorem qfO:∀(s:List UInt8),qgY s→s=decDigits (dval s):=by
 intro s
 induction hn:s.length using Nat.strongRecOn generalizing s with
 | ind n ih =>
  intro ⟨h0,h1,h2⟩
  obtain⟨t,c,rfl⟩:∃t c,s=t++[c]:=⟨s.dropLast,s.getLast h0,(List.dropLast_concat_getLast _).symm⟩
  have hc:=h1 c (by simp)
  have hcv:UInt8.ofNat (48+(c.toNat-48))=c:=qhU (by rw [qcp (by omega)];omega)
  by_cases ht:t=[]
  ·subst ht
   rw [qdz]
   show [c]=decDigits (0*10+(c.toNat-48))
   rw [Nat.zero_mul,qaW,qbx (by omega),hcv]
  ·have hpt:qgY t:=⟨ht,fun c hc=>h1 c (List.mem_append_left _ hc),fun hh=>by
    have:=h2 (by rw [qht ht];exact hh)
    rw [qag,qaw] at this
    have:=List.length_pos_iff.2 ht
    omega⟩
   have hih:=ih t.length (by rw [←hn];simp) t rfl hpt
   have hpos:0<dval t:=by
    rcases qaI (dval t) with h | h
    ·exfalso
     rw [h,qbx (by omega)] at hih
     have:=h2 (by rw [hih];rfl)
     rw [hih] at this
     simp at this
    ·exact h
   rw [qdz,qbM (by omega),show (dval t*10+(c.toNat-48)) / 10=dval t by omega,show (dval t*10+(c.toNat-48)) % 10=c.toNat-48 by omega,←hih,hcv]
theorem qb0:∀(k u:Nat),0<k→u<10 ^ k→(decDigits u).length≤k
 | 1,u,_,h=>by rw [qbx (by simpa using h)];simp
 | k+2,u,_,h=>by
  rcases qa2 u 10 with h1 | h1
  ·rw [qbx h1];simp
  ·rw [qbM h1,qag,qaw]
   have:=qb0 (k+1) (u / 10) (by omega) (by rw [qaz] at h;omega)
   omega
theorem qdw:∀(k u:Nat),10 ^ k≤u→k+1≤(decDigits u).length
 | 0,u,_=>by have:=List.length_pos_iff.2 (qcT u);omega
 | k+1,u,h=>by
  have h1:10≤u:=by
   have:=Nat.pow_pos (n:=k) (show 0<10 by decide)
   rw [qaz] at h;omega
  rw [qbM h1,qag,qaw]
  have:=qdw k (u / 10) (by rw [qaz] at h;omega)
  omega
def padk:Nat→Nat→List UInt8
 | 0,_=>[]
 | k+1,d=>padk k (d / 10)++[UInt8.ofNat (48+d % 10)]
theorem qfN:∀(k:Nat),padk k 0=List.replicate k 48
 | 0=>rfl
 | k+1=>by rw [padk,Nat.zero_div,qfN k];exact (List.replicate_succ').symm
theorem qjh:∀(k d:Nat),0<k→d<10 ^ k→padk k d=List.replicate (k-(decDigits d).length) 48++decDigits d
 | 1,d,_,h=>by
  have h1:d<10:=by simpa using h
  rw [qbx h1,padk,Nat.mod_eq_of_lt h1];rfl
 | k+2,d,_,h=>by
  rw [padk]
  rcases qa2 d 10 with h1 | h1
  ·rw [qbx h1,Nat.div_eq_of_lt h1,qfN,Nat.mod_eq_of_lt h1];rfl
  ·rw [qjh (k+1) (d / 10) (by omega) (by rw [qaz] at h;omega),qbM h1,qag,qaw,←qaH]
   congr 3
   omega
theorem qdl:∀(k a d:Nat),0<a→d<10 ^ k→decDigits (a*10 ^ k+d)=decDigits a++padk k d
 | 0,a,d,_,h=>by
  have:d=0:=by simpa using h
  subst this;simp [padk]
 | k+1,a,d,ha,h=>by
  have hp:=Nat.pow_pos (n:=k) (show 0<10 by decide)
  have h1:1*10 ^ k≤a*10 ^ k:=qaS _ ha
  have e:a*10 ^ (k+1)=a*10 ^ k*10:=by rw [qaz,qau]
  rw [qbM (by omega),e,show (a*10 ^ k*10+d) / 10=a*10 ^ k+d / 10 by omega,show (a*10 ^ k*10+d) % 10=d % 10 by omega,
   qdl k a (d / 10) ha (by rw [qaz] at h;omega),padk,qaH]
theorem ten9:(10:Nat) ^ 9=1000000000:=by decide
theorem qhH:∀k d:Nat,(padk k d).length=k
 | 0,_=>rfl
 | k+1,d=>by rw [padk,qag,qhH k];rfl
theorem pow9 (k:Nat):(1000000000:Nat) ^ k=10 ^ (9*k):=by
 rw [Nat.pow_mul]
theorem top_num {L:List Nat} {n:Nat} (hd:Dig L) (hl:L.length=n+1) (h0:L.getD n 0≠0):(decDigits (mval L)).length=n*9+(decDigits (L.getD n 0)).length:=by
 have e:=qbq L n
 rw [←hl,qa4] at e
 have h1:=(hd.take n).lt
 rw [qap,hl,qaK (by omega),pow9] at h1
 rw [e,pow9,Nat.add_comm,qav (10 ^ (9*n)),qdl _ _ _ (Nat.pos_of_ne_zero h0) h1,qag,qhH]
 omega
theorem drop_num {L:List Nat} {j:Nat} (hd:Dig L) (h0:0<mval (L.drop (j+1))):decDigits (mval (L.drop j))=decDigits (mval (L.drop (j+1)))++(List.replicate (9-(decDigits (L.getD j 0)).length) 48++decDigits (L.getD j 0)):=by
 have h1:L.getD j 0<10 ^ 9:=by rw [ten9];exact hd j
 rw [qcl L j,Nat.add_comm,qav,←ten9,qdl 9 _ _ h0 h1,qjh 9 _ (by decide) h1]
theorem ten8:(10:Nat) ^ 8=100000000:=by decide
theorem qiA {v m:Nat} (h:v<10 ^ m) (hm:m≤9):v<1000000000:=by
 rw [←ten9];exact qal h (qa6 (by decide) hm)
theorem qiz {v m:Nat} (h:v<10 ^ m) (hm:m≤8):v<100000000:=by
 rw [←ten8];exact qal h (qa6 (by decide) hm)
theorem qdB {D Dst Di v d m:Nat} (h:v<10 ^ m∧Di=Dst*10 ^ m+v) (hD:D=Di*10+d) (hd:d≤9):v*10+d<10 ^ (m+1)∧D=Dst*10 ^ (m+1)+(v*10+d):=by
 obtain⟨h1,h2⟩:=h
 rw [hD,h2,qaz]
 refine⟨by omega,?_⟩
 rw [qaE,qau];omega
theorem qh2 {P B D E m v:Nat} (h:D*E=D*B):m+P*v+P*B*D=m+(P*(D*E)+P*v):=by
 rw [h,qau,qav D B];omega
theorem qdW {L:List UInt8} {S:List Nat} {st i k v:Nat} (hSl:S.length=k) (h:mval S+1000000000 ^ k*dval (L.take i)=dval L) (hv:dval (L.take i)=dval (L.take st)*10 ^ (i-st)+v) (hc:(st=0∧i≤9)∨st+9=i) :
  mval (S++[v])+1000000000 ^ (k+1)*dval (L.take st)=dval L:=by
 rw [hv,qaM] at h
 rw [qcr,hSl,qaz,←h]
 refine qh2 ?_
 rcases hc with ⟨h2,_⟩ | h2
 ·subst h2
  have e:dval (L.take 0)=0:=rfl
  rw [e,Nat.zero_mul,Nat.zero_mul]
 ·have e:i-st=9:=by omega
  rw [e,ten9]
end Go.Proofs.YtfminfgabiipjaaGreatDoor
