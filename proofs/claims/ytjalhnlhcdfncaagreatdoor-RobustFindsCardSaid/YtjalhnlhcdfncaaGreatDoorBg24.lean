import Derived.Test.YtjalhnlhcdfncaaGreatDoorBg23
set_option maxRecDepth 100000
set_option maxHeartbeats 0
namespace Go.Proofs.YtjalhnlhcdfncaaGreatDoor
def finP (n:Nat) (r0 r1 off:Int) (i:Nat):Pt:=⟨⟨#[UInt8.ofNat (97+i)]⟩,[500*(i:Int)],5000+r0*i+r1+(if i=n / 2 then off else 0),0,0⟩
def finL (n:Nat) (r0 r1 off:Int):List Pt:=(List.range n).map (finP n r0 r1 off)
theorem qcm (n:Nat) (r0 r1 off:Int):(finL n r0 r1 off).length=n:=by unfold finL;simp
theorem qdn {n:Nat} {r0 r1 off:Int} {i:Nat} (E:i<n):(finL n r0 r1 off).getD i pt0=finP n r0 r1 off i:=by
 unfold finL;rw [qab,qaE,qbE E];rfl
theorem qgG {n:Nat} {r0 r1 off:Int} (h:5<=n):chans (finL n r0 r1 off)=1:=by unfold chans;rw [qdn (by omega)];rfl
def tt (i:Nat):Rat:=(i:Rat) / 20
def uN (n:Nat):Rat:=1 / (n:Rat)-(if n % 2=0 then 120 / ((n:Rat)*((n:Rat)*n-1)) else 0)*((n:Rat)-1) / 40
def vN (n:Nat):Rat:=if n % 2=0 then 120 / ((n:Rat)*((n:Rat)*n-1)) else 0
def dN (n i:Nat):Rat:=uN n+vN n*tt i-(if i=n / 2 then 1 else 0)
theorem dN_orth:∀n,n<13->5<=n->sumQ n (dN n)=0/\sumQ n (fun i=>tt i*dN n i)=0:=by decide +kernel
theorem dN_big:∀n,n<13->5<=n->∀i,i<n->i≠n / 2->dN n i*dN n i<dN n (n / 2)*dN n (n / 2):=by decide +kernel
theorem tqf_0 {n:Nat} {r0 r1 off:Int} {i:Nat} (E:i<n):tqf (finL n r0 r1 off) 1 i 0=1:=by unfold tqf;rw [qdn E];rfl
theorem tqf_1 {n:Nat} {r0 r1 off:Int} {i:Nat} (E:i<n):tqf (finL n r0 r1 off) 1 i 1=tt i:=by
 unfold tqf;rw [qdn E]
 show (((500*(i:Int):Int)):Rat) / 10000=tt i
 unfold tt;rw [Rat.intCast_mul,show (((i:Nat):Int):Rat)=((i:Nat):Rat) from rfl,show ((500:Int):Rat)=500 from rfl];generalize ((i:Nat):Rat)=x
 grind
def fA (r1:Int):Rat:=((5000+r1:Int):Rat) / 100
def fB (r0:Int):Rat:=((r0*20:Int):Rat) / 100
def fF (off:Int):Rat:=(off:Rat) / 100
theorem lab_0 {n:Nat} {r0 r1 off:Int} {i:Nat} (E:i<n):labq (finL n r0 r1 off) 0 i=fA r1+fB r0*tt i+fF off*(if i=n / 2 then 1 else 0):=by
 unfold labq;rw [qdn E]
 show ((5000+r0*i+r1+(if i=n / 2 then off else 0):Int):Rat) / 100=_
 unfold fA fB fF tt;rw [Rat.intCast_add,Rat.intCast_add,Rat.intCast_add,Rat.intCast_mul,Rat.intCast_add,Rat.intCast_mul,show (((i:Nat):Int):Rat)=((i:Nat):Rat) from rfl,show ((20:Int):Rat)=20 from rfl];generalize ((i:Nat):Rat)=x;generalize ((5000:Int):Rat)=y;split
 ·grind
 ·rw [show ((0:Int):Rat)=0 from rfl];grind
theorem lab_c {n:Nat} {r0 r1 off:Int} {i c:Nat} (F:i<n) (E:c≠0):labq (finL n r0 r1 off) c i=0:=by
 unfold labq;rw [qdn F];have:(finP n r0 r1 off i).lab c=0:=by unfold Pt.lab finP;rw [if_neg E];simp
 rw [this,show ((0:Int):Rat)=0 from rfl];grind
def fX1 (n:Nat) (r0 r1 off:Int) (c j:Nat):Rat:=if c=0 then (if j=0 then fA r1+fF off*uN n else fB r0+fF off*vN n) else 0
def fX2 (r0 r1:Int) (c j:Nat):Rat:=if c=0 then (if j=0 then fA r1 else fB r0) else 0
theorem sum2 (f:Nat->Rat):sumQ 2 f=0+f 0+f 1:=rfl
theorem res_1 {n:Nat} {r0 r1 off:Int} {i c:Nat} (E:i<n):resR 2 (tqf (finL n r0 r1 off) 1) (labq (finL n r0 r1 off) c) (fX1 n r0 r1 off c) i=if c=0 then fF off*dN n i else 0:=by
 unfold resR;rw [sum2,tqf_0 E,tqf_1 E]
 by_cases F:c=0
 ·subst F;rw [lab_0 E];unfold fX1 dN;simp only [if_true];rw [if_neg (by decide:¬(1:Nat)=0)];generalize (if i=n / 2 then (1:Rat) else 0)=d
  grind
 ·rw [lab_c E F];unfold fX1;simp only [if_neg F];grind
theorem res_2 {n:Nat} {r0 r1 off:Int} {i c:Nat} (E:i<n):resR 2 (tqf (finL n r0 r1 off) 1) (labq (finL n r0 r1 off) c) (fX2 r0 r1 c) i=if c=0 then-(fF off*(if i=n / 2 then 1 else 0)) else 0:=by
 unfold resR;rw [sum2,tqf_0 E,tqf_1 E]
 by_cases F:c=0
 ·subst F;rw [lab_0 E];unfold fX2;simp only [if_true];rw [if_neg (by decide:¬(1:Nat)=0)];generalize (if i=n / 2 then (1:Rat) else 0)=d
  grind
 ·rw [lab_c E F];unfold fX2;simp only [if_neg F];grind
theorem qdW {n:Nat} {r0 r1 off:Int} (h:5<=n):many 1 (chans (finL n r0 r1 off))=2:=by rw [qgG h];rfl
theorem qjs {n:Nat} {r0 r1 off:Int} (h:5<=n) {X:Nat->Nat->Rat} {i:Nat} {q:Rat} (E:∀c,resR 2 (tqf (finL n r0 r1 off) 1) (labq (finL n r0 r1 off) c) (X c) i=if c=0 then q else 0):sqq (mdq 1 (chans (finL n r0 r1 off)) (many 1 (chans (finL n r0 r1 off))) X) (finL n r0 r1 off) 1 i=q*q:=by
 rw [sqq_rr];have e:∀c,rr (finL n r0 r1 off) 1 X c i=if c=0 then q else 0:=fun c=>by
  rw [<-E c];unfold rr resR;rw [qdW h]
 show 0+rr _ 1 X 0 i*rr _ 1 X 0 i+rr _ 1 X 1 i*rr _ 1 X 1 i+rr _ 1 X 2 i*rr _ 1 X 2 i=q*q
 rw [e 0,e 1,e 2];simp;grind
def finB (n:Nat) (off:Int):List Nat:=if off=0 then List.range (n-1) else (List.range n).filter fun i=>decide (i≠n / 2)
structure FinLaw (n:Nat) (r0 r1 off:Int):Prop where
 ok:PtsOk (finL n r0 r1 off)
 n1:¬Sing (many 1 (chans (finL n r0 r1 off))) (nq (finL n r0 r1 off) 1 (keepW (List.range n) n) 0)
 x1:∀c,c<3->FitX (finL n r0 r1 off) 1 (keepW (List.range n) n) c (fX1 n r0 r1 off c)
 b1:bestL (sqq (mdq 1 (chans (finL n r0 r1 off)) (many 1 (chans (finL n r0 r1 off))) (fX1 n r0 r1 off)) (finL n r0 r1 off) 1) n (n-1)=finB n off
 n2:¬Sing (many 1 (chans (finL n r0 r1 off))) (nq (finL n r0 r1 off) 1 (keepW (finB n off) n) 0)
 x2:∀c,c<3->FitX (finL n r0 r1 off) 1 (keepW (finB n off) n) c (fX2 r0 r1 c)
 b2:bestL (sqq (mdq 1 (chans (finL n r0 r1 off)) (many 1 (chans (finL n r0 r1 off))) (fX2 r0 r1)) (finL n r0 r1 off) 1) n (n-1)=finB n off
theorem qgt {K:List Nat} {R i:Nat} (E:i<R):wq (keepW K R) i=if i∈K then 1 else 0:=by
 unfold wq;rw [qjB E];split <;> rfl
theorem qk9 {n:Nat} {r0 r1 off:Int} (h:5<=n) {K:List Nat} {i i' c:Nat} (G:i<n) (E:i'<n) (I:i∈K) (F:i'∈K) (hne:i≠i'):¬Sing (many 1 (chans (finL n r0 r1 off))) (nq (finL n r0 r1 off) 1 (keepW K n) c):=by
 rw [qdW h];unfold nq;rw [qdW h,qcm];refine qlQ (i:=i) (i':=i') (fun j H=>by rw [qgt H];split <;> decide) G E (by rw [qgt G,if_pos I];decide) (by rw [qgt E,if_pos F];decide) (fun j H=>tqf_0 H) ?_;rw [tqf_1 G,tqf_1 E];unfold tt;intro e;apply hne;have:((i:Nat):Rat)=((i':Nat):Rat):=by grind
 exact_mod_cast this
theorem qfT {n k:Nat} {i:Nat}:i∈(List.range n).filter (fun i=>decide (i≠k))↔i<n/\i≠k:=by
 rw [List.mem_filter,qar,decide_eq_true_iff]
theorem qhj {n:Nat} {off:Int} (h:5<=n):(finB n off).length=n-1:=by
 unfold finB;split
 ·rw [qbo]
 ·have:=qeJ (s:=fun i=>if i=n / 2 then 1 else 0) (n:=n) (k:=n / 2) (by omega) (fun i _ hne=>by simp only [if_neg hne,if_true];decide);rw [<-this,qkQ (by omega)]
theorem qk8 {n:Nat} {r0 r1 off:Int} (F:5<=n) (Y:n<=12) (ae:-128<=r0/\r0<=127) (af:-128<=r1/\r1<=127) (aa:-2560<=off/\off<=2540):FinLaw n r0 r1 off where
 ok:={
  r1:=by rw [qcm];omega
  r2:=by rw [qcm];omega
  rows:=fun i E=>by
   rw [qcm] at E;rw [qdn E,qgG F];refine⟨⟨⟨show 1<=1 by decide,show 1<=12 by decide,fun k J=>?_⟩,show 1<=1 by decide,show 1<=4 by decide,fun k J=>?_,?_,by show -12800<=(0:Int)/\(0:Int)<=12700;decide,by show -12800<=(0:Int)/\(0:Int)<=12700;decide⟩,rfl⟩
   ·obtain rfl:k=0:=by have:k<1:=J;omega
    show qcZ (UInt8.ofNat (97+i))=true
    rcases (show i=0\/i=1\/i=2\/i=3\/i=4\/i=5\/i=6\/i=7\/i=8\/i=9\/i=10\/i=11 by omega) with rfl | rfl | rfl | rfl | rfl | rfl | rfl | rfl | rfl | rfl | rfl | rfl <;> decide
   ·obtain rfl:k=0:=by have:k<1:=J;omega
    show 0<=500*(i:Int)/\500*(i:Int)<=10000
    omega
   ·have hm:(r0*(i:Int)).natAbs<=128*11:=by
     rw [qaB,qaq];exact Nat.mul_le_mul (by omega) (by omega)
    show 0<=5000+r0*i+r1+(if i=n / 2 then off else 0)/\5000+r0*i+r1+(if i=n / 2 then off else 0)<=10000
    generalize r0*(i:Int)=z at *;split <;> omega
  apart:=fun i k J E e=>by
   rw [qcm] at E;rw [qdn E,qdn (Nat.lt_trans J E)] at e;have O:UInt8.ofNat (97+k)=UInt8.ofNat (97+i):=by
    have U:(⟨#[UInt8.ofNat (97+k)]⟩:ByteArray)=⟨#[UInt8.ofNat (97+i)]⟩:=e;injection U with U;have:=congrArg (fun a:Array UInt8=>a.getD 0 0) U
    simpa using this
   have:=congrArg UInt8.toNat O;simp at this;omega }
 n1:=qk9 F (i:=0) (i':=1) (by omega) (by omega) (qar.2 (by omega)) (qar.2 (by omega)) (by decide)
 x1:=fun c hc=>by
  unfold FitX nq;rw [qdW F,qcm];refine qg5 fun r hr=>?_
  have e:sumQ n (fun i=>wq (keepW (List.range n) n) i*(tqf (finL n r0 r1 off) 1 i r*resR 2 (tqf (finL n r0 r1 off) 1) (labq (finL n r0 r1 off) c) (fX1 n r0 r1 off c) i))=sumQ n fun i=>(if c=0 then fF off else 0)*((if r=0 then 1 else tt i)*dN n i):=qbS fun i E=>by
   rw [qgt E,if_pos (qar.2 E),res_1 E];rcases (show r=0\/r=1 by omega) with rfl | rfl
   ·rw [tqf_0 E,if_pos rfl];split <;> grind
   ·rw [tqf_1 E,if_neg (by decide:¬(1:Nat)=0)];split <;> grind
  rw [e,qb3];have V:=dN_orth n (by omega) F;rcases (show r=0\/r=1 by omega) with rfl | rfl
  ·rw [qbS (g:=dN n) fun i _=>by rw [if_pos rfl];grind,V.1];grind
  ·rw [qbS (g:=fun i=>tt i*dN n i) fun i _=>by rw [if_neg (by decide)],V.2];grind
 b1:=by
  have G:∀i,i<n->sqq (mdq 1 (chans (finL n r0 r1 off)) (many 1 (chans (finL n r0 r1 off))) (fX1 n r0 r1 off)) (finL n r0 r1 off) 1 i=fF off*dN n i*(fF off*dN n i):=fun i E=>qjs F fun c=>res_1 E
  unfold finB;split
  ·rename_i e;refine qhK _ (by omega) fun i E=>?_
   rw [G i E,e]
   show fF 0*_*_=0
   unfold fF;rw [show ((0:Int):Rat)=0 from rfl];grind
  ·rename_i e;refine qeJ (by omega) fun i E hne=>?_
   rw [G i E,G _ (by omega)];have hb:=dN_big n (by omega) F i E hne;have Z:fF off≠0:=by
    unfold fF;intro O;apply e;have:((off:Int):Rat)=0:=by grind
    exact_mod_cast this
   have H:0<fF off*fF off:=by
    rcases (show fF off<0\/0<fF off by grind) with h | h
    ·have:=Rat.mul_pos (a:=- fF off) (b:=- fF off) (by grind) (by grind);grind
    ·exact Rat.mul_pos h h
   have:=Rat.mul_pos H (show 0<dN n (n / 2)*dN n (n / 2)-dN n i*dN n i by grind)
   grind
 n2:=by
  by_cases e:off=0
  ·have:finB n off=List.range (n-1):=by unfold finB;rw [if_pos e]
   rw [this];exact qk9 F (i:=0) (i':=1) (by omega) (by omega) (qar.2 (by omega)) (qar.2 (by omega)) (by decide)
  ·have:finB n off=(List.range n).filter fun i=>decide (i≠n / 2):=by unfold finB;rw [if_neg e]
   rw [this];exact qk9 F (i:=0) (i':=1) (by omega) (by omega) (qfT.2 ⟨by omega,by omega⟩) (qfT.2 ⟨by omega,by omega⟩) (by decide)
 x2:=fun c hc=>by
  unfold FitX nq;rw [qdW F,qcm];refine qhi fun i E=>?_
  rw [qgt E,res_2 E]
  by_cases e:off=0
  ·right;rw [e];unfold fF;rw [show ((0:Int):Rat)=0 from rfl];split <;> grind
  ·by_cases I:i=n / 2
   ·left
    have:finB n off=(List.range n).filter fun i=>decide (i≠n / 2):=by unfold finB;rw [if_neg e]
    rw [this,if_neg fun h=>(qfT.1 h).2 I]
   ·right;rw [if_neg I];split <;> grind
 b2:=by
  have G:∀i,i<n->sqq (mdq 1 (chans (finL n r0 r1 off)) (many 1 (chans (finL n r0 r1 off))) (fX2 r0 r1)) (finL n r0 r1 off) 1 i = -(fF off*(if i=n / 2 then 1 else 0)) * -(fF off*(if i=n / 2 then 1 else 0)):=fun i E=>qjs F fun c=>res_2 E
  unfold finB;split
  ·rename_i e;refine qhK _ (by omega) fun i E=>?_
   rw [G i E,e];unfold fF;rw [show ((0:Int):Rat)=0 from rfl];grind
  ·rename_i e;refine qeJ (by omega) fun i E hne=>?_
   rw [G i E,G _ (by omega),if_neg hne,if_pos rfl];have Z:fF off≠0:=by
    unfold fF;intro O;apply e;have:((off:Int):Rat)=0:=by grind
    exact_mod_cast this
   have H:0<fF off*fF off:=by
    rcases (show fF off<0\/0<fF off by grind) with h | h
    ·have:=Rat.mul_pos (a:=- fF off) (b:=- fF off) (by grind) (by grind);grind
    ·exact Rat.mul_pos h h
   grind
open Go.RowKit
theorem qg2 {p q:Rat} {N M:Nat} (h:Rb p N) (k:Rb q M):Rb (p*q) (N*M) :=
 ((rb_cd h).mul (rb_cd k) p.den_nz q.den_nz).rb (Nat.mul_ne_zero p.den_nz q.den_nz) qN (Nat.mul_le_mul h.2 k.2)
theorem ql1 {p q:Rat} {N M:Nat} (h:Rb p N) (k:Rb q M):Rb (p+q) (2*(N*M)):=by
 have F:=(rb_cd h).up q.den p.den_nz q.den_nz;have E:=(rb_cd k).up p.den q.den_nz p.den_nz;rw [qaF q.den] at E;have G:N*q.den<=N*M:=qaM _ k.2;have H:M*p.den<=N*M:=by rw [qaF N];exact qaM _ h.2
 have I:p.den*q.den<=N*M:=Nat.mul_le_mul h.2 k.2;exact (F.add E).rb (Nat.mul_ne_zero p.den_nz q.den_nz) (by omega) (by omega)
theorem rb_neg {p:Rat} {N:Nat} (h:Rb p N):Rb (-p) N:=⟨by show (-p.num).natAbs<=N;rw [qby];exact h.1,h.2⟩
theorem uN_rb:∀n,n<13->5<=n->Rb (uN n) 1000000/\Rb (vN n) 1000000:=by unfold Rb;decide +kernel
theorem dN_rb:∀n,n<13->5<=n->∀i,i<n->Rb (dN n i) 1000000:=by unfold Rb;decide +kernel
theorem fF_rb {off:Int} (h:-2560<=off/\off<=2540):Rb (fF off) 10000:=qgc (p:=off) (z:=100) (by decide) (by omega) (by decide) rfl
theorem fA_rb {r1:Int} (h:-128<=r1/\r1<=127):Rb (fA r1) 10000:=qgc (p:=5000+r1) (z:=100) (by decide) (by omega) (by decide) rfl
theorem fB_rb {r0:Int} (h:-128<=r0/\r0<=127):Rb (fB r0) 10000:=qgc (p:=r0*20) (z:=100) (by decide) (by omega) (by decide) rfl
theorem qha:Short (0:Rat):=qcw (N:=1) ⟨by decide,by decide⟩ (by decide +kernel)
theorem finB_no {n:Nat} {off:Int} (h:off≠0):n / 2∉finB n off:=by
 unfold finB;rw [if_neg h];intro E;have:=(List.mem_filter.1 E).2;simp at this
theorem qlr:∀n,n<13->5<=n->keepN n (100 / n+1)=n-1:=by decide
structure FinRun (n:Nat) (r0 r1 off:Int):Prop where
 run:∀q,Runs (finL n r0 r1 off) 1 (n-1) (q+1) (finB n off) (fX2 r0 r1)
 no:∀c,¬RunF (finL n r0 r1 off) 1 (n-1) 3 c
theorem fin_run {n:Nat} {r0 r1 off:Int} (J:5<=n) (aa:n<=12) (G:-128<=r0/\r0<=127) (I:-128<=r1/\r1<=127) (V:-2560<=off/\off<=2540):FinRun n r0 r1 off:=by
 have H:=qk8 J aa G I V;have F:=qcm n r0 r1 off;have hm:many 1 (chans (finL n r0 r1 off))=2:=qdW J;obtain⟨hu,hv⟩:=uN_rb n (by omega) J;have Z:=fF_rb V;have f1:KFit (finL n r0 r1 off) 1 (List.range n) (fX1 n r0 r1 off):=by
  unfold KFit;rw [F];exact⟨H.n1,H.x1⟩
 have f2:KFit (finL n r0 r1 off) 1 (finB n off) (fX2 r0 r1):=by
  unfold KFit;rw [F];exact⟨H.n2,H.x2⟩
 have Y:Runs (finL n r0 r1 off) 1 (n-1) 0 (List.range n) (fX1 n r0 r1 off):=⟨by rw [F],f1⟩;have af:Runs (finL n r0 r1 off) 1 (n-1) 1 (finB n off) (fX2 r0 r1):=⟨_,_,Y,by unfold nextK;rw [F];exact H.b1.symm,f2⟩;have ae:nextK (finL n r0 r1 off) 1 (n-1) (mdX (finL n r0 r1 off) 1 (fX2 r0 r1))=finB n off:=by unfold nextK;rw [F];exact H.b2
 have E:∀q,Runs (finL n r0 r1 off) 1 (n-1) (q+1) (finB n off) (fX2 r0 r1):=fun q=>by
  have:=af.stay ae q
  rwa [Nat.add_comm] at this
 have s1:∀c,c<3->qbQ (many 1 (chans (finL n r0 r1 off))) (fX1 n r0 r1 off c):=fun c _ j hj=>by
  unfold fX1;split
  ·split
   ·exact qcw (ql1 (fA_rb I) (qg2 Z hu)) (by decide +kernel)
   ·exact qcw (ql1 (fB_rb G) (qg2 Z hv)) (by decide +kernel)
  ·exact qha
 have s2:∀c,c<3->qbQ (many 1 (chans (finL n r0 r1 off))) (fX2 r0 r1 c):=fun c _ j hj=>by
  unfold fX2;split
  ·split
   ·exact qcw (fA_rb I) (by decide +kernel)
   ·exact qcw (fB_rb G) (by decide +kernel)
  ·exact qha
 have q1:qbQ (finL n r0 r1 off).length (sqq (mdX (finL n r0 r1 off) 1 (fX1 n r0 r1 off)) (finL n r0 r1 off) 1):=fun i O=>by
  rw [F] at O;have:=qjs (n:=n) (r0:=r0) (r1:=r1) (off:=off) (X:=fX1 n r0 r1 off) (i:=i) J fun c=>res_1 (c:=c) O
  unfold mdX;rw [this];have U:=qg2 Z (dN_rb n (by omega) J i O);exact qcw (qg2 U U) (by decide +kernel)
 have q2:qbQ (finL n r0 r1 off).length (sqq (mdX (finL n r0 r1 off) 1 (fX2 r0 r1)) (finL n r0 r1 off) 1):=fun i O=>by
  rw [F] at O;have:=qjs (n:=n) (r0:=r0) (r1:=r1) (off:=off) (X:=fX2 r0 r1) (i:=i) J fun c=>res_2 (c:=c) O
  unfold mdX;rw [this];have hx:Rb (if i=n / 2 then (1:Rat) else 0) 1:=by split <;> exact⟨by decide,by decide⟩
  have U:=rb_neg (qg2 Z hx);exact qcw (qg2 U U) (by decide +kernel)
 refine⟨E,fun c=>RunF.not H.ok (by decide) (fun e=>absurd e.1 (by decide)) fun p hp=>?_⟩;cases p with
 | zero=>exact⟨_,_,Y,s1,fun _=>q1⟩
 | succ q=>exact⟨_,_,E q,s2,fun _=>q2⟩
open Go.Proofs.Tryz
theorem index_no (b n c:Nat) (F:List Int) (x:Int) (w:World) (J:F.length=n) (Z:n<=1000) (hN:NCells w (some ⟨b,0,none⟩) b 0 F) (O:∀k,k<n->x≠F.getD k 0) :
  Calls prog 76 #[.slice (some ⟨b,0,none⟩) n c,.int .i64 x] w fun e w'=>e=.returned (.int .i64 (-1))/\Below w.heap.size w w':=by
 have H:=qH (qA hN (qA J O));clear hN J O;go_enter func76,ntmps76;go_wp2_with fail
 go_loopw [8] (fun x8 W=>∃k:Nat,x8=.int .i64 (k:Int)/\k<=n/\Hu (Below w.heap.size w W)) (fun x8 _=>n-(intOf x8).toNat)
 case atStart=>exact⟨0,rfl,qan _,qH qB⟩
 case round =>
  obtain⟨k,rfl,hk,G⟩:=hrel
  by_cases E:k<n
  ·have Y:(k:Int)<(n:Int):=by omega
   have I:=(H.o.1.below G.o).cell k (by rw [H.o.2.1];exact E);have hne:=H.o.2.2 k E;obtain⟨z,U⟩:=qX (F.getD k 0);rw [U] at I hne;rw [qaL] at I;clear U;go_wp2;go_roundw
   case rel=>exact⟨k+1,by go_num,E,G⟩
   case measure=>simp [intOf];omega
  ·obtain rfl:k=n:=by omega
   have V:¬(k:Int)<(k:Int):=by omega
   go_wp2;go_ret;exact⟨rfl,G.o⟩
theorem qiK (b n c:Nat) (F:List Int) (x:Int) (w:World) (I:F.length=n) (E:n<=1000) (hN:NCells w (some ⟨b,0,none⟩) b 0 F) (J:∀k,k<n->x≠F.getD k 0) :
  Calls prog 32 #[.slice (some ⟨b,0,none⟩) n c,.int .i64 x] w fun e U=>e=.returned (.bool false)/\Below w.heap.size w U:=by
 have G:=qH (index_no b n c F x w I E hN J);clear I E hN J;go_enter func32,ntmps32;go_wp2_with fail;refine G.o.mono ?_;rintro e V ⟨rfl,H⟩;have O:=qH H;clear H G;go_wp2;go_ret;exact⟨rfl,O.o⟩
theorem finL_set {n:Nat} {r0 r1 off z:Int} (G:5<=n) (F:((finL n r0 r1 0).getD (n / 2) pt0).l0+off=z) :
  (finL n r0 r1 0).set (n / 2) ⟨((finL n r0 r1 0).getD (n / 2) pt0).name,((finL n r0 r1 0).getD (n / 2) pt0).dev,z,((finL n r0 r1 0).getD (n / 2) pt0).l1,((finL n r0 r1 0).getD (n / 2) pt0).l2⟩=finL n r0 r1 off:=by
 subst F;refine List.ext_getElem? fun j=>?_
 rw [List.getElem?_set,qcm,qdn (by omega)];unfold finL;rw [qaE,qaE]
 by_cases e:n / 2=j
 ·subst e;rw [if_pos rfl,if_pos (by omega),qbE (by omega)]
  show some _=some _
  unfold finP;simp
 ·rw [if_neg e]
  by_cases E:j<n
  ·rw [qbE E]
   show some _=some _
   unfold finP;rw [if_neg fun h=>e h.symm,if_neg fun h=>e h.symm]
  ·rw [qaS (by rw [qbo];omega)];rfl
theorem qk7 (n:Nat) (r0 r1:Int) (i:Nat):finP n r0 r1 0 i=⟨⟨#[UInt8.ofNat (97+i)]⟩,[500*(i:Int)],5000+r0*i+r1,0,0⟩:=by
 unfold finP;simp
theorem qgf (nn:Nat) (r0 r1 fr:Int) (w0:World) (bU:nn<256) (aU:-128<=r0/\r0<=127) (aV:-128<=r1/\r1<=127) (bT:-128<=fr/\fr<=127) (hT:HasT w0) :
  Calls prog 9 #[.int .u8 (nn:Int),.agg #[.int .i8 r0,.int .i8 r1],.int .i8 fr] w0 fun e w'=>e=.returned (.bool true)/\Below w0.heap.size w0 w':=by
 obtain⟨W1,aD,K1⟩:=nw1 w0 #[.int .i8 r0,.int .i8 r1] 75;have H0:=qH hT;clear hT;go_enter func9,ntmps9;go_upto_region 1 with fail;rw [<-aD];clear aD;go_wp2_with fail;refine (qkI W1 (H0.o.below K1.o.1)).mono ?_;rintro e G ⟨rfl,hb⟩;have Z:=K1.below hb;clear hb K1;obtain⟨x,hx⟩:=qX (nn % 8);have bF:(nn:Int) % 8=(x:Int):=by omega
 have bW:x<8:=by omega
 obtain⟨n,hn⟩:=qX (5+x);have bG:(5:Int)+(x:Int)=(n:Int):=by omega
 have H:5<=n/\n<=12:=by omega
 obtain⟨off,ho⟩:∃z,fr*20=z:=⟨_,rfl⟩;have aT:-2560<=off/\off<=2540:=by omega
 have HR:=qH (fin_run H.1 H.2 aU aV aT);have HL:=qH (qk8 H.1 H.2 aU aV aT);clear hn hx;go_wp2_with fail;clear bF bG ho
 go_loopw [9,29] (fun x9 x29 W=>∃i:Nat,x29=.int .i64 (i:Int)/\i<=n/\Kn (fun W=>Below G.heap.size G W/\PaOwn W G.heap.size x9 ((List.range i).map (finP n r0 r1 0))) W) (fun _ x29 _=>n-(intOf x29).toNat)
 case atStart=>exact⟨0,rfl,qan _,.of ⟨Below.refl _ _,PaOwn.nil _ _⟩⟩
 case round =>
  obtain⟨i,rfl,hi,K3⟩:=hrel;obtain⟨va,vc,bN⟩:=K3.o.2.shape (m:=i) (by simp);subst bN
  by_cases bA:i<n
  case pos =>
   have bz:(i:Int)<(n:Int):=by omega
   obtain⟨z,hz⟩:=qX (r0*(i:Int));have bY:-1408<=z/\z<=1408:=by
    have h1:(r0*(i:Int)).natAbs<=128*11:=by
     rw [qaB,qaq];exact Nat.mul_le_mul (by omega) (by omega)
    rw [hz] at h1;omega
   obtain⟨y,hy⟩:=qX (500*(i:Int));have bX:0<=y/\y<=6000:=by omega
   obtain⟨E,av⟩:∃c:Nat,97+i=c:=⟨_,rfl⟩;have bu:(97:Int)+(i:Int)=(E:Int):=by omega
   have bS:97<=E/\E<=109:=by omega
   have h1:∀W,(convert 21 9 (.int .i32 (E:Int))).run prog W=.ok (.string ⟨#[UInt8.ofNat E]⟩) W:=by
    rcases (show E=97\/E=98\/E=99\/E=100\/E=101\/E=102\/E=103\/E=104\/E=105\/E=106\/E=107\/E=108\/E=109 by omega) with h | h | h | h | h | h | h | h | h | h | h | h | h <;> (clear bu av;subst h;intro W;kernel_rfl)
   have ag:finP n r0 r1 0 i=⟨⟨#[UInt8.ofNat E]⟩,[y],5000+z+r1,0,0⟩:=by rw [qk7,av,hy,hz]
   obtain⟨lab,aR⟩:∃q,5000+z+r1=q:=⟨_,rfl⟩;have bg:=qH (aR▸ag);have H3:Kn (fun W=>(Below G.heap.size G W/\PaOwn W G.heap.size (.slice va i vc) ((List.range i).map (finP n r0 r1 0)))/\IOwn W wr.heap.size (.slice (some ⟨wr.heap.size,0,none⟩) 1 1) [y]) (wr.alloc (.cells #[.int .i64 y] 3)):=K3.on (qbM (Below.refl _ wr) qN) (qeE (cs:=#[.int .i64 y]) (heap_alloc_new wr _) qN rfl (by decide));have HQ:Hu (∀q,(Value.slice va i vc).ownBlock=some q->G.heap.size<=q):=qH fun q hq=>by obtain⟨vs,h1,_⟩:=K3.o.2;exact (h1.lt q hq).1
   have aX:G.heap.size<=(wr.alloc (.cells #[.int .i64 y] 3)).heap.size:=H3.o.1.1.size;have bR:G.heap.size<=wr.heap.size:=K3.o.1.size;have bn:=qH (show wr.heap.size+1=(wr.alloc (.cells #[.int .i64 y] 3)).heap.size by simp only [qaa]);have bi:Hu (((List.range i).map (finP n r0 r1 0)).length=i):=qH (by simp);have c0:=qC _ _ 0 _ _ _ (Z.below H3.o.1.1).o.2;have c1:=qC _ _ 1 _ _ _ (Z.below H3.o.1.1).o.2;clear ag av
   go_wp2_with (first | (at_builtin;refine qcO rfl _ _ rfl (p:=⟨⟨#[UInt8.ofNat E]⟩,[y],lab,0,0⟩) (Bd:=wr.heap.size) H3.o.1.2 H3.o.2 aX rfl rfl bn.o (show ((List.range i).map (finP n r0 r1 0)).length<1000000 by rw [bi.o];omega) rfl rfl rfl rfl rfl ?_;intro v' w' aS aM;obtain⟨bZ,cu,aY⟩:=(Hu.o aS).shape (m:=i+1) (by simp);subst aY;have bf:Hu (Below G.heap.size G w'):=qH (qdf (B:=G.heap.size) (qbM H3.o.1.1 qN) HQ.o (by simp only [qaa];omega) aM.o);clear aM) | fail)
   go_roundw
   case rel=>exact⟨i+1,by go_num,bA,.of ⟨bf.o,by rw [List.range_succ,qbc,List.map_cons,List.map_nil,bg.o];exact aS.o⟩⟩
   case measure=>simp [intOf];omega
  obtain rfl:n=i:=by omega
  have bz:¬(n:Int)<(n:Int):=by omega
  have aL:(List.range n).map (finP n r0 r1 0)=finL n r0 r1 0:=rfl;rw [aL] at K3;obtain⟨k,hk⟩:=qX (n / 2);have bB:(n:Int).tdiv 2=(k:Int):=by rw [Int.tdiv_eq_ediv_of_nonneg (by omega)];omega
  have bC:(n:Int) / 2=(k:Int):=by omega
  have aN:k<n:=by omega
  have bD:(k:Int)<(n:Int):=by omega
  obtain⟨l0,O⟩:∃q,((finL n r0 r1 0).getD k pt0).l0=q:=⟨_,rfl⟩;have bE:3000<=l0/\l0<=7000:=by
   rw [qdn aN,qk7] at O;have aQ:5000+r0*(k:Int)+r1=l0:=O;have h1:(r0*(k:Int)).natAbs<=128*11:=by
    rw [qaB,qaq];exact Nat.mul_le_mul (by omega) (by omega)
   generalize r0*(k:Int)=z at aQ h1;omega
  obtain⟨z2,aZ⟩:∃z,l0+off=z:=⟨_,rfl⟩;obtain⟨g,c,e1,aB,⟨hc,hf⟩,U⟩:=PaOwn.set0 K3.o.2 (k:=k) (by rw [qcm];exact aN) z2;rw [qcm] at e1;simp only [qbw] at e1;obtain⟨rfl,_,rfl⟩:=e1;have ax:=finL_set (n:=n) (r0:=r0) (r1:=r1) (off:=off) (z:=z2) H.1 (by rw [hk,O];exact aZ);rw [hk] at ax;rw [ax] at U;rw [O] at hc;clear O ax aL;obtain⟨WA,ae⟩:∃W,W=(wr.setCell ⟨g,k*5+2,none⟩ (.int .i64 z2)).drew:=⟨_,rfl⟩;have KA:Kn (fun W=>Below G.heap.size G W/\PaOwn W G.heap.size (.slice (some ⟨g,0,none⟩) n vc) (finL n r0 r1 off)) WA:=.of ⟨ae▸(K3.o.1.setCell (p:=⟨g,k*5+2,none⟩) aB _).drew,ae▸U.below qB.drew⟩;have HK:=qH hk;clear U K3 hk;go_wp2_with fail
  go_region
  rw [<-ae];clear ae hc hf aZ aB bB bC bD bE;obtain⟨q,hq⟩:=qX (100 / n);have bJ:(100:Int).tdiv (n:Int)=(q:Int):=by
   rw [Int.tdiv_eq_ediv_of_nonneg (by omega),<-hq];rfl
  have bK:(100:Int) / (n:Int)=(q:Int):=by rw [<-hq];rfl
  have bV:q<=20:=by
   rw [<-hq];exact qak (Nat.div_le_div_left H.1 (by decide)) (by decide)
  obtain⟨d,hd⟩:=qX (q+1);have bv:(q:Int)+1=(d:Int):=by omega
  have aO:keepN n d=n-1:=by rw [<-hd,<-hq];exact qlr n (by omega) H.1
  obtain⟨kn,ah⟩:∃z,n-1=z:=⟨_,rfl⟩;have bQ:(n:Int)-1=(kn:Int):=by omega
  have aC:PCells WA (some ⟨g,0,none⟩) g 0 (finL n r0 r1 off):=by
   obtain⟨g',c',e1,h2⟩:=KA.o.2.cells (by rw [qcm];omega) (fun j hj=>by rw [qcm] at hj;rw [qdn hj];exact Nat.zero_lt_one);obtain rfl:g=g':=by injection e1 with e1;injection e1 with e1;injection e1
   exact h2
  have HF:=qH (qge n g 0 vc 1 (d:Int) 3 (some ⟨g,0,none⟩) (finL n r0 r1 off) WA (qcm _ _ _ _) (by omega) (fun _=>by omega) (qim HL.o.ok (qcm _ _ _ _)) aC (H0.o.below (Z.below KA.o.1).o.1));have HD:=qH (qA aO (qA ah (show d<=50 by omega)));clear aC aO ah hq hd;go_wp2_with fail;refine HF.o.mono ?_;intro e wB hA;have aA:=RFAs.only (k:=1) (d:=d) (p:=3) (K:=finB n off) (X:=fX2 r0 r1) hA HL.o.ok (by decide) HD.o.2.2 (by decide) (by rw [qcm,HD.o.1];exact HR.o.run 2) (by rw [qcm,HD.o.1];exact HR.o.no);rw [qhj H.1,HD.o.2.1] at aA;obtain⟨aI,v,gk,rfl,hN,hM⟩:=aA;have KB:Kn (fun W=>(Below G.heap.size G W/\NatR W WA.heap.size gk kn kn (finB n off))/\MdAt W v (mdX (finL n r0 r1 off) 1 (fX2 r0 r1))) wB:=.of ⟨⟨(KA.o.1.trans (aI.mono KA.o.1.size)),hN⟩,hM⟩;clear hA hN aI HF KA;obtain⟨k5,i5,A0,A1,A2,L0,C0,L1,C1,L2,C2,rfl⟩:=hM.five;obtain⟨WC,aF,NC⟩:=nw1 wB #[.int .i64 k5,.int .i64 i5,.slice A0 L0 C0,.slice A1 L1 C1,.slice A2 L2 C2] 46;have KC:=(KB.below NC.o.1).also (q:=fun W=>W.heap[wB.heap.size]? = some (.cells #[.int .i64 k5,.int .i64 i5,.slice A0 L0 C0,.slice A1 L1 C1,.slice A2 L2 C2] 46 (0,0))) NC.o.2;clear hM NC KB
  go_upto_region 14 with (first | ((with_reducible refine qb8 rfl 46 _ _ rfl #[.int .i64 0,.int .i64 0,.slice none 0 0,.slice none 0 0,.slice none 0 0] #[.int .i64 k5,.int .i64 i5,.slice A0 L0 C0,.slice A1 L1 C1,.slice A2 L2 C2] ?_ ?_ 5 ?_ ?_ ?_ ?_ ?_);(next=>rfl);(next=>rfl);(next=>kernel_rfl);(next=>rfl);(next=>rfl);(next=>rfl)) | fail)
  rw [<-aF];clear aF bJ bK bv;have F:=(Z.below KC.o.1.1.1).o.2;have c0:=qC _ _ 0 _ _ _ F;obtain⟨s,hs⟩:=qX (r0*20);have bL:-2560<=s/\s<=2540:=by omega
  obtain⟨b1,b2,J⟩:=qcp (fB r0);have ay:=qH (show Calls prog 31 #[.int .i64 s,.int .i64 100] WC fun e w'=>e=.returned (.tuple #[.agg #[.string b1,.string b2],.int .i64 0])/\Below WC.heap.size WC w' by
   have h:=of_int s 100 (by decide) (by omega) (by decide) WC (H0.o.below (Z.below KC.o.1.1.1).o.1);have e:((s:Int):Rat) / ((100:Int):Rat)=fB r0:=by rw [<-hs];rfl
   rw [e,J] at h;exact h)
  clear F;go_wp2_with fail;refine ay.o.mono ?_;rintro e wD ⟨rfl,aJ⟩;obtain⟨WE,aG,NE⟩:=nw1 wD #[.string b1,.string b2] 27;have KE:=((KC.below aJ).below NE.o.1).also (q:=fun W=>W.heap[wD.heap.size]? = some (.cells #[.string b1,.string b2] 27 (0,0))) NE.o.2;clear aJ NE ay KC c0 hs bL
  go_upto_region 17 with (first | ((with_reducible refine qb8 rfl 27 _ _ rfl #[.string ⟨#[]⟩,.string ⟨#[]⟩] #[.string b1,.string b2] ?_ ?_ 2 ?_ ?_ ?_ ?_ ?_);(next=>rfl);(next=>rfl);(next=>kernel_rfl);(next=>rfl);(next=>rfl);(next=>rfl)) | fail)
  rw [<-aG];clear aG;have F:=(Z.below KE.o.1.1.1.1).o.2;have c1:=qC _ _ 1 _ _ _ F;obtain⟨u,hu⟩:=qX (5000+r1);have bM:4000<=u/\u<=6000:=by omega
  obtain⟨a1,a2,I⟩:=qcp (fA r1);have az:=qH (show Calls prog 31 #[.int .i64 u,.int .i64 100] WE fun e w'=>e=.returned (.tuple #[.agg #[.string a1,.string a2],.int .i64 0])/\Below WE.heap.size WE w' by
   have h:=of_int u 100 (by decide) (by omega) (by decide) WE (H0.o.below (Z.below KE.o.1.1.1.1).o.1);have e:((u:Int):Rat) / ((100:Int):Rat)=fA r1:=by rw [<-hu];rfl
   rw [e,I] at h;exact h)
  clear F;go_wp2_with fail;refine az.o.mono ?_;rintro e wF ⟨rfl,aK⟩;obtain⟨WG,aH,NG⟩:=nw1 wF #[.string a1,.string a2] 27;have V:=((KE.below aK).below NG.o.1).also (q:=fun W=>W.heap[wF.heap.size]? = some (.cells #[.string a1,.string a2] 27 (0,0))) NG.o.2;clear aK NG az KE c1 hu bM
  go_upto_region 18 with (first | ((with_reducible refine qb8 rfl 27 _ _ rfl #[.string ⟨#[]⟩,.string ⟨#[]⟩] #[.string a1,.string a2] ?_ ?_ 2 ?_ ?_ ?_ ?_ ?_);(next=>rfl);(next=>rfl);(next=>kernel_rfl);(next=>rfl);(next=>rfl);(next=>rfl)) | fail)
  rw [<-aH];clear aH;have aW:=MdAt.row0 V.o.1.1.1.2;have aj:(mdX (finL n r0 r1 off) 1 (fX2 r0 r1)).row 0=told 2 (fX2 r0 r1 0):=by
   unfold mdX;rw [qfi (by decide),qdW H.1]
  rw [aj,qbP] at aW;obtain⟨rfl,bb,ob,ak⟩:=aW;have bq:=ak.addr (by rw [qbP];decide);subst bq;have t0:(told 2 (fX2 r0 r1 0)).getD 0 fd0=(a1,a2):=I;have t1:(told 2 (fX2 r0 r1 0)).getD 1 fd0=(b1,b2):=J;have Y:=qH (qA ak (qA t0 t1));clear ak t0 t1 I J aj
  by_cases ai:off=0
  ·subst ai;have x0:=(Y.o.1.cell 0 (by rw [qbP];decide)).1;have x1:=(Y.o.1.cell 0 (by rw [qbP];decide)).2;have x2:=(Y.o.1.cell 1 (by rw [qbP];decide)).1;have x3:=(Y.o.1.cell 1 (by rw [qbP];decide)).2;rw [Y.o.2.1] at x0 x1;rw [Y.o.2.2] at x2 x3;simp only [Nat.zero_mul,qbD,qbp] at x0 x1 x2 x3;have m2:=qC _ _ 2 _ _ _ V.o.1.1.2;have p0:=qC _ _ 0 _ _ _ V.o.2;have p1:=qC _ _ 1 _ _ _ V.o.2;have bO:=qC _ _ 0 _ _ _ V.o.1.2;have bP:=qC _ _ 1 _ _ _ V.o.1.2;have bH:=fun W=>qeN a1 a2 W
   have bI:=fun W=>qeN b1 b2 W
   go_wp2_with fail
   go_quiet (fail)
   go_wp2;go_ret;exact⟨rfl,below_drewN ((Z.below V.o.1.1.1.1.1).o.1) _⟩
  ·have aP:∀j,j<kn->(k:Int)≠(natI (finB n off)).getD j 0:=fun j hj e=>by
    have af:j<(finB n off).length:=by rw [qhj H.1,HD.o.2.1];exact hj
    have e2:(finB n off)[j]? = some ((finB n off)[j]'af):=qad af;rw [qht e2] at e;have e3:k=(finB n off)[j]'af:=by omega
    exact finB_no (n:=n) ai (by rw [HK.o,e3];exact qbB af)
   have HN:=qH (qiK gk kn kn (natI (finB n off)) (k:Int) WG (by rw [qcT,qhj H.1];exact HD.o.2.1) (by omega) V.o.1.1.1.1.2.all aP);clear aP;go_wp2_with fail;refine HN.o.mono ?_;rintro e wH ⟨rfl,au⟩;have KH:=V.below au;have aa:=Y.o.1.below au;clear au V HN;have x0:=(aa.cell 0 (by rw [qbP];decide)).1;have x1:=(aa.cell 0 (by rw [qbP];decide)).2;have x2:=(aa.cell 1 (by rw [qbP];decide)).1;have x3:=(aa.cell 1 (by rw [qbP];decide)).2;rw [Y.o.2.1] at x0 x1;rw [Y.o.2.2] at x2 x3;simp only [Nat.zero_mul,qbD,qbp] at x0 x1 x2 x3;have m2:=qC _ _ 2 _ _ _ KH.o.1.1.2;have p0:=qC _ _ 0 _ _ _ KH.o.2;have p1:=qC _ _ 1 _ _ _ KH.o.2;have bO:=qC _ _ 0 _ _ _ KH.o.1.2;have bP:=qC _ _ 1 _ _ _ KH.o.1.2;have bH:=fun W=>qeN a1 a2 W
   have bI:=fun W=>qeN b1 b2 W
   go_wp2_with fail
   go_quiet (fail)
   go_wp2;go_ret;exact⟨rfl,below_drewN ((Z.below KH.o.1.1.1.1.1).o.1) _⟩
end Go.Proofs.YtjalhnlhcdfncaaGreatDoor
section
namespace Go.Proofs.YtjalhnlhcdfncaaGreatDoor
open Go.ChangeShapes Go.WideShapes Go.ChangeAt Go.RowKit Go.Proofs.Tryz
open Go.ChangeMaps (open_string shut_string)
namespace LrobustFinds
theorem lifted (os:Os) (G:os.Started) (H:Type) (enc:TypeId×Value->H) :
  ReturnsInHanded {} Tryz.checked os 9 .any (fun w args=>(Rows.robustFindsSpec.pre enc prog Tryz.f9 [] false w args/\laidMetH prog laidK w)/\sizedMet enc prog Tryz.f9 (OpenSpec.ofChange Rows.robustFindsSpec) false w args)
   (Rows.robustFindsSpec.post enc prog Tryz.f9 false true false false):=by
 refine returnsInHanded_of_change_and (C:=Tryz.checked) (X:=fun w _=>laidMetH prog laidK w) (fun _ _ _ hh h=>h.of_heap hh) Tryz.own G (by kernel_rfl) func9
  (ChangeSpec.witness_shaped (enc:=enc) (C:=Tryz.checked) (os:=os) (X:=fun w _=>laidMetH prog laidK w) false (World.laidAll prog os laidK) #[.int .u8 0,.agg #[.int .i8 0,.int .i8 0],.int .i8 0] 8 (World.laidAll_os _ _ _) (World.shaped_of_ZipB (by kernel_rfl) (by kernel_rfl)) (by kernel_rfl) (by kernel_rfl) (by kernel_rfl) (by rw [MakeChecks.laidMetH_plain _ _ _ (by kernel_rfl)];exact laidMet_laidAll _ (by kernel_rfl) (by kernel_rfl))) ?_
 intro W base args ds gs V F hW _ ae hL _;have E:∀(j:Nat) t v,Tryz.f9.params[j]? = some t->args[j]? = some v->Value.okWide prog W .any base t v:=F;have O:=hW;obtain⟨p,q,J,hV,rfl,af,ag⟩:=hW;have hA:DataW.TrodAll enc prog W 0 (fun _=>true) true Tryz.f9.params.toList args.toList ds p:=J;rw [Tryz.params9] at hA E;obtain⟨v0,v1,v2,d0,d1,d2,p0,p1,p2,rfl,rfl,rfl,h0,h1,h2⟩:=trodAll_three hA;obtain⟨rfl,rfl⟩:=trodVars_none hV;obtain⟨z0,rfl,rfl,rfl,w0⟩:=open_int underlying5 (E 0 5 v0 rfl rfl) h0;obtain⟨t,rfl,kt⟩:=wf_u8' w0;obtain⟨zs,rfl,aa,U,rfl,rfl,I⟩:=qhv underlying75 underlying74 (by kernel_rfl) (by kernel_rfl) (E 1 75 v1 rfl rfl) h1;obtain⟨c0,c1,rfl,Y,Z⟩:=two_i8 aa U;obtain⟨z2,rfl,rfl,rfl,w2⟩:=open_int underlying74 (E 2 74 v2 rfl rfl) h2;clear J F ae;simp only [qbz] at O;refine (qgf t c0 c1 z2 W kt Y Z (wf_i8 w2) (of_laid hL)).mono fun e W' ⟨he,hb⟩=>?_
 subst he;exact⟨_,rfl,qhx (pa:=[]) (pv:=[]) O (fun _ _ _=>trodAll_mk1 (shut_bool underlying4 _)) (fun sp ah=>(by have h:=trodAll_mk3 (shut_int underlying5 w0) (I W' 0 sp true) (shut_int underlying74 w2);simp only [qbz] at h;exact h)) (fun _ _=>rfl) rfl hb (ok_one (by kernel_rfl) rfl (okWide_bool_mk underlying4 _))⟩
theorem j1:(Rows.robustFindsRow.inPlace == Tryz.prog.inPlace 9)=true:=by kernel_rfl
theorem j2:(Rows.robustFindsRow.unfollowed == Tryz.prog.unfollowed 9)=true:=by kernel_rfl
theorem j3:(Rows.robustFindsRow.recurses == Tryz.prog.recurses 9)=true:=by kernel_rfl
theorem j4:(Rows.robustFindsRow.named == Tryz.prog.varsNamed 9)=true:=by kernel_rfl
theorem j5:Rows.robustFindsRow.wf (OpenSpec.ofChange Rows.robustFindsSpec)=true:=by kernel_rfl
theorem j6:(Rows.robustFindsRow.lifted == Tryz.prog.liftsFinal)=true:=jf6
theorem j7:(Tryz.prog.make == some Rows.robustFindsRow.make)=true:=jf7
theorem facts:joinedFacts prog 9 Tryz.f9 Rows.robustFindsSpec Rows.robustFindsRow=true:=by
 simp only [joinedFacts,jf1,jf2,jf3,jf4,jf5,j1,j2,j3,j4,j5,j6,j7,Bool.and_true,Bool.true_and]
 kernel_rfl
theorem holds:Rows.RobustFindsSaid :=
 OpenClaim.holds_of_wide 9 Tryz.f9 rfl rfl rfl rfl rfl rfl rfl ⟨rfl,rfl,rfl,rfl,rfl⟩ rfl rfl rfl rfl rfl (by kernel_rfl) func9 facts
  (of_decide_eq_true (by kernel_rfl)) (by unfold Func.isWrapper;first | (rw [if_pos (by decide +kernel)];kernel_rfl) | (rw [if_neg (by decide +kernel)];exact⟨rfl,rfl⟩))
  (fun os E H enc _=>lifted os E H enc)
end LrobustFinds
theorem robustFinds_card:Rows.RobustFindsCardSaid :=
 Claim7.holds_tied_plain_at .later [] [.data,.data,.data] true (true, "252e0a21811d6cb709456a3fcf7983f263497123ef99f17ea89c4d3ca69a01d1") true
  LrobustFinds.holds (fun _ h=>by cases h) (by as_aux_lemma=>kernel_rfl) (fun _ h=>by cases h) robustFinds_row_tie rfl ⟨rfl,rfl⟩ (by as_aux_lemma=>kernel_rfl) rfl
  (fun f H I F=>by
   obtain rfl:f=9:=qag ((show Tryz.prog.funcNamed "verdigris/verdigrislaw33.RobustFinds" = some 9 by as_aux_lemma=>kernel_rfl).symm.trans I) |>.symm
   obtain rfl:H=Tryz.f9:=(qag (Tryz.func9.symm.trans F)).symm;exact⟨by as_aux_lemma=>kernel_rfl,fun j t G=>by
    rw [Tryz.params9] at G;have J:t∈([5,75,74]:List Nat):=by simpa using Array.mem_of_getElem? G
    have E:(([5,75,74]:List Nat).all fun u=>!Tryz.prog.wantsStandIn u)=true:=by as_aux_lemma=>kernel_rfl
    exact (show Tryz.prog.wantsStandIn t=false by simpa using qaw.1 E t J)⟩)
  (by as_aux_lemma=>kernel_rfl)
#print axioms robustFinds_card
