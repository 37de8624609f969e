import Derived.Below
import Derived.ChangeSame
import Derived.LaidLaws
import Derived.LaidMore
import Derived.Lay
import Derived.Lib.LaidTab
import Derived.Lib.ParseIntBCases
import Derived.Lib.SmallJoins
import Derived.OpenShut
import Derived.ProofKit
import Derived.SevenTiedAt
import Derived.Stop.Joined
import Derived.Test.YtplkdeknjghobaaGreatDoorBe19
import Derived.Test.YtplkdeknjghobaaGreatDoorBe20
import Derived.Test.YtplkdeknjghobaaGreatDoorCards
import Derived.Test.YtplkdeknjghobaaGreatDoorRows
import Derived.Test.YtplkdeknjghobaaGreatDoorTie
set_option maxRecDepth 100000
set_option maxHeartbeats 0
namespace Go.Proofs.YtplkdeknjghobaaGreatDoor
open Go.RowKit
def gR (n:Nat) (f:Nat->Nat->Rat) (b:Nat->Rat) (i c:Nat):Rat:=if c<n then f i c else b i
def normR (R n:Nat) (f:Nat->Nat->Rat) (b w:Nat->Rat) (r c:Nat):Rat:=sumQ R fun i=>w i*(gR n f b i r*gR n f b i c)
theorem qij {R n:Nat} {f:Nat->Nat->Rat} {b:Nat->Rat} {i:Nat} (hi:i<R):besides (ttab R n f) (told R b) i=told n (f i)++[ftxt (b i)]:=by
 unfold besides;rw [qeH hi,qdr hi]
theorem qgg {R n:Nat} {f:Nat->Nat->Rat} {b:Nat->Rat} {i c:Nat} (hi:i<R) (hc:c<=n):lval (besides (ttab R n f) (told R b) i) c=gR n f b i c:=by
 rw [qij hi];unfold gR
 by_cases h:c<n
 ·rw [if_pos h,qgS (by rw [qbW];exact h),qcW h]
 ·obtain rfl:c=n:=by omega
  rw [if_neg h];have:=qgR (l:=told c (f i)) (x:=ftxt (b i));rw [qbW] at this;rw [this,qcD]
theorem qhw {R n:Nat} {f:Nat->Nat->Rat} {b w:Nat->Rat} {r c:Nat} (hr:r<=n) (hc:c<=n):normQ (ttab R n f) (told R b) (told R w) R r c=normR R n f b w r c :=
 qb0 fun i hi=>by rw [qcW hi,qgg hi hr,qgg hi hc]
theorem qkN {R n:Nat} {f:Nat->Nat->Rat} {b w x:Nat->Rat}:measQ (ttab R n f) (told R b) (told R w) (told n x) n R=msR R n f b w x :=
 qb0 fun i hi=>by
  have:resQ (ttab R n f) (told R b) (told n x) n i=resR n f b x i:=by
   unfold resQ resR;rw [qcW hi]
   congr 1
   exact qb0 fun j hj=>by rw [ttab_val hi hj,qcW hj]
  rw [qcW hi,this]
def qfc (R n:Nat) (f:Nat->Nat->Rat) (b w:Nat->Rat) (e:Ending) (w':World):Prop :=
 (Sing n (normR R n f b w)/\e=.returned (.tuple #[.slice none 0 0,.int .i64 7]))\/(¬Sing n (normR R n f b w)/\∃x,qc6 n (normR R n f b w) (fun r=>normR R n f b w r n) x/\Tells n x e w')
theorem qj4 {R:Nat} {w:Nat->Rat} (h:∀i,i<R->0<=w i):¬Neg (told R w):=by
 rintro ⟨k,hk,hlt⟩;rw [qbW] at hk;rw [qdr hk,show (ftxt (w k)).1.data.toList=itxt (w k).num from rfl,qdL] at hlt;have:=Rat.num_nonneg.2 (h k hk);omega
theorem qgC.told {w0:World} {R n:Nat} {f:Nat->Nat->Rat} {b w:Nat->Rat} {e:Ending} {w':World} (h:qgC w0 (ttab R n f) (told R b) (told R w) e w') (h1:1<=R) (h2:R<=40) (h3:1<=n) (h4:n<=10) (hf:∀i,i<R->qbY n (f i)) (hb:qbY R b) (hw:qbY R w) (hw0:∀i,i<R->0<=w i):qfc R n f b w e w'/\Below w0.heap.size w0 w':=by
 have hT:=qnf h1 h2 h3 h4 hf;refine⟨?_,h.2⟩;rcases h.1 with h | h | h | h
 ·exact absurd hT h.1
 ·exact absurd ⟨qdJ hb,qdJ hw⟩ h.2.1
 ·exact absurd ⟨by rw [qbW,qcS],by rw [qbW,qcS],qj4 hw0⟩ h.2.2.2.1
 ·have h5:=h.2.2.2.2.2.2;rw [qeS h1,qcS] at h5;have hc:∀r,r<n->∀c,c<n->normQ (ttab R n f) (Go.Proofs.YtplkdeknjghobaaGreatDoor.told R b) (Go.Proofs.YtplkdeknjghobaaGreatDoor.told R w) R r c=normR R n f b w r c:=fun r hr c hc=>qhw (by omega) (by omega)
  rcases h5 with ⟨hs,he⟩ | ⟨hs,x,hx,ht⟩
  ·exact qan ⟨hs.congr hc,he⟩
  ·exact qah ⟨fun hs2=>hs (hs2.congr fun r hr c hcc=>(hc r hr c hcc).symm),x,hx.congr hc (fun r hr=>qhw (by omega) qN) (fun _ _=>rfl),ht⟩
open Go.Lib
def fv (l:List Rat) (i:Nat):Rat:=l.getD i 0
def fm (t:List (List Rat)) (i j:Nat):Rat:=(t.getD i []).getD j 0
theorem qnb (l:List Rat):told l.length (fv l)=l.map ftxt:=by
 unfold told fv;apply List.ext_getElem?;intro i;rw [qaM,qaM]
 by_cases h:i<l.length
 ·rw [List.getElem?_range h,qae h];simp [qae h]
 ·rw [qba (by rw [List.length_range];omega),qba (by omega)];rfl
theorem qer {u:Nat} (h:u<10):num u=⟨#[UInt8.ofNat (48+u)]⟩:=by
 unfold num;rw [qbZ h]
theorem qgq {q:Rat} (z d:Nat) (hz:q.num=z) (hd:q.den=d) (h1:z<10) (h2:d<10):ftxt q=(⟨#[UInt8.ofNat (48+z)]⟩,⟨#[UInt8.ofNat (48+d)]⟩):=by
 unfold ftxt;rw [hz,hd,frac.qdE (by omega),qal,qer h1,qer h2]
theorem ft_0:ftxt 0=(⟨#[48]⟩,⟨#[49]⟩):=qgq 0 1 rfl rfl (by decide) (by decide)
theorem ft_1:ftxt 1=(⟨#[49]⟩,⟨#[49]⟩):=qgq 1 1 rfl rfl (by decide) (by decide)
theorem ft_12:ftxt (1 / 2)=(⟨#[49]⟩,⟨#[50]⟩):=qgq 1 2 (by decide +kernel) (by decide +kernel) (by decide) (by decide)
theorem qiG {n:Nat} {A:Nat->Nat->Rat} (B:Nat->Nat->Rat) (h:∀k,k<n->∀j,j<n->sumQ n (fun i=>B k i*A i j)=if k=j then 1 else 0):¬Sing n A:=by
 rintro ⟨y,⟨k,hk,hy⟩,h0⟩;apply hy;have e:sumQ n (fun i=>B k i*sumQ n fun j=>A i j*y j)=y k:=by
  have h1:sumQ n (fun i=>B k i*sumQ n fun j=>A i j*y j)=sumQ n fun i=>sumQ n fun j=>y j*(B k i*A i j):=qb0 fun i _=>by
   rw [<-qcv];exact qb0 fun j _=>by grind
  rw [h1,qeE];have h2:sumQ n (fun j=>sumQ n fun i=>y j*(B k i*A i j))=sumQ n fun j=>y j*(if k=j then 1 else 0):=qb0 fun j hj=>by rw [qcv,h k hk j hj]
  rw [h2,qdx n k _ hk fun j _ hjk=>by rw [if_neg (fun h=>hjk h.symm)];grind];rw [if_pos rfl];grind
 rw [<-e];exact qc9 _ _ fun i hi=>by rw [h0 i hi];grind
theorem qjH.told {w0:World} {R n:Nat} {f:Nat->Nat->Rat} {b w x:Nat->Rat} {e:Ending} {w':World} (h:qjH w0 (ttab R n f) (told R b) (told R w) (told n x) e w') (h1:1<=R) (h2:R<=40) (h3:1<=n) (h4:n<=10) (hf:∀i,i<R->qbY n (f i)) (hb:qbY R b) (hw:qbY R w) (hx:qbY n x) (hw0:∀i,i<R->0<=w i) :
  (Short (msR R n f b w x)/\e=.returned (.tuple #[fstr (msR R n f b w x),.int .i64 0])\/¬Short (msR R n f b w x)/\e=.returned (.tuple #[.agg #[.string ⟨#[]⟩,.string ⟨#[]⟩],.int .i64 6]))/\Below w0.heap.size w0 w':=by
 have hT:=qnf h1 h2 h3 h4 hf;refine⟨?_,h.2⟩;rcases h.1 with h | h | h | h
 ·exact absurd hT h.1
 ·exact absurd ⟨qdJ hb,qdJ hw,qdJ hx⟩ h.2.1
 ·exact absurd ⟨by rw [qbW,qcS],by rw [qbW,qcS],by rw [qbW,qeS h1],qj4 hw0⟩ h.2.2.2.2.1
 ·have h5:=h.2.2.2.2.2.2.2.2;rw [qeS h1,qcS,qkN] at h5;exact h5
theorem qg8 {q:Rat} (h:q.num.natAbs<10/\q.den<10):Short q:=⟨by rw [qer h.1];exact (by decide:1<=600),by rw [qer h.2];exact (by decide:1<=600)⟩
theorem qcV {n:Nat} {x:Nat->Rat} (h:∀i,i<n->(x i).num.natAbs<=1000/\(x i).den<=1000):qbY n x:=fun i hi=>qdd (N:=1000) (h i hi) (by decide +kernel)
theorem qhi {n m:Nat} {f:Nat->Nat->Rat} (hm:m<=1000):∀k,k<n->((ttab n m f).getD k []).length<=4611686018427387904:=fun k hk=>by rw [qeH hk,qbW];omega
theorem ql9 {R n:Nat} {f:Nat->Nat->Rat} {b v:Nat->Rat} {ao:Option Addr} {g c:Nat} {ao2:Option Addr} {g2 c2:Nat} {ao3:Option Addr} {g3 c3:Nat} {w:World} (h1:1<=R) (h2:R<=40) (h3:1<=n) (h4:n<=10) (hf:∀i,i<R->qbY n (f i)) (hb:qbY R b) (hv:qbY R v) (hv0:∀i,i<R->0<=v i) (hT:TCells w ao g 0 (ttab R n f)) (hF:FCells w ao2 g2 0 (told R b)) (hF3:FCells w ao3 g3 0 (told R v)) (hP:HasT w) :
  Calls Tryz.prog 129 #[.slice ao R c,.slice ao2 R c2,.slice ao3 R c3] w fun e w'=>qfc R n f b v e w'/\Below w.heap.size w w' :=
 (qhu ao g 0 R c _ ao2 g2 0 R c2 _ ao3 g3 0 R c3 _ w (qcS _ _ _) (by omega) (qhi (by omega)) hT (qbW _ _) (by omega) hF (qbW _ _) (by omega) hF3 hP).mono fun _ _ h=>h.told h1 h2 h3 h4 hf hb hv hv0
theorem qhe {kind:Nat} {d:List Int} (hk:kind=1\/kind=2\/kind=3) (hV:qcO d) (_h4:d.length<=4) (h3:kind=3->d.length<=3):∀p∈termL kind d,Short p:=by
 have hsh:∀k,Short (dq d k):=fun k=>(dq_cd hV k).short (by decide) (by decide +kernel) (by decide +kernel)
 have hsq:∀k,Short (dq d k*dq d k):=fun k=>((dq_cd hV k).mul (dq_cd hV k) (by decide) (by decide)).short (by decide) (by decide +kernel) (by decide +kernel)
 have hpr:∀k,k<=3->∀p∈prods d k,Short p:=fun k hk p hp=>(qfA (by decide) (dq_cd hV) k p hp).short (qbl (Nat.pow_pos (by decide))) (qaF (qa3 (by decide) hk) qjM) (qaF (qa3 (by decide) hk) qjM)
 have h1:Short 1:=qg8 ⟨by decide,by decide⟩;have hlin:∀p∈lin d,Short p:=fun p hp=>by
  unfold lin at hp;rcases qaP.1 hp with rfl | hp
  ·exact h1
  ·obtain⟨j,_,rfl⟩:=qbB.1 hp;exact hsh j
 rcases hk with rfl | rfl | rfl
 ·exact hlin
 ·intro p hp;rw [qjB] at hp;rcases qaN.1 hp with hp | hp
  ·exact hlin p hp
  ·unfold sqs at hp;obtain⟨j,_,rfl⟩:=qbB.1 hp;exact hsq j
 ·intro p hp;rw [qh8] at hp;exact hpr _ (h3 rfl) p hp
theorem qfJ {kind:Nat} {d:List Int} {j:Nat} (hj:j<many kind d.length):termQ kind d j∈termL kind d:=by
 unfold termQ;rw [qaa,qae (by rw [qeF];exact hj)];exact List.getElem_mem _
theorem PtsOk.terms {l:List Pt} (h:PtsOk l) {k:Nat} {kind:Int} (hk:qcC kind k) (h3:¬(k=3/\chans l=4)):∀i,i<l.length->qbY (many k (chans l)) (tqf l k i):=fun i hi j hj=>by
 obtain⟨h1,h2⟩:=h.rows i hi;have h4:=h1.n4;refine qhe (by obtain⟨_,a,b⟩:=hk;omega) h1.vals h4 (fun e=>by have:=h.n4;omega) _ (qfJ (by rw [h2];exact hj))
theorem PtsOk.labs {l:List Pt} (h:PtsOk l) {c:Nat}:qbY l.length (labq l c):=fun i hi=>by
 have hp:=(h.rows i hi).1;have:=hp.l0;have:=hp.l1;have:=hp.l2;have hb:((l.getD i pt0).lab c).natAbs<1000000000000000000000:=by unfold Pt.lab;(repeat' split) <;> omega
 exact qdO (d:=100) (by decide) hb (by decide)
theorem PtsOk.bound {l:List Pt} (h:PtsOk l) (c:Nat):∀k,k<l.length->-9223372036854775808<=(l.getD k pt0).lab c/\(l.getD k pt0).lab c<=9223372036854775807:=fun i hi=>by
 have hp:=(h.rows i hi).1;have:=hp.l0;have:=hp.l1;have:=hp.l2;unfold Pt.lab;(repeat' split) <;> omega
theorem WOk.short {ws:List Int} (h:WOk ws):qbY ws.length (wq ws):=fun i hi=>by
 obtain⟨h1,h2⟩:=h i hi;have:Short ((ws.getD i 0:Int) / ((1:Int):Rat)):=qdO (d:=1) (by decide) (by omega) (by decide);rw [show ((1:Int):Rat)=1 from rfl,Rat.div_def,show (1:Rat)⁻¹=1 by decide +kernel,Rat.mul_one] at this;exact this
theorem WOk.pos {ws:List Int} (h:WOk ws):∀i,i<ws.length->0<=wq ws i:=fun i hi=>by unfold wq;exact Rat.intCast_nonneg.2 (h i hi).1
theorem qjp {k n:Nat} {kind:Int} (hk:qcC kind k) (h1:1<=n) (h4:n<=4) (h3:¬(k=3/\n=4)):1<=many k n/\many k n<=10:=by
 obtain⟨_,a,b⟩:=hk;unfold many;rcases (show k=1\/k=2\/k=3 by omega) with rfl | rfl | rfl
 ·simp;omega
 ·simp;omega
 ·rcases (show n=1\/n=2\/n=3 by omega) with rfl | rfl | rfl <;> decide
def nq (l:List Pt) (k:Nat) (ws:List Int) (c:Nat):Nat->Nat->Rat:=normR l.length (many k (chans l)) (tqf l k) (labq l c) (wq ws)
theorem qhZ {l:List Pt} {k:Nat} {ws:List Int} {c c':Nat} (h:Sing (many k (chans l)) (nq l k ws c)):Sing (many k (chans l)) (nq l k ws c'):=h.congr fun i hi j hj=>by
 unfold nq normR;refine qb0 fun r _=>?_
 unfold gR;rw [if_pos hi,if_pos hj,if_pos hi,if_pos hj]
def FitX (l:List Pt) (k:Nat) (ws:List Int) (c:Nat) (x:Nat->Rat):Prop:=qc6 (many k (chans l)) (nq l k ws c) (fun r=>nq l k ws c r (many k (chans l))) x
def FitG (l:List Pt) (kind:Int) (ws:List Int) (W:World) (v:Value):Prop :=
 PtsOk l/\ws.length=l.length/\WOk ws/\∃k,qcC kind k/\¬(k=3/\chans l=4)/\¬Sing (many k (chans l)) (nq l k ws 0) /\
  ∃x:Nat->Nat->Rat,(∀c,c<3->FitX l k ws c (x c)/\qbY (many k (chans l)) (x c))/\MdAt W v (mdq k (chans l) (many k (chans l)) x)
def FitF (l:List Pt) (kind:Int) (ws:List Int) (e:Int):Prop :=
 (¬PtsOk l/\e=310)\/(PtsOk l/\¬((∃k,qcC kind k)/\ws.length=l.length/\WOk ws)/\e=2) \/
 (PtsOk l/\ws.length=l.length/\WOk ws/\∃k,qcC kind k/\((k=3/\chans l=4/\e=5)\/(¬(k=3/\chans l=4) /\
  ((Sing (many k (chans l)) (nq l k ws 0)/\e=7)\/(¬Sing (many k (chans l)) (nq l k ws 0)/\∃c x,c<3/\FitX l k ws c x/\¬qbY (many k (chans l)) x/\e=6)))))
def FitAs (w:World) (l:List Pt) (kind:Int) (ws:List Int) (e:Ending) (w':World):Prop :=
 Below w.heap.size w w'/\((∃v,e=.returned (.tuple #[v,.int .i64 0])/\FitG l kind ws w' v)\/∃c,e=.returned (.tuple #[mdv0,.int .i64 c])/\FitF l kind ws c)
theorem qlP (a b:Int) (hb:0<b):((a:Rat) / (b:Rat)).floor=a / b:=by
 have hbr:(0:Rat)<(b:Rat):=Rat.intCast_lt_intCast.2 hb;have key:∀z:Int,z<=((a:Rat) / (b:Rat)).floor↔z<=a / b:=fun z=>by
  rw [Rat.le_floor_iff,Int.le_ediv_iff_mul_le hb,<-Rat.not_lt,Rat.div_lt_iff hbr,<-Rat.intCast_mul,Rat.intCast_lt_intCast,Int.not_lt]
 exact Int.le_antisymm ((key _).1 (Int.le_refl _)) ((key _).2 (Int.le_refl _))
def nearZ (q:Rat) (s:Nat):Int:=(q*(s:Rat)+1 / 2).floor
def nearT (q:Rat) (n d:Nat):Int:=(q*(n:Rat) / (d:Rat)+1 / 2).floor
theorem qiF (q:Rat) (s:Nat):nearZ q s=(q.num*((s*2:Nat):Int)+(q.den:Int)) / ((q.den*2:Nat):Int):=by
 unfold nearZ;rw [<-qlP _ _ (by have:=q.den_pos;omega)]
 congr 1
 have hd:(q.den:Rat)≠0:=qfV (qbl q.den_pos);have hq:q=(q.num:Rat) / (q.den:Rat):=by rw [<-Rat.mkRat_eq_div,Rat.mkRat_self]
 have e1:((q.num*((s*2:Nat):Int)+(q.den:Int):Int):Rat)=(q.num:Rat)*((s:Rat)*2)+(q.den:Rat):=by
  rw [Rat.intCast_add,Rat.intCast_mul,Rat.intCast_natCast,Rat.intCast_natCast,Rat.natCast_mul];rfl
 have e2:(((q.den*2:Nat):Int):Rat)=(q.den:Rat)*2:=by
  rw [Rat.intCast_natCast,Rat.natCast_mul];rfl
 rw [e1,e2];generalize (q.den:Rat)=D at *;generalize (q.num:Rat)=N at *;generalize (s:Rat)=S at *;subst hq
 grind
theorem qj2 {n:Nat} (h:0<n):(0:Rat)<(n:Rat):=by
 have:=Rat.natCast_lt_natCast.2 h;exact this
theorem qmc {q:Rat} {n d:Nat} {z:Int} (hn:0<n) (hd:0<d):q<(((2*z-1)*(d:Int):Int):Rat) / (((2*n:Nat):Int):Rat)↔nearT q n d<z:=by
 unfold nearT;have hN:=qj2 hn;have hD:=qj2 hd;have e1:(((2*z-1)*(d:Int):Int):Rat)=(2*(z:Rat)-1)*(d:Rat):=by
  rw [Rat.intCast_mul,Rat.intCast_sub,Rat.intCast_mul,Rat.intCast_natCast];rfl
 have e2:(((2*n:Nat):Int):Rat)=2*(n:Rat):=by
  rw [Rat.intCast_natCast,Rat.natCast_mul];rfl
 rw [Rat.floor_lt_iff,e1,e2,Rat.lt_div_iff (by grind)];generalize (d:Rat)=D at *;generalize (n:Rat)=N at *;generalize (z:Rat)=Z at *;have h1:q*N / D+1 / 2<Z↔q*N / D<Z-1 / 2:=by grind
 rw [h1,Rat.div_lt_iff hD]
 grind
theorem qfW {q:Rat} {n d:Nat} {B:Int} (hd:d=1\/d=4) (h1:-B<=nearZ q n) (h2:nearZ q n<=B):-(B+1)<=nearT q n d/\nearT q n d<=B+1:=by
 unfold nearZ at h1 h2;unfold nearT;generalize q*(n:Rat)=x at *;have h0:0<=B:=by omega
 have hB:(0:Rat)<=(B:Rat):=Rat.intCast_nonneg.2 h0;have g1:=Rat.le_floor_iff.1 h1;have g2:(x+1 / 2).floor<B+1:=by omega
 have g2:=Rat.floor_lt_iff.1 g2;rw [Rat.intCast_add,show ((1:Int):Rat)=1 from rfl] at g2;rw [Rat.intCast_neg] at g1;have k1:-(B+1)<=(x / (d:Rat)+1 / 2).floor:=by
  rw [Rat.le_floor_iff,Rat.intCast_neg,Rat.intCast_add,show ((1:Int):Rat)=1 from rfl];rcases hd with rfl | rfl
  ·rw [show ((1:Nat):Rat)=1 from rfl];grind
  ·rw [show ((4:Nat):Rat)=4 from rfl];grind
 have k2:(x / (d:Rat)+1 / 2).floor<B+2:=by
  rw [Rat.floor_lt_iff,Rat.intCast_add,show ((2:Int):Rat)=2 from rfl];rcases hd with rfl | rfl
  ·rw [show ((1:Nat):Rat)=1 from rfl];grind
  ·rw [show ((4:Nat):Rat)=4 from rfl];grind
 omega
theorem qmr {q:Rat} {n d:Nat} {B:Int} (hd:d=1\/d=4) (h1:-B<=nearT q n d) (h2:nearT q n d<=B):-(4*B+4)<=nearZ q n/\nearZ q n<=4*B+4:=by
 unfold nearT at h1 h2;unfold nearZ;generalize q*(n:Rat)=x at *;have h0:0<=B:=by omega
 have hB:(0:Rat)<=(B:Rat):=Rat.intCast_nonneg.2 h0;have g1:=Rat.le_floor_iff.1 h1;have g2:(x / (d:Rat)+1 / 2).floor<B+1:=by omega
 have g2:=Rat.floor_lt_iff.1 g2;rw [Rat.intCast_add,show ((1:Int):Rat)=1 from rfl] at g2;rw [Rat.intCast_neg] at g1;have k1:-(4*B+4)<=(x+1 / 2).floor:=by
  rw [Rat.le_floor_iff,Rat.intCast_neg,Rat.intCast_add,Rat.intCast_mul,show ((4:Int):Rat)=4 from rfl];rcases hd with rfl | rfl
  ·rw [show ((1:Nat):Rat)=1 from rfl] at g1 g2;grind
  ·rw [show ((4:Nat):Rat)=4 from rfl] at g1 g2;grind
 have k2:(x+1 / 2).floor<4*B+5:=by
  rw [Rat.floor_lt_iff,Rat.intCast_add,Rat.intCast_mul,show ((4:Int):Rat)=4 from rfl,show ((5:Int):Rat)=5 from rfl];rcases hd with rfl | rfl
  ·rw [show ((1:Nat):Rat)=1 from rfl] at g1 g2;grind
  ·rw [show ((4:Nat):Rat)=4 from rfl] at g1 g2;grind
 omega
theorem cmp_lt (p q:Rat):cmp3 (p.num*(q.den:Int) + -(q.num*(p.den:Int))) 0<0↔p<q:=by
 rw [Rat.lt_iff];unfold cmp3;generalize p.num*(q.den:Int)=A;generalize q.num*(p.den:Int)=B;split
 ·constructor <;> intro h <;> omega
 ·split
  ·constructor <;> intro h <;> omega
  ·constructor <;> intro h <;> omega
theorem sg_floor (x:Int) {d:Nat} (hd:0<d):(if decide (x<0)=true then -((x.natAbs / d+(if decide (x<0)=true/\x.natAbs % d≠0 then 1 else 0):Nat):Int) else ((x.natAbs / d+(if decide (x<0)=true/\x.natAbs % d≠0 then 1 else 0):Nat):Int))=x / (d:Int):=by
 have hd':(0:Int)<d:=by omega
 by_cases hx:x<0
 ·rw [qV hx,if_pos rfl];obtain⟨a,rfl⟩:∃a:Nat,x = -(a:Int):=⟨x.natAbs,by omega⟩;rw [qa9,qal];have h1:=Nat.div_add_mod a d;have h2:=qbk a hd;generalize a / d=u at *;generalize a % d=v at *
  symm
  by_cases hv:v=0
  ·rw [if_neg (by simp [hv]),qbh];subst hv;rw [<-h1];rw [show -(((d*u+0:Nat)):Int) = -(u:Int)*d by push_cast;rw [Int.add_zero,qbs,qbj]];exact Int.mul_ediv_cancel _ (by omega)
  ·rw [if_pos ⟨rfl,hv⟩,<-h1];refine Int.ediv_eq_iff_of_pos hd' |>.2 ⟨?_,?_⟩
   ·push_cast;grind
   ·push_cast;grind
 ·rw [qU hx];simp only [Bool.false_eq_true,false_and,if_false,qbh];rw [Int.natCast_ediv,Int.natAbs_of_nonneg (by omega)]
theorem qlQ:∀(l:List UInt8) (acc:Nat),acc<=l.foldl (fun v c=>v*10+(c.toNat-48)) acc
 | [],acc=>qad _
 | c :: r,acc=>qaj (by omega) (qlQ r (acc*10+(c.toNat-48)))
theorem qhy:∀(l:List UInt8) (acc:Nat),Nums l->acc<=18446744073709551615->parseUintM 18446744073709551615 acc l=if l.foldl (fun v c=>v*10+(c.toNat-48)) acc<=18446744073709551615 then .ok (l.foldl (fun v c=>v*10+(c.toNat-48)) acc) else .range
 | [],acc,_,ha=>by rw [parseUintM,List.foldl_nil,if_pos ha]
 | c :: r,acc,h,ha=>by
  have hd:=h c (qbQ ..);have hge:=qlQ r (acc*10+(c.toNat-48));rw [parseUintM,if_pos hd,List.foldl_cons]
  by_cases h1:1844674407370955162<=acc
  ·rw [if_pos h1,if_neg (by omega)]
  ·rw [if_neg h1]
   by_cases h2:18446744073709551615<acc*10+(c.toNat-48)
   ·rw [if_pos h2,if_neg (by omega)]
   ·rw [if_neg h2];exact qhy r _ (fun x hx=>h x (qbG _ hx)) (by omega)
theorem qiL (u:Nat):parseUintB 64 (decDigits u)=if u<=18446744073709551615 then .ok u else .range:=by
 unfold parseUintB;rw [if_neg (qdg u)];have:=qhy (decDigits u) 0 (qdt u) (by decide);rw [show (decDigits u).foldl (fun v c=>v*10+(c.toNat-48)) 0=u from qeY u] at this;exact this
theorem qkS (z:Int):parseIntB 64 (itxt z)=if -9223372036854775808<=z/\z<=9223372036854775807 then .ok z else .range:=by
 unfold itxt
 by_cases hz:z<0
 ·rw [if_pos hz,parseIntB_minus,qiL];obtain⟨a,rfl⟩:∃a:Nat,z = -(a:Int):=⟨z.natAbs,by omega⟩;rw [qa9,qal]
  by_cases h1:a<=18446744073709551615
  ·rw [if_pos h1]
   show (if 2 ^ (64-1)<a then _ else _)=_
   by_cases h2:9223372036854775808<a
   ·rw [if_pos (by exact h2),if_neg (by omega)]
   ·rw [if_neg (by exact h2),if_pos (by omega)]
  ·rw [if_neg h1,if_neg (by omega)];rfl
 ·rw [if_neg hz];obtain⟨a,rfl⟩:∃a:Nat,z=(a:Int):=⟨z.natAbs,by omega⟩;rw [qal];have hp:=qiL a;cases hl:decDigits a with
  | nil=>exact absurd hl (qdg a)
  | cons c r =>
   have hc:=qdt a c (by rw [hl];exact qbQ ..);rw [hl] at hp;rw [parseIntB_plain 64 c r (by omega) (by omega),hp]
   by_cases h1:a<=18446744073709551615
   ·rw [if_pos h1]
    show (if 2 ^ (64-1)<=a then _ else _)=_
    by_cases h2:9223372036854775808<=a
    ·rw [if_pos (by exact h2),if_neg (by omega)]
    ·rw [if_neg (by exact h2),if_pos (by omega)]
   ·rw [if_neg h1,if_neg (by omega)];rfl
theorem qis {q:Rat} (h:q≠0):(q⁻¹).num=(if q.num<0 then -(q.den:Int) else q.den)/\(q⁻¹).den=q.num.natAbs:=by
 have hn:q.num≠0:=fun e=>h (Rat.num_eq_zero.1 e)
 show (Rat.inv q).num=_/\(Rat.inv q).den=_
 unfold Rat.inv
 by_cases h1:q.num<0
 ·rw [dif_pos h1,if_pos h1];exact⟨rfl,rfl⟩
 ·rw [dif_neg h1,dif_pos (show q.num > 0 by omega),if_neg h1];exact⟨rfl,rfl⟩
theorem qjm (q:Rat) (hq:q≠0) (v:Value) (w:World) (hv:RatV w v q) :
  Calls Tryz.prog 205 #[v] w fun e w'=>∃r,e=.returned r/\Below w.heap.size w w'/\RatV w' r q⁻¹:=by
 obtain⟨vm,vo,rfl,hm,ho⟩:=hv;obtain⟨am,bm,om,cm,nm,M,rfl,hM⟩:=id hm;obtain⟨ao,bo,oo,co,no,O,rfl,hO⟩:=id ho;obtain⟨bb,hbb⟩:∃b,decide (q.num<0)=b:=⟨_,rfl⟩;rw [hbb];obtain⟨W2,hW2,K2⟩:=nw2 w #[.slice am nm cm,.bool bb,.slice ao no co] 138 #[.slice none 0 0,.bool false,.slice none 0 0] 138;have HS:=qH (frac.qb3 q.den bb (.slice ao no co) W2.drew ((ho.below K2.out.1).below qB.drew));have HX:=qH (qA (hm.below K2.out.1) hbb);have hl0:w.heap.size<w.heap.size+1:=by omega
 have q0:=rowG (g0:=w.heap.size+1) K2.out.2.1 0;have q1:=rowG (g0:=w.heap.size+1) K2.out.2.1 1;have q2:=rowG (g0:=w.heap.size+1) K2.out.2.1 2;clear hm ho hM hO hbb;go_enter Tryz.func205,Tryz.ntmps205;go_upto_region 1 with fail;rw [<-hW2];clear hW2;refine wp_region_held_drew (S:=fun W=>W2.grownBy W (some (w.heap.size+1))) (by kernel_rfl) (keepB qB.drew) (fun hS0=>?_);refine hT 0 (h:=?_);refine hT 1 (h:=?_);refine hT 2 (h:=?_);refine hT 3 (h:=?_);refine hT 4 (h:=?_);refine hT 6 (h:=?_);refine hT 7 (h:=?_);refine hT 8 (h:=?_);refine hC 5 HS.out (h:=?_);rintro e w3 ⟨x,rfl,hb,hx⟩;have HB:=qH (qb1 hb);have hS1:W2.grownBy w3 (some (w.heap.size+1)):=keepB HB.out;have K3:=K2.below HB.out;obtain⟨a9,n9,c9,b9,rfl⟩:=frac.qbT hx;have HI:=qH hx;clear hb hx;refine⟨_,rfl,hS1,hN (h:=?_)⟩;refine hT 9 (h:=?_);have HE:=qH (qA (qT _ _ _ #[.slice a9 n9 c9,.bool b9,.slice am nm cm] _ _ K3.out.2.2) (qS K3.out.1 (show w.heap.size<=w.heap.size+1 by omega) #[.slice a9 n9 c9,.bool b9,.slice am nm cm]));refine hSt 10 3 K3.out.2.2 (h:=⟨qbU hS1 (qb5 _ _ _),?_⟩);go_wp2_with fail;refine qR (v:=.agg #[.slice a9 n9 c9,.bool b9,.slice am nm cm]) (rA_ rfl ((w.heap.size+1)) HE.out.1 Tryz.underlying138 3) rfl ⟨_,rfl,HE.out.2,?_⟩;have hR:RatV w3 (.agg #[.slice a9 n9 c9,.bool b9,.slice am nm cm]) q⁻¹:=by
  obtain⟨i1,i2⟩:=qis hq;obtain⟨m9,e9,h9⟩:=HI.out;have e1:Value.slice a9 n9 c9=m9/\b9=decide ((if bb=true then -(q.den:Int) else q.den)<0):=by
   simp only [qaJ,qaL,qaH,qbm] at e9;exact⟨e9.1,e9.2.1⟩
  refine⟨.slice a9 n9 c9,.slice am nm cm,?_,?_,?_⟩
  ·rw [e1.2,i1];have hb:(decide (q.num<0)=true)=(q.num<0):=by simp
   rw [<-HX.out.2];simp only [hb]
  ·rw [e1.1,i1];have hb:(decide (q.num<0)=true)=(q.num<0):=by simp
   rw [<-HX.out.2] at h9;simp only [hb] at h9;exact h9
  ·rw [i2];exact HX.out.1.below HB.out
 obtain⟨m,o,h1,h2,h3⟩:=hR;exact⟨m,o,h1,qce h2 (qb5 _ _ _) K3.out.2.2 qdy,qce h3 (qb5 _ _ _) K3.out.2.2 qdy⟩
theorem readq {p:Rat} (sp:Short p) (w:World):Calls Tryz.prog 94 #[.agg #[.string (ftxt p).1,.string (ftxt p).2]] w fun e w'=>∃(a:Option Addr) (n c:Nat) (b:Bool) (d:Option Addr) (m f:Nat),e=.returned (.tuple #[.agg #[.slice a n c,.bool b,.slice d m f],.bool true])/\RatV w' (.agg #[.slice a n c,.bool b,.slice d m f]) p/\RFit p 67/\Below w.heap.size w w':=by
 refine (qc7 _ _ w).mono ?_;rintro e w' ⟨v,ok,rfl,h | h,hb⟩
 ·obtain⟨rfl,h1,h2⟩:=h;have h3:=h1.at h2;have h4:=h1.fit;rw [qcD] at h3 h4;obtain⟨a,n,c,b,d,m,f,rfl⟩:=qcq h3;exact⟨a,n,c,b,d,m,f,rfl,h3,h4,hb⟩
 ·exact absurd (qcZ sp) h.2.1
theorem RFit.inv {q:Rat} {K:Nat} (hq:q≠0) (h:RFit q K):RFit q⁻¹ K:=by
 obtain⟨i1,i2⟩:=qis hq;refine⟨?_,by rw [i2];exact h.1⟩;rw [i1];have:(if q.num<0 then -(q.den:Int) else q.den).natAbs=q.den:=by split <;> omega
 rw [this];exact h.2
theorem divq {p q:Rat} (sp:Short p) (sq:Short q) (hq:q≠0) (sz:Short (p*q⁻¹)) (w:World) (hT:HasT w) :
  Calls Tryz.prog 144 #[.agg #[.string (ftxt p).1,.string (ftxt p).2],.agg #[.string (ftxt q).1,.string (ftxt q).2]] w fun e w'=>e=.returned (.tuple #[.agg #[.string (ftxt (p*q⁻¹)).1,.string (ftxt (p*q⁻¹)).2],.int .i64 0])/\Below w.heap.size w w':=by
 obtain⟨p1,p2,hp⟩:=qb6 p;obtain⟨q1,q2,hqx⟩:=qb6 q;obtain⟨r1,r2,hr⟩:=qb6 (p*q⁻¹);obtain⟨W3,hW3,K3⟩:=nw3 w #[.string p1,.string p2] 44 #[.string q1,.string q2] 44 #[.string ⟨#[]⟩,.string ⟨#[]⟩] 44;have Rp:=fun W=>readq sp W
 have Rq:=fun W=>readq sq W
 rw [hp] at Rp;rw [hqx] at Rq;have HR:=qH (qA Rp Rq);have HZ:=qH (qA hq (qA sz (qA hr (hT.below K3.out.1))));rw [hp,hqx,hr];have b0:=qC W3 _ 0 _ _ _ K3.out.2.2.1;have b1:=qC W3 _ 1 _ _ _ K3.out.2.2.1;clear Rp Rq sp sq hq sz hT hp hqx hr;go_enter Tryz.func144,Tryz.ntmps144;go_wp2_with fail;rw [<-hW3];clear hW3;refine (HR.out.1 W3).mono ?_;rintro e w1 ⟨a0,n0,c0,bb0,d0,e0,f0,rfl,hv1,hf1,hb1⟩;have K4:=(K3.below hb1).also (q:=fun W=>RatV W (.agg #[.slice a0 n0 c0,.bool bb0,.slice d0 e0 f0]) p) hv1;have HF1:=qH hf1;have HT1:=qH (HZ.out.2.2.2.below hb1);have k1:=qC w1 _ 0 _ _ _ K4.out.1.2.2.1;have k2:=qC w1 _ 1 _ _ _ K4.out.1.2.2.1;have q1':w.heap.size+1<w1.heap.size:=(qG K4.out.1.2.2.1).1;have q9:w.heap.size+1+1<w1.heap.size:=(qG K4.out.1.2.2.2).1;clear hv1 hb1 hf1 K3 b0 b1;go_wp2_with fail;obtain⟨V1,hV1,N1⟩:=nw1 w1 #[.slice a0 n0 c0,.bool bb0,.slice d0 e0 f0] 138;have K5:=(K4.below N1.out.1).also (q:=fun W=>W.heap[w1.heap.size]? = some (.cells #[.slice a0 n0 c0,.bool bb0,.slice d0 e0 f0] 138 (0,0))) N1.out.2;have HT2:=qH (HT1.out.below N1.out.1);rw [<-hV1];clear hV1 k1 k2 K4 N1;refine (HR.out.2 V1).mono ?_;rintro e w2 ⟨a1,n1,c1,bb1,d1,e1,f1,rfl,hv2,hf2,hb2⟩;have K6:=(K5.below hb2).also (q:=fun W=>RatV W (.agg #[.slice a1 n1 c1,.bool bb1,.slice d1 e1 f1]) q) hv2;have HF2:=qH hf2;have q10:w1.heap.size<w2.heap.size:=(qG K6.out.1.2).1;have HT3:=qH (HT2.out.below hb2);obtain⟨V2,hV2,N2⟩:=nw1 w2 #[.slice a1 n1 c1,.bool bb1,.slice d1 e1 f1] 138;have K7:=(K6.below N2.out.1).also (q:=fun W=>W.heap[w2.heap.size]? = some (.cells #[.slice a1 n1 c1,.bool bb1,.slice d1 e1 f1] 138 (0,0))) N2.out.2;have HT4:=qH (HT3.out.below N2.out.1);have hmz:MagAt V2 (.slice a1 n1 c1) q.num.natAbs:=by
  obtain⟨m,o,e,h1,h2⟩:=K7.out.1.2;simp only [qaJ,qaL,qaH] at e;rw [e.1];exact h1
 have hqz:decide (q.num.natAbs=0)=false:=qU fun h=>HZ.out.1 (Rat.num_eq_zero.1 (by omega))
 have HZc:=frac.qcF q.num.natAbs (.slice a1 n1 c1) V2 hmz;rw [hqz] at HZc;have HZc:=qH HZc;clear hv2 hf2 hb2 K5 K6 N2 hmz hqz HT1 HT2 HT3 q1';go_upto_region 5 with fail;rw [<-hV2];clear hV2;have j0:=qC V2 _ 0 _ _ _ K7.out.2;go_wp2_with fail;refine HZc.out.mono ?_;rintro e w5 ⟨rfl,hw⟩;have hw:=hw.symm;subst hw;clear HZc j0;go_wp2_with fail;have r0:=rowG (g0:=w.heap.size+1+1) K7.out.1.1.2 0;have r1x:=rowG (g0:=w.heap.size+1+1) K7.out.1.1.2 1;have r2x:=rowG (g0:=w.heap.size+1+1) K7.out.1.1.2 2;have s0:=rowG (g0:=w.heap.size+1+1) K7.out.2 0;have s1:=rowG (g0:=w.heap.size+1+1) K7.out.2 1;have s2:=rowG (g0:=w.heap.size+1+1) K7.out.2 2;refine wp_region_held_drew (S:=fun W=>V2.grownBy W (some (w.heap.size+1+1))) (by kernel_rfl) (keepB qB.drew) (fun hS0=>?_);refine hT 0 (h:=?_);refine hT 1 (h:=?_);refine hC 2 (qjm q HZ.out.1 _ V2.drew (K7.out.1.2.below qB.drew)) (h:=?_);rintro e w6 ⟨u6,rfl,hb6,hu6⟩;have HB6:=qH (qb1 hb6);have hS6:V2.grownBy w6 (some (w.heap.size+1+1)):=keepB HB6.out;obtain⟨x0,x1,x2,x3,x4,x5,x6,rfl⟩:=qcq hu6;have HU6:=qH hu6;clear hb6 hu6;refine⟨_,rfl,hS6,hN (h:=?_)⟩;refine hC 3 (qka p q⁻¹ 67 (by decide) _ _ w6 (K7.out.1.1.1.2.below HB6.out) HU6.out HF1.out (HF2.out.inv HZ.out.1)) (h:=?_);rintro e w7 ⟨u7,rfl,hb7,hu7⟩;have HB7:=qH (HB6.out.trans (hb7.mono HB6.out.size));have hS7:=qcd hS6 hb7;obtain⟨y0,y1,y2,y3,y4,y5,y6,rfl⟩:=qcq hu7;have HU7:=qH hu7;clear hb7 hu7;refine⟨_,rfl,hS7,hN (h:=?_)⟩;refine hC 4 (qeb (p*q⁻¹) (67+67) (by decide) (by decide) _ w7 HU7.out (HF1.out.mul (HF2.out.inv HZ.out.1)) (HT4.out.below HB7.out)) (h:=?_);rintro e w8 ⟨h,hb8⟩;have HB8:=qH (HB7.out.trans (hb8.mono HB7.out.size));have hS8:=qcd hS7 hb8;clear hb8;rcases h with ⟨_,rfl⟩ | ⟨hns,_⟩
 case inr=>exact absurd HZ.out.2.1 hns
 rw [qdT,HZ.out.2.2.1];have K8:=K7.below HB8.out;refine⟨_,rfl,hS8,hN (h:=?_)⟩;refine hT 5 (h:=?_);refine hT 6 (h:=?_);have hrow:=K8.out.1.1.1.1.2.2.2;have HE:=qH (qA (qT _ _ _ #[.string r1,.string r2] _ _ hrow) (qS K8.out.1.1.1.1.1 (show w.heap.size<=w.heap.size+1+1 by omega) #[.string r1,.string r2]));have hS9:=qbU hS8 (qb5 w8 (w.heap.size+1+1) #[.string r1,.string r2]);refine hSn 7 2 hrow (h:=⟨hS9,?_⟩);refine hT 8 (hS:=hS9) (h:=?_);refine wpAnyH_done (by kernel_rfl) ?_ _;go_wp2_with fail;exact qR (v:=.tuple #[.agg #[.string r1,.string r2],.int .i64 0]) (rB_ rfl (w.heap.size+1+1) HE.out.1 Tryz.underlying44 2) rfl ⟨rfl,HE.out.2⟩
end Go.Proofs.YtplkdeknjghobaaGreatDoor
namespace Go.Proofs.YtplkdeknjghobaaGreatDoor
open Go.RowKit
def RBlk (W:World) (g:Nat) (q:Rat):Prop:=∃(a:Option Addr) (n c:Nat) (b:Bool) (d:Option Addr) (m f:Nat),W.heap[g]? = some (.cells #[.slice a n c,.bool b,.slice d m f] 138 (0,0))/\RatV W (.agg #[.slice a n c,.bool b,.slice d m f]) q
theorem RBlk.below {W W':World} {g:Nat} {q:Rat} (h:RBlk W g q) (hb:Below W.heap.size W W'):RBlk W' g q:=by
 obtain⟨a,n,c,b,d,m,f,h1,h2⟩:=h;exact⟨a,n,c,b,d,m,f,zkeep hb _ _ h1,h2.below hb⟩
theorem qiR {a:Option Addr} {n c:Nat} {b:Bool} {d:Option Addr} {m f:Nat}:∀x∈(#[.slice a n c,.bool b,.slice d m f]:Array Value).toList,∀z,x≠.int .u32 z:=by
 intro x hx z;simp at hx;rcases hx with rfl | rfl | rfl <;> intro h <;> cases h
theorem RatV.keep {W W':World} {v:Value} {q:Rat} {g:Nat} {cs:Array Value} {t:TypeId} (h:RatV W v q) (hk:W.grownBy W' (some g)) (hg:W.heap[g]? = some (.cells cs t (0,0))) (hn:∀x∈cs.toList,∀z,x≠.int .u32 z):RatV W' v q:=by
 obtain⟨m,o,h1,h2,h3⟩:=h;exact⟨m,o,h1,qce h2 hk hg hn,qce h3 hk hg hn⟩
theorem qk7 (S P:Rat) (K:Nat) (hK:K<=34359738368) (sb:Nat) (v:Value) (w:World) (hs:RBlk w sb S) (hv:RatV w v P) (hS:RFit S K) (hP:RFit P K) :
  Calls Tryz.prog 255 #[v,.pointer (some ⟨sb,0,none⟩)] w fun e w'=>e=.returned (.tuple #[])/\RBlk w' sb (S+P)/\w.grownBy w' (some sb):=by
 obtain⟨a,n,c,b,d,m,f,h1,h2⟩:=hs;obtain⟨a0,n0,c0,b0,d0,m0,f0,rfl⟩:=qcq hv;obtain⟨W1,hW1,K1⟩:=nw1 w #[.slice a0 n0 c0,.bool b0,.slice d0 m0 f0] 138;have hr:=zkeep K1.out.1 _ _ h1;have x0:=qC _ _ 0 _ _ _ hr;have x1:=qC _ _ 1 _ _ _ hr;have x2:=qC _ _ 2 _ _ _ hr;have y0:=qC _ _ 0 _ _ _ K1.out.2;have y1:=qC _ _ 1 _ _ _ K1.out.2;have y2:=qC _ _ 2 _ _ _ K1.out.2;have HA:=qH (qh3 S P K hK _ _ W1 (h2.below K1.out.1) (hv.below K1.out.1) hS hP);have HX:=qH hr;clear h1 h2 hv hr hS hP;go_enter Tryz.func255,Tryz.ntmps255;go_upto_region 1 with fail;rw [<-hW1];clear hW1;go_wp2_with fail;refine HA.out.mono ?_;rintro e w2 ⟨r,rfl,hb,hr⟩;obtain⟨e0,e1,e2,e3,e4,e5,e6,rfl⟩:=qcq hr;have hrow:=zkeep hb _ _ HX.out;have HE:=qH (qA (qT _ _ _ #[.slice e0 e1 e2,.bool e3,.slice e4 e5 e6] _ _ hrow) (qA (qbU (qcd (keepB (g:=sb) K1.out.1) hb) (qb5 w2 sb #[.slice e0 e1 e2,.bool e3,.slice e4 e5 e6])) (hr.keep (qb5 w2 sb #[.slice e0 e1 e2,.bool e3,.slice e4 e5 e6]) hrow qiR)));have Hrow:=qH hrow;clear hb hr hrow HA;rename_i hK;dsimp only;refine hK _ _ ?_
 go_wp2_with ((with_reducible refine sR_ rfl 138 _ _ rfl (sb) #[.slice e0 e1 e2,.bool e3,.slice e4 e5 e6] Hrow.out 3 ?_))
 go_end0
 exact⟨rfl,⟨e0,e1,e2,e3,e4,e5,e6,HE.out.1,HE.out.2.2⟩,HE.out.2.1⟩
theorem RFit.plus {p q:Rat} {K J:Nat} (hp:RFit p K) (hq:RFit q J):RFit (p+q) (K+J+1):=by
 have h1:Fit (p.num*q.den+q.num*p.den).natAbs (K+J+1):=by
  refine (Fit.add (x:=(p.num*q.den).natAbs) (y:=(q.num*p.den).natAbs) (K:=K+J) ?_ ?_).le (qbK _ _)
  ·rw [qaE,qal];exact hp.1.mul hq.2
  ·rw [qaE,qal,Nat.add_comm K J];exact hq.1.mul hp.2
 have h2:Fit (p.den*q.den) (K+J+1):=(hp.2.mul hq.2).mono (by omega);rw [Rat.add_def'];have hne:=Nat.mul_ne_zero p.den_nz q.den_nz
 constructor
 ·rw [Rat.num_mkRat,if_neg hne];refine h1.le ?_;rw [Int.natAbs_ediv_of_dvd (Int.ofNat_dvd_left.2 (qaU _ _))];exact qaS _ _
 ·rw [Rat.den_mkRat,if_neg hne];exact h2.le (qaS _ _)
theorem RFit.up {q:Rat} {K J:Nat} (h:RFit q K) (hJ:K<=J):RFit q J:=⟨h.1.mono hJ,h.2.mono hJ⟩
structure RCells (W:World) (b n:Nat) (x:Nat->Rat):Prop where
 cell:∀k,k<n->∃(a:Option Addr) (m c:Nat) (bb:Bool) (d:Option Addr) (e f:Nat),W.cell? ⟨b,k*3,none⟩=some (.slice a m c)/\W.cell? ⟨b,k*3+1,none⟩=some (.bool bb)/\W.cell? ⟨b,k*3+2,none⟩=some (.slice d e f)/\RatV W (.agg #[.slice a m c,.bool bb,.slice d e f]) (x k)
theorem RCells.below {W W':World} {b n:Nat} {x:Nat->Rat} (h:RCells W b n x) (hb:Below W.heap.size W W'):RCells W' b n x:=⟨fun k hk=>by
 obtain⟨a,m,c,bb,d,e,f,h1,h2,h3,h4⟩:=h.cell k hk;exact⟨a,m,c,bb,d,e,f,(hb.cell (qac W _ h1)).trans h1,(hb.cell (qac W _ h2)).trans h2,(hb.cell (qac W _ h3)).trans h3,h4.below hb⟩⟩
theorem one_mag (W:World) (g:Nat) (h:W.heap[g]? = some (.cells #[.int .u32 1] 232 (0,0))):MagAt W (.slice (some ⟨g,0,none⟩) 1 1) 1:=by
 refine⟨some ⟨g,0,none⟩,g,0,1,1,[1],rfl,⟨rfl,qad _,⟨fun _=>rfl,fun k hk=>?_⟩,fun k=>?_,qah (by decide)⟩,by decide⟩
 ·obtain rfl:k=0:=by simp at hk;omega
  exact qC _ _ 0 _ _ _ h
 ·rcases k with _ | k
  ·decide
  ·simp
theorem qnd (b n c:Nat) (ao:Option Addr) (x:Nat->Rat) (w:World) (hao:0<n->ao=some ⟨b,0,none⟩) (hn:n<=300) (hx:∀k,k<n->RFit (x k) 67) (hC:RCells w b n x) :
  Calls Tryz.prog 204 #[.slice ao n c] w fun e w'=>∃r,e=.returned r/\Below w.heap.size w w'/\RatV w' r (sumQ n x)/\RFit (sumQ n x) (68*n+1):=by
 obtain⟨W1,hW1,N1⟩:=nw1 w #[.slice none 0 0,.bool false,.slice none 0 0] 138;obtain⟨W2,hW2,N2⟩:=nw1 W1 #[.int .u32 1] 232;have hs1:W1.heap.size=w.heap.size+1:=by rw [hW1];simp
 have hs2:W2.heap.size=w.heap.size+1+1:=by rw [hW2];simp [hs1]
 obtain⟨W3,hW3,N3⟩:=nw1 W2 #[.slice none 0 0,.bool false,.slice (some ⟨w.heap.size+1,0,none⟩) 1 1] 138;have hrow:W1.heap[w.heap.size]? = some (.cells #[.slice none 0 0,.bool false,.slice none 0 0] 138 (0,0)):=N1.out.2;have h2:=N2.out.2;rw [hs1] at h2;have h3:=N3.out.2;rw [hs2] at h3;have hb3:Below w.heap.size w W3:=N1.out.1.trans ((N2.out.1.trans (N3.out.1.mono N2.out.1.size)).mono N1.out.1.size);have hz:RBlk W3 (w.heap.size+1+1) 0:=by
  refine⟨none,0,0,false,_,1,1,h3,.slice none 0 0,.slice (some ⟨w.heap.size+1,0,none⟩) 1 1,rfl,MagAt.nil _,?_⟩;exact (one_mag _ _ h2).below N3.out.1
 have hrr:=zkeep N3.out.1 _ _ (zkeep N2.out.1 _ _ hrow);have hmf:=@hmf_ Tryz.prog;have H0:=qH (qA hb3 (qA hz hrr));have HX:=qH (qA hao (qA hx (hC)));clear hrow h2 h3 hb3 hz hrr hs1 hs2 N1 N2 N3 hao hx hC;go_enter Tryz.func204,Tryz.ntmps204;go_upto_region 2 with fail;rw [<-hW1,<-hW2,<-hW3];clear hW1 hW2 hW3;go_wp2_with fail
 go_loopw [12] (fun x12 W=>∃i:Nat,x12=.int .i64 i/\i<=n/\Hid (Below w.heap.size w W/\RBlk W (w.heap.size+1+1) (sumQ i x)/\W.heap[w.heap.size]? = some (.cells #[.slice none 0 0,.bool false,.slice none 0 0] 138 (0,0))/\RFit (sumQ i x) (68*i+1))) (fun x12 _=>n-(intOf x12).toNat)
 case atStart =>
  exact⟨0,rfl,qam _,qH ⟨H0.out.1,H0.out.2.1,H0.out.2.2,⟨(by show (0:Nat)<1000000000 ^ 1;decide),(by show (1:Nat)<1000000000 ^ 1;decide)⟩⟩⟩
 case round =>
  obtain⟨i,rfl,hin,hI⟩:=hrel
  by_cases hi:i<n
  ·have hii:(i:Int)<n:=by omega
   have ha:=HX.out.1 (by omega);subst ha;obtain⟨a0,m0,c0,b0,d0,e0,f0,y0,y1,y2,hv⟩:=(HX.out.2.2.below hI.out.1).cell i hi;have hv3:i*3<n*3:=by omega
   have HV:=qH hv;clear hv;go_wp2_with fail;have hal:Below wr.heap.size wr (wr.alloc (.cells #[.slice a0 m0 c0,.bool b0,.slice d0 e0 f0] 138)):=qB.alloc qN _;refine (qk7 (sumQ i x) (x i) (68*n+68) (by omega) (w.heap.size+1+1) _ _ (hI.out.2.1.below hal) (HV.out.below hal) (hI.out.2.2.2.up (by omega)) ((HX.out.2.1 i hi).up (by omega))).mono ?_;rintro e w5 ⟨rfl,hr,hk⟩;have HN:Hid (Below w.heap.size w w5/\RBlk w5 (w.heap.size+1+1) (sumQ i x+x i)/\w5.heap[w.heap.size]? = some (.cells #[.slice none 0 0,.bool false,.slice none 0 0] 138 (0,0))):=qH (by
    have hb1:=hI.out.1.trans (hal.mono hI.out.1.size);refine⟨hb1.trans ⟨hk.os,hk.tape,hk.output,hk.size,fun j hj=>hk.block j (by have:=hb1.size;omega) (fun e=>by have:=qai e;omega)⟩,hr,?_⟩;have hg:=zkeep hal _ _ hI.out.2.2.1;exact (hk.block _ (qG hg).1 (fun e=>by have:=qai e;omega)).trans hg)
   clear hr hk;go_wp2;go_roundw
   case rel=>exact⟨i+1,by go_num,hi,qH ⟨HN.out.1,HN.out.2.1,HN.out.2.2,(hI.out.2.2.2.plus (HX.out.2.1 i hi)).up (by omega)⟩⟩
   case measure=>simp [intOf];omega
  ·obtain rfl:i=n:=by omega
   obtain⟨hb,⟨a,m,c',bb,d,e',f,h1,h2⟩,h3,h4⟩:=hI.out;have x0:=qC _ _ 0 _ _ _ h1;have x1:=qC _ _ 1 _ _ _ h1;have x2:=qC _ _ 2 _ _ _ h1;have HE:=qH (qA (qT _ _ _ #[.slice a m c',.bool bb,.slice d e' f] _ _ h3) (qA (qS hb qN #[.slice a m c',.bool bb,.slice d e' f]) (qA (h2.keep (qb5 _ w.heap.size #[.slice a m c',.bool bb,.slice d e' f]) h3 qiR) h4)));have Hr:=qH h3;clear hI hb h1 h2 h3 h4
   go_wp2_with ((with_reducible refine sR_ rfl 138 _ _ rfl (w.heap.size) #[.slice a m c',.bool bb,.slice d e' f] Hr.out 3 ?_))
   exact qR (v:=.agg #[.slice a m c',.bool bb,.slice d e' f]) (rA_ rfl (w.heap.size) HE.out.1 Tryz.underlying138 3) rfl ⟨_,rfl,HE.out.2.1,HE.out.2.2.1,HE.out.2.2.2⟩
theorem qlO (x:Int) (d K:Nat) (hK0:0<K) (hK:K<=137438953472) (hd:0<d) (v o:Value) (w:World) (hv:IntAt w v x) (ho:MagAt w o d) (hx:Fit x.natAbs K) (hy:Fit d K) :
  Calls Tryz.prog 264 #[v,o] w fun e w'=>∃u,e=.returned u/\Below w.heap.size w w'/\IntAt w' u (x / (d:Int)):=by
 obtain⟨m,rfl,hm⟩:=hv;have hsf:=sg_floor x hd;obtain⟨am,bm,om,cm,nm,M,rfl,hM⟩:=id hm;obtain⟨ao,bo,oo,co,no,O,rfl,hO⟩:=id ho;obtain⟨bb,hbb⟩:∃b,decide (x<0)=b:=⟨_,rfl⟩;rw [hbb] at hsf ⊢;obtain⟨W2,hW2,K2⟩:=nw2 w #[.slice am nm cm,.bool bb] 136 #[.slice none 0 0,.bool false] 136;have c0:=qC _ _ 0 _ _ _ K2.out.2.1;have HD:=qH (frac.qb7 x.natAbs d K hK _ _ W2 (hm.below K2.out.1) (ho.below K2.out.1) hx hy hd);have hq0:Fit (x.natAbs / d) K:=hx.le (qaS _ _);have h1K:Fit 1 K:=(show Fit 1 1 from (by show 1<1000000000 ^ 1;decide)).mono hK0;obtain⟨q0,hq⟩:=qX (x.natAbs / d);obtain⟨r0,hr⟩:=qX (x.natAbs % d);obtain⟨Z,hZ⟩:=qX (x / (d:Int));rw [hq,hr] at hsf HD;rw [hZ] at hsf ⊢;rw [hq] at hq0;have HX:=qH (qA hsf (qA hq0 (qA h1K hK)));clear hm ho hM hO hbb hsf hx hy hd hq hr hZ hq0 h1K hK hK0;go_enter Tryz.func264,Tryz.ntmps264;go_upto_region 1 with fail;rw [<-hW2];clear hW2;go_wp2_with fail;refine HD.out.mono ?_;rintro e w3 ⟨q,r,rfl,hb3,hq,hr⟩;have K3:=(K2.below hb3).also (q:=fun W=>MagAt W q q0/\MagAt W r r0) ⟨hq,hr⟩;obtain⟨aq,_,_,cq,nq,_,rfl,_,_⟩:=hq;obtain⟨ar,_,_,cr,nr,_,rfl,_,_⟩:=hr;clear hb3 K2 HD c0;have c1:=qC _ _ 1 _ _ _ K3.out.1.2.1;cases bb with
 | false =>
  go_wp2_with fail;refine (frac.qb3 q0 false _ w3 K3.out.2.1).mono ?_;rintro e w4 ⟨u,rfl,hb4,hu⟩;obtain⟨a9,n9,c9,b9,rfl⟩:=frac.qbT hu;have K4:=K3.below hb4;have hz:(if false=true then -(q0:Int) else q0)=Z:=by have:=HX.out.1;simpa using this
  rw [hz] at hu;have Hrow:=qH K4.out.1.2.2;have HE:=qH (qA (qT _ _ _ #[.slice a9 n9 c9,.bool b9] _ _ Hrow.out) (qA (qS K4.out.1.1 (show w.heap.size<=w.heap.size+1 by omega) #[.slice a9 n9 c9,.bool b9]) (frac.qcB (cs':=#[.slice a9 n9 c9,.bool b9]) hu Hrow.out qcX)));clear hu hb4 hz K3 c1;rename_i hK;dsimp only;refine hK _ _ ?_
  go_wp2_with ((with_reducible refine sR_ rfl 136 _ _ rfl ((w.heap.size+1)) #[.slice a9 n9 c9,.bool b9] Hrow.out 2 ?_))
  exact qR (v:=.agg #[.slice a9 n9 c9,.bool b9]) (rA_ rfl ((w.heap.size+1)) HE.out.1 Tryz.underlying136 2) rfl ⟨_,rfl,HE.out.2.1,HE.out.2.2⟩
 | true =>
  go_wp2_with fail;refine (frac.qcF r0 _ w3 K3.out.2.2).mono ?_;rintro e w4 ⟨rfl,hw⟩;subst hw
  by_cases h0:r0=0
  ·rw [qV h0];have H0:=qH h0;clear h0;go_wp2_with fail;refine (frac.qb3 q0 true _ _ K3.out.2.1).mono ?_;rintro e w5 ⟨u,rfl,hb4,hu⟩;obtain⟨a9,n9,c9,b9,rfl⟩:=frac.qbT hu;have K4:=K3.below hb4;have hz:(if true=true then -(q0:Int) else q0)=Z:=by have:=HX.out.1;simp [H0.out] at this;rw [if_pos rfl];omega
   rw [hz] at hu;have Hrow:=qH K4.out.1.2.2;have HE:=qH (qA (qT _ _ _ #[.slice a9 n9 c9,.bool b9] _ _ Hrow.out) (qA (qS K4.out.1.1 (show w.heap.size<=w.heap.size+1 by omega) #[.slice a9 n9 c9,.bool b9]) (frac.qcB (cs':=#[.slice a9 n9 c9,.bool b9]) hu Hrow.out qcX)));clear hu hb4 hz K3 c1;rename_i hK;dsimp only;refine hK _ _ ?_
   go_wp2_with ((with_reducible refine sR_ rfl 136 _ _ rfl ((w.heap.size+1)) #[.slice a9 n9 c9,.bool b9] Hrow.out 2 ?_))
   exact qR (v:=.agg #[.slice a9 n9 c9,.bool b9]) (rA_ rfl ((w.heap.size+1)) HE.out.1 Tryz.underlying136 2) rfl ⟨_,rfl,HE.out.2.1,HE.out.2.2⟩
  ·rw [qU h0];have H0:=qH h0;clear h0;obtain⟨W4,hW4,N4⟩:=nw1 w4 #[.int .u32 1] 232;have HP:=qH (frac.qgy q0 1 K (by have:=HX.out.2.2.2;omega) (.slice aq nq cq) (.slice (some ⟨w4.heap.size,0,none⟩) 1 1) W4 (K3.out.2.1.below N4.out.1) (hW4▸qdV w4 232 (s:=1) (by decide) (by decide)) HX.out.2.1 HX.out.2.2.1);have K4:=K3.below N4.out.1;clear K3 c1 N4;go_wp2_with fail;rw [<-hW4];clear hW4;refine HP.out.mono ?_;rintro e w5 ⟨p,rfl,hb5,hp⟩;have K5:=(K4.below hb5).also (q:=fun W=>MagAt W p (q0+1)) hp;obtain⟨ap,_,_,cp,np,_,rfl,_,_⟩:=hp;clear hb5 K4 HP;have c1:=qC _ _ 1 _ _ _ K5.out.1.1.2.1;go_wp2_with fail;refine (frac.qb3 (q0+1) true _ w5 K5.out.2).mono ?_;rintro e w6 ⟨u,rfl,hb6,hu⟩;obtain⟨a9,n9,c9,b9,rfl⟩:=frac.qbT hu;have K6:=K5.below hb6;have hz:(if true=true then -((q0+1:Nat):Int) else ((q0+1:Nat):Int))=Z:=by have:=HX.out.1;simp [H0.out] at this;rw [if_pos rfl];omega
   rw [hz] at hu;have Hrow:=qH K6.out.1.1.2.2;have HE:=qH (qA (qT _ _ _ #[.slice a9 n9 c9,.bool b9] _ _ Hrow.out) (qA (qS K6.out.1.1.1 (show w.heap.size<=w.heap.size+1 by omega) #[.slice a9 n9 c9,.bool b9]) (frac.qcB (cs':=#[.slice a9 n9 c9,.bool b9]) hu Hrow.out qcX)));clear hu hb6 hz K5 c1;rename_i hK;dsimp only;refine hK _ _ ?_
   go_wp2_with ((with_reducible refine sR_ rfl 136 _ _ rfl ((w.heap.size+1)) #[.slice a9 n9 c9,.bool b9] Hrow.out 2 ?_))
   exact qR (v:=.agg #[.slice a9 n9 c9,.bool b9]) (rA_ rfl ((w.heap.size+1)) HE.out.1 Tryz.underlying136 2) rfl ⟨_,rfl,HE.out.2.1,HE.out.2.2⟩
theorem near_any (q:Rat) (s K J:Nat) (hK:K+J+2<=34359738368) (v u:Value) (w:World) (hv:RatV w v q) (hu:MagAt w u s) (hq:RFit q K) (hs:Fit s J) :
  Calls Tryz.prog 217 #[v,u] w fun e w'=>∃r,e=.returned r/\Below w.heap.size w w'/\IntAt w' r (nearZ q s):=by
 obtain⟨vm,vo,rfl,hm,ho⟩:=hv;obtain⟨am,bm,om,cm,nm,M,rfl,hM⟩:=id hm;obtain⟨ao,bo,oo,co,no,O,rfl,hO⟩:=id ho;obtain⟨au,bu,ou,cu,nu,U,rfl,hU⟩:=id hu;have h2:Fit 2 1:=by show 2<1000000000 ^ 1;decide
 have g1:Fit (s*2) (J+1):=hs.mul h2;have g2:Fit (q.num*((s*2:Nat):Int)).natAbs (K+J+2):=by rw [qaE,qal];exact (hq.1.mul g1).mono (by omega)
 have g3:Fit ((q.den:Int)).natAbs (K+J+2):=by rw [qal];exact hq.2.mono (by omega)
 have g4:Fit (q.num*((s*2:Nat):Int)+(q.den:Int)).natAbs (K+J+3):=(g2.add g3).le (qbK _ _);have g5:Fit (q.den*2) (K+J+3):=(hq.2.mul h2).mono (by omega);have hz:=qiF q s;obtain⟨z,hzz⟩:=qX (nearZ q s);rw [hzz] at hz ⊢;obtain⟨W3,hW3,K3⟩:=nw3 w #[.slice am nm cm,.bool (decide (q.num<0)),.slice ao no co] 138 #[.slice none 0 0,.bool false] 136 #[.int .u32 2] 232;have h2m:MagAt W3 (.slice (some ⟨w.heap.size+1+1,0,none⟩) 1 1) 2:=by
  have:=qdV ((w.alloc (.cells #[.slice am nm cm,.bool (decide (q.num<0)),.slice ao no co] 138)).alloc (.cells #[.slice none 0 0,.bool false] 136)) 232 (s:=2) (by decide) (by decide);rw [hW3];simpa using this
 have HM:=qH (qA (hm.below K3.out.1) (qA (ho.below K3.out.1) (qA (hu.below K3.out.1) h2m)));have HG:=qH (qA g1 (qA g2 (qA g3 (qA g4 (qA g5 (qA hq (qA hs (qA hK hz))))))));have HC:=qH fun (W:World) (h:Below W3.heap.size W3 W)=>frac.qco s 2 J 1 (by omega) _ _ W (HM.out.2.2.1.below h) (HM.out.2.2.2.below h) hs h2
 have HS:=qH fun (W:World) (x:Value) (h:Below W3.heap.size W3 W) (hx:MagAt W x (s*2))=>frac.qcN q.num (s*2) K (J+1) (by omega) (.agg #[.slice am nm cm,.bool (decide (q.num<0))]) x W ⟨_,rfl,HM.out.1.below h⟩ hx hq.1 g1
 have HN:=qH fun (W:World) (h:Below W3.heap.size W3 W)=>frac.qb3 q.den false (.slice ao no co) W (HM.out.2.1.below h)
 have HA:=qH fun (W:World) (x y:Value) (hx:IntAt W x (q.num*((s*2:Nat):Int))) (hy:IntAt W y (q.den:Int))=>frac.qdS _ _ (K+J+2) (by omega) x y W hx hy g2 g3
 obtain⟨bb,hbb⟩:∃b,decide (q.num<0)=b:=⟨_,rfl⟩;rw [hbb] at HS hW3 K3 ⊢;clear hm ho hu hM hO hU hq hs h2 g1 g2 g3 g4 g5 hz hK h2m hzz;have lt:=(qG K3.out.2.2.2).1;have c0:=rowC (B:=W3.heap.size) K3.out.2.1 0;have c1:=rowC (B:=W3.heap.size) K3.out.2.1 1;have c2:=rowC (B:=W3.heap.size) K3.out.2.1 2;go_enter Tryz.func217,Tryz.ntmps217;go_upto_region 2 with fail;rw [<-hW3];clear hW3;refine wp_region_held_drew (S:=fun W=>Below W3.heap.size W3 W) (by kernel_rfl) qB.drew (fun hS0=>?_);refine hT 0 (h:=hT 1 (h:=hT 2 (h:=hT 3 (h:=hT 6 (h:=hT 7 (h:=?_))))));refine gr [(4,12),(5,13),(8,16),(9,17),(10,6)] [(5,[4]),(9,[5,8])] [0,1,2,3,6,7] [4,5,8,9,10] [10] 11 12 (fl2 [(4,fun x W=>MagAt W x (s*2)),(5,fun x W=>IntAt W x (q.num*((s*2:Nat):Int))),(8,fun x W=>IntAt W x (q.den:Int)),(9,fun x W=>IntAt W x (q.num*((s*2:Nat):Int)+(q.den:Int))),(10,ZC W3.heap.size #[.slice none 0 0,.bool false] 136)]) _ 1
  (hS:=fun w' h=>qb1 h) (hstep:=⟨⟨_,rfl,fun v w2 hb hF K hK=>?_⟩,⟨_,rfl,fun v w2 hb hF K hK=>?_⟩,⟨_,rfl,fun v w2 hb hF K hK=>?_⟩,⟨_,rfl,fun v w2 hb hF K hK=>?_⟩,⟨_,rfl,fun v w2 hb hF K hK=>?_⟩,trivial⟩) (hend:=fun v w2 hb hF _ f=>?_)
 ·exact gC hK (HC.out _ (qb1 hb)) (h:=fun e w3 ⟨u,e1,h1,h2⟩=>⟨u,e1,h2,h1⟩)
 ·exact gC hK (HS.out _ _ (qb1 hb) hF.1) (h:=fun e w3 ⟨u,e1,h1,h2⟩=>⟨u,e1,h2,h1⟩)
 ·exact gC hK (HN.out _ (qb1 hb)) (h:=fun e w3 ⟨u,e1,h1,h2⟩=>⟨u,e1,h2,h1⟩)
 ·exact gC hK (HA.out _ _ _ hF.1 hF.2.1) (h:=fun e w3 ⟨u,e1,h1,h2⟩=>⟨u,e1,h2,h1⟩)
 ·exact gW hK (h:=ZC.new hb.size)
 obtain⟨g,hg,e11,hgs⟩:ZC _ _ _ _ _:=hF 10 (by decide) (by decide);have hx:IntAt w2 (v 9) _:=hF 9 (by decide) (by decide);obtain⟨ax,nx,cx,bx,e10⟩:=frac.qbT hx;rw [e10] at hx;have K2:=K3.below (qb1 hb);have hm2:=HM.out.2.1.below (qb1 hb);have h22:=HM.out.2.2.2.below (qb1 hb);refine hSt 11 2 hg (hx:=by exact e11) (hy:=by exact e10) (h:=⟨qS (qb1 hb) hgs _,?_⟩);obtain⟨W4,hW4⟩:=qY (w2.setRow g #[.slice ax nx cx,.bool bx]);have K4:Kn (fun W=>(Below w.heap.size w W/\W.heap[w.heap.size]? = some (.cells #[.slice am nm cm,.bool bb,.slice ao no co] 138 (0,0))/\W.heap[w.heap.size+1]? = some (.cells #[.slice none 0 0,.bool false] 136 (0,0))) /\
   (W.heap[g]? = some (.cells #[.slice ax nx cx,.bool bx] 136 (0,0))/\IntAt W (.agg #[.slice ax nx cx,.bool bx]) (q.num*((s*2:Nat):Int)+(q.den:Int)))/\MagAt W (.slice ao no co) q.den/\MagAt W (.slice (some ⟨w.heap.size+1+1,0,none⟩) 1 1) 2) W4 :=
  .of (by rw [hW4];exact⟨⟨qS K2.out.1 (by omega) _,(setRow_other _ _ _ _ (by omega)).trans K2.out.2.1,(setRow_other _ _ _ _ (by omega)).trans K2.out.2.2.1⟩,⟨qT _ _ _ _ _ _ hg,frac.qcB hx hg qcX⟩,qcx hm2 hg qcX,qcx h22 hg qcX⟩)
 rw [<-hW4];have lg:=(qG K4.out.2.1.1).1;have l1:=(qG K4.out.1.2.2).1;have hgn:g≠w.heap.size+1:=by omega
 clear c0 c1 c2 hW4 K2 K3 HM HC HS HN HA hg hF hb hx hS0 hm2 h22 lt;have d2:=rowG (g0:=w.heap.size+1) K4.out.1.2.1 2;have g0:=rowG (g0:=w.heap.size+1) K4.out.2.1.1 0 (hne:=hgn);have g1:=rowG (g0:=w.heap.size+1) K4.out.2.1.1 1 (hne:=hgn);go_wp2_with fail;refine wp_region_held_drew (S:=fun W=>W4.grownBy W (some (w.heap.size+1))) (by kernel_rfl) (keepB qB.drew) (fun hS0=>?_);refine hT 0 (h:=hT 1 (h:=hT 2 (h:=hT 3 (h:=?_))));refine hC 4 (frac.qco q.den 2 K 1 (by have:=HG.out.2.2.2.2.2.2.2.1;omega) _ _ W4.drew (K4.out.2.2.1.below qB.drew) (K4.out.2.2.2.below qB.drew) HG.out.2.2.2.2.2.1.2 (by show 2<1000000000 ^ 1;decide)) (h:=?_);rintro e w5 ⟨x,rfl,hb,hx⟩;have HB5:=qH (qb1 hb);have K5:=(K4.below HB5.out).also (q:=fun W=>MagAt W x (q.den*2)) hx;clear hb hx;refine⟨_,rfl,keepB HB5.out,hN (h:=?_)⟩;refine hC 5 (qlO _ _ (K+J+3) (by omega) (by have:=HG.out.2.2.2.2.2.2.2.1;omega) (by have:=q.den_pos;omega) _ _ w5 K5.out.1.2.1.2 K5.out.2 HG.out.2.2.2.1 HG.out.2.2.2.2.1) (h:=?_);rintro e w6 ⟨r,rfl,hb,hr⟩;have HB6:=qH (HB5.out.trans (hb.mono HB5.out.size));have K6:=K5.below hb;obtain⟨a9,n9,c9,b9,rfl⟩:=frac.qbT hr;have HR:=qH hr;clear hb hr;refine⟨_,rfl,keepB HB6.out,hN (h:=?_)⟩;have hrow:=K6.out.1.1.2.2;refine hSt 6 2 hrow (h:=⟨qbU (keepB HB6.out) (qb5 _ _ _),?_⟩);have HE:=qH (qA (qT _ _ _ #[.slice a9 n9 c9,.bool b9] _ _ hrow) (qA (qS K6.out.1.1.1 (show w.heap.size<=w.heap.size+1 by omega) #[.slice a9 n9 c9,.bool b9]) (frac.qcB (cs':=#[.slice a9 n9 c9,.bool b9]) HR.out hrow qcX)));clear hrow;go_wp2_with fail;refine qR (v:=.agg #[.slice a9 n9 c9,.bool b9]) (rA_ rfl ((w.heap.size+1)) HE.out.1 Tryz.underlying136 2) rfl ⟨_,rfl,HE.out.2.1,?_⟩;rw [HG.out.2.2.2.2.2.2.2.2];exact HE.out.2.2
open Go.Lib
def HasE (w:World):Prop:=∃ev,w.cell? ⟨3,0,none⟩=some ev/\(ev=.nilIface\/∃te pe,ev=.iface te pe)
theorem HasE.below {w w':World} (h:HasE w) (hb:Below w.heap.size w w'):HasE w':=by
 obtain⟨ev,h1,h2⟩:=h;exact⟨ev,(hb.cell (qac w _ h1)).trans h1,h2⟩
instance stays_hase:Stays fun W=>HasE W:=⟨fun h hb=>h.below hb⟩
def I64 (z:Int):Prop:=-9223372036854775808<=z/\z<=9223372036854775807
theorem qno {z:Int} {K:Nat} (h:Fit z.natAbs K) (hK:0<K):(frac.wtxt z).size<=9*K+1:=by
 have h1:(decDigits z.natAbs).length<=9*K:=qb9 _ _ (by omega) (by rw [<-pow9];exact h)
 show (itxt z).length<=_
 unfold itxt;split
 ·simpa using h1
 ·omega
theorem intw_any (z:Int) (K:Nat) (hK0:0<K) (hK:K<=1000) (hz:Fit z.natAbs K) (w:World) (hE:HasE w) :
  Calls Tryz.prog 216 #[.string (frac.wtxt z)] w fun e w'=>Below w.heap.size w w'/\((I64 z/\e=.returned (.tuple #[.int .i64 z,.int .i64 0]))\/(¬I64 z/\∃c:Int,c≠0/\e=.returned (.tuple #[.int .i64 0,.int .i64 c]))):=by
 have hsz:=qno hz hK0;have hck:=qeT (frac.wtxt z) w;have hvalid:I64 z->Valid (frac.wtxt z).data.toList:=fun h=>qf9 (qaF (m:=9223372036854775808) (by have h1:=h.1;have h2:=h.2;omega) (by decide +kernel))
 have hp:Lib.parseIntB 64 (frac.wtxt z).data.toList=if -9223372036854775808<=z/\z<=9223372036854775807 then .ok z else .range:=qkS z
 obtain⟨s,hs⟩:=qX (frac.wtxt z);rw [hs] at hsz hck hvalid hp ⊢;have HC:=qH hck;have HX:=qH (qA (show s.size<=281474976710656 by omega) (qA hvalid (qA hp hE)));clear hsz hck hvalid hp hs hE hz hK;go_enter Tryz.func216,Tryz.ntmps216;go_wp2_with fail;refine HC.out.mono ?_;rintro e w2 ⟨c,rfl,h,hb⟩;have HB:=qH hb;clear hb HC;rcases h with ⟨rfl,hv⟩ | ⟨rfl,hv⟩
 ·clear hv
  by_cases hi:I64 z
  ·have HI:=qH hi;have HP:=qH (Tryz.strconv_ParseInt_10_at64_ok s (by have:=HX.out.1;omega) z (by rw [HX.out.2.2.1,if_pos (show -9223372036854775808<=z/\z<=9223372036854775807 from hi)]) w2);clear hi;go_wp2_with fail;refine HP.out.mono ?_;rintro e w3 ⟨rfl,hw⟩;have hb3:Below w2.heap.size w2 w3:=by
    rcases hw with rfl | ⟨t,rfl⟩
    ·exact Below.refl _ _
    ·exact Lib.bytesWorld_below _ _ _
   have HB3:=qH (HB.out.trans (hb3.mono HB.out.size));clear hb3 hw HP;go_wp2_with fail
   go_ret2
   exact⟨HB3.out,qan ⟨HI.out,rfl⟩⟩
  ·have HI:=qH hi;obtain⟨ev,h1,h2⟩:=HX.out.2.2.2.below HB.out;have HP:=qH (Tryz.strconv_ParseInt_10_at64_range s HX.out.1 (by rw [HX.out.2.2.1,if_neg (show ¬(-9223372036854775808<=z/\z<=9223372036854775807) from hi)]) ev w2 h1 h2);clear hi h1 h2;go_wp2_with fail;refine HP.out.mono ?_;rintro e w3 ⟨N,rfl,_,_,hb3⟩;have HB3:=qH (HB.out.trans (hb3.mono HB.out.size));clear hb3 HP;go_wp2_with fail
   go_ret2
   exact⟨HB3.out,qah ⟨HI.out,6,by decide,rfl⟩⟩
 ·have HV:=qH hv;clear hv;go_wp2_with fail
  go_ret2
  exact⟨HB.out,qah ⟨fun h=>HV.out (HX.out.2.1 h),10,by decide,rfl⟩⟩
theorem near_fit {q:Rat} {s K J:Nat} (hq:RFit q K) (hs:Fit s J):Fit (nearZ q s).natAbs (K+J+3):=by
 have h2:Fit 2 1:=by show 2<1000000000 ^ 1;decide
 have g2:Fit (q.num*((s*2:Nat):Int)).natAbs (K+J+2):=by rw [qaE,qal];exact (hq.1.mul (hs.mul h2)).mono (by omega)
 have g3:Fit ((q.den:Int)).natAbs (K+J+2):=by rw [qal];exact hq.2.mono (by omega)
 have g4:Fit (q.num*((s*2:Nat):Int)+(q.den:Int)).natAbs (K+J+3):=(g2.add g3).le (qbK _ _);rw [qiF];exact g4.le (Int.natAbs_ediv_le_natAbs _ _)
theorem near_q (q:Rat) (s:Nat) (sq:Short q) (hs1:(1:Int)<=s) (hs2:(s:Int)<=1000000000000) (w:World) (hT:HasT w) (hE:HasE w) :
  Calls Tryz.prog 157 #[.agg #[.string (ftxt q).1,.string (ftxt q).2],.int .i64 (s:Int)] w fun e w'=>Below w.heap.size w w'/\((I64 (nearZ q s)/\e=.returned (.tuple #[.int .i64 (nearZ q s),.int .i64 0]))\/(¬I64 (nearZ q s)/\e=.returned (.tuple #[.int .i64 0,.int .i64 6]))):=by
 obtain⟨q1,q2,hqx⟩:=qb6 q;obtain⟨W1,hW1,K1⟩:=nw1 w #[.string q1,.string q2] 44;have Rq:=readq sq W1;rw [hqx] at Rq ⊢;have HR:=qH Rq;have HZ:=qH (qA (hT.below K1.out.1) (hE.below K1.out.1));have hw64:IntKind.u64.wrap (s:Int)=s:=by simp [IntKind.wrap,IntKind.bits,IntKind.signed];omega
 have hfs:Fit s 3:=qev (by omega);have HW:=qH (qA hw64 hfs);clear Rq sq hT hE hqx hw64 hfs;go_enter Tryz.func157,Tryz.ntmps157;go_wp2_with fail;rw [<-hW1];clear hW1;refine HR.out.mono ?_;rintro e w2 ⟨a0,n0,c0,bb0,d0,e0,f0,rfl,hv,hf,hb⟩;have K2:=(K1.below hb).also (q:=fun W=>RatV W (.agg #[.slice a0 n0 c0,.bool bb0,.slice d0 e0 f0]) q/\HasT W/\HasE W) ⟨hv,HZ.out.1.below hb,HZ.out.2.below hb⟩;have HF:=qH (qA hf (near_fit hf HW.out.2));obtain⟨V2,hV2,N2⟩:=nw1 w2 #[.slice a0 n0 c0,.bool bb0,.slice d0 e0 f0] 138;have K3:=(K2.below N2.out.1).also (q:=fun W=>W.heap[w2.heap.size]? = some (.cells #[.slice a0 n0 c0,.bool bb0,.slice d0 e0 f0] 138 (0,0))) N2.out.2;clear hv hb hf K1 K2 N2 HR HZ;go_upto_region 6 with fail;rw [<-hV2];clear hV2;have lt:=(qG K3.out.2).1;have r0:=rowC (B:=V2.heap.size) K3.out.2 0;have r1:=rowC (B:=V2.heap.size) K3.out.2 1;have r2:=rowC (B:=V2.heap.size) K3.out.2 2;refine wp_region_held_drew (S:=fun W=>Below V2.heap.size V2 W) (by kernel_rfl) qB.drew (fun hS0=>?_);refine hT 0 (h:=hT 1 (h:=?_));refine hT 2 (v:=.int .u64 (s:Int)) (hy:=by (intro w hSw;(try dsimp only at hSw);go_simp;rw [HW.out.1])) (h:=?_);refine hC 3 (frac.qc3 s (by omega) V2.drew) (h:=?_);rintro e w3 ⟨x,rfl,hb,hx⟩;have K4:=(K3.below (qb1 hb)).also (q:=fun W=>MagAt W x s) hx;have HB4:=qH (qb1 hb);obtain⟨ax,_,_,cx,nx,_,rfl,_,_⟩:=hx;clear hb;refine⟨_,rfl,HB4.out,hN (h:=?_)⟩;refine hC 4 (near_any q s 67 3 (by decide) _ _ w3 K4.out.1.1.2.1 K4.out.2 HF.out.1 HW.out.2) (h:=?_);rintro e w4 ⟨y,rfl,hb,hy⟩;have K5:=(K4.below hb).also (q:=fun W=>IntAt W y (nearZ q s)) hy;have HB5:=qH (HB4.out.trans (hb.mono HB4.out.size));obtain⟨ay,ny,cy,by',rfl⟩:=frac.qbT hy;clear hb;refine⟨_,rfl,HB5.out,hN (h:=?_)⟩;refine hC 5 (frac.qeQ (nearZ q s) 73 (by decide) (by decide) _ w4 K5.out.2 HF.out.2 K5.out.1.1.1.2.2.1) (h:=?_);rintro e w5 ⟨rfl,hb⟩;have K6:=K5.below hb;have HB6:=qH (HB5.out.trans (hb.mono HB5.out.size));clear hb;refine⟨_,rfl,HB6.out,hN (h:=?_)⟩;refine hC 6 (intw_any (nearZ q s) 73 (by decide) (by decide) HF.out.2 w5 K6.out.1.1.1.2.2.2) (h:=?_);rintro e w6 ⟨hb,h⟩;have HB7:=qH (HB6.out.trans (hb.mono HB6.out.size));have K7:=K6.below hb;obtain⟨Z,hZ⟩:=qX (nearZ q s);rw [hZ] at h ⊢;have HZ:=qH hZ;clear hb hZ;rcases h with ⟨hi,rfl⟩ | ⟨hi,c,hc,rfl⟩
 ·have HI:=qH hi;clear hi;refine⟨_,rfl,HB7.out,hN (h:=?_)⟩;refine hT 7 (hS:=HB7.out) (h:=hT 8 (hS:=HB7.out) (h:=hT 9 (hS:=HB7.out) (h:=hT 10 (hS:=HB7.out) (h:=hT 11 (hS:=HB7.out) (h:=?_)))));refine wpAnyH_done (by kernel_rfl) ?_ _;go_wp2_with fail
  go_ret2
  exact⟨K7.out.1.1.1.1.1,qan ⟨by rw [HZ.out];exact HI.out,by rw [HZ.out];rfl⟩⟩
 ·have HI:=qH hi;have hcb:(c != 0)=true:=by rw [bne_iff_ne];exact hc
  clear hi hc;refine⟨_,rfl,HB7.out,hN (h:=?_)⟩;refine hT 7 (hS:=HB7.out) (h:=hT 8 (hS:=HB7.out) (h:=hT 9 (hS:=HB7.out) (h:=hT 10 (hS:=HB7.out) (h:=hT 11 (hS:=HB7.out) (h:=?_)))));refine wpAnyH_done (by kernel_rfl) ?_ _;go_wp2_with fail
  go_ret2
  exact⟨K7.out.1.1.1.1.1,qah ⟨by rw [HZ.out];exact HI.out,rfl⟩⟩
open Go.ChangeShapes Go.WideShapes Go.ChangeAt
abbrev laidK:List (String×DataW Unit):=[("math/bits.deBruijn32tab", Rows.laid_math_bits_deBruijn32tab),("math/bits.deBruijn64tab", Rows.laid_math_bits_deBruijn64tab),("internal/strconv.uint64pow10", Rows.laid_internal_strconv_uint64pow10),("strconv.ErrRange", Rows.laid_strconv_ErrRange),("strconv.ErrSyntax", Rows.laid_strconv_ErrSyntax)]
theorem Tryz.own:ownKnob Tryz.prog.godebug=none:=by kernel_rfl
theorem datK:(Rows.laid_internal_strconv_uint64pow10:DataW Unit)=Lib.tabData .u64 Lib.pow10Tab:=by kernel_rfl
theorem gK:Tryz.prog.globalNamed "internal/strconv.uint64pow10" = some 1:=by kernel_rfl
theorem tK:(Tryz.prog.globals[1]?).map (·.type)=some 363:=by kernel_rfl
theorem gE:Tryz.prog.globalNamed "strconv.ErrRange" = some 3:=by kernel_rfl
theorem tE:(Tryz.prog.globals[3]?).map (·.type)=some 306:=by kernel_rfl
theorem qmC {W:World} (h:laidMetH Tryz.prog laidK W):HasT W/\HasE W:=by
 rw [MakeChecks.laidMetH_plain _ _ _ (by kernel_rfl)] at h;obtain⟨ps,⟨_,_,_,_,_,_,_,_,_,_,⟨_,_,_,_,_,_,_,_,_,_,⟨g2,t2,cs2,f2,p2,q2,hg2,ht2,hv2,hd2,⟨g3,t3,cs3,f3,p3,q3,hg3,ht3,hv3,hd3,_,_⟩,_⟩,_⟩,_⟩,_⟩:=h;obtain rfl:=qai (gK.symm.trans hg2);obtain rfl:=qai (tK.symm.trans ht2);obtain rfl:=qai (gE.symm.trans hg3);obtain rfl:=qai (tE.symm.trans ht3)
 constructor
 ·rw [datK] at hd2;unfold HasT Lib.TabIs;rw [hv2,<-Lib.cells_of_tab Tryz.underlying363 Tryz.underlying267 (by kernel_rfl) (by kernel_rfl) hd2]
 ·obtain⟨l3⟩:=cs3;have hd3':DataW.trod (fun x=>()) Tryz.prog W 0 (fun x=>true) false f3 306 l3=some (.iface "*errors.errorString" (.ptr (.agg [.lit (.string [118,97,108,117,101,32,111,117,116,32,111,102,32,114,97,110,103,101])])),p3):=hd3
  obtain⟨f1,u,v,rfl,_,_⟩:=iface_of_trod Tryz.underlying306 hd3';exact⟨.iface u v,by simpa using World.var?_cell hg3 hv3 0,.inr ⟨u,v,rfl⟩⟩
section
variable {H:Type} {enc:TypeId×Value->H} {P:Program}
theorem qh2 {f:Func} {s:ChangeSpec} {apart fresh handsOn again:Bool} {W W':World} {args:Array Value} {v:Value} {ds gs:List (DataW H)} {before pa pv:List MemPlace}
  (hW:DataW.Whole enc P f.params.toList s.vars apart W args.toList ds gs before)
  (hres:∀(b:Nat) (sp:Nat->Bool) (hd:Bool),DataW.TrodAll enc P W' b sp hd f.resultTypes.toList (v.resultList f.resultTypes.size) (s.fn H (ds++gs)).results [])
  (hargs:∀sp:Nat->Bool,(∀p∈before,sp p.block=true)->DataW.TrodAll enc P W' 0 sp true f.params.toList args.toList (s.fn H (ds++gs)).args pa)
  (hvars:∀sp:Nat->Bool,(∀p∈before,sp p.block=true)->DataW.TrodVars enc P W' sp s.vars (s.fn H (ds++gs)).vars pv)
  (hps:before=pa++pv) (hb:Below W.heap.size W W')
  (hok:∀(j:Nat) (t:TypeId) (r:Value),f.resultTypes[j]? = some t->(v.resultList f.resultTypes.size)[j]? = some r->Value.okWide P W' .any 0 t r) :
  s.post enc P f apart fresh handsOn again W args v W':=by
 have hlt:∀p∈before,p.block<W.heap.size:=fun p hp=>hW.lt p hp
 have hold:∀p∈before,(fun b=>decide (b<W.heap.size)) p.block=true:=fun p hp=>by simpa using hlt p hp
 refine⟨ds,gs,before,[],pa,pv,hW,hres _ _ _,hargs _ hold,hvars _ hold,World.keptBut_mono (fun p hp=>⟨hp,?_⟩) (hb.frame (·∈before)),fun _=>?_⟩
 ·rw [hps,qaN] at hp;exact qah hp
 ·obtain⟨_,_,_,_,_,hz,hn⟩:=hW;refine⟨hok,_,_,([]++pa)++pv,⟨[]++pa,pv,trodAll_append (hargs _ (fun _ _=>rfl)) (hres _ _ _),hvars _ (fun _ _=>rfl),rfl,?_,?_⟩,?_⟩
  ·intro b off hp;have hin:MemPlace.cell b off∈before:=by rw [hps];simpa using hp
   rw [hb.frozen (hlt _ hin)];exact hz b off hin
  ·intro ha;have:=hn ha;rw [hps] at this
   simpa using this
  ·intro p hp _;rw [hps]
   simpa using hp
theorem Tryz.laidOut:laidOutB Tryz.prog=true:=by kernel_rfl
end
theorem jf1:laidOutB Tryz.prog=true:=by kernel_rfl
theorem jf2:mapsRowed Tryz.prog=true:=by kernel_rfl
theorem jf3:Tryz.prog.plainKeys=true:=by kernel_rfl
theorem jf4:Tryz.prog.stopsHeard=true:=by kernel_rfl
theorem jf5:Tryz.prog.mayEnter=true:=by kernel_rfl
theorem jf6:(Rows.fitKnownRow.lifted == Tryz.prog.liftsFinal)=true:=by kernel_rfl
theorem jf7:(Tryz.prog.make == some Rows.fitKnownRow.make)=true:=by kernel_rfl
end Go.Proofs.YtplkdeknjghobaaGreatDoor
namespace Go.Proofs.YtplkdeknjghobaaGreatDoor
open Go.RowKit
structure KCells (W:World) (kd:IntKind) (ao:Option Addr) (b off:Nat) (L:List Int):Prop where
 addr:0<L.length->ao=some ⟨b,off,none⟩
 cell:∀k,k<L.length->W.cell? ⟨b,off+k,none⟩=some (.int kd (L.getD k 0))
theorem KCells.below {W W':World} {kd:IntKind} {ao:Option Addr} {b off:Nat} {L:List Int} (h:KCells W kd ao b off L) (hb:Below W.heap.size W W'):KCells W' kd ao b off L :=
 ⟨h.addr,fun k hk=>(hb.cell (qac W _ (h.cell k hk))).trans (h.cell k hk)⟩
def qe4 (G:List Int) (k:Nat):Int:=if k=0 then 0 else if k=1 then (G.getD 0 0).tmod 1000 else (G.getD 0 0).tmod 1000*1000+(G.getD 1 0).tmod 1000
def small (bl:Bool) (G:List Int):Int:=if bl=true then -qe4 G (min G.length 2) else qe4 G (min G.length 2)
theorem qhU {g:Int} (h:0<=g/\g<65536):0<=g.tmod 1000/\g.tmod 1000<1000:=by
 rw [Int.tmod_eq_emod_of_nonneg h.1];omega
theorem qiW {G:List Int} (hG:∀k,0<=G.getD k 0/\G.getD k 0<65536) (k:Nat):0<=qe4 G k/\qe4 G k<1000000:=by
 have h0:=qhU (hG 0);have h1:=qhU (hG 1);unfold qe4;split
 ·omega
 ·split <;> omega
theorem qke {G:List Int} (hG:∀k,0<=G.getD k 0/\G.getD k 0<65536) (bl:Bool):-1000000<small bl G/\small bl G<1000000:=by
 have h:=qiW hG (min G.length 2);unfold small;split <;> omega
theorem qdB (bl:Bool) (a:Option Addr) (b off len cap:Nat) (G:List Int) (z:Int) (w:World) (hG:G.length=len) (hl:len<=9223372036854775807) (hC:KCells w .u16 a b off G) (hwf:∀k,0<=G.getD k 0/\G.getD k 0<65536) :
  Calls Tryz.prog 131 #[.agg #[.bool bl,.slice a len cap,.int .u16 z]] w fun e w'=>e=.returned (.int .i64 (small bl G))/\Below w.heap.size w w':=by
 obtain⟨W1,hW1,N1⟩:=nw1 w #[.bool bl,.slice a len cap,.int .u16 z] 126;have hr1:=N1.out.2;have k0:=qC _ _ 0 _ _ _ hr1;have k1:=qC _ _ 1 _ _ _ hr1;have HC:=qH (qA (hC.below N1.out.1) (qA hG hwf));have HB:=qH N1.out.1;clear hr1 N1 hC hwf;go_enter Tryz.func131,Tryz.ntmps131;go_upto_region 1 with fail;rw [<-hW1];clear hW1;go_wp2_with fail
 go_loopw [3,4] (fun x3 x4 W=>∃i:Nat,x4=.int .i64 (i:Int)/\x3=.int .i64 (qe4 G i)/\i<=len/\i<=2/\Hid (W=W1)) (fun _ x4 _=>2-(intOf x4).toNat)
 case atStart=>exact⟨0,rfl,rfl,qam _,qam _,qH rfl⟩
 case round =>
  obtain⟨i,rfl,rfl,hi,hi2,hWe⟩:=hrel;have hWe:=hWe.out;subst hWe;obtain⟨x,hx⟩:=qX (qe4 G i);have hxr:=qiW HC.out.2.2 i
  by_cases hlt:i<len/\i<2
  ·obtain⟨hli,hl2⟩:=hlt;have hj1:(i:Int)<(len:Int):=by omega
   have hj2:(i:Int)<2:=by omega
   have hj0:(0:Int)<=(i:Int):=by omega
   obtain rfl:=HC.out.1.addr (by rw [HC.out.2.1];omega);have hk:=HC.out.1.cell i (by rw [HC.out.2.1];omega);obtain⟨g,hg⟩:=qX (G.getD i 0);have hgr:=HC.out.2.2 i;rw [hg] at hk hgr;have hm:=qhU hgr;have hs:qe4 G (i+1)=x*1000+g.tmod 1000:=by
    rcases (show i=0\/i=1 by omega) with rfl | rfl
    ·rw [<-hx,<-hg];simp [qe4]
    ·rw [<-hx,<-hg];simp [qe4]
   have hx1:x<1000:=by
    rcases (show i=0\/i=1 by omega) with rfl | rfl
    ·rw [<-hx];exact (by decide:(0:Int)<1000)
    ·rw [<-hx];exact (qhU (HC.out.2.2 0)).2
   rw [hx] at hxr ⊢;obtain⟨m,hme⟩:=qX (g.tmod 1000);rw [hme] at hm hs;have HS:=qH hs;clear hs hx hg;go_wp2;go_roundw
   case rel=>exact⟨i+1,by go_num,by rw [HS.out],hli,by omega,by first | trivial | exact qH rfl⟩
   case measure=>simp [intOf];omega
  ·have he:i=min len 2:=by omega
   have hsm:small bl G=if bl=true then -x else x:=by unfold small;rw [HC.out.2.1,<-he,hx]
   rw [hx] at hxr ⊢;have HS:=qH hsm;clear hsm hx he;have hx1:(-9223372036854775808:Int)<=-x:=by omega
   by_cases h1:i<len
   ·obtain rfl:i=2:=by omega
    have hj1:(2:Int)<(len:Int):=by omega
    cases bl
    ·go_wp2;go_ret;exact⟨by rw [HS.out];rfl,HB.out⟩
    ·go_wp2;go_ret;exact⟨by rw [HS.out];rfl,HB.out⟩
   ·have hj1:¬(i:Int)<(len:Int):=by omega
    cases bl
    ·go_wp2;go_ret;exact⟨by rw [HS.out];rfl,HB.out⟩
    ·go_wp2;go_ret;exact⟨by rw [HS.out];rfl,HB.out⟩
end Go.Proofs.YtplkdeknjghobaaGreatDoor
namespace Go.Proofs.YtplkdeknjghobaaGreatDoor.p4
open Go.RowKit
theorem tdivB (t c:Nat) (h:t / 10000=c):(t:Int).tdiv 10000=c:=tdivN t 10000 c h
theorem tmodB (t c:Nat) (h:t % 10000=c):(t:Int).tmod 10000=c:=tmodN t 10000 c h
def dg (L:List Nat) (k:Nat):Nat:=L.getD k 0
structure Cells (W:World) (ao:Option Addr) (b off:Nat) (L:List Nat):Prop where
 addr:0<L.length->ao=some ⟨b,off,none⟩
 cell:∀k,k<L.length->W.cell? ⟨b,off+k,none⟩=some (.int .i64 ((dg L k:Nat):Int))
theorem Cells.below {W W':World} {ao:Option Addr} {b off:Nat} {L:List Nat} (h:Cells W ao b off L) (hb:Below W.heap.size W W'):Cells W' ao b off L :=
 ⟨h.addr,fun k hk=>(hb.cell (qac W _ (h.cell k hk))).trans (h.cell k hk)⟩
theorem Cells.take {W:World} {ao:Option Addr} {b off:Nat} {L:List Nat} (h:Cells W ao b off L) (n:Nat):Cells W ao b off (L.take n) :=
 ⟨fun h0=>h.addr (by rw [qar] at h0;omega),fun k hk=>by
  rw [qar] at hk;rw [h.cell k (by omega),dg,dg,qaa,qaa,qbA (by omega)]⟩
structure IsM (W:World) (ao:Option Addr) (b off c n:Nat) (L:List Nat):Prop where
 len:L.length=n
 cap:n<=c
 cells:Cells W ao b off L
 dig:Dig L
 nrm:Nrm L
theorem IsM.below {W W':World} {ao:Option Addr} {b off c n:Nat} {L:List Nat} (h:IsM W ao b off c n L) (hb:Below W.heap.size W W'):IsM W' ao b off c n L:=⟨h.len,h.cap,h.cells.below hb,h.dig,h.nrm⟩
theorem IsM.addr {W:World} {ao:Option Addr} {b off c n:Nat} {L:List Nat} (h:IsM W ao b off c n L):0<n->ao=some ⟨b,off,none⟩:=by rw [<-h.len];exact h.cells.addr
theorem IsM.cell {W:World} {ao:Option Addr} {b off c n:Nat} {L:List Nat} (h:IsM W ao b off c n L):∀k,k<n->W.cell? ⟨b,off+k,none⟩=some (.int .i64 ((dg L k:Nat):Int)):=by rw [<-h.len];exact h.cells.cell
def HiS (B:Nat) (v:Value):Prop:=∀(a:Addr) (n c:Nat),v=.slice (some a) n c->0<n->B<=a.block
def HiP (B:Nat) (v:Value):Prop:=∀b x,v=.agg #[b,x]->HiS B x
def HiR (B:Nat) (v:Value):Prop:=∀b x b' y,v=.agg #[b,x,b',y]->HiS B x/\HiS B y
theorem HiS.mono {B C:Nat} {v:Value} (h:HiS C v) (hB:B<=C):HiS B v:=fun a n c e h0=>qaj hB (h a n c e h0)
theorem HiP.mono {B C:Nat} {v:Value} (h:HiP C v) (hB:B<=C):HiP B v:=fun b x e=>(h b x e).mono hB
theorem own_his {W:World} {B e size n:Nat} {v:Value} {xs:List Value} (h:W.ownsRow B e size v n xs):HiS B v:=fun a m c hv h0=>by
 rcases h.2 with ⟨rfl,_⟩ | ⟨g,cap,cur,rfl,hb,_⟩
 ·cases hv
 ·cases hv;exact hb
def MagAt (W:World) (v:Value) (x:Nat):Prop:=∃(ao:Option Addr) (b off c n:Nat) (L:List Nat),v=.slice ao n c/\IsM W ao b off c n L/\mval L=x
theorem MagAt.below {W W':World} {v:Value} {x:Nat} (h:MagAt W v x) (hb:Below W.heap.size W W'):MagAt W' v x:=by
 obtain⟨ao,b,off,c,n,L,rfl,h1,h2⟩:=h;exact⟨ao,b,off,c,n,L,rfl,h1.below hb,h2⟩
theorem MagAt.nil (W:World):MagAt W (.slice none 0 0) 0:=⟨none,0,0,0,0,[],rfl,⟨rfl,qad _,⟨fun h=>absurd h (by simp),fun k h=>absurd h (by simp)⟩,Dig.nil,qan rfl⟩,rfl⟩
def Fit (x K:Nat):Prop:=x<10000 ^ K
theorem Fit.le {x y K:Nat} (h:Fit y K) (hx:x<=y):Fit x K:=qaF hx h
theorem Fit.mono {x K M:Nat} (h:Fit x K) (hK:K<=M):Fit x M:=qag h (qa3 (by decide) hK)
theorem Fit.mul {x y K M:Nat} (h:Fit x K) (k:Fit y M):Fit (x*y) (K+M):=by
 unfold Fit at *;rw [Nat.pow_add];exact Nat.mul_lt_mul'' h k
theorem Fit.add {x y K:Nat} (h:Fit x K) (k:Fit y K):Fit (x+y) (K+1):=by
 unfold Fit at *;rw [qaD];omega
theorem Fit.len {W:World} {ao:Option Addr} {b off c n:Nat} {L:List Nat} {K:Nat} (h:Fit (mval L) K) (k:IsM W ao b off c n L):n<=K:=by
 rw [<-k.len];exact k.nrm.len h
def row64 (L:List Nat):List Value:=L.map fun (d:Nat)=>Value.int .i64 (d:Int)
theorem qfC (L:List Nat):(row64 L).length=L.length:=by unfold row64;exact qaw _
theorem qmP (L:List Nat) (k d:Nat):(row64 L).set k (.int .i64 (d:Int))=row64 (L.set k d):=by unfold row64;rw [List.map_set]
theorem qiU (L:List Nat) (k:Nat) (h:k<L.length):(row64 L)[k]? = some (.int .i64 ((dg L k:Nat):Int)):=by
 unfold row64 dg;rw [qaM,qdK h];rfl
theorem qkY (L:List Nat) (d:Nat):row64 (L++[d])=row64 L++[.int .i64 (d:Int)]:=by unfold row64;rw [qa5];rfl
theorem made64 (n:Nat):(madeCells #[Value.int .i64 0] n).toList=row64 (List.replicate n 0):=by
 rw [toList_madeCells_one];unfold row64;rw [List.map_replicate];rfl
theorem qcn {W:World} {B e g n c:Nat} {L:List Nat} (h:W.ownsRow B e 1 (.slice (some ⟨g,0,none⟩) n c) n (row64 L)) (hl:L.length=n):Cells W (some ⟨g,0,none⟩) g 0 L :=
 ⟨fun _=>rfl,fun k hk=>by
  rw [qaO,h.cellAt k (by omega)];exact qiU L k hk⟩
theorem stored64 {W:World} {B e g n c:Nat} {R:List Nat} (h:W.ownsRow B e 1 (.slice (some ⟨g,0,none⟩) n c) n (row64 R)) (k:Nat) {s:Int} (d:Nat) (hs:s=(d:Int)) :
  (W.setCell ⟨g,k,none⟩ (.int .i64 s)).ownsRow B e 1 (.slice (some ⟨g,0,none⟩) n c) n (row64 (R.set k d)):=by
 have h1:=(h.stored k (.int .i64 s)).1
 rwa [hs,qmP,<-hs] at h1
theorem qeL {a b:World} {g:Nat} {ao:Option Addr} {bo off:Nat} {L:List Nat} (h:a.grownBy b (some g)) (hc:Cells a ao bo off L) (hne:0<L.length->bo≠g):Cells b ao bo off L :=
 ⟨hc.addr,fun k hk=>h.cell (hc.cell k hk) (fun e=>hne (by omega) (qai e))⟩
theorem qeN (W:World) (n:Nat) (e:TypeId):(W.alloc (.cells (madeCells #[.int .i64 0] n) e)).heap[W.heap.size]? = some (.cells (row64 (List.replicate n 0)).toArray e (0,0)):=by
 rw [<-made64,Array.toArray_toList];exact heap_alloc_new W _
theorem qf4 {W:World} {B e g n:Nat} {L:List Nat} (h:W.heap[g]? = some (.cells (row64 L).toArray e (0,0))) (hl:L.length=n) (hB:B<=g) (hn:n<=maxLen):W.ownsRow B e 1 (.slice (some ⟨g,0,none⟩) n n) n (row64 L):=by
 refine⟨by rw [qfC];omega,.inr ⟨g,n,_,rfl,hB,h,qad _,hn,by simp [qfC,hl],?_⟩⟩
 show (row64 L).take (n*1)=row64 L
 exact qak (by rw [qfC];omega)
theorem cut_raw (ao:Option Addr) (b off c n:Nat) (L:List Nat) (w:World) (hn:L.length=n) (hlen:n<=17592186044416) (hc:n<=c) (hcells:Cells w ao b off L) :
  Calls Tryz.prog 271 #[.slice ao n c] w fun e w'=>∃m,e=.returned (.slice ao m c)/\w'=w/\m<=n/\Zero L m/\(m=0\/L.getD (m-1) 0≠0):=by
 have hz:Zero L n:=by rw [<-hn];exact Zero.all L
 obtain⟨ha,hcell⟩:=hcells;rw [hn] at ha hcell;have Ha:=qH ha;have Hcell:=qH hcell;have Hz:=qH hz;clear ha hcell hz hn;go_enter Tryz.func271,Tryz.ntmps271;go_wp2
 go_loopw [3] (fun x3 W=>∃m:Nat,x3=.int .i64 m/\W=w/\m<=n/\Hid (Zero L m)) (fun x3 _=>(intOf x3).toNat)
 case atStart=>exact⟨n,rfl,rfl,qad _,Hz⟩
 case round =>
  obtain⟨m,rfl,rfl,hm,hz⟩:=hrel
  by_cases hm0:m=0
  ·subst hm0;have Hm:=qH hm;clear hm;go_wp2;go_ret;exact⟨0,rfl,rfl,qam _,hz.out,qan rfl⟩
  ·have hm1:(0:Int)<m:=by omega
   have haw:=Ha.out (by omega);subst haw;have hcl:=Hcell.out (m-1) (by omega);have e1:((m-1:Nat):Int)=(m:Int)-1:=by omega
   by_cases h0:dg L (m-1)=0
   ·rw [h0] at hcl;have H0:=qH h0;clear h0;go_wp2;go_roundw
    case rel=>exact⟨m-1,by rw [e1],trivial,by omega,qH (Zero.down (n:=m-1) (by rw [show m-1+1=m by omega];exact hz.out) H0.out)⟩
    case measure=>simp [intOf];omega
   ·have hne:¬((dg L (m-1):Nat):Int)=0:=by omega
    have H0:=qH h0;clear h0;go_wp2;go_ret;exact⟨m,rfl,rfl,hm,hz.out,qah H0.out⟩
theorem qlr (ao:Option Addr) (b off c n:Nat) (L:List Nat) (w:World) (hn:L.length=n) (hlen:n<=17592186044416) (hc:n<=c) (hcells:Cells w ao b off L) (hd:Dig L) :
  Calls Tryz.prog 271 #[.slice ao n c] w fun e w'=>∃v,e=.returned v/\w'=w/\MagAt w v (mval L)/\∀B,HiS B (.slice ao n c)->HiS B v:=by
 refine (cut_raw ao b off c n L w hn hlen hc hcells).mono ?_;rintro e w' ⟨m,rfl,rfl,hm,hz,h0⟩;refine⟨_,rfl,rfl,⟨ao,b,off,c,m,L.take m,rfl,⟨?_,by omega,hcells.take m,hd.take m,?_⟩,qcp hz⟩,fun B h a k c' e h0=>by cases e;exact h a n c rfl (by omega)⟩
 ·rw [qar];omega
 ·have hl:(L.take m).length=m:=by rw [qar];omega
  rcases h0 with h0 | h0
  ·exact qan (by rw [hl,h0])
  ·right
   rw [hl]
   by_cases hm0:m=0
   ·subst hm0;exact absurd (hz _ (qam _)) h0
   ·rw [qaa,qbA (by omega),<-qaa];exact h0
theorem cut_any (ao:Option Addr) (b off c n:Nat) (L:List Nat) (w:World) (hn:L.length=n) (hlen:n<=17592186044416) (hc:n<=c) (hcells:Cells w ao b off L) (hd:Dig L) :
  Calls Tryz.prog 271 #[.slice ao n c] w fun e w'=>∃v,e=.returned v/\w'=w/\MagAt w v (mval L) :=
 (qlr ao b off c n L w hn hlen hc hcells hd).mono fun _ _ ⟨v,h1,h2,h3,_⟩=>⟨v,h1,h2,h3⟩
