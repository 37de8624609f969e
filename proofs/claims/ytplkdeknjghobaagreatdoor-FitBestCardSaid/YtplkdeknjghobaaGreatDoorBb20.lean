import Derived.Below
import Derived.ChangeSame
import Derived.LaidLaws
import Derived.LaidMore
import Derived.Lay
import Derived.Lib.LaidTab
import Derived.Lib.ParseIntBCases
import Derived.Lib.SmallJoins
import Derived.OpenShut
import Derived.ProofKit
import Derived.SevenTiedAt
import Derived.Stop.Joined
import Derived.Test.YtplkdeknjghobaaGreatDoorBb18
import Derived.Test.YtplkdeknjghobaaGreatDoorBb19
import Derived.Test.YtplkdeknjghobaaGreatDoorCards
import Derived.Test.YtplkdeknjghobaaGreatDoorRows
import Derived.Test.YtplkdeknjghobaaGreatDoorTie
set_option maxRecDepth 100000
set_option maxHeartbeats 0
namespace Go.Proofs.YtplkdeknjghobaaGreatDoor
open Go.RowKit
def gR (n:Nat) (f:Nat->Nat->Rat) (b:Nat->Rat) (i c:Nat):Rat:=if c<n then f i c else b i
def normR (R n:Nat) (f:Nat->Nat->Rat) (b w:Nat->Rat) (r c:Nat):Rat:=sumQ R fun i=>w i*(gR n f b i r*gR n f b i c)
theorem qiq {R n:Nat} {f:Nat->Nat->Rat} {b:Nat->Rat} {i:Nat} (F:i<R):besides (ttab R n f) (told R b) i=told n (f i)++[ftxt (b i)]:=by
 unfold besides;rw [qeK F,qdr F]
theorem qf9 {R n:Nat} {f:Nat->Nat->Rat} {b:Nat->Rat} {i c:Nat} (F:i<R) (H:c<=n):lval (besides (ttab R n f) (told R b) i) c=gR n f b i c:=by
 rw [qiq F];unfold gR
 by_cases h:c<n
 ·rw [if_pos h,qgI (by rw [qb0];exact h),qcU h]
 ·obtain rfl:c=n:=by omega
  rw [if_neg h];have:=qgH (l:=told c (f i)) (x:=ftxt (b i));rw [qb0] at this;rw [this,qcN]
theorem qhB {R n:Nat} {f:Nat->Nat->Rat} {b w:Nat->Rat} {r c:Nat} (I:r<=n) (H:c<=n):normQ (ttab R n f) (told R b) (told R w) R r c=normR R n f b w r c :=
 qbX fun i F=>by rw [qcU F,qf9 F I,qf9 F H]
theorem qli {R n:Nat} {f:Nat->Nat->Rat} {b w x:Nat->Rat}:measQ (ttab R n f) (told R b) (told R w) (told n x) n R=msR R n f b w x :=
 qbX fun i F=>by
  have:resQ (ttab R n f) (told R b) (told n x) n i=resR n f b x i:=by
   unfold resQ resR;rw [qcU F]
   congr 1
   exact qbX fun j H=>by rw [ttab_val F H,qcU H]
  rw [qcU F,this]
def qfe (R n:Nat) (f:Nat->Nat->Rat) (b w:Nat->Rat) (e:Ending) (F:World):Prop :=
 (Sing n (normR R n f b w)/\e=.returned (.tuple #[.slice none 0 0,.int .i64 7]))\/(¬Sing n (normR R n f b w)/\∃x,qcL n (normR R n f b w) (fun r=>normR R n f b w r n) x/\Tells n x e F)
theorem qkx {R:Nat} {w:Nat->Rat} (h:∀i,i<R->0<=w i):¬Neg (told R w):=by
 rintro ⟨k,F,H⟩;rw [qb0] at F;rw [qdr F,show (ftxt (w k)).1.data.toList=itxt (w k).num from rfl,qdP] at H;have:=Rat.num_nonneg.2 (h k F);omega
theorem qgt.told {Y:World} {R n:Nat} {f:Nat->Nat->Rat} {b w:Nat->Rat} {e:Ending} {V:World} (h:qgt Y (ttab R n f) (told R b) (told R w) e V) (Z:1<=R) (h2:R<=40) (h3:1<=n) (h4:n<=10) (hf:∀i,i<R->qb2 n (f i)) (hb:qb2 R b) (hw:qb2 R w) (U:∀i,i<R->0<=w i):qfe R n f b w e V/\Below Y.heap.size Y V:=by
 have hT:=qnY Z h2 h3 h4 hf;refine⟨?_,h.2⟩;rcases h.1 with h | h | h | h
 ·exact absurd hT h.1
 ·exact absurd ⟨qdN hb,qdN hw⟩ h.2.1
 ·exact absurd ⟨by rw [qb0,qcK],by rw [qb0,qcK],qkx U⟩ h.2.2.2.1
 ·have h5:=h.2.2.2.2.2.2;rw [qeW Z,qcK] at h5;have F:∀r,r<n->∀c,c<n->normQ (ttab R n f) (Go.Proofs.YtplkdeknjghobaaGreatDoor.told R b) (Go.Proofs.YtplkdeknjghobaaGreatDoor.told R w) R r c=normR R n f b w r c:=fun r I c F=>qhB (by omega) (by omega)
  rcases h5 with ⟨J,he⟩ | ⟨J,x,hx,ht⟩
  ·exact qan ⟨J.congr F,he⟩
  ·exact qag ⟨fun O=>J (O.congr fun r I c H=>(F r I c H).symm),x,hx.congr F (fun r I=>qhB (by omega) qN) (fun _ _=>rfl),ht⟩
open Go.Lib Go.Proofs.Tryz
def fv (l:List Rat) (i:Nat):Rat:=l.getD i 0
def fm (t:List (List Rat)) (i j:Nat):Rat:=(t.getD i []).getD j 0
theorem qnU (l:List Rat):told l.length (fv l)=l.map ftxt:=by
 unfold told fv;apply List.ext_getElem?;intro i;rw [qay,qay]
 by_cases h:i<l.length
 ·rw [qbb h,qad h];simp [qad h]
 ·rw [qaS (by rw [qbx];omega),qaS (by omega)];rfl
theorem qev {u:Nat} (h:u<10):num u=⟨#[UInt8.ofNat (48+u)]⟩:=by
 unfold num;rw [qb1 h]
theorem qgj {q:Rat} (z d:Nat) (J:q.num=z) (I:q.den=d) (F:z<10) (H:d<10):ftxt q=(⟨#[UInt8.ofNat (48+z)]⟩,⟨#[UInt8.ofNat (48+d)]⟩):=by
 unfold ftxt;rw [J,I,qdb (by omega),qam,qev F,qev H]
theorem ft_0:ftxt 0=(⟨#[48]⟩,⟨#[49]⟩):=qgj 0 1 rfl rfl (by decide) (by decide)
theorem ft_1:ftxt 1=(⟨#[49]⟩,⟨#[49]⟩):=qgj 1 1 rfl rfl (by decide) (by decide)
theorem ft_12:ftxt (1 / 2)=(⟨#[49]⟩,⟨#[50]⟩):=qgj 1 2 (by decide +kernel) (by decide +kernel) (by decide) (by decide)
theorem qiT {n:Nat} {A:Nat->Nat->Rat} (B:Nat->Nat->Rat) (h:∀k,k<n->∀j,j<n->sumQ n (fun i=>B k i*A i j)=if k=j then 1 else 0):¬Sing n A:=by
 rintro ⟨y,⟨k,H,hy⟩,I⟩;apply hy;have e:sumQ n (fun i=>B k i*sumQ n fun j=>A i j*y j)=y k:=by
  have J:sumQ n (fun i=>B k i*sumQ n fun j=>A i j*y j)=sumQ n fun i=>sumQ n fun j=>y j*(B k i*A i j):=qbX fun i _=>by
   rw [<-qcb];exact qbX fun j _=>by grind
  rw [J,qdl];have O:sumQ n (fun j=>sumQ n fun i=>y j*(B k i*A i j))=sumQ n fun j=>y j*(if k=j then 1 else 0):=qbX fun j V=>by rw [qcb,h k H j V]
  rw [O,qc7 n k _ H fun j _ F=>by rw [if_neg (fun h=>F h.symm)];grind];rw [if_pos rfl];grind
 rw [<-e];exact qcQ _ _ fun i U=>by rw [I i U];grind
theorem qj8.told {I:World} {R n:Nat} {f:Nat->Nat->Rat} {b w x:Nat->Rat} {e:Ending} {O:World} (h:qj8 I (ttab R n f) (told R b) (told R w) (told n x) e O) (F:1<=R) (U:R<=40) (V:1<=n) (Y:n<=10) (hf:∀i,i<R->qb2 n (f i)) (Z:qb2 R b) (hw:qb2 R w) (hx:qb2 n x) (H:∀i,i<R->0<=w i) :
  (Short (msR R n f b w x)/\e=.returned (.tuple #[fstr (msR R n f b w x),.int .i64 0])\/¬Short (msR R n f b w x)/\e=.returned (.tuple #[.agg #[.string ⟨#[]⟩,.string ⟨#[]⟩],.int .i64 6]))/\Below I.heap.size I O:=by
 have hT:=qnY F U V Y hf;refine⟨?_,h.2⟩;rcases h.1 with h | h | h | h
 ·exact absurd hT h.1
 ·exact absurd ⟨qdN Z,qdN hw,qdN hx⟩ h.2.1
 ·exact absurd ⟨by rw [qb0,qcK],by rw [qb0,qcK],by rw [qb0,qeW F],qkx H⟩ h.2.2.2.2.1
 ·have J:=h.2.2.2.2.2.2.2.2;rw [qeW F,qcK,qli] at J;exact J
theorem qg5 {q:Rat} (h:q.num.natAbs<10/\q.den<10):Short q:=⟨by rw [qev h.1];exact (by decide:1<=600),by rw [qev h.2];exact (by decide:1<=600)⟩
theorem qcS {n:Nat} {x:Nat->Rat} (h:∀i,i<n->(x i).num.natAbs<=1000/\(x i).den<=1000):qb2 n x:=fun i F=>qdk (N:=1000) (h i F) (by decide +kernel)
theorem qhg {n m:Nat} {f:Nat->Nat->Rat} (H:m<=1000):∀k,k<n->((ttab n m f).getD k []).length<=4611686018427387904:=fun k F=>by rw [qeK F,qb0];omega
theorem qmI {R n:Nat} {f:Nat->Nat->Rat} {b v:Nat->Rat} {I:Option Addr} {g c:Nat} {F:Option Addr} {g2 c2:Nat} {H:Option Addr} {U c3:Nat} {w:World} (Y:1<=R) (Z:R<=40) (h3:1<=n) (h4:n<=10) (hf:∀i,i<R->qb2 n (f i)) (hb:qb2 R b) (hv:qb2 R v) (O:∀i,i<R->0<=v i) (hT:TCells w I g 0 (ttab R n f)) (hF:FCells w F g2 0 (told R b)) (J:FCells w H U 0 (told R v)) (hP:HasT w) :
  Calls prog 129 #[.slice I R c,.slice F R c2,.slice H R c3] w fun e V=>qfe R n f b v e V/\Below w.heap.size w V :=
 (qhy I g 0 R c _ F g2 0 R c2 _ H U 0 R c3 _ w (qcK _ _ _) (by omega) (qhg (by omega)) hT (qb0 _ _) (by omega) hF (qb0 _ _) (by omega) J hP).mono fun _ _ h=>h.told Y Z h3 h4 hf hb hv O
theorem qhd {kind:Nat} {d:List Int} (J:kind=1\/kind=2\/kind=3) (I:qcJ d) (_h4:d.length<=4) (Z:kind=3->d.length<=3):∀p∈termL kind d,Short p:=by
 have U:∀k,Short (dq d k):=fun k=>(dq_cd I k).short (by decide) (by decide +kernel) (by decide +kernel)
 have V:∀k,Short (dq d k*dq d k):=fun k=>((dq_cd I k).mul (dq_cd I k) (by decide) (by decide)).short (by decide) (by decide +kernel) (by decide +kernel)
 have O:∀k,k<=3->∀p∈prods d k,Short p:=fun k J p F=>(qeS (by decide) (dq_cd I) k p F).short (qbl (Nat.pow_pos (by decide))) (qaL (qa4 (by decide) J) qkc) (qaL (qa4 (by decide) J) qkc)
 have Y:Short 1:=qg5 ⟨by decide,by decide⟩;have H:∀p∈lin d,Short p:=fun p F=>by
  unfold lin at F;rcases qaJ.1 F with rfl | F
  ·exact Y
  ·obtain⟨j,_,rfl⟩:=qbp.1 F;exact U j
 rcases J with rfl | rfl | rfl
 ·exact H
 ·intro p F;rw [qjZ] at F;rcases qaK.1 F with F | F
  ·exact H p F
  ·unfold sqs at F;obtain⟨j,_,rfl⟩:=qbp.1 F;exact V j
 ·intro p F;rw [qhc] at F;exact O _ (Z rfl) p F
theorem qfH {kind:Nat} {d:List Int} {j:Nat} (F:j<many kind d.length):termQ kind d j∈termL kind d:=by
 unfold termQ;rw [qaa,qad (by rw [qeJ];exact F)];exact List.getElem_mem _
theorem PtsOk.terms {l:List Pt} (h:PtsOk l) {k:Nat} {kind:Int} (U:qcA kind k) (V:¬(k=3/\chans l=4)):∀i,i<l.length->qb2 (many k (chans l)) (tqf l k i):=fun i J j O=>by
 obtain⟨F,H⟩:=h.rows i J;have I:=F.n4;refine qhd (by obtain⟨_,a,b⟩:=U;omega) F.vals I (fun e=>by have:=h.n4;omega) _ (qfH (by rw [H];exact O))
theorem PtsOk.labs {l:List Pt} (h:PtsOk l) {c:Nat}:qb2 l.length (labq l c):=fun i I=>by
 have F:=(h.rows i I).1;have:=F.l0;have:=F.l1;have:=F.l2;have H:((l.getD i pt0).lab c).natAbs<1000000000000000000000:=by unfold Pt.lab;(repeat' split) <;> omega
 exact qdV (d:=100) (by decide) H (by decide)
theorem PtsOk.bound {l:List Pt} (h:PtsOk l) (c:Nat):∀k,k<l.length->-9223372036854775808<=(l.getD k pt0).lab c/\(l.getD k pt0).lab c<=9223372036854775807:=fun i H=>by
 have F:=(h.rows i H).1;have:=F.l0;have:=F.l1;have:=F.l2;unfold Pt.lab;(repeat' split) <;> omega
theorem WOk.short {F:List Int} (h:WOk F):qb2 F.length (wq F):=fun i H=>by
 obtain⟨I,J⟩:=h i H;have:Short ((F.getD i 0:Int) / ((1:Int):Rat)):=qdV (d:=1) (by decide) (by omega) (by decide);rw [show ((1:Int):Rat)=1 from rfl,Rat.div_def,show (1:Rat)⁻¹=1 by decide +kernel,Rat.mul_one] at this;exact this
theorem WOk.pos {F:List Int} (h:WOk F):∀i,i<F.length->0<=wq F i:=fun i H=>by unfold wq;exact Rat.intCast_nonneg.2 (h i H).1
theorem qe7 {k n:Nat} {kind:Int} (F:qcA kind k) (H:1<=n) (J:n<=4) (I:¬(k=3/\n=4)):1<=many k n/\many k n<=10:=by
 obtain⟨_,a,b⟩:=F;unfold many;rcases (show k=1\/k=2\/k=3 by omega) with rfl | rfl | rfl
 ·simp;omega
 ·simp;omega
 ·rcases (show n=1\/n=2\/n=3 by omega) with rfl | rfl | rfl <;> decide
def nq (l:List Pt) (k:Nat) (F:List Int) (c:Nat):Nat->Nat->Rat:=normR l.length (many k (chans l)) (tqf l k) (labq l c) (wq F)
theorem qgR {l:List Pt} {k:Nat} {I:List Int} {c c':Nat} (h:Sing (many k (chans l)) (nq l k I c)):Sing (many k (chans l)) (nq l k I c'):=h.congr fun i F j H=>by
 unfold nq normR;refine qbX fun r _=>?_
 unfold gR;rw [if_pos F,if_pos H,if_pos F,if_pos H]
def FitX (l:List Pt) (k:Nat) (F:List Int) (c:Nat) (x:Nat->Rat):Prop:=qcL (many k (chans l)) (nq l k F c) (fun r=>nq l k F c r (many k (chans l))) x
def FitG (l:List Pt) (kind:Int) (F:List Int) (W:World) (v:Value):Prop :=
 PtsOk l/\F.length=l.length/\WOk F/\∃k,qcA kind k/\¬(k=3/\chans l=4)/\¬Sing (many k (chans l)) (nq l k F 0) /\
  ∃x:Nat->Nat->Rat,(∀c,c<3->FitX l k F c (x c)/\qb2 (many k (chans l)) (x c))/\MdAt W v (mdq k (chans l) (many k (chans l)) x)
def FitF (l:List Pt) (kind:Int) (F:List Int) (e:Int):Prop :=
 (¬PtsOk l/\e=310)\/(PtsOk l/\¬((∃k,qcA kind k)/\F.length=l.length/\WOk F)/\e=2) \/
 (PtsOk l/\F.length=l.length/\WOk F/\∃k,qcA kind k/\((k=3/\chans l=4/\e=5)\/(¬(k=3/\chans l=4) /\
  ((Sing (many k (chans l)) (nq l k F 0)/\e=7)\/(¬Sing (many k (chans l)) (nq l k F 0)/\∃c x,c<3/\FitX l k F c x/\¬qb2 (many k (chans l)) x/\e=6)))))
def FitAs (w:World) (l:List Pt) (kind:Int) (H:List Int) (e:Ending) (F:World):Prop :=
 Below w.heap.size w F/\((∃v,e=.returned (.tuple #[v,.int .i64 0])/\FitG l kind H F v)\/∃c,e=.returned (.tuple #[mdv0,.int .i64 c])/\FitF l kind H c)
theorem qmm (a b:Int) (I:0<b):((a:Rat) / (b:Rat)).floor=a / b:=by
 have H:(0:Rat)<(b:Rat):=Rat.intCast_lt_intCast.2 I;have F:∀z:Int,z<=((a:Rat) / (b:Rat)).floor↔z<=a / b:=fun z=>by
  rw [Rat.le_floor_iff,Int.le_ediv_iff_mul_le I,<-Rat.not_lt,Rat.div_lt_iff H,<-Rat.intCast_mul,Rat.intCast_lt_intCast,Int.not_lt]
 exact Int.le_antisymm ((F _).1 (Int.le_refl _)) ((F _).2 (Int.le_refl _))
def nearZ (q:Rat) (s:Nat):Int:=(q*(s:Rat)+1 / 2).floor
def nearT (q:Rat) (n d:Nat):Int:=(q*(n:Rat) / (d:Rat)+1 / 2).floor
theorem qiS (q:Rat) (s:Nat):nearZ q s=(q.num*((s*2:Nat):Int)+(q.den:Int)) / ((q.den*2:Nat):Int):=by
 unfold nearZ;rw [<-qmm _ _ (by have:=q.den_pos;omega)]
 congr 1
 have J:(q.den:Rat)≠0:=qeG (qbl q.den_pos);have I:q=(q.num:Rat) / (q.den:Rat):=by rw [<-Rat.mkRat_eq_div,Rat.mkRat_self]
 have F:((q.num*((s*2:Nat):Int)+(q.den:Int):Int):Rat)=(q.num:Rat)*((s:Rat)*2)+(q.den:Rat):=by
  rw [Rat.intCast_add,Rat.intCast_mul,Rat.intCast_natCast,Rat.intCast_natCast,Rat.natCast_mul];rfl
 have H:(((q.den*2:Nat):Int):Rat)=(q.den:Rat)*2:=by
  rw [Rat.intCast_natCast,Rat.natCast_mul];rfl
 rw [F,H];generalize (q.den:Rat)=D at *;generalize (q.num:Rat)=N at *;generalize (s:Rat)=S at *;subst I
 grind
theorem qkv {n:Nat} (h:0<n):(0:Rat)<(n:Rat):=by
 have:=Rat.natCast_lt_natCast.2 h;exact this
theorem qmL {q:Rat} {n d:Nat} {z:Int} (U:0<n) (O:0<d):q<(((2*z-1)*(d:Int):Int):Rat) / (((2*n:Nat):Int):Rat)↔nearT q n d<z:=by
 unfold nearT;have hN:=qkv U;have J:=qkv O;have F:(((2*z-1)*(d:Int):Int):Rat)=(2*(z:Rat)-1)*(d:Rat):=by
  rw [Rat.intCast_mul,Rat.intCast_sub,Rat.intCast_mul,Rat.intCast_natCast];rfl
 have H:(((2*n:Nat):Int):Rat)=2*(n:Rat):=by
  rw [Rat.intCast_natCast,Rat.natCast_mul];rfl
 rw [Rat.floor_lt_iff,F,H,Rat.lt_div_iff (by grind)];generalize (d:Rat)=D at *;generalize (n:Rat)=N at *;generalize (z:Rat)=Z at *;have I:q*N / D+1 / 2<Z↔q*N / D<Z-1 / 2:=by grind
 rw [I,Rat.div_lt_iff J]
 grind
theorem qfP {q:Rat} {n d:Nat} {B:Int} (H:d=1\/d=4) (F:-B<=nearZ q n) (J:nearZ q n<=B):-(B+1)<=nearT q n d/\nearT q n d<=B+1:=by
 unfold nearZ at F J;unfold nearT;generalize q*(n:Rat)=x at *;have I:0<=B:=by omega
 have O:(0:Rat)<=(B:Rat):=Rat.intCast_nonneg.2 I;have g1:=Rat.le_floor_iff.1 F;have g2:(x+1 / 2).floor<B+1:=by omega
 have g2:=Rat.floor_lt_iff.1 g2;rw [Rat.intCast_add,show ((1:Int):Rat)=1 from rfl] at g2;rw [Rat.intCast_neg] at g1;have U:-(B+1)<=(x / (d:Rat)+1 / 2).floor:=by
  rw [Rat.le_floor_iff,Rat.intCast_neg,Rat.intCast_add,show ((1:Int):Rat)=1 from rfl];rcases H with rfl | rfl
  ·rw [show ((1:Nat):Rat)=1 from rfl];grind
  ·rw [show ((4:Nat):Rat)=4 from rfl];grind
 have V:(x / (d:Rat)+1 / 2).floor<B+2:=by
  rw [Rat.floor_lt_iff,Rat.intCast_add,show ((2:Int):Rat)=2 from rfl];rcases H with rfl | rfl
  ·rw [show ((1:Nat):Rat)=1 from rfl];grind
  ·rw [show ((4:Nat):Rat)=4 from rfl];grind
 omega
theorem qm2 {q:Rat} {n d:Nat} {B:Int} (H:d=1\/d=4) (F:-B<=nearT q n d) (J:nearT q n d<=B):-(4*B+4)<=nearZ q n/\nearZ q n<=4*B+4:=by
 unfold nearT at F J;unfold nearZ;generalize q*(n:Rat)=x at *;have I:0<=B:=by omega
 have O:(0:Rat)<=(B:Rat):=Rat.intCast_nonneg.2 I;have g1:=Rat.le_floor_iff.1 F;have g2:(x / (d:Rat)+1 / 2).floor<B+1:=by omega
 have g2:=Rat.floor_lt_iff.1 g2;rw [Rat.intCast_add,show ((1:Int):Rat)=1 from rfl] at g2;rw [Rat.intCast_neg] at g1;have U:-(4*B+4)<=(x+1 / 2).floor:=by
  rw [Rat.le_floor_iff,Rat.intCast_neg,Rat.intCast_add,Rat.intCast_mul,show ((4:Int):Rat)=4 from rfl];rcases H with rfl | rfl
  ·rw [show ((1:Nat):Rat)=1 from rfl] at g1 g2;grind
  ·rw [show ((4:Nat):Rat)=4 from rfl] at g1 g2;grind
 have V:(x+1 / 2).floor<4*B+5:=by
  rw [Rat.floor_lt_iff,Rat.intCast_add,Rat.intCast_mul,show ((4:Int):Rat)=4 from rfl,show ((5:Int):Rat)=5 from rfl];rcases H with rfl | rfl
  ·rw [show ((1:Nat):Rat)=1 from rfl] at g1 g2;grind
  ·rw [show ((4:Nat):Rat)=4 from rfl] at g1 g2;grind
 omega
theorem cmp_lt (p q:Rat):cmp3 (p.num*(q.den:Int) + -(q.num*(p.den:Int))) 0<0↔p<q:=by
 rw [Rat.lt_iff];unfold cmp3;generalize p.num*(q.den:Int)=A;generalize q.num*(p.den:Int)=B;split
 ·constructor <;> intro h <;> omega
 ·split
  ·constructor <;> intro h <;> omega
  ·constructor <;> intro h <;> omega
theorem sg_floor (x:Int) {d:Nat} (J:0<d):(if decide (x<0)=true then -((x.natAbs / d+(if decide (x<0)=true/\x.natAbs % d≠0 then 1 else 0):Nat):Int) else ((x.natAbs / d+(if decide (x<0)=true/\x.natAbs % d≠0 then 1 else 0):Nat):Int))=x / (d:Int):=by
 have F:(0:Int)<d:=by omega
 by_cases hx:x<0
 ·rw [qV hx,if_pos rfl];obtain⟨a,rfl⟩:∃a:Nat,x = -(a:Int):=⟨x.natAbs,by omega⟩;rw [qbj,qam];have I:=Nat.div_add_mod a d;have O:=qbD a J;generalize a / d=u at *;generalize a % d=v at *
  symm
  by_cases H:v=0
  ·rw [if_neg (by simp [H]),qbs];subst H;rw [<-I];rw [show -(((d*u+0:Nat)):Int) = -(u:Int)*d by push_cast;rw [Int.add_zero,qbz,qbi]];exact Int.mul_ediv_cancel _ (by omega)
  ·rw [if_pos ⟨rfl,H⟩,<-I];refine Int.ediv_eq_iff_of_pos F |>.2 ⟨?_,?_⟩
   ·push_cast;grind
   ·push_cast;grind
 ·rw [qU hx];simp only [Bool.false_eq_true,false_and,if_false,qbs];rw [Int.natCast_ediv,Int.natAbs_of_nonneg (by omega)]
theorem qmn:∀(l:List UInt8) (F:Nat),F<=l.foldl (fun v c=>v*10+(c.toNat-48)) F
 | [],F=>qae _
 | c :: r,F=>qaj (by omega) (qmn r (F*10+(c.toNat-48)))
theorem qhD:∀(l:List UInt8) (F:Nat),Nums l->F<=18446744073709551615->parseUintM 18446744073709551615 F l=if l.foldl (fun v c=>v*10+(c.toNat-48)) F<=18446744073709551615 then .ok (l.foldl (fun v c=>v*10+(c.toNat-48)) F) else .range
 | [],F,_,ha=>by rw [parseUintM,List.foldl_nil,if_pos ha]
 | c :: r,F,h,ha=>by
  have J:=h c (qbS ..);have O:=qmn r (F*10+(c.toNat-48));rw [parseUintM,if_pos J,List.foldl_cons]
  by_cases H:1844674407370955162<=F
  ·rw [if_pos H,if_neg (by omega)]
  ·rw [if_neg H]
   by_cases I:18446744073709551615<F*10+(c.toNat-48)
   ·rw [if_pos I,if_neg (by omega)]
   ·rw [if_neg I];exact qhD r _ (fun x hx=>h x (qbK _ hx)) (by omega)
theorem qiZ (u:Nat):parseUintB 64 (decDigits u)=if u<=18446744073709551615 then .ok u else .range:=by
 unfold parseUintB;rw [if_neg (qdd u)];have:=qhD (decDigits u) 0 (qdt u) (by decide);rw [show (decDigits u).foldl (fun v c=>v*10+(c.toNat-48)) 0=u from qe0 u] at this;exact this
theorem qlq (z:Int):parseIntB 64 (itxt z)=if -9223372036854775808<=z/\z<=9223372036854775807 then .ok z else .range:=by
 unfold itxt
 by_cases J:z<0
 ·rw [if_pos J,parseIntB_minus,qiZ];obtain⟨a,rfl⟩:∃a:Nat,z = -(a:Int):=⟨z.natAbs,by omega⟩;rw [qbj,qam]
  by_cases F:a<=18446744073709551615
  ·rw [if_pos F]
   show (if 2 ^ (64-1)<a then _ else _)=_
   by_cases H:9223372036854775808<a
   ·rw [if_pos (by exact H),if_neg (by omega)]
   ·rw [if_neg (by exact H),if_pos (by omega)]
  ·rw [if_neg F,if_neg (by omega)];rfl
 ·rw [if_neg J];obtain⟨a,rfl⟩:∃a:Nat,z=(a:Int):=⟨z.natAbs,by omega⟩;rw [qam];have I:=qiZ a;cases hl:decDigits a with
  | nil=>exact absurd hl (qdd a)
  | cons c r =>
   have O:=qdt a c (by rw [hl];exact qbS ..);rw [hl] at I;rw [parseIntB_plain 64 c r (by omega) (by omega),I]
   by_cases F:a<=18446744073709551615
   ·rw [if_pos F]
    show (if 2 ^ (64-1)<=a then _ else _)=_
    by_cases H:9223372036854775808<=a
    ·rw [if_pos (by exact H),if_neg (by omega)]
    ·rw [if_neg (by exact H),if_pos (by omega)]
   ·rw [if_neg F,if_neg (by omega)];rfl
theorem qiB {q:Rat} (h:q≠0):(q⁻¹).num=(if q.num<0 then -(q.den:Int) else q.den)/\(q⁻¹).den=q.num.natAbs:=by
 have H:q.num≠0:=fun e=>h (Rat.num_eq_zero.1 e)
 show (Rat.inv q).num=_/\(Rat.inv q).den=_
 unfold Rat.inv
 by_cases F:q.num<0
 ·rw [dif_pos F,if_pos F];exact⟨rfl,rfl⟩
 ·rw [dif_neg F,dif_pos (show q.num > 0 by omega),if_neg F];exact⟨rfl,rfl⟩
theorem qjJ (q:Rat) (hq:q≠0) (v:Value) (w:World) (hv:RatV w v q) :
  Calls prog 205 #[v] w fun e w'=>∃r,e=.returned r/\Below w.heap.size w w'/\RatV w' r q⁻¹:=by
 obtain⟨vm,vo,rfl,hm,ho⟩:=hv;obtain⟨am,bm,om,cm,nm,M,rfl,hM⟩:=id hm;obtain⟨ao,bo,oo,co,no,O,rfl,hO⟩:=id ho;obtain⟨bb,F⟩:∃b,decide (q.num<0)=b:=⟨_,rfl⟩;rw [F];obtain⟨W2,V,H⟩:=nw2 w #[.slice am nm cm,.bool bb,.slice ao no co] 138 #[.slice none 0 0,.bool false,.slice none 0 0] 138;have HS:=qH ((qb6 .f) q.den bb (.slice ao no co) W2.drew ((ho.below H.o.1).below qB.drew));have Z:=qH (qA (hm.below H.o.1) F);have aa:w.heap.size<w.heap.size+1:=by omega
 have q0:=rowG (g0:=w.heap.size+1) H.o.2.1 0;have q1:=rowG (g0:=w.heap.size+1) H.o.2.1 1;have q2:=rowG (g0:=w.heap.size+1) H.o.2.1 2;clear hm ho hM hO F;go_enter func205,ntmps205;go_upto_region 1 with fail;rw [<-V];clear V;refine wp_region_held_drew (S:=fun W=>W2.grownBy W (some (w.heap.size+1))) (by kernel_rfl) (keepB qB.drew) (fun hS0=>?_);refine hT 0 (h:=?_);refine hT 1 (h:=?_);refine hT 2 (h:=?_);refine hT 3 (h:=?_);refine hT 4 (h:=?_);refine hT 6 (h:=?_);refine hT 7 (h:=?_);refine hT 8 (h:=?_);refine hC 5 (f:=95) HS.o (h:=?_);rintro e w3 ⟨x,rfl,I,hx⟩;have Y:=qH (qb4 I);have U:W2.grownBy w3 (some (w.heap.size+1)):=keepB Y.o;have J:=H.below Y.o;obtain⟨a9,n9,c9,b9,rfl⟩:=qbV hx;have HI:=qH hx;clear I hx;refine⟨_,rfl,U,hN (h:=?_)⟩;refine hT 9 (h:=?_);have HE:=qH (qA (qT _ _ _ #[.slice a9 n9 c9,.bool b9,.slice am nm cm] _ _ J.o.2.2) (qS J.o.1 (show w.heap.size<=w.heap.size+1 by omega) #[.slice a9 n9 c9,.bool b9,.slice am nm cm]));refine hSt 10 3 J.o.2.2 (h:=⟨qbZ U (qci _ _ _),?_⟩);go_wp2_with fail;refine qR (v:=.agg #[.slice a9 n9 c9,.bool b9,.slice am nm cm]) (rA_ rfl ((w.heap.size+1)) HE.o.1 underlying138 3) rfl ⟨_,rfl,HE.o.2,?_⟩;have hR:RatV w3 (.agg #[.slice a9 n9 c9,.bool b9,.slice am nm cm]) q⁻¹:=by
  obtain⟨i1,i2⟩:=qiB hq;obtain⟨m9,e9,h9⟩:=HI.o;have e1:Value.slice a9 n9 c9=m9/\b9=decide ((if bb=true then -(q.den:Int) else q.den)<0):=by
   simp only [qaP,qaV,qaN,qbw] at e9;exact⟨e9.1,e9.2.1⟩
  refine⟨.slice a9 n9 c9,.slice am nm cm,?_,?_,?_⟩
  ·rw [e1.2,i1];have I:(decide (q.num<0)=true)=(q.num<0):=by simp
   rw [<-Z.o.2];simp only [I]
  ·rw [e1.1,i1];have I:(decide (q.num<0)=true)=(q.num<0):=by simp
   rw [<-Z.o.2] at h9;simp only [I] at h9;exact h9
  ·rw [i2];exact Z.o.1.below Y.o
 obtain⟨m,o,h1,h2,h3⟩:=hR;exact⟨m,o,h1,qcp h2 (qci _ _ _) J.o.2.2 qd0,qcp h3 (qci _ _ _) J.o.2.2 qd0⟩
theorem readq {p:Rat} (V:Short p) (w:World):Calls prog 94 #[.agg #[.string (ftxt p).1,.string (ftxt p).2]] w fun e H=>∃(a:Option Addr) (n c:Nat) (b:Bool) (d:Option Addr) (m f:Nat),e=.returned (.tuple #[.agg #[.slice a n c,.bool b,.slice d m f],.bool true])/\RatV H (.agg #[.slice a n c,.bool b,.slice d m f]) p/\RFit p 67/\Below w.heap.size w H:=by
 refine (qdw _ _ w).mono ?_;rintro e H ⟨v,ok,rfl,h | h,U⟩
 ·obtain⟨rfl,I,O⟩:=h;have F:=I.at O;have J:=I.fit;rw [qcN] at F J;obtain⟨a,n,c,b,d,m,f,rfl⟩:=qcH F;exact⟨a,n,c,b,d,m,f,rfl,F,J,U⟩
 ·exact absurd (qdh V) h.2.1
theorem RFit.inv {q:Rat} {K:Nat} (F:q≠0) (h:RFit q K):RFit q⁻¹ K:=by
 obtain⟨i1,i2⟩:=qiB F;refine⟨?_,by rw [i2];exact h.1⟩;rw [i1];have:(if q.num<0 then -(q.den:Int) else q.den).natAbs=q.den:=by split <;> omega
 rw [this];exact h.2
theorem divq {p q:Rat} (sp:Short p) (sq:Short q) (hq:q≠0) (sz:Short (p*q⁻¹)) (w:World) (hT:HasT w) :
  Calls prog 144 #[.agg #[.string (ftxt p).1,.string (ftxt p).2],.agg #[.string (ftxt q).1,.string (ftxt q).2]] w fun e w'=>e=.returned (.tuple #[.agg #[.string (ftxt (p*q⁻¹)).1,.string (ftxt (p*q⁻¹)).2],.int .i64 0])/\Below w.heap.size w w':=by
 obtain⟨p1,p2,hp⟩:=qcd p;obtain⟨q1,q2,ae⟩:=qcd q;obtain⟨r1,r2,hr⟩:=qcd (p*q⁻¹);obtain⟨W3,aC,K3⟩:=nw3 w #[.string p1,.string p2] 44 #[.string q1,.string q2] 44 #[.string ⟨#[]⟩,.string ⟨#[]⟩] 44;have Rp:=fun W=>readq sp W
 have Rq:=fun W=>readq sq W
 rw [hp] at Rp;rw [ae] at Rq;have HR:=qH (qA Rp Rq);have U:=qH (qA hq (qA sz (qA hr (hT.below K3.o.1))));rw [hp,ae,hr];have b0:=qC W3 _ 0 _ _ _ K3.o.2.2.1;have b1:=qC W3 _ 1 _ _ _ K3.o.2.2.1;clear Rp Rq sp sq hq sz hT hp ae hr;go_enter func144,ntmps144;go_wp2_with fail;rw [<-aC];clear aC;refine (HR.o.1 W3).mono ?_;rintro e w1 ⟨a0,n0,c0,bb0,d0,e0,f0,rfl,aJ,aF,V⟩;have K4:=(K3.below V).also (q:=fun W=>RatV W (.agg #[.slice a0 n0 c0,.bool bb0,.slice d0 e0 f0]) p) aJ;have ah:=qH aF;have aj:=qH (U.o.2.2.2.below V);have k1:=qC w1 _ 0 _ _ _ K4.o.1.2.2.1;have k2:=qC w1 _ 1 _ _ _ K4.o.1.2.2.1;have aQ:w.heap.size+1<w1.heap.size:=(qG K4.o.1.2.2.1).1;have q9:w.heap.size+1+1<w1.heap.size:=(qG K4.o.1.2.2.2).1;clear aJ V aF K3 b0 b1;go_wp2_with fail;obtain⟨V1,aA,N1⟩:=nw1 w1 #[.slice a0 n0 c0,.bool bb0,.slice d0 e0 f0] 138;have K5:=(K4.below N1.o.1).also (q:=fun W=>W.heap[w1.heap.size]? = some (.cells #[.slice a0 n0 c0,.bool bb0,.slice d0 e0 f0] 138 (0,0))) N1.o.2;have ak:=qH (aj.o.below N1.o.1);rw [<-aA];clear aA k1 k2 K4 N1;refine (HR.o.2 V1).mono ?_;rintro e w2 ⟨a1,n1,c1,bb1,d1,e1,f1,rfl,aK,aG,Y⟩;have K6:=(K5.below Y).also (q:=fun W=>RatV W (.agg #[.slice a1 n1 c1,.bool bb1,.slice d1 e1 f1]) q) aK;have ai:=qH aG;have aR:w1.heap.size<w2.heap.size:=(qG K6.o.1.2).1;have au:=qH (ak.o.below Y);obtain⟨V2,aB,N2⟩:=nw1 w2 #[.slice a1 n1 c1,.bool bb1,.slice d1 e1 f1] 138;have H:=(K6.below N2.o.1).also (q:=fun W=>W.heap[w2.heap.size]? = some (.cells #[.slice a1 n1 c1,.bool bb1,.slice d1 e1 f1] 138 (0,0))) N2.o.2;have aM:=qH (au.o.below N2.o.1);have aH:MagAt V2 (.slice a1 n1 c1) q.num.natAbs:=by
  obtain⟨m,o,e,h1,h2⟩:=H.o.1.2;simp only [qaP,qaV,qaN] at e;rw [e.1];exact h1
 have aI:decide (q.num.natAbs=0)=false:=qU fun h=>U.o.1 (Rat.num_eq_zero.1 (by omega))
 have F:=(qcw .f) q.num.natAbs (.slice a1 n1 c1) V2 aH;rw [aI] at F;have F:=qH F;clear aK aG Y K5 K6 N2 aH aI aj ak au aQ;go_upto_region 5 with fail;rw [<-aB];clear aB;have j0:=qC V2 _ 0 _ _ _ H.o.2;go_wp2_with fail;refine F.o.mono ?_;rintro e w5 ⟨rfl,hw⟩;have hw:=hw.symm;subst hw;clear F j0;go_wp2_with fail;have r0:=rowG (g0:=w.heap.size+1+1) H.o.1.1.2 0;have aS:=rowG (g0:=w.heap.size+1+1) H.o.1.1.2 1;have aT:=rowG (g0:=w.heap.size+1+1) H.o.1.1.2 2;have s0:=rowG (g0:=w.heap.size+1+1) H.o.2 0;have s1:=rowG (g0:=w.heap.size+1+1) H.o.2 1;have s2:=rowG (g0:=w.heap.size+1+1) H.o.2 2;refine wp_region_held_drew (S:=fun W=>V2.grownBy W (some (w.heap.size+1+1))) (by kernel_rfl) (keepB qB.drew) (fun hS0=>?_);refine hT 0 (h:=?_);refine hT 1 (h:=?_);refine hC 2 (qjJ q U.o.1 _ V2.drew (H.o.1.2.below qB.drew)) (h:=?_);rintro e w6 ⟨u6,rfl,aD,af⟩;have I:=qH (qb4 aD);have av:V2.grownBy w6 (some (w.heap.size+1+1)):=keepB I.o;obtain⟨x0,x1,x2,x3,x4,x5,x6,rfl⟩:=qcH af;have aN:=qH af;clear aD af;refine⟨_,rfl,av,hN (h:=?_)⟩;refine hC 3 (qkF p q⁻¹ 67 (by decide) _ _ w6 (H.o.1.1.1.2.below I.o) aN.o ah.o (ai.o.inv U.o.1)) (h:=?_);rintro e w7 ⟨u7,rfl,Z,ag⟩;have O:=qH (I.o.trans (Z.mono I.o.size));have ax:=qck av Z;obtain⟨y0,y1,y2,y3,y4,y5,y6,rfl⟩:=qcH ag;have aO:=qH ag;clear Z ag;refine⟨_,rfl,ax,hN (h:=?_)⟩;refine hC 4 (qeU (p*q⁻¹) (67+67) (by decide) (by decide) _ w7 aO.o (ah.o.mul (ai.o.inv U.o.1)) (aM.o.below O.o)) (h:=?_);rintro e w8 ⟨h,aa⟩;have aL:=qH (O.o.trans (aa.mono O.o.size));have ay:=qck ax aa;clear aa;rcases h with ⟨_,rfl⟩ | ⟨aP,_⟩
 case inr=>exact absurd U.o.2.1 aP
 rw [qem,U.o.2.2.1];have K8:=H.below aL.o;refine⟨_,rfl,ay,hN (h:=?_)⟩;refine hT 5 (h:=?_);refine hT 6 (h:=?_);have J:=K8.o.1.1.1.1.2.2.2;have HE:=qH (qA (qT _ _ _ #[.string r1,.string r2] _ _ J) (qS K8.o.1.1.1.1.1 (show w.heap.size<=w.heap.size+1+1 by omega) #[.string r1,.string r2]));have az:=qbZ ay (qci w8 (w.heap.size+1+1) #[.string r1,.string r2]);refine hSn 7 2 J (h:=⟨az,?_⟩);refine hT 8 (hS:=az) (h:=?_);refine wpAnyH_done (by kernel_rfl) ?_ _;go_wp2_with fail;exact qR (v:=.tuple #[.agg #[.string r1,.string r2],.int .i64 0]) (rB_ rfl (w.heap.size+1+1) HE.o.1 underlying44 2) rfl ⟨rfl,HE.o.2⟩
end Go.Proofs.YtplkdeknjghobaaGreatDoor
namespace Go.Proofs.YtplkdeknjghobaaGreatDoor
open Go.RowKit Go.Proofs.Tryz
def RBlk (W:World) (g:Nat) (q:Rat):Prop:=∃(a:Option Addr) (n c:Nat) (b:Bool) (d:Option Addr) (m f:Nat),W.heap[g]? = some (.cells #[.slice a n c,.bool b,.slice d m f] 138 (0,0))/\RatV W (.agg #[.slice a n c,.bool b,.slice d m f]) q
theorem RBlk.below {W W':World} {g:Nat} {q:Rat} (h:RBlk W g q) (F:Below W.heap.size W W'):RBlk W' g q:=by
 obtain⟨a,n,c,b,d,m,f,H,I⟩:=h;exact⟨a,n,c,b,d,m,f,zkeep F _ _ H,I.below F⟩
theorem qi6 {a:Option Addr} {n c:Nat} {b:Bool} {d:Option Addr} {m f:Nat}:∀x∈(#[.slice a n c,.bool b,.slice d m f]:Array Value).toList,∀z,x≠.int .u32 z:=by
 intro x hx z;simp at hx;rcases hx with rfl | rfl | rfl <;> intro h <;> cases h
theorem RatV.keep {W W':World} {v:Value} {q:Rat} {g:Nat} {cs:Array Value} {t:TypeId} (h:RatV W v q) (F:W.grownBy W' (some g)) (hg:W.heap[g]? = some (.cells cs t (0,0))) (H:∀x∈cs.toList,∀z,x≠.int .u32 z):RatV W' v q:=by
 obtain⟨m,o,I,J,O⟩:=h;exact⟨m,o,I,qcp J F hg H,qcp O F hg H⟩
theorem qlI (S P:Rat) (K:Nat) (Y:K<=34359738368) (I:Nat) (v:Value) (w:World) (hs:RBlk w I S) (hv:RatV w v P) (hS:RFit S K) (hP:RFit P K) :
  Calls prog 255 #[v,.pointer (some ⟨I,0,none⟩)] w fun e w'=>e=.returned (.tuple #[])/\RBlk w' I (S+P)/\w.grownBy w' (some I):=by
 obtain⟨a,n,c,b,d,m,f,h1,h2⟩:=hs;obtain⟨a0,n0,c0,b0,d0,m0,f0,rfl⟩:=qcH hv;obtain⟨W1,U,J⟩:=nw1 w #[.slice a0 n0 c0,.bool b0,.slice d0 m0 f0] 138;have H:=zkeep J.o.1 _ _ h1;have x0:=qC _ _ 0 _ _ _ H;have x1:=qC _ _ 1 _ _ _ H;have x2:=qC _ _ 2 _ _ _ H;have y0:=qC _ _ 0 _ _ _ J.o.2;have y1:=qC _ _ 1 _ _ _ J.o.2;have y2:=qC _ _ 2 _ _ _ J.o.2;have HA:=qH (qkE S P K Y _ _ W1 (h2.below J.o.1) (hv.below J.o.1) hS hP);have HX:=qH H;clear h1 h2 hv H hS hP;go_enter func255,ntmps255;go_upto_region 1 with fail;rw [<-U];clear U;go_wp2_with fail;refine HA.o.mono ?_;rintro e w2 ⟨r,rfl,Z,H⟩;obtain⟨e0,e1,e2,e3,e4,e5,e6,rfl⟩:=qcH H;have F:=zkeep Z _ _ HX.o;have V:=qH (qA (qT _ _ _ #[.slice e0 e1 e2,.bool e3,.slice e4 e5 e6] _ _ F) (qA (qbZ (qck (keepB (g:=I) J.o.1) Z) (qci w2 I #[.slice e0 e1 e2,.bool e3,.slice e4 e5 e6])) (H.keep (qci w2 I #[.slice e0 e1 e2,.bool e3,.slice e4 e5 e6]) F qi6)));have O:=qH F;clear Z H F HA;rename_i Y;dsimp only;refine Y _ _ ?_
 go_wp2_with ((with_reducible refine sR_ rfl 138 _ _ rfl (I) #[.slice e0 e1 e2,.bool e3,.slice e4 e5 e6] O.o 3 ?_))
 go_end0
 exact⟨rfl,⟨e0,e1,e2,e3,e4,e5,e6,V.o.1,V.o.2.2⟩,V.o.2.1⟩
theorem RFit.plus {p q:Rat} {K J:Nat} (F:RFit p K) (H:RFit q J):RFit (p+q) (K+J+1):=by
 have I:Fit (p.num*q.den+q.num*p.den).natAbs (K+J+1):=by
  refine (Fit.add (x:=(p.num*q.den).natAbs) (y:=(q.num*p.den).natAbs) (K:=K+J) ?_ ?_).le (qbF _ _)
  ·rw [qaF,qam];exact F.1.mul H.2
  ·rw [qaF,qam,Nat.add_comm K J];exact H.1.mul F.2
 have O:Fit (p.den*q.den) (K+J+1):=(F.2.mul H.2).mono (by omega);rw [Rat.add_def'];have hne:=qbo p.den_nz q.den_nz
 constructor
 ·rw [Rat.num_mkRat,if_neg hne];refine I.le ?_;rw [Int.natAbs_ediv_of_dvd (Int.ofNat_dvd_left.2 (qaW _ _))];exact qaR _ _
 ·rw [Rat.den_mkRat,if_neg hne];exact O.le (qaR _ _)
theorem RFit.up {q:Rat} {K J:Nat} (h:RFit q K) (F:K<=J):RFit q J:=⟨h.1.mono F,h.2.mono F⟩
structure RCells (W:World) (b n:Nat) (x:Nat->Rat):Prop where
 cell:∀k,k<n->∃(a:Option Addr) (m c:Nat) (bb:Bool) (d:Option Addr) (e f:Nat),W.cell? ⟨b,k*3,none⟩=some (.slice a m c)/\W.cell? ⟨b,k*3+1,none⟩=some (.bool bb)/\W.cell? ⟨b,k*3+2,none⟩=some (.slice d e f)/\RatV W (.agg #[.slice a m c,.bool bb,.slice d e f]) (x k)
theorem RCells.below {W W':World} {b n:Nat} {x:Nat->Rat} (h:RCells W b n x) (F:Below W.heap.size W W'):RCells W' b n x:=⟨fun k U=>by
 obtain⟨a,m,c,bb,d,e,f,H,I,J,O⟩:=h.cell k U;exact⟨a,m,c,bb,d,e,f,(F.cell (qac W _ H)).trans H,(F.cell (qac W _ I)).trans I,(F.cell (qac W _ J)).trans J,O.below F⟩⟩
theorem one_mag (W:World) (g:Nat) (h:W.heap[g]? = some (.cells #[.int .u32 1] 232 (0,0))):MagAt W (.slice (some ⟨g,0,none⟩) 1 1) 1:=by
 refine⟨some ⟨g,0,none⟩,g,0,1,1,[1],rfl,⟨rfl,qae _,⟨fun _=>rfl,fun k F=>?_⟩,fun k=>?_,qag (by decide)⟩,by decide⟩
 ·obtain rfl:k=0:=by simp at F;omega
  exact qC _ _ 0 _ _ _ h
 ·rcases k with _ | k
  ·decide
  ·simp
theorem qnV (b n c:Nat) (ao:Option Addr) (x:Nat->Rat) (w:World) (ae:0<n->ao=some ⟨b,0,none⟩) (hn:n<=300) (hx:∀k,k<n->RFit (x k) 67) (hC:RCells w b n x) :
  Calls prog 204 #[.slice ao n c] w fun e w'=>∃r,e=.returned r/\Below w.heap.size w w'/\RatV w' r (sumQ n x)/\RFit (sumQ n x) (68*n+1):=by
 obtain⟨W1,O,N1⟩:=nw1 w #[.slice none 0 0,.bool false,.slice none 0 0] 138;obtain⟨W2,U,N2⟩:=nw1 W1 #[.int .u32 1] 232;have Y:W1.heap.size=w.heap.size+1:=by rw [O];simp
 have ai:W2.heap.size=w.heap.size+1+1:=by rw [U];simp [Y]
 obtain⟨W3,aa,N3⟩:=nw1 W2 #[.slice none 0 0,.bool false,.slice (some ⟨w.heap.size+1,0,none⟩) 1 1] 138;have J:W1.heap[w.heap.size]? = some (.cells #[.slice none 0 0,.bool false,.slice none 0 0] 138 (0,0)):=N1.o.2;have Z:=N2.o.2;rw [Y] at Z;have I:=N3.o.2;rw [ai] at I;have ag:Below w.heap.size w W3:=N1.o.1.trans ((N2.o.1.trans (N3.o.1.mono N2.o.1.size)).mono N1.o.1.size);have hz:RBlk W3 (w.heap.size+1+1) 0:=by
  refine⟨none,0,0,false,_,1,1,I,.slice none 0 0,.slice (some ⟨w.heap.size+1,0,none⟩) 1 1,rfl,MagAt.nil _,?_⟩;exact (one_mag _ _ Z).below N3.o.1
 have ah:=zkeep N3.o.1 _ _ (zkeep N2.o.1 _ _ J);have au:=@hmf_ prog;have H0:=qH (qA ag (qA hz ah));have HX:=qH (qA ae (qA hx (hC)));clear J Z I ag hz ah Y ai N1 N2 N3 ae hx hC;go_enter func204,ntmps204;go_upto_region 2 with fail;rw [<-O,<-U,<-aa];clear O U aa;go_wp2_with fail
 go_loopw [12] (fun x12 W=>∃i:Nat,x12=.int .i64 i/\i<=n/\Hu (Below w.heap.size w W/\RBlk W (w.heap.size+1+1) (sumQ i x)/\W.heap[w.heap.size]? = some (.cells #[.slice none 0 0,.bool false,.slice none 0 0] 138 (0,0))/\RFit (sumQ i x) (68*i+1))) (fun x12 _=>n-(intOf x12).toNat)
 case atStart =>
  exact⟨0,rfl,qal _,qH ⟨H0.o.1,H0.o.2.1,H0.o.2.2,⟨(by show (0:Nat)<1000000000 ^ 1;decide),(by show (1:Nat)<1000000000 ^ 1;decide)⟩⟩⟩
 case round =>
  obtain⟨i,rfl,ak,F⟩:=hrel
  by_cases hi:i<n
  ·have aj:(i:Int)<n:=by omega
   have ha:=HX.o.1 (by omega);subst ha;obtain⟨a0,m0,c0,b0,d0,e0,f0,y0,y1,y2,hv⟩:=(HX.o.2.2.below F.o.1).cell i hi;have av:i*3<n*3:=by omega
   have HV:=qH hv;clear hv;go_wp2_with fail;have H:Below wr.heap.size wr (wr.alloc (.cells #[.slice a0 m0 c0,.bool b0,.slice d0 e0 f0] 138)):=qB.alloc qN _;refine (qlI (sumQ i x) (x i) (68*n+68) (by omega) (w.heap.size+1+1) _ _ (F.o.2.1.below H) (HV.o.below H) (F.o.2.2.2.up (by omega)) ((HX.o.2.1 i hi).up (by omega))).mono ?_;rintro e w5 ⟨rfl,hr,V⟩;have HN:Hu (Below w.heap.size w w5/\RBlk w5 (w.heap.size+1+1) (sumQ i x+x i)/\w5.heap[w.heap.size]? = some (.cells #[.slice none 0 0,.bool false,.slice none 0 0] 138 (0,0))):=qH (by
    have af:=F.o.1.trans (H.mono F.o.1.size);refine⟨af.trans ⟨V.os,V.tape,V.output,V.size,fun j hj=>V.block j (by have:=af.size;omega) (fun e=>by have:=qah e;omega)⟩,hr,?_⟩;have hg:=zkeep H _ _ F.o.2.2.1;exact (V.block _ (qG hg).1 (fun e=>by have:=qah e;omega)).trans hg)
   clear hr V;go_wp2;go_roundw
   case rel=>exact⟨i+1,by go_num,hi,qH ⟨HN.o.1,HN.o.2.1,HN.o.2.2,(F.o.2.2.2.plus (HX.o.2.1 i hi)).up (by omega)⟩⟩
   case measure=>simp [intOf];omega
  ·obtain rfl:i=n:=by omega
   obtain⟨hb,⟨a,m,c',bb,d,e',f,h1,Z⟩,I,h4⟩:=F.o;have x0:=qC _ _ 0 _ _ _ h1;have x1:=qC _ _ 1 _ _ _ h1;have x2:=qC _ _ 2 _ _ _ h1;have HE:=qH (qA (qT _ _ _ #[.slice a m c',.bool bb,.slice d e' f] _ _ I) (qA (qS hb qN #[.slice a m c',.bool bb,.slice d e' f]) (qA (Z.keep (qci _ w.heap.size #[.slice a m c',.bool bb,.slice d e' f]) I qi6) h4)));have Hr:=qH I;clear F hb h1 Z I h4
   go_wp2_with ((with_reducible refine sR_ rfl 138 _ _ rfl (w.heap.size) #[.slice a m c',.bool bb,.slice d e' f] Hr.o 3 ?_))
   exact qR (v:=.agg #[.slice a m c',.bool bb,.slice d e' f]) (rA_ rfl (w.heap.size) HE.o.1 underlying138 3) rfl ⟨_,rfl,HE.o.2.1,HE.o.2.2.1,HE.o.2.2.2⟩
theorem qml (x:Int) (d K:Nat) (ag:0<K) (hK:K<=137438953472) (hd:0<d) (v o:Value) (w:World) (hv:IntAt w v x) (ho:MagAt w o d) (hx:Fit x.natAbs K) (hy:Fit d K) :
  Calls prog 264 #[v,o] w fun e w'=>∃u,e=.returned u/\Below w.heap.size w w'/\IntAt w' u (x / (d:Int)):=by
 obtain⟨m,rfl,hm⟩:=hv;have Y:=sg_floor x hd;obtain⟨am,bm,om,cm,nm,M,rfl,hM⟩:=id hm;obtain⟨ao,bo,oo,co,no,O,rfl,hO⟩:=id ho;obtain⟨bb,au⟩:∃b,decide (x<0)=b:=⟨_,rfl⟩;rw [au] at Y ⊢;obtain⟨W2,ah,K2⟩:=nw2 w #[.slice am nm cm,.bool bb] 136 #[.slice none 0 0,.bool false] 136;have c0:=qC _ _ 0 _ _ _ K2.o.2.1;have HD:=qH ((qb3 .f) x.natAbs d K hK _ _ W2 (hm.below K2.o.1) (ho.below K2.o.1) hx hy hd);have ae:Fit (x.natAbs / d) K:=hx.le (qaR _ _);have af:Fit 1 K:=(show Fit 1 1 from (by show 1<1000000000 ^ 1;decide)).mono ag;obtain⟨I,hq⟩:=qX (x.natAbs / d);obtain⟨r0,hr⟩:=qX (x.natAbs % d);obtain⟨Z,hZ⟩:=qX (x / (d:Int));rw [hq,hr] at Y HD;rw [hZ] at Y ⊢;rw [hq] at ae;have HX:=qH (qA Y (qA ae (qA af hK)));clear hm ho hM hO au Y hx hy hd hq hr hZ ae af hK ag;go_enter func264,ntmps264;go_upto_region 1 with fail;rw [<-ah];clear ah;go_wp2_with fail;refine HD.o.mono ?_;rintro e w3 ⟨q,r,rfl,ai,hq,hr⟩;have U:=(K2.below ai).also (q:=fun W=>MagAt W q I/\MagAt W r r0) ⟨hq,hr⟩;obtain⟨aq,_,_,cq,nq,_,rfl,_,_⟩:=hq;obtain⟨ar,_,_,cr,nr,_,rfl,_,_⟩:=hr;clear ai K2 HD c0;have c1:=qC _ _ 1 _ _ _ U.o.1.2.1;cases bb with
 | false =>
  go_wp2_with fail;refine ((qb6 .f) I false _ w3 U.o.2.1).mono ?_;rintro e w4 ⟨u,rfl,V,H⟩;obtain⟨a9,n9,c9,b9,rfl⟩:=qbV H;have K4:=U.below V;have hz:(if false=true then -(I:Int) else I)=Z:=by have:=HX.o.1;simpa using this
  rw [hz] at H;have F:=qH K4.o.1.2.2;have J:=qH (qA (qT _ _ _ #[.slice a9 n9 c9,.bool b9] _ _ F.o) (qA (qS K4.o.1.1 (show w.heap.size<=w.heap.size+1 by omega) #[.slice a9 n9 c9,.bool b9]) (qcs (cs':=#[.slice a9 n9 c9,.bool b9]) H F.o qdm)));clear H V hz U c1;rename_i hK;dsimp only;refine hK _ _ ?_
  go_wp2_with ((with_reducible refine sR_ rfl 136 _ _ rfl ((w.heap.size+1)) #[.slice a9 n9 c9,.bool b9] F.o 2 ?_))
  exact qR (v:=.agg #[.slice a9 n9 c9,.bool b9]) (rA_ rfl ((w.heap.size+1)) J.o.1 underlying136 2) rfl ⟨_,rfl,J.o.2.1,J.o.2.2⟩
 | true =>
  go_wp2_with fail;refine ((qcw .f) r0 _ w3 U.o.2.2).mono ?_;rintro e w4 ⟨rfl,hw⟩;subst hw
  by_cases h0:r0=0
  ·rw [qV h0];have H0:=qH h0;clear h0;go_wp2_with fail;refine ((qb6 .f) I true _ _ U.o.2.1).mono ?_;rintro e w5 ⟨u,rfl,V,H⟩;obtain⟨a9,n9,c9,b9,rfl⟩:=qbV H;have K4:=U.below V;have hz:(if true=true then -(I:Int) else I)=Z:=by have:=HX.o.1;simp [H0.o] at this;rw [if_pos rfl];omega
   rw [hz] at H;have F:=qH K4.o.1.2.2;have J:=qH (qA (qT _ _ _ #[.slice a9 n9 c9,.bool b9] _ _ F.o) (qA (qS K4.o.1.1 (show w.heap.size<=w.heap.size+1 by omega) #[.slice a9 n9 c9,.bool b9]) (qcs (cs':=#[.slice a9 n9 c9,.bool b9]) H F.o qdm)));clear H V hz U c1;rename_i hK;dsimp only;refine hK _ _ ?_
   go_wp2_with ((with_reducible refine sR_ rfl 136 _ _ rfl ((w.heap.size+1)) #[.slice a9 n9 c9,.bool b9] F.o 2 ?_))
   exact qR (v:=.agg #[.slice a9 n9 c9,.bool b9]) (rA_ rfl ((w.heap.size+1)) J.o.1 underlying136 2) rfl ⟨_,rfl,J.o.2.1,J.o.2.2⟩
  ·rw [qU h0];have H0:=qH h0;clear h0;obtain⟨W4,aa,N4⟩:=nw1 w4 #[.int .u32 1] 232;have HP:=qH ((qgK .f) I 1 K (by have:=HX.o.2.2.2;omega) (.slice aq nq cq) (.slice (some ⟨w4.heap.size,0,none⟩) 1 1) W4 (U.o.2.1.below N4.o.1) (aa▸qeD w4 232 (s:=1) (by decide) (by decide)) HX.o.2.1 HX.o.2.2.1);have K4:=U.below N4.o.1;clear U c1 N4;go_wp2_with fail;rw [<-aa];clear aa;refine HP.o.mono ?_;rintro e w5 ⟨p,rfl,aj,hp⟩;have K5:=(K4.below aj).also (q:=fun W=>MagAt W p (I+1)) hp;obtain⟨ap,_,_,cp,np,_,rfl,_,_⟩:=hp;clear aj K4 HP;have c1:=qC _ _ 1 _ _ _ K5.o.1.1.2.1;go_wp2_with fail;refine ((qb6 .f) (I+1) true _ w5 K5.o.2).mono ?_;rintro e w6 ⟨u,rfl,ak,H⟩;obtain⟨a9,n9,c9,b9,rfl⟩:=qbV H;have K6:=K5.below ak;have hz:(if true=true then -((I+1:Nat):Int) else ((I+1:Nat):Int))=Z:=by have:=HX.o.1;simp [H0.o] at this;rw [if_pos rfl];omega
   rw [hz] at H;have F:=qH K6.o.1.1.2.2;have J:=qH (qA (qT _ _ _ #[.slice a9 n9 c9,.bool b9] _ _ F.o) (qA (qS K6.o.1.1.1 (show w.heap.size<=w.heap.size+1 by omega) #[.slice a9 n9 c9,.bool b9]) (qcs (cs':=#[.slice a9 n9 c9,.bool b9]) H F.o qdm)));clear H ak hz K5 c1;rename_i hK;dsimp only;refine hK _ _ ?_
   go_wp2_with ((with_reducible refine sR_ rfl 136 _ _ rfl ((w.heap.size+1)) #[.slice a9 n9 c9,.bool b9] F.o 2 ?_))
   exact qR (v:=.agg #[.slice a9 n9 c9,.bool b9]) (rA_ rfl ((w.heap.size+1)) J.o.1 underlying136 2) rfl ⟨_,rfl,J.o.2.1,J.o.2.2⟩
theorem near_any (q:Rat) (s K J:Nat) (Y:K+J+2<=34359738368) (v u:Value) (w:World) (hv:RatV w v q) (hu:MagAt w u s) (hq:RFit q K) (hs:Fit s J) :
  Calls prog 217 #[v,u] w fun e w'=>∃r,e=.returned r/\Below w.heap.size w w'/\IntAt w' r (nearZ q s):=by
 obtain⟨vm,vo,rfl,hm,ho⟩:=hv;obtain⟨am,bm,om,cm,nm,M,rfl,hM⟩:=id hm;obtain⟨ao,bo,oo,co,no,O,rfl,hO⟩:=id ho;obtain⟨au,bu,ou,cu,nu,U,rfl,hU⟩:=id hu;have V:Fit 2 1:=by show 2<1000000000 ^ 1;decide
 have g1:Fit (s*2) (J+1):=hs.mul V;have g2:Fit (q.num*((s*2:Nat):Int)).natAbs (K+J+2):=by rw [qaF,qam];exact (hq.1.mul g1).mono (by omega)
 have g3:Fit ((q.den:Int)).natAbs (K+J+2):=by rw [qam];exact hq.2.mono (by omega)
 have g4:Fit (q.num*((s*2:Nat):Int)+(q.den:Int)).natAbs (K+J+3):=(g2.add g3).le (qbF _ _);have g5:Fit (q.den*2) (K+J+3):=(hq.2.mul V).mono (by omega);have hz:=qiS q s;obtain⟨z,av⟩:=qX (nearZ q s);rw [av] at hz ⊢;obtain⟨I,ae,K3⟩:=nw3 w #[.slice am nm cm,.bool (decide (q.num<0)),.slice ao no co] 138 #[.slice none 0 0,.bool false] 136 #[.int .u32 2] 232;have ai:MagAt I (.slice (some ⟨w.heap.size+1+1,0,none⟩) 1 1) 2:=by
  have:=qeD ((w.alloc (.cells #[.slice am nm cm,.bool (decide (q.num<0)),.slice ao no co] 138)).alloc (.cells #[.slice none 0 0,.bool false] 136)) 232 (s:=2) (by decide) (by decide);rw [ae];simpa using this
 have HM:=qH (qA (hm.below K3.o.1) (qA (ho.below K3.o.1) (qA (hu.below K3.o.1) ai)));have HG:=qH (qA g1 (qA g2 (qA g3 (qA g4 (qA g5 (qA hq (qA hs (qA Y hz))))))));have HC:=qH fun (W:World) (h:Below I.heap.size I W)=>(qch .f) s 2 J 1 (by omega) _ _ W (HM.o.2.2.1.below h) (HM.o.2.2.2.below h) hs V
 have HS:=qH fun (W:World) (x:Value) (h:Below I.heap.size I W) (hx:MagAt W x (s*2))=>(qct .f) q.num (s*2) K (J+1) (by omega) (.agg #[.slice am nm cm,.bool (decide (q.num<0))]) x W ⟨_,rfl,HM.o.1.below h⟩ hx hq.1 g1
 have HN:=qH fun (W:World) (h:Below I.heap.size I W)=>(qb6 .f) q.den false (.slice ao no co) W (HM.o.2.1.below h)
 have HA:=qH fun (W:World) (x y:Value) (hx:IntAt W x (q.num*((s*2:Nat):Int))) (hy:IntAt W y (q.den:Int))=>(qde .f) _ _ (K+J+2) (by omega) x y W hx hy g2 g3
 dsimp only [Pk.of] at HC HS HN HA;obtain⟨bb,ay⟩:∃b,decide (q.num<0)=b:=⟨_,rfl⟩;rw [ay] at HS ae K3 ⊢;clear hm ho hu hM hO hU hq hs V g1 g2 g3 g4 g5 hz Y ai av;have lt:=(qG K3.o.2.2.2).1;have c0:=rowC (B:=I.heap.size) K3.o.2.1 0;have c1:=rowC (B:=I.heap.size) K3.o.2.1 1;have c2:=rowC (B:=I.heap.size) K3.o.2.1 2;go_enter func217,ntmps217;go_upto_region 2 with fail;rw [<-ae];clear ae;refine wp_region_held_drew (S:=fun W=>Below I.heap.size I W) (by kernel_rfl) qB.drew (fun hS0=>?_);refine hT 0 (h:=hT 1 (h:=hT 2 (h:=hT 3 (h:=hT 6 (h:=hT 7 (h:=?_))))));refine gr [(4,12),(5,13),(8,16),(9,17),(10,6)] [(5,[4]),(9,[5,8])] [0,1,2,3,6,7] [4,5,8,9,10] [10] 11 12 (fl2 [(4,fun x W=>MagAt W x (s*2)),(5,fun x W=>IntAt W x (q.num*((s*2:Nat):Int))),(8,fun x W=>IntAt W x (q.den:Int)),(9,fun x W=>IntAt W x (q.num*((s*2:Nat):Int)+(q.den:Int))),(10,ZC I.heap.size #[.slice none 0 0,.bool false] 136)]) _ 1
  (hS:=fun w' h=>qb4 h) (hstep:=⟨⟨_,rfl,fun v w2 F Z K Y=>?_⟩,⟨_,rfl,fun v w2 F Z K Y=>?_⟩,⟨_,rfl,fun v w2 F Z K Y=>?_⟩,⟨_,rfl,fun v w2 F Z K Y=>?_⟩,⟨_,rfl,fun v w2 F Z K Y=>?_⟩,trivial⟩) (hend:=fun v w2 F Z _ f=>?_)
 ·exact gC Y (HC.o _ (qb4 F)) (h:=fun e w3 ⟨u,e1,h1,V⟩=>⟨u,e1,V,h1⟩)
 ·exact gC Y (HS.o _ _ (qb4 F) Z.1) (h:=fun e w3 ⟨u,e1,h1,V⟩=>⟨u,e1,V,h1⟩)
 ·exact gC Y (HN.o _ (qb4 F)) (h:=fun e w3 ⟨u,e1,h1,V⟩=>⟨u,e1,V,h1⟩)
 ·exact gC Y (HA.o _ _ _ Z.1 Z.2.1) (h:=fun e w3 ⟨u,e1,h1,V⟩=>⟨u,e1,V,h1⟩)
 ·exact gW Y (h:=ZC.new F.size)
 obtain⟨g,hg,e11,az⟩:ZC _ _ _ _ _:=Z 10 (by decide) (by decide);have hx:IntAt w2 (v 9) _:=Z 9 (by decide) (by decide);obtain⟨ax,nx,cx,bx,e10⟩:=qbV hx;rw [e10] at hx;have K2:=K3.below (qb4 F);have ak:=HM.o.2.1.below (qb4 F);have ah:=HM.o.2.2.2.below (qb4 F);refine hSt 11 2 hg (hx:=by exact e11) (hy:=by exact e10) (h:=⟨qS (qb4 F) az _,?_⟩);obtain⟨W4,af⟩:=qY (w2.setRow g #[.slice ax nx cx,.bool bx]);have K4:Kn (fun W=>(Below w.heap.size w W/\W.heap[w.heap.size]? = some (.cells #[.slice am nm cm,.bool bb,.slice ao no co] 138 (0,0))/\W.heap[w.heap.size+1]? = some (.cells #[.slice none 0 0,.bool false] 136 (0,0))) /\
   (W.heap[g]? = some (.cells #[.slice ax nx cx,.bool bx] 136 (0,0))/\IntAt W (.agg #[.slice ax nx cx,.bool bx]) (q.num*((s*2:Nat):Int)+(q.den:Int)))/\MagAt W (.slice ao no co) q.den/\MagAt W (.slice (some ⟨w.heap.size+1+1,0,none⟩) 1 1) 2) W4 :=
  .of (by rw [af];exact⟨⟨qS K2.o.1 (by omega) _,(setRow_other _ _ _ _ (by omega)).trans K2.o.2.1,(setRow_other _ _ _ _ (by omega)).trans K2.o.2.2.1⟩,⟨qT _ _ _ _ _ _ hg,qcs hx hg qdm⟩,qcF ak hg qdm,qcF ah hg qdm⟩)
 rw [<-af];have lg:=(qG K4.o.2.1.1).1;have l1:=(qG K4.o.1.2.2).1;have aj:g≠w.heap.size+1:=by omega
 clear c0 c1 c2 af K2 K3 HM HC HS HN HA hg Z F hx hS0 ak ah lt;have d2:=rowG (g0:=w.heap.size+1) K4.o.1.2.1 2;have g0:=rowG (g0:=w.heap.size+1) K4.o.2.1.1 0 (hne:=aj);have g1:=rowG (g0:=w.heap.size+1) K4.o.2.1.1 1 (hne:=aj);go_wp2_with fail;refine wp_region_held_drew (S:=fun W=>W4.grownBy W (some (w.heap.size+1))) (by kernel_rfl) (keepB qB.drew) (fun hS0=>?_);refine hT 0 (h:=hT 1 (h:=hT 2 (h:=hT 3 (h:=?_))));refine hC 4 (f:=155) ((qch .f) q.den 2 K 1 (by have:=HG.o.2.2.2.2.2.2.2.1;omega) _ _ W4.drew (K4.o.2.2.1.below qB.drew) (K4.o.2.2.2.below qB.drew) HG.o.2.2.2.2.2.1.2 (by show 2<1000000000 ^ 1;decide)) (h:=?_);rintro e w5 ⟨x,rfl,F,hx⟩;have aa:=qH (qb4 F);have K5:=(K4.below aa.o).also (q:=fun W=>MagAt W x (q.den*2)) hx;clear F hx;refine⟨_,rfl,keepB aa.o,hN (h:=?_)⟩;refine hC 5 (qml _ _ (K+J+3) (by omega) (by have:=HG.o.2.2.2.2.2.2.2.1;omega) (by have:=q.den_pos;omega) _ _ w5 K5.o.1.2.1.2 K5.o.2 HG.o.2.2.2.1 HG.o.2.2.2.2.1) (h:=?_);rintro e w6 ⟨r,rfl,F,hr⟩;have ag:=qH (aa.o.trans (F.mono aa.o.size));have K6:=K5.below F;obtain⟨a9,n9,c9,b9,rfl⟩:=qbV hr;have HR:=qH hr;clear F hr;refine⟨_,rfl,keepB ag.o,hN (h:=?_)⟩;have H:=K6.o.1.1.2.2;refine hSt 6 2 H (h:=⟨qbZ (keepB ag.o) (qci _ _ _),?_⟩);have HE:=qH (qA (qT _ _ _ #[.slice a9 n9 c9,.bool b9] _ _ H) (qA (qS K6.o.1.1.1 (show w.heap.size<=w.heap.size+1 by omega) #[.slice a9 n9 c9,.bool b9]) (qcs (cs':=#[.slice a9 n9 c9,.bool b9]) HR.o H qdm)));clear H;go_wp2_with fail;refine qR (v:=.agg #[.slice a9 n9 c9,.bool b9]) (rA_ rfl ((w.heap.size+1)) HE.o.1 underlying136 2) rfl ⟨_,rfl,HE.o.2.1,?_⟩;rw [HG.o.2.2.2.2.2.2.2.2];exact HE.o.2.2
open Go.Lib
def HasE (w:World):Prop:=∃F,w.cell? ⟨3,0,none⟩=some F/\(F=.nilIface\/∃I H,F=.iface I H)
theorem HasE.below {w H:World} (h:HasE w) (J:Below w.heap.size w H):HasE H:=by
 obtain⟨ev,F,I⟩:=h;exact⟨ev,(J.cell (qac w _ F)).trans F,I⟩
instance stays_hase:Stays fun W=>HasE W:=⟨fun h F=>h.below F⟩
def I64 (z:Int):Prop:=-9223372036854775808<=z/\z<=9223372036854775807
theorem qn8 {z:Int} {K:Nat} (h:Fit z.natAbs K) (H:0<K):(qb7 z).size<=9*K+1:=by
 have F:(decDigits z.natAbs).length<=9*K:=qcq _ _ (by omega) (by rw [<-pow9];exact h)
 show (itxt z).length<=_
 unfold itxt;split
 ·simpa using F
 ·omega
theorem intw_any (z:Int) (K:Nat) (aa:0<K) (hK:K<=1000) (hz:Fit z.natAbs K) (w:World) (hE:HasE w) :
  Calls prog 216 #[.string (qb7 z)] w fun e w'=>Below w.heap.size w w'/\((I64 z/\e=.returned (.tuple #[.int .i64 z,.int .i64 0]))\/(¬I64 z/\∃c:Int,c≠0/\e=.returned (.tuple #[.int .i64 0,.int .i64 c]))):=by
 have Z:=qn8 hz aa;have J:=qeX (qb7 z) w;have F:I64 z->Valid (qb7 z).data.toList:=fun h=>qfY (qaL (m:=9223372036854775808) (by have h1:=h.1;have h2:=h.2;omega) (by decide +kernel))
 have hp:Lib.parseIntB 64 (qb7 z).data.toList=if -9223372036854775808<=z/\z<=9223372036854775807 then .ok z else .range:=qlq z
 obtain⟨s,hs⟩:=qX (qb7 z);rw [hs] at Z J F hp ⊢;have HC:=qH J;have U:=qH (qA (show s.size<=281474976710656 by omega) (qA F (qA hp hE)));clear Z J F hp hs hE hz hK;go_enter func216,ntmps216;go_wp2_with fail;refine HC.o.mono ?_;rintro e w2 ⟨c,rfl,h,hb⟩;have O:=qH hb;clear hb HC;rcases h with ⟨rfl,hv⟩ | ⟨rfl,hv⟩
 ·clear hv
  by_cases V:I64 z
  ·have HI:=qH V;have Y:=qH (Tryz.strconv_ParseInt_10_at64_ok s (by have:=U.o.1;omega) z (by rw [U.o.2.2.1,if_pos (show -9223372036854775808<=z/\z<=9223372036854775807 from V)]) w2);clear V;go_wp2_with fail;refine Y.o.mono ?_;rintro e w3 ⟨rfl,hw⟩;have H:Below w2.heap.size w2 w3:=by
    rcases hw with rfl | ⟨t,rfl⟩
    ·exact Below.refl _ _
    ·exact Lib.bytesWorld_below _ _ _
   have I:=qH (O.o.trans (H.mono O.o.size));clear H hw Y;go_wp2_with fail
   go_ret2
   exact⟨I.o,qan ⟨HI.o,rfl⟩⟩
  ·have HI:=qH V;obtain⟨ev,h1,h2⟩:=U.o.2.2.2.below O.o;have Y:=qH (Tryz.strconv_ParseInt_10_at64_range s U.o.1 (by rw [U.o.2.2.1,if_neg (show ¬(-9223372036854775808<=z/\z<=9223372036854775807) from V)]) ev w2 h1 h2);clear V h1 h2;go_wp2_with fail;refine Y.o.mono ?_;rintro e w3 ⟨N,rfl,_,_,H⟩;have I:=qH (O.o.trans (H.mono O.o.size));clear H Y;go_wp2_with fail
   go_ret2
   exact⟨I.o,qag ⟨HI.o,6,by decide,rfl⟩⟩
 ·have HV:=qH hv;clear hv;go_wp2_with fail
  go_ret2
  exact⟨O.o,qag ⟨fun h=>HV.o (U.o.2.1 h),10,by decide,rfl⟩⟩
theorem near_fit {q:Rat} {s K J:Nat} (F:RFit q K) (O:Fit s J):Fit (nearZ q s).natAbs (K+J+3):=by
 have I:Fit 2 1:=by show 2<1000000000 ^ 1;decide
 have g2:Fit (q.num*((s*2:Nat):Int)).natAbs (K+J+2):=by rw [qaF,qam];exact (F.1.mul (O.mul I)).mono (by omega)
 have H:Fit ((q.den:Int)).natAbs (K+J+2):=by rw [qam];exact F.2.mono (by omega)
 have g4:Fit (q.num*((s*2:Nat):Int)+(q.den:Int)).natAbs (K+J+3):=(g2.add H).le (qbF _ _);rw [qiS];exact g4.le (Int.natAbs_ediv_le_natAbs _ _)
theorem near_q (q:Rat) (s:Nat) (sq:Short q) (aj:(1:Int)<=s) (ak:(s:Int)<=1000000000000) (w:World) (hT:HasT w) (hE:HasE w) :
  Calls prog 157 #[.agg #[.string (ftxt q).1,.string (ftxt q).2],.int .i64 (s:Int)] w fun e w'=>Below w.heap.size w w'/\((I64 (nearZ q s)/\e=.returned (.tuple #[.int .i64 (nearZ q s),.int .i64 0]))\/(¬I64 (nearZ q s)/\e=.returned (.tuple #[.int .i64 0,.int .i64 6]))):=by
 obtain⟨q1,q2,ag⟩:=qcd q;obtain⟨W1,ae,K1⟩:=nw1 w #[.string q1,.string q2] 44;have Rq:=readq sq W1;rw [ag] at Rq ⊢;have HR:=qH Rq;have V:=qH (qA (hT.below K1.o.1) (hE.below K1.o.1));have I:IntKind.u64.wrap (s:Int)=s:=by simp [IntKind.wrap,IntKind.bits,IntKind.signed];omega
 have af:Fit s 3:=qeA (by omega);have HW:=qH (qA I af);clear Rq sq hT hE ag I af;go_enter func157,ntmps157;go_wp2_with fail;rw [<-ae];clear ae;refine HR.o.mono ?_;rintro e w2 ⟨a0,n0,c0,bb0,d0,e0,f0,rfl,hv,hf,H⟩;have K2:=(K1.below H).also (q:=fun W=>RatV W (.agg #[.slice a0 n0 c0,.bool bb0,.slice d0 e0 f0]) q/\HasT W/\HasE W) ⟨hv,V.o.1.below H,V.o.2.below H⟩;have HF:=qH (qA hf (near_fit hf HW.o.2));obtain⟨V2,aa,N2⟩:=nw1 w2 #[.slice a0 n0 c0,.bool bb0,.slice d0 e0 f0] 138;have Y:=(K2.below N2.o.1).also (q:=fun W=>W.heap[w2.heap.size]? = some (.cells #[.slice a0 n0 c0,.bool bb0,.slice d0 e0 f0] 138 (0,0))) N2.o.2;clear hv H hf K1 K2 N2 HR V;go_upto_region 6 with fail;rw [<-aa];clear aa;have lt:=(qG Y.o.2).1;have r0:=rowC (B:=V2.heap.size) Y.o.2 0;have r1:=rowC (B:=V2.heap.size) Y.o.2 1;have r2:=rowC (B:=V2.heap.size) Y.o.2 2;refine wp_region_held_drew (S:=fun W=>Below V2.heap.size V2 W) (by kernel_rfl) qB.drew (fun hS0=>?_);refine hT 0 (h:=hT 1 (h:=?_));refine hT 2 (v:=.int .u64 (s:Int)) (hy:=by (intro w ah;(try dsimp only at ah);go_simp;rw [HW.o.1])) (h:=?_);refine hC 3 (f:=212) ((qdB .f) s (by omega) V2.drew) (h:=?_);rintro e w3 ⟨x,rfl,H,hx⟩;have K4:=(Y.below (qb4 H)).also (q:=fun W=>MagAt W x s) hx;have J:=qH (qb4 H);obtain⟨ax,_,_,cx,nx,_,rfl,_,_⟩:=hx;clear H;refine⟨_,rfl,J.o,hN (h:=?_)⟩;refine hC 4 (near_any q s 67 3 (by decide) _ _ w3 K4.o.1.1.2.1 K4.o.2 HF.o.1 HW.o.2) (h:=?_);rintro e w4 ⟨y,rfl,H,hy⟩;have K5:=(K4.below H).also (q:=fun W=>IntAt W y (nearZ q s)) hy;have O:=qH (J.o.trans (H.mono J.o.size));obtain⟨ay,ny,cy,by',rfl⟩:=qbV hy;clear H;refine⟨_,rfl,O.o,hN (h:=?_)⟩;refine hC 5 (f:=161) ((qe9 .f) (nearZ q s) 73 (by decide) (by decide) _ w4 K5.o.2 HF.o.2 K5.o.1.1.1.2.2.1) (h:=?_);rintro e w5 ⟨rfl,H⟩;have K6:=K5.below H;have U:=qH (O.o.trans (H.mono O.o.size));clear H;refine⟨_,rfl,U.o,hN (h:=?_)⟩;refine hC 6 (intw_any (nearZ q s) 73 (by decide) (by decide) HF.o.2 w5 K6.o.1.1.1.2.2.2) (h:=?_);rintro e w6 ⟨H,h⟩;have F:=qH (U.o.trans (H.mono U.o.size));have K7:=K6.below H;obtain⟨Z,hZ⟩:=qX (nearZ q s);rw [hZ] at h ⊢;have V:=qH hZ;clear H hZ;rcases h with ⟨hi,rfl⟩ | ⟨hi,c,hc,rfl⟩
 ·have HI:=qH hi;clear hi;refine⟨_,rfl,F.o,hN (h:=?_)⟩;refine hT 7 (hS:=F.o) (h:=hT 8 (hS:=F.o) (h:=hT 9 (hS:=F.o) (h:=hT 10 (hS:=F.o) (h:=hT 11 (hS:=F.o) (h:=?_)))));refine wpAnyH_done (by kernel_rfl) ?_ _;go_wp2_with fail
  go_ret2
  exact⟨K7.o.1.1.1.1.1,qan ⟨by rw [V.o];exact HI.o,by rw [V.o];rfl⟩⟩
 ·have HI:=qH hi;have ai:(c != 0)=true:=by rw [bne_iff_ne];exact hc
  clear hi hc;refine⟨_,rfl,F.o,hN (h:=?_)⟩;refine hT 7 (hS:=F.o) (h:=hT 8 (hS:=F.o) (h:=hT 9 (hS:=F.o) (h:=hT 10 (hS:=F.o) (h:=hT 11 (hS:=F.o) (h:=?_)))));refine wpAnyH_done (by kernel_rfl) ?_ _;go_wp2_with fail
  go_ret2
  exact⟨K7.o.1.1.1.1.1,qag ⟨by rw [V.o];exact HI.o,rfl⟩⟩
open Go.ChangeShapes Go.WideShapes Go.ChangeAt
abbrev laidK:List (String×DataW Unit):=[("math/bits.deBruijn32tab", Rows.laid_math_bits_deBruijn32tab),("math/bits.deBruijn64tab", Rows.laid_math_bits_deBruijn64tab),("internal/strconv.uint64pow10", Rows.laid_internal_strconv_uint64pow10),("strconv.ErrRange", Rows.laid_strconv_ErrRange),("strconv.ErrSyntax", Rows.laid_strconv_ErrSyntax)]
theorem Tryz.own:ownKnob Tryz.prog.godebug=none:=by kernel_rfl
theorem datK:(Rows.laid_internal_strconv_uint64pow10:DataW Unit)=Lib.tabData .u64 Lib.pow10Tab:=by kernel_rfl
theorem gK:Tryz.prog.globalNamed "internal/strconv.uint64pow10" = some 1:=by kernel_rfl
theorem tK:(Tryz.prog.globals[1]?).map (·.type)=some 363:=by kernel_rfl
theorem gE:Tryz.prog.globalNamed "strconv.ErrRange" = some 3:=by kernel_rfl
theorem tE:(Tryz.prog.globals[3]?).map (·.type)=some 306:=by kernel_rfl
theorem qng {W:World} (h:laidMetH prog laidK W):HasT W/\HasE W:=by
 rw [MakeChecks.laidMetH_plain _ _ _ (by kernel_rfl)] at h;obtain⟨ps,⟨_,_,_,_,_,_,_,_,_,_,⟨_,_,_,_,_,_,_,_,_,_,⟨g2,t2,cs2,f2,p2,q2,U,V,Z,F,⟨g3,t3,J,f3,p3,q3,I,Y,aa,O,_,_⟩,_⟩,_⟩,_⟩,_⟩:=h;obtain rfl:=qah (gK.symm.trans U);obtain rfl:=qah (tK.symm.trans V);obtain rfl:=qah (gE.symm.trans I);obtain rfl:=qah (tE.symm.trans Y)
 constructor
 ·rw [datK] at F;unfold HasT Lib.TabIs;rw [Z,<-Lib.cells_of_tab underlying363 underlying267 (by kernel_rfl) (by kernel_rfl) F]
 ·obtain⟨l3⟩:=J;have H:DataW.trod (fun x=>()) prog W 0 (fun x=>true) false f3 306 l3=some (.iface "*errors.errorString" (.ptr (.agg [.lit (.string [118,97,108,117,101,32,111,117,116,32,111,102,32,114,97,110,103,101])])),p3):=O
  obtain⟨f1,u,v,rfl,_,_⟩:=iface_of_trod underlying306 H;exact⟨.iface u v,by simpa using World.var?_cell I aa 0,.inr ⟨u,v,rfl⟩⟩
section
variable {H:Type} {enc:TypeId×Value->H} {P:Program}
theorem qh6 {f:Func} {s:ChangeSpec} {apart ae I aa:Bool} {W W':World} {args:Array Value} {v:Value} {ds gs:List (DataW H)} {F pa pv:List MemPlace}
  (hW:DataW.Whole enc P f.params.toList s.vars apart W args.toList ds gs F)
  (Z:∀(b:Nat) (sp:Nat->Bool) (hd:Bool),DataW.TrodAll enc P W' b sp hd f.resultTypes.toList (v.resultList f.resultTypes.size) (s.fn H (ds++gs)).results [])
  (J:∀sp:Nat->Bool,(∀p∈F,sp p.block=true)->DataW.TrodAll enc P W' 0 sp true f.params.toList args.toList (s.fn H (ds++gs)).args pa)
  (U:∀sp:Nat->Bool,(∀p∈F,sp p.block=true)->DataW.TrodVars enc P W' sp s.vars (s.fn H (ds++gs)).vars pv)
  (V:F=pa++pv) (hb:Below W.heap.size W W')
  (ah:∀(j:Nat) (t:TypeId) (r:Value),f.resultTypes[j]? = some t->(v.resultList f.resultTypes.size)[j]? = some r->Value.okWide P W' .any 0 t r) :
  s.post enc P f apart ae I aa W args v W':=by
 have ag:∀p∈F,p.block<W.heap.size:=fun p O=>hW.lt p O
 have Y:∀p∈F,(fun b=>decide (b<W.heap.size)) p.block=true:=fun p O=>by simpa using ag p O
 refine⟨ds,gs,F,[],pa,pv,hW,Z _ _ _,J _ Y,U _ Y,World.keptBut_mono (fun p O=>⟨O,?_⟩) (hb.frame (·∈F)),fun _=>?_⟩
 ·rw [V,qaK] at O;exact qag O
 ·obtain⟨_,_,_,_,_,hz,hn⟩:=hW;refine⟨ah,_,_,([]++pa)++pv,⟨[]++pa,pv,trodAll_append (J _ (fun _ _=>rfl)) (Z _ _ _),U _ (fun _ _=>rfl),rfl,?_,?_⟩,?_⟩
  ·intro b off O;have af:MemPlace.cell b off∈F:=by rw [V];simpa using O
   rw [hb.frozen (ag _ af)];exact hz b off af
  ·intro ha;have:=hn ha;rw [V] at this
   simpa using this
  ·intro p O _;rw [V]
   simpa using O
theorem Tryz.laidOut:laidOutB prog=true:=by kernel_rfl
end
theorem jf1:laidOutB prog=true:=by kernel_rfl
theorem jf2:mapsRowed prog=true:=by kernel_rfl
theorem jf3:Tryz.prog.plainKeys=true:=by kernel_rfl
theorem jf4:Tryz.prog.stopsHeard=true:=by kernel_rfl
theorem jf5:Tryz.prog.mayEnter=true:=by kernel_rfl
theorem jf6:(Rows.fitKnownRow.lifted == Tryz.prog.liftsFinal)=true:=by kernel_rfl
theorem jf7:(Tryz.prog.make == some Rows.fitKnownRow.make)=true:=by kernel_rfl
end Go.Proofs.YtplkdeknjghobaaGreatDoor
namespace Go.Proofs.YtplkdeknjghobaaGreatDoor
open Go.RowKit Go.Proofs.Tryz
structure KCells (W:World) (kd:IntKind) (ao:Option Addr) (b off:Nat) (L:List Int):Prop where
 addr:0<L.length->ao=some ⟨b,off,none⟩
 cell:∀k,k<L.length->W.cell? ⟨b,off+k,none⟩=some (.int kd (L.getD k 0))
theorem KCells.below {W W':World} {I:IntKind} {F:Option Addr} {b off:Nat} {L:List Int} (h:KCells W I F b off L) (J:Below W.heap.size W W'):KCells W' I F b off L :=
 ⟨h.addr,fun k H=>(J.cell (qac W _ (h.cell k H))).trans (h.cell k H)⟩
def qe5 (G:List Int) (k:Nat):Int:=if k=0 then 0 else if k=1 then (G.getD 0 0).tmod 1000 else (G.getD 0 0).tmod 1000*1000+(G.getD 1 0).tmod 1000
def small (bl:Bool) (G:List Int):Int:=if bl=true then -qe5 G (min G.length 2) else qe5 G (min G.length 2)
theorem qhZ {g:Int} (h:0<=g/\g<65536):0<=g.tmod 1000/\g.tmod 1000<1000:=by
 rw [Int.tmod_eq_emod_of_nonneg h.1];omega
theorem qjc {G:List Int} (F:∀k,0<=G.getD k 0/\G.getD k 0<65536) (k:Nat):0<=qe5 G k/\qe5 G k<1000000:=by
 have H:=qhZ (F 0);have I:=qhZ (F 1);unfold qe5;split
 ·omega
 ·split <;> omega
theorem qkJ {G:List Int} (F:∀k,0<=G.getD k 0/\G.getD k 0<65536) (bl:Bool):-1000000<small bl G/\small bl G<1000000:=by
 have h:=qjc F (min G.length 2);unfold small;split <;> omega
theorem qjd (bl:Bool) (a:Option Addr) (b off len cap:Nat) (G:List Int) (z:Int) (w:World) (hG:G.length=len) (hl:len<=9223372036854775807) (hC:KCells w .u16 a b off G) (Z:∀k,0<=G.getD k 0/\G.getD k 0<65536) :
  Calls prog 131 #[.agg #[.bool bl,.slice a len cap,.int .u16 z]] w fun e w'=>e=.returned (.int .i64 (small bl G))/\Below w.heap.size w w':=by
 obtain⟨W1,O,N1⟩:=nw1 w #[.bool bl,.slice a len cap,.int .u16 z] 126;have I:=N1.o.2;have k0:=qC _ _ 0 _ _ _ I;have k1:=qC _ _ 1 _ _ _ I;have F:=qH (qA (hC.below N1.o.1) (qA hG Z));have HB:=qH N1.o.1;clear I N1 hC Z;go_enter func131,ntmps131;go_upto_region 1 with fail;rw [<-O];clear O;go_wp2_with fail
 go_loopw [3,4] (fun x3 x4 W=>∃i:Nat,x4=.int .i64 (i:Int)/\x3=.int .i64 (qe5 G i)/\i<=len/\i<=2/\Hu (W=W1)) (fun _ x4 _=>2-(intOf x4).toNat)
 case atStart=>exact⟨0,rfl,rfl,qal _,qal _,qH rfl⟩
 case round =>
  obtain⟨i,rfl,rfl,hi,ai,H⟩:=hrel;have H:=H.o;subst H;obtain⟨x,hx⟩:=qX (qe5 G i);have aa:=qjc F.o.2.2 i
  by_cases af:i<len/\i<2
  ·obtain⟨ae,au⟩:=af;have V:(i:Int)<(len:Int):=by omega
   have ak:(i:Int)<2:=by omega
   have aj:(0:Int)<=(i:Int):=by omega
   obtain rfl:=F.o.1.addr (by rw [F.o.2.1];omega);have hk:=F.o.1.cell i (by rw [F.o.2.1];omega);obtain⟨g,hg⟩:=qX (G.getD i 0);have U:=F.o.2.2 i;rw [hg] at hk U;have hm:=qhZ U;have hs:qe5 G (i+1)=x*1000+g.tmod 1000:=by
    rcases (show i=0\/i=1 by omega) with rfl | rfl
    ·rw [<-hx,<-hg];simp [qe5]
    ·rw [<-hx,<-hg];simp [qe5]
   have ah:x<1000:=by
    rcases (show i=0\/i=1 by omega) with rfl | rfl
    ·rw [<-hx];exact (by decide:(0:Int)<1000)
    ·rw [<-hx];exact (qhZ (F.o.2.2 0)).2
   rw [hx] at aa ⊢;obtain⟨m,ag⟩:=qX (g.tmod 1000);rw [ag] at hm hs;have J:=qH hs;clear hs hx hg;go_wp2;go_roundw
   case rel=>exact⟨i+1,by go_num,by rw [J.o],ae,by omega,by first | trivial | exact qH rfl⟩
   case measure=>simp [intOf];omega
  ·have he:i=min len 2:=by omega
   have Y:small bl G=if bl=true then -x else x:=by unfold small;rw [F.o.2.1,<-he,hx]
   rw [hx] at aa ⊢;have J:=qH Y;clear Y hx he;have ah:(-9223372036854775808:Int)<=-x:=by omega
   by_cases h1:i<len
   ·obtain rfl:i=2:=by omega
    have V:(2:Int)<(len:Int):=by omega
    cases bl
    ·go_wp2;go_ret;exact⟨by rw [J.o];rfl,HB.o⟩
    ·go_wp2;go_ret;exact⟨by rw [J.o];rfl,HB.o⟩
   ·have V:¬(i:Int)<(len:Int):=by omega
    cases bl
    ·go_wp2;go_ret;exact⟨by rw [J.o];rfl,HB.o⟩
    ·go_wp2;go_ret;exact⟨by rw [J.o];rfl,HB.o⟩
end Go.Proofs.YtplkdeknjghobaaGreatDoor
namespace Go.Proofs.YtplkdeknjghobaaGreatDoor.p4
open Go.RowKit
theorem tdivB (t c:Nat) (h:t / 10000=c):(t:Int).tdiv 10000=c:=tdivN t 10000 c h
theorem tmodB (t c:Nat) (h:t % 10000=c):(t:Int).tmod 10000=c:=tmodN t 10000 c h
def dg (L:List Nat) (k:Nat):Nat:=L.getD k 0
structure Cells (W:World) (ao:Option Addr) (b off:Nat) (L:List Nat):Prop where
 addr:0<L.length->ao=some ⟨b,off,none⟩
 cell:∀k,k<L.length->W.cell? ⟨b,off+k,none⟩=some (.int .i64 ((dg L k:Nat):Int))
theorem Cells.below {W W':World} {F:Option Addr} {b off:Nat} {L:List Nat} (h:Cells W F b off L) (I:Below W.heap.size W W'):Cells W' F b off L :=
 ⟨h.addr,fun k H=>(I.cell (qac W _ (h.cell k H))).trans (h.cell k H)⟩
theorem Cells.take {W:World} {F:Option Addr} {b off:Nat} {L:List Nat} (h:Cells W F b off L) (n:Nat):Cells W F b off (L.take n) :=
 ⟨fun H=>h.addr (by rw [qax] at H;omega),fun k I=>by
  rw [qax] at I;rw [h.cell k (by omega),dg,dg,qaa,qaa,List.getElem?_take_of_lt (by omega)]⟩
structure IsM (W:World) (ao:Option Addr) (b off c n:Nat) (L:List Nat):Prop where
 len:L.length=n
 cap:n<=c
 cells:Cells W ao b off L
 dig:Dig L
 nrm:Nrm L
theorem IsM.below {W W':World} {F:Option Addr} {b off c n:Nat} {L:List Nat} (h:IsM W F b off c n L) (H:Below W.heap.size W W'):IsM W' F b off c n L:=⟨h.len,h.cap,h.cells.below H,h.dig,h.nrm⟩
theorem IsM.addr {W:World} {F:Option Addr} {b off c n:Nat} {L:List Nat} (h:IsM W F b off c n L):0<n->F=some ⟨b,off,none⟩:=by rw [<-h.len];exact h.cells.addr
theorem IsM.cell {W:World} {F:Option Addr} {b off c n:Nat} {L:List Nat} (h:IsM W F b off c n L):∀k,k<n->W.cell? ⟨b,off+k,none⟩=some (.int .i64 ((dg L k:Nat):Int)):=by rw [<-h.len];exact h.cells.cell
def HiS (B:Nat) (v:Value):Prop:=∀(a:Addr) (n c:Nat),v=.slice (some a) n c->0<n->B<=a.block
def HiP (B:Nat) (v:Value):Prop:=∀b x,v=.agg #[b,x]->HiS B x
def HiR (B:Nat) (v:Value):Prop:=∀b x F y,v=.agg #[b,x,F,y]->HiS B x/\HiS B y
theorem HiS.mono {B C:Nat} {v:Value} (h:HiS C v) (H:B<=C):HiS B v:=fun a n c e F=>qaj H (h a n c e F)
theorem HiP.mono {B C:Nat} {v:Value} (h:HiP C v) (F:B<=C):HiP B v:=fun b x e=>(h b x e).mono F
theorem own_his {W:World} {B e F n:Nat} {v:Value} {J:List Value} (h:W.ownsRow B e F v n J):HiS B v:=fun a m c H O=>by
 rcases h.2 with ⟨rfl,_⟩ | ⟨g,cap,cur,rfl,I,_⟩
 ·cases H
 ·cases H;exact I
def MagAt (W:World) (v:Value) (x:Nat):Prop:=∃(F:Option Addr) (b off c n:Nat) (L:List Nat),v=.slice F n c/\IsM W F b off c n L/\mval L=x
theorem MagAt.below {W W':World} {v:Value} {x:Nat} (h:MagAt W v x) (I:Below W.heap.size W W'):MagAt W' v x:=by
 obtain⟨ao,b,off,c,n,L,rfl,F,H⟩:=h;exact⟨ao,b,off,c,n,L,rfl,F.below I,H⟩
theorem MagAt.nil (W:World):MagAt W (.slice none 0 0) 0:=⟨none,0,0,0,0,[],rfl,⟨rfl,qae _,⟨fun h=>absurd h (by simp),fun k h=>absurd h (by simp)⟩,Dig.nil,qan rfl⟩,rfl⟩
def Fit (x K:Nat):Prop:=x<10000 ^ K
theorem Fit.le {x y K:Nat} (h:Fit y K) (hx:x<=y):Fit x K:=qaL hx h
theorem Fit.mono {x K M:Nat} (h:Fit x K) (F:K<=M):Fit x M:=qai h (qa4 (by decide) F)
theorem Fit.mul {x y K M:Nat} (h:Fit x K) (k:Fit y M):Fit (x*y) (K+M):=by
 unfold Fit at *;rw [Nat.pow_add];exact Nat.mul_lt_mul'' h k
theorem Fit.add {x y K:Nat} (h:Fit x K) (k:Fit y K):Fit (x+y) (K+1):=by
 unfold Fit at *;rw [qaB];omega
theorem Fit.len {W:World} {F:Option Addr} {b off c n:Nat} {L:List Nat} {K:Nat} (h:Fit (mval L) K) (k:IsM W F b off c n L):n<=K:=by
 rw [<-k.len];exact k.nrm.len h
def row64 (L:List Nat):List Value:=L.map fun (d:Nat)=>Value.int .i64 (d:Int)
theorem qfA (L:List Nat):(row64 L).length=L.length:=by unfold row64;exact qav _
theorem qnw (L:List Nat) (k d:Nat):(row64 L).set k (.int .i64 (d:Int))=row64 (L.set k d):=by unfold row64;rw [List.map_set]
theorem qi9 (L:List Nat) (k:Nat) (h:k<L.length):(row64 L)[k]? = some (.int .i64 ((dg L k:Nat):Int)):=by
 unfold row64 dg;rw [qay,qdO h];rfl
theorem qlx (L:List Nat) (d:Nat):row64 (L++[d])=row64 L++[.int .i64 (d:Int)]:=by unfold row64;rw [qa3];rfl
theorem made64 (n:Nat):(madeCells #[Value.int .i64 0] n).toList=row64 (List.replicate n 0):=by
 rw [toList_madeCells_one];unfold row64;rw [List.map_replicate];rfl
theorem qcO {W:World} {B e g n c:Nat} {L:List Nat} (h:W.ownsRow B e 1 (.slice (some ⟨g,0,none⟩) n c) n (row64 L)) (H:L.length=n):Cells W (some ⟨g,0,none⟩) g 0 L :=
 ⟨fun _=>rfl,fun k F=>by
  rw [qaM,h.cellAt k (by omega)];exact qi9 L k F⟩
theorem stored64 {W:World} {B e g n c:Nat} {R:List Nat} (h:W.ownsRow B e 1 (.slice (some ⟨g,0,none⟩) n c) n (row64 R)) (k:Nat) {s:Int} (d:Nat) (F:s=(d:Int)) :
  (W.setCell ⟨g,k,none⟩ (.int .i64 s)).ownsRow B e 1 (.slice (some ⟨g,0,none⟩) n c) n (row64 (R.set k d)):=by
 have H:=(h.stored k (.int .i64 s)).1
 rwa [F,qnw,<-F] at H
theorem qeO {a b:World} {g:Nat} {H:Option Addr} {F off:Nat} {L:List Nat} (h:a.grownBy b (some g)) (I:Cells a H F off L) (hne:0<L.length->F≠g):Cells b H F off L :=
 ⟨I.addr,fun k J=>h.cell (I.cell k J) (fun e=>hne (by omega) (qah e))⟩
theorem qgl (W:World) (n:Nat) (e:TypeId):(W.alloc (.cells (madeCells #[.int .i64 0] n) e)).heap[W.heap.size]? = some (.cells (row64 (List.replicate n 0)).toArray e (0,0)):=by
 rw [<-made64,Array.toArray_toList];exact heap_alloc_new W _
theorem qia {W:World} {B e g n:Nat} {L:List Nat} (h:W.heap[g]? = some (.cells (row64 L).toArray e (0,0))) (H:L.length=n) (F:B<=g) (I:n<=maxLen):W.ownsRow B e 1 (.slice (some ⟨g,0,none⟩) n n) n (row64 L):=by
 refine⟨by rw [qfA];omega,.inr ⟨g,n,_,rfl,F,h,qae _,I,by simp [qfA,H],?_⟩⟩
 show (row64 L).take (n*1)=row64 L
 exact qak (by rw [qfA];omega)
open Go.Proofs.Tryz
theorem cut_raw (V:Option Addr) (b off c n:Nat) (L:List Nat) (w:World) (hn:L.length=n) (af:n<=17592186044416) (hc:n<=c) (H:Cells w V b off L) :
  Calls prog 271 #[.slice V n c] w fun e w'=>∃m,e=.returned (.slice V m c)/\w'=w/\m<=n/\Zero L m/\(m=0\/L.getD (m-1) 0≠0):=by
 have J:Zero L n:=by rw [<-hn];exact Zero.all L
 obtain⟨Y,F⟩:=H;rw [hn] at Y F;have Ha:=qH Y;have I:=qH F;have Hz:=qH J;clear Y F J hn;go_enter func271,ntmps271;go_wp2
 go_loopw [3] (fun x3 W=>∃m:Nat,x3=.int .i64 m/\W=w/\m<=n/\Hu (Zero L m)) (fun x3 _=>(intOf x3).toNat)
 case atStart=>exact⟨n,rfl,rfl,qae _,Hz⟩
 case round =>
  obtain⟨m,rfl,rfl,hm,J⟩:=hrel
  by_cases ae:m=0
  ·subst ae;have Hm:=qH hm;clear hm;go_wp2;go_ret;exact⟨0,rfl,rfl,qal _,J.o,qan rfl⟩
  ·have ag:(0:Int)<m:=by omega
   have Z:=Ha.o (by omega);subst Z;have aa:=I.o (m-1) (by omega);have e1:((m-1:Nat):Int)=(m:Int)-1:=by omega
   by_cases O:dg L (m-1)=0
   ·rw [O] at aa;have U:=qH O;clear O;go_wp2;go_roundw
    case rel=>exact⟨m-1,by rw [e1],trivial,by omega,qH (Zero.down (n:=m-1) (by rw [show m-1+1=m by omega];exact J.o) U.o)⟩
    case measure=>simp [intOf];omega
   ·have hne:¬((dg L (m-1):Nat):Int)=0:=by omega
    have U:=qH O;clear O;go_wp2;go_ret;exact⟨m,rfl,rfl,hm,J.o,qag U.o⟩
theorem qlZ (I:Option Addr) (b off c n:Nat) (L:List Nat) (w:World) (hn:L.length=n) (J:n<=17592186044416) (Z:n<=c) (F:Cells w I b off L) (hd:Dig L) :
  Calls prog 271 #[.slice I n c] w fun e Y=>∃v,e=.returned v/\Y=w/\MagAt w v (mval L)/\∀B,HiS B (.slice I n c)->HiS B v:=by
 refine (cut_raw I b off c n L w hn J Z F).mono ?_;rintro e Y ⟨m,rfl,rfl,hm,V,H⟩;refine⟨_,rfl,rfl,⟨I,b,off,c,m,L.take m,rfl,⟨?_,by omega,F.take m,hd.take m,?_⟩,qcy V⟩,fun B h a k c' e H=>by cases e;exact h a n c rfl (by omega)⟩
 ·rw [qax];omega
 ·have U:(L.take m).length=m:=by rw [qax];omega
  rcases H with H | H
  ·exact qan (by rw [U,H])
  ·right
   rw [U]
   by_cases O:m=0
   ·subst O;exact absurd (V _ (qal _)) H
   ·rw [qaa,List.getElem?_take_of_lt (by omega),<-qaa];exact H
theorem cut_any (I:Option Addr) (b off c n:Nat) (L:List Nat) (w:World) (Z:L.length=n) (H:n<=17592186044416) (V:n<=c) (F:Cells w I b off L) (Y:Dig L) :
  Calls prog 271 #[.slice I n c] w fun e w'=>∃v,e=.returned v/\w'=w/\MagAt w v (mval L) :=
 (qlZ I b off c n L w Z H V F Y).mono fun _ _ ⟨v,J,O,U,_⟩=>⟨v,J,O,U⟩
