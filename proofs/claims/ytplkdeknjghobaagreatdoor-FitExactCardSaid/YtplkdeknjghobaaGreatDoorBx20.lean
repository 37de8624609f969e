import Derived.Below
import Derived.ChangeSame
import Derived.LaidLaws
import Derived.LaidMore
import Derived.Lay
import Derived.Lib.LaidTab
import Derived.Lib.ParseIntBCases
import Derived.Lib.SmallJoins
import Derived.OpenShut
import Derived.ProofKit
import Derived.SevenTiedAt
import Derived.Stop.Joined
import Derived.Test.YtplkdeknjghobaaGreatDoorBx18
import Derived.Test.YtplkdeknjghobaaGreatDoorBx19
import Derived.Test.YtplkdeknjghobaaGreatDoorCards
import Derived.Test.YtplkdeknjghobaaGreatDoorRows
import Derived.Test.YtplkdeknjghobaaGreatDoorTie
set_option maxRecDepth 100000
set_option maxHeartbeats 0
namespace Go.Proofs.YtplkdeknjghobaaGreatDoor
open Go.RowKit
def gR (n:Nat) (f:Nat->Nat->Rat) (b:Nat->Rat) (i c:Nat):Rat:=if c<n then f i c else b i
def normR (R n:Nat) (f:Nat->Nat->Rat) (b w:Nat->Rat) (r c:Nat):Rat:=sumQ R fun i=>w i*(gR n f b i r*gR n f b i c)
theorem qin {R n:Nat} {f:Nat->Nat->Rat} {b:Nat->Rat} {i:Nat} (F:i<R):besides (ttab R n f) (told R b) i=told n (f i)++[ftxt (b i)]:=by
 unfold besides;rw [qeG F,qdg F]
theorem qfU {R n:Nat} {f:Nat->Nat->Rat} {b:Nat->Rat} {i c:Nat} (F:i<R) (G:c<=n):lval (besides (ttab R n f) (told R b) i) c=gR n f b i c:=by
 rw [qin F];unfold gR
 by_cases h:c<n
 ·rw [if_pos h,qgv (by rw [qbW];exact h),qcG h]
 ·obtain rfl:c=n:=by omega
  rw [if_neg h];have:=qgu (l:=told c (f i)) (x:=ftxt (b i));rw [qbW] at this;rw [this,qcV]
theorem qht {R n:Nat} {f:Nat->Nat->Rat} {b w:Nat->Rat} {r c:Nat} (H:r<=n) (G:c<=n):normQ (ttab R n f) (told R b) (told R w) R r c=normR R n f b w r c :=
 qbV fun i F=>by rw [qcG F,qfU F H,qfU F G]
theorem qk7 {R n:Nat} {f:Nat->Nat->Rat} {b w x:Nat->Rat}:measQ (ttab R n f) (told R b) (told R w) (told n x) n R=msR R n f b w x :=
 qbV fun i F=>by
  have:resQ (ttab R n f) (told R b) (told n x) n i=resR n f b x i:=by
   unfold resQ resR;rw [qcG F]
   congr 1
   exact qbV fun j G=>by rw [ttab_val F G,qcG G]
  rw [qcG F,this]
def qe8 (R n:Nat) (f:Nat->Nat->Rat) (b w:Nat->Rat) (e:Ending) (F:World):Prop :=
 (Sing n (normR R n f b w)/\e=.returned (.tuple #[.slice none 0 0,.int .i64 7]))\/(¬Sing n (normR R n f b w)/\∃x,qcD n (normR R n f b w) (fun r=>normR R n f b w r n) x/\Tells n x e F)
theorem qko {R:Nat} {w:Nat->Rat} (h:∀i,i<R->0<=w i):¬Neg (told R w):=by
 rintro ⟨k,F,G⟩;rw [qbW] at F;rw [qdg F,show (ftxt (w k)).1.data.toList=itxt (w k).num from rfl,qdI] at G;have:=Rat.num_nonneg.2 (h k F);omega
theorem qgf.told {V:World} {R n:Nat} {f:Nat->Nat->Rat} {b w:Nat->Rat} {e:Ending} {U:World} (h:qgf V (ttab R n f) (told R b) (told R w) e U) (Y:1<=R) (h2:R<=40) (h3:1<=n) (h4:n<=10) (hf:∀i,i<R->qbY n (f i)) (hb:qbY R b) (hw:qbY R w) (O:∀i,i<R->0<=w i):qe8 R n f b w e U/\Below V.heap.size V U:=by
 have hT:=qno Y h2 h3 h4 hf;refine⟨?_,h.2⟩;rcases h.1 with h | h | h | h
 ·exact absurd hT h.1
 ·exact absurd ⟨qdG hb,qdG hw⟩ h.2.1
 ·exact absurd ⟨by rw [qbW,qcE],by rw [qbW,qcE],qko O⟩ h.2.2.2.1
 ·have Z:=h.2.2.2.2.2.2;rw [qeS Y,qcE] at Z;have F:∀r,r<n->∀c,c<n->normQ (ttab R n f) (Go.Proofs.YtplkdeknjghobaaGreatDoor.told R b) (Go.Proofs.YtplkdeknjghobaaGreatDoor.told R w) R r c=normR R n f b w r c:=fun r H c F=>qht (by omega) (by omega)
  rcases Z with ⟨I,he⟩ | ⟨I,x,hx,ht⟩
  ·exact qal ⟨I.congr F,he⟩
  ·exact qag ⟨fun J=>I (J.congr fun r H c G=>(F r H c G).symm),x,hx.congr F (fun r H=>qht (by omega) qN) (fun _ _=>rfl),ht⟩
open Go.Lib Go.Proofs.Tryz
def fv (l:List Rat) (i:Nat):Rat:=l.getD i 0
def fm (t:List (List Rat)) (i j:Nat):Rat:=(t.getD i []).getD j 0
theorem qnj (l:List Rat):told l.length (fv l)=l.map ftxt:=by
 unfold told fv;apply qbC;intro i;rw [qau,qau]
 by_cases h:i<l.length
 ·rw [qbf h,qad h];simp [qad h]
 ·rw [qaA (by rw [qbI];omega),qaA (by omega)];rfl
theorem qes {u:Nat} (h:u<10):num u=⟨#[UInt8.ofNat (48+u)]⟩:=by
 unfold num;rw [qbZ h]
theorem qf7 {q:Rat} (z d:Nat) (I:q.num=z) (H:q.den=d) (F:z<10) (G:d<10):ftxt q=(⟨#[UInt8.ofNat (48+z)]⟩,⟨#[UInt8.ofNat (48+d)]⟩):=by
 unfold ftxt;rw [I,H,qek (by omega),qan,qes F,qes G]
theorem ft_0:ftxt 0=(⟨#[48]⟩,⟨#[49]⟩):=qf7 0 1 rfl rfl (by decide) (by decide)
theorem ft_1:ftxt 1=(⟨#[49]⟩,⟨#[49]⟩):=qf7 1 1 rfl rfl (by decide) (by decide)
theorem ft_12:ftxt (1 / 2)=(⟨#[49]⟩,⟨#[50]⟩):=qf7 1 2 (by decide +kernel) (by decide +kernel) (by decide) (by decide)
theorem qiV {n:Nat} {A:Nat->Nat->Rat} (B:Nat->Nat->Rat) (h:∀k,k<n->∀j,j<n->sumQ n (fun i=>B k i*A i j)=if k=j then 1 else 0):¬Sing n A:=by
 rintro ⟨y,⟨k,G,hy⟩,H⟩;apply hy;have e:sumQ n (fun i=>B k i*sumQ n fun j=>A i j*y j)=y k:=by
  have I:sumQ n (fun i=>B k i*sumQ n fun j=>A i j*y j)=sumQ n fun i=>sumQ n fun j=>y j*(B k i*A i j):=qbV fun i _=>by
   rw [<-qck];exact qbV fun j _=>by grind
  rw [I,qd7];have J:sumQ n (fun j=>sumQ n fun i=>y j*(B k i*A i j))=sumQ n fun j=>y j*(if k=j then 1 else 0):=qbV fun j U=>by rw [qck,h k G j U]
  rw [J,qc3 n k _ G fun j _ F=>by rw [if_neg (fun h=>F h.symm)];grind];rw [if_pos rfl];grind
 rw [<-e];exact qcI _ _ fun i O=>by rw [H i O];grind
theorem qj1.told {H:World} {R n:Nat} {f:Nat->Nat->Rat} {b w x:Nat->Rat} {e:Ending} {J:World} (h:qj1 H (ttab R n f) (told R b) (told R w) (told n x) e J) (F:1<=R) (O:R<=40) (U:1<=n) (V:n<=10) (Z:∀i,i<R->qbY n (f i)) (Y:qbY R b) (hw:qbY R w) (hx:qbY n x) (G:∀i,i<R->0<=w i) :
  (Short (msR R n f b w x)/\e=.returned (.tuple #[fstr (msR R n f b w x),.int .i64 0])\/¬Short (msR R n f b w x)/\e=.returned (.tuple #[.agg #[.string ⟨#[]⟩,.string ⟨#[]⟩],.int .i64 6]))/\Below H.heap.size H J:=by
 have hT:=qno F O U V Z;refine⟨?_,h.2⟩;rcases h.1 with h | h | h | h
 ·exact absurd hT h.1
 ·exact absurd ⟨qdG Y,qdG hw,qdG hx⟩ h.2.1
 ·exact absurd ⟨by rw [qbW,qcE],by rw [qbW,qcE],by rw [qbW,qeS F],qko G⟩ h.2.2.2.2.1
 ·have I:=h.2.2.2.2.2.2.2.2;rw [qeS F,qcE,qk7] at I;exact I
theorem qe4 {q:Rat} (h:q.num.natAbs<10/\q.den<10):Short q:=⟨by rw [qes h.1];exact (by decide:1<=600),by rw [qes h.2];exact (by decide:1<=600)⟩
theorem qcM {n:Nat} {x:Nat->Rat} (h:∀i,i<n->(x i).num.natAbs<=1000/\(x i).den<=1000):qbY n x:=fun i F=>qdf (N:=1000) (h i F) (by decide +kernel)
theorem qg7 {n m:Nat} {f:Nat->Nat->Rat} (G:m<=1000):∀k,k<n->((ttab n m f).getD k []).length<=4611686018427387904:=fun k F=>by rw [qeG F,qbW];omega
theorem qmh {R n:Nat} {f:Nat->Nat->Rat} {b v:Nat->Rat} {H:Option Addr} {g c:Nat} {F:Option Addr} {O c2:Nat} {G:Option Addr} {U c3:Nat} {w:World} (Y:1<=R) (Z:R<=40) (h3:1<=n) (h4:n<=10) (hf:∀i,i<R->qbY n (f i)) (hb:qbY R b) (hv:qbY R v) (J:∀i,i<R->0<=v i) (hT:TCells w H g 0 (ttab R n f)) (hF:FCells w F O 0 (told R b)) (I:FCells w G U 0 (told R v)) (hP:HasT w) :
  Calls prog 129 #[.slice H R c,.slice F R c2,.slice G R c3] w fun e V=>qe8 R n f b v e V/\Below w.heap.size w V :=
 (qhp H g 0 R c _ F O 0 R c2 _ G U 0 R c3 _ w (qcE _ _ _) (by omega) (qg7 (by omega)) hT (qbW _ _) (by omega) hF (qbW _ _) (by omega) I hP).mono fun _ _ h=>h.told Y Z h3 h4 hf hb hv J
end Go.Proofs.YtplkdeknjghobaaGreatDoor
namespace Go.Proofs.YtplkdeknjghobaaGreatDoor
open Go.RowKit
theorem qe5 {kind:Nat} {d:List Int} (I:kind=1\/kind=2\/kind=3) (H:qcz d) (_h4:d.length<=4) (Y:kind=3->d.length<=3):∀p∈termL kind d,Short p:=by
 have O:∀k,Short (dq d k):=fun k=>(dq_cd H k).short (by decide) (by decide +kernel) (by decide +kernel)
 have U:∀k,Short (dq d k*dq d k):=fun k=>((dq_cd H k).mul (dq_cd H k) (by decide) (by decide)).short (by decide) (by decide +kernel) (by decide +kernel)
 have J:∀k,k<=3->∀p∈prods d k,Short p:=fun k I p F=>(qeM (by decide) (dq_cd H) k p F).short (qbj (Nat.pow_pos (by decide))) (qaL (qaX (by decide) I) qj5) (qaL (qaX (by decide) I) qj5)
 have V:Short 1:=qe4 ⟨by decide,by decide⟩;have G:∀p∈lin d,Short p:=fun p F=>by
  unfold lin at F;rcases qaN.1 F with rfl | F
  ·exact V
  ·obtain⟨j,_,rfl⟩:=qbn.1 F;exact O j
 rcases I with rfl | rfl | rfl
 ·exact G
 ·intro p F;rw [qjS] at F;rcases qaK.1 F with F | F
  ·exact G p F
  ·unfold sqs at F;obtain⟨j,_,rfl⟩:=qbn.1 F;exact U j
 ·intro p F;rw [qib] at F;exact J _ (Y rfl) p F
theorem qdQ {kind:Nat} {d:List Int} {j:Nat} (F:j<many kind d.length):termQ kind d j∈termL kind d:=by
 unfold termQ;rw [qaa,qad (by rw [qd8];exact F)];exact List.getElem_mem _
theorem PtsOk.terms {l:List Pt} (h:PtsOk l) {k:Nat} {kind:Int} (O:qcu kind k) (U:¬(k=3/\chans l=4)):∀i,i<l.length->qbY (many k (chans l)) (tqf l k i):=fun i I j J=>by
 obtain⟨F,G⟩:=h.rows i I;have H:=F.n4;refine qe5 (by obtain⟨_,a,b⟩:=O;omega) F.vals H (fun e=>by have:=h.n4;omega) _ (qdQ (by rw [G];exact J))
theorem PtsOk.labs {l:List Pt} (h:PtsOk l) {c:Nat}:qbY l.length (labq l c):=fun i H=>by
 have F:=(h.rows i H).1;have:=F.l0;have:=F.l1;have:=F.l2;have G:((l.getD i pt0).lab c).natAbs<1000000000000000000000:=by unfold Pt.lab;(repeat' split) <;> omega
 exact qdu (d:=100) (by decide) G (by decide)
theorem PtsOk.bound {l:List Pt} (h:PtsOk l) (c:Nat):∀k,k<l.length->-9223372036854775808<=(l.getD k pt0).lab c/\(l.getD k pt0).lab c<=9223372036854775807:=fun i G=>by
 have F:=(h.rows i G).1;have:=F.l0;have:=F.l1;have:=F.l2;unfold Pt.lab;(repeat' split) <;> omega
theorem WOk.short {F:List Int} (h:WOk F):qbY F.length (wq F):=fun i G=>by
 obtain⟨H,I⟩:=h i G;have:Short ((F.getD i 0:Int) / ((1:Int):Rat)):=qdu (d:=1) (by decide) (by omega) (by decide);rw [show ((1:Int):Rat)=1 from rfl,Rat.div_def,show (1:Rat)⁻¹=1 by decide +kernel,Rat.mul_one] at this;exact this
theorem WOk.pos {F:List Int} (h:WOk F):∀i,i<F.length->0<=wq F i:=fun i G=>by unfold wq;exact Rat.intCast_nonneg.2 (h i G).1
theorem qgx {k n:Nat} {kind:Int} (F:qcu kind k) (G:1<=n) (I:n<=4) (H:¬(k=3/\n=4)):1<=many k n/\many k n<=10:=by
 obtain⟨_,a,b⟩:=F;unfold many;rcases (show k=1\/k=2\/k=3 by omega) with rfl | rfl | rfl
 ·simp;omega
 ·simp;omega
 ·rcases (show n=1\/n=2\/n=3 by omega) with rfl | rfl | rfl <;> decide
def nq (l:List Pt) (k:Nat) (F:List Int) (c:Nat):Nat->Nat->Rat:=normR l.length (many k (chans l)) (tqf l k) (labq l c) (wq F)
theorem qgH {l:List Pt} {k:Nat} {H:List Int} {c c':Nat} (h:Sing (many k (chans l)) (nq l k H c)):Sing (many k (chans l)) (nq l k H c'):=h.congr fun i F j G=>by
 unfold nq normR;refine qbV fun r _=>?_
 unfold gR;rw [if_pos F,if_pos G,if_pos F,if_pos G]
def FitX (l:List Pt) (k:Nat) (F:List Int) (c:Nat) (x:Nat->Rat):Prop:=qcD (many k (chans l)) (nq l k F c) (fun r=>nq l k F c r (many k (chans l))) x
def FitG (l:List Pt) (kind:Int) (F:List Int) (W:World) (v:Value):Prop :=
 PtsOk l/\F.length=l.length/\WOk F/\∃k,qcu kind k/\¬(k=3/\chans l=4)/\¬Sing (many k (chans l)) (nq l k F 0) /\
  ∃x:Nat->Nat->Rat,(∀c,c<3->FitX l k F c (x c)/\qbY (many k (chans l)) (x c))/\MdAt W v (mdq k (chans l) (many k (chans l)) x)
def FitF (l:List Pt) (kind:Int) (F:List Int) (e:Int):Prop :=
 (¬PtsOk l/\e=310)\/(PtsOk l/\¬((∃k,qcu kind k)/\F.length=l.length/\WOk F)/\e=2) \/
 (PtsOk l/\F.length=l.length/\WOk F/\∃k,qcu kind k/\((k=3/\chans l=4/\e=5)\/(¬(k=3/\chans l=4) /\
  ((Sing (many k (chans l)) (nq l k F 0)/\e=7)\/(¬Sing (many k (chans l)) (nq l k F 0)/\∃c x,c<3/\FitX l k F c x/\¬qbY (many k (chans l)) x/\e=6)))))
def FitAs (w:World) (l:List Pt) (kind:Int) (G:List Int) (e:Ending) (F:World):Prop :=
 Below w.heap.size w F/\((∃v,e=.returned (.tuple #[v,.int .i64 0])/\FitG l kind G F v)\/∃c,e=.returned (.tuple #[mdv0,.int .i64 c])/\FitF l kind G c)
open Go.Lib
theorem qlY (a b:Int) (H:0<b):((a:Rat) / (b:Rat)).floor=a / b:=by
 have G:(0:Rat)<(b:Rat):=Rat.intCast_lt_intCast.2 H;have F:∀z:Int,z<=((a:Rat) / (b:Rat)).floor↔z<=a / b:=fun z=>by
  rw [Rat.le_floor_iff,Int.le_ediv_iff_mul_le H,<-Rat.not_lt,Rat.div_lt_iff G,<-Rat.intCast_mul,Rat.intCast_lt_intCast,Int.not_lt]
 exact Int.le_antisymm ((F _).1 (Int.le_refl _)) ((F _).2 (Int.le_refl _))
def nearZ (q:Rat) (s:Nat):Int:=(q*(s:Rat)+1 / 2).floor
def nearT (q:Rat) (n d:Nat):Int:=(q*(n:Rat) / (d:Rat)+1 / 2).floor
theorem qiU (q:Rat) (s:Nat):nearZ q s=(q.num*((s*2:Nat):Int)+(q.den:Int)) / ((q.den*2:Nat):Int):=by
 unfold nearZ;rw [<-qlY _ _ (by have:=q.den_pos;omega)]
 congr 1
 have I:(q.den:Rat)≠0:=qeC (qbj q.den_pos);have H:q=(q.num:Rat) / (q.den:Rat):=by rw [<-Rat.mkRat_eq_div,Rat.mkRat_self]
 have F:((q.num*((s*2:Nat):Int)+(q.den:Int):Int):Rat)=(q.num:Rat)*((s:Rat)*2)+(q.den:Rat):=by
  rw [Rat.intCast_add,Rat.intCast_mul,Rat.intCast_natCast,Rat.intCast_natCast,Rat.natCast_mul];rfl
 have G:(((q.den*2:Nat):Int):Rat)=(q.den:Rat)*2:=by
  rw [Rat.intCast_natCast,Rat.natCast_mul];rfl
 rw [F,G];generalize (q.den:Rat)=D at *;generalize (q.num:Rat)=N at *;generalize (s:Rat)=S at *;subst H
 grind
theorem qkm {n:Nat} (h:0<n):(0:Rat)<(n:Rat):=by
 have:=Rat.natCast_lt_natCast.2 h;exact this
theorem qmk {q:Rat} {n d:Nat} {z:Int} (O:0<n) (J:0<d):q<(((2*z-1)*(d:Int):Int):Rat) / (((2*n:Nat):Int):Rat)↔nearT q n d<z:=by
 unfold nearT;have hN:=qkm O;have I:=qkm J;have F:(((2*z-1)*(d:Int):Int):Rat)=(2*(z:Rat)-1)*(d:Rat):=by
  rw [Rat.intCast_mul,Rat.intCast_sub,Rat.intCast_mul,Rat.intCast_natCast];rfl
 have G:(((2*n:Nat):Int):Rat)=2*(n:Rat):=by
  rw [Rat.intCast_natCast,Rat.natCast_mul];rfl
 rw [Rat.floor_lt_iff,F,G,Rat.lt_div_iff (by grind)];generalize (d:Rat)=D at *;generalize (n:Rat)=N at *;generalize (z:Rat)=Z at *;have H:q*N / D+1 / 2<Z↔q*N / D<Z-1 / 2:=by grind
 rw [H,Rat.div_lt_iff I]
 grind
theorem qfH {q:Rat} {n d:Nat} {B:Int} (H:d=1\/d=4) (G:-B<=nearZ q n) (J:nearZ q n<=B):-(B+1)<=nearT q n d/\nearT q n d<=B+1:=by
 unfold nearZ at G J;unfold nearT;generalize q*(n:Rat)=x at *;have I:0<=B:=by omega
 have O:(0:Rat)<=(B:Rat):=Rat.intCast_nonneg.2 I;have g1:=Rat.le_floor_iff.1 G;have F:(x+1 / 2).floor<B+1:=by omega
 have F:=Rat.floor_lt_iff.1 F;rw [Rat.intCast_add,show ((1:Int):Rat)=1 from rfl] at F;rw [Rat.intCast_neg] at g1;have U:-(B+1)<=(x / (d:Rat)+1 / 2).floor:=by
  rw [Rat.le_floor_iff,Rat.intCast_neg,Rat.intCast_add,show ((1:Int):Rat)=1 from rfl];rcases H with rfl | rfl
  ·rw [show ((1:Nat):Rat)=1 from rfl];grind
  ·rw [show ((4:Nat):Rat)=4 from rfl];grind
 have V:(x / (d:Rat)+1 / 2).floor<B+2:=by
  rw [Rat.floor_lt_iff,Rat.intCast_add,show ((2:Int):Rat)=2 from rfl];rcases H with rfl | rfl
  ·rw [show ((1:Nat):Rat)=1 from rfl];grind
  ·rw [show ((4:Nat):Rat)=4 from rfl];grind
 omega
theorem qmw {q:Rat} {n d:Nat} {B:Int} (H:d=1\/d=4) (G:-B<=nearT q n d) (J:nearT q n d<=B):-(4*B+4)<=nearZ q n/\nearZ q n<=4*B+4:=by
 unfold nearT at G J;unfold nearZ;generalize q*(n:Rat)=x at *;have I:0<=B:=by omega
 have O:(0:Rat)<=(B:Rat):=Rat.intCast_nonneg.2 I;have g1:=Rat.le_floor_iff.1 G;have F:(x / (d:Rat)+1 / 2).floor<B+1:=by omega
 have F:=Rat.floor_lt_iff.1 F;rw [Rat.intCast_add,show ((1:Int):Rat)=1 from rfl] at F;rw [Rat.intCast_neg] at g1;have U:-(4*B+4)<=(x+1 / 2).floor:=by
  rw [Rat.le_floor_iff,Rat.intCast_neg,Rat.intCast_add,Rat.intCast_mul,show ((4:Int):Rat)=4 from rfl];rcases H with rfl | rfl
  ·rw [show ((1:Nat):Rat)=1 from rfl] at g1 F;grind
  ·rw [show ((4:Nat):Rat)=4 from rfl] at g1 F;grind
 have V:(x+1 / 2).floor<4*B+5:=by
  rw [Rat.floor_lt_iff,Rat.intCast_add,Rat.intCast_mul,show ((4:Int):Rat)=4 from rfl,show ((5:Int):Rat)=5 from rfl];rcases H with rfl | rfl
  ·rw [show ((1:Nat):Rat)=1 from rfl] at g1 F;grind
  ·rw [show ((4:Nat):Rat)=4 from rfl] at g1 F;grind
 omega
theorem cmp_lt (p q:Rat):cmp3 (p.num*(q.den:Int) + -(q.num*(p.den:Int))) 0<0↔p<q:=by
 rw [Rat.lt_iff];unfold cmp3;generalize p.num*(q.den:Int)=A;generalize q.num*(p.den:Int)=B;split
 ·constructor <;> intro h <;> omega
 ·split
  ·constructor <;> intro h <;> omega
  ·constructor <;> intro h <;> omega
theorem sg_floor (x:Int) {d:Nat} (I:0<d):(if decide (x<0)=true then -((x.natAbs / d+(if decide (x<0)=true/\x.natAbs % d≠0 then 1 else 0):Nat):Int) else ((x.natAbs / d+(if decide (x<0)=true/\x.natAbs % d≠0 then 1 else 0):Nat):Int))=x / (d:Int):=by
 have F:(0:Int)<d:=by omega
 by_cases hx:x<0
 ·rw [qV hx,if_pos rfl];obtain⟨a,rfl⟩:∃a:Nat,x = -(a:Int):=⟨x.natAbs,by omega⟩;rw [qbr,qan];have H:=Nat.div_add_mod a d;have J:=qbA a I;generalize a / d=u at *;generalize a % d=v at *
  symm
  by_cases G:v=0
  ·rw [if_neg (by simp [G]),qbp];subst G;rw [<-H];rw [show -(((d*u+0:Nat)):Int) = -(u:Int)*d by push_cast;rw [Int.add_zero,qby,qbc]];exact Int.mul_ediv_cancel _ (by omega)
  ·rw [if_pos ⟨rfl,G⟩,<-H];refine Int.ediv_eq_iff_of_pos F |>.2 ⟨?_,?_⟩
   ·push_cast;grind
   ·push_cast;grind
 ·rw [qU hx];simp only [Bool.false_eq_true,false_and,if_false,qbp];rw [Int.natCast_ediv,Int.natAbs_of_nonneg (by omega)]
theorem qlZ:∀(l:List UInt8) (F:Nat),F<=l.foldl (fun v c=>v*10+(c.toNat-48)) F
 | [],F=>qae _
 | c :: r,F=>qaj (by omega) (qlZ r (F*10+(c.toNat-48)))
theorem qhw:∀(l:List UInt8) (F:Nat),Nums l->F<=18446744073709551615->parseUintM 18446744073709551615 F l=if l.foldl (fun v c=>v*10+(c.toNat-48)) F<=18446744073709551615 then .ok (l.foldl (fun v c=>v*10+(c.toNat-48)) F) else .range
 | [],F,_,ha=>by rw [parseUintM,List.foldl_nil,if_pos ha]
 | c :: r,F,h,ha=>by
  have I:=h c (List.mem_cons_self ..);have J:=qlZ r (F*10+(c.toNat-48));rw [parseUintM,if_pos I,List.foldl_cons]
  by_cases G:1844674407370955162<=F
  ·rw [if_pos G,if_neg (by omega)]
  ·rw [if_neg G]
   by_cases H:18446744073709551615<F*10+(c.toNat-48)
   ·rw [if_pos H,if_neg (by omega)]
   ·rw [if_neg H];exact qhw r _ (fun x hx=>h x (List.mem_cons_of_mem _ hx)) (by omega)
theorem qiY (u:Nat):parseUintB 64 (decDigits u)=if u<=18446744073709551615 then .ok u else .range:=by
 unfold parseUintB;rw [if_neg (qdr u)];have:=qhw (decDigits u) 0 (qdp u) (by decide);rw [show (decDigits u).foldl (fun v c=>v*10+(c.toNat-48)) 0=u from qeV u] at this;exact this
theorem qld (z:Int):parseIntB 64 (itxt z)=if -9223372036854775808<=z/\z<=9223372036854775807 then .ok z else .range:=by
 unfold itxt
 by_cases I:z<0
 ·rw [if_pos I,parseIntB_minus,qiY];obtain⟨a,rfl⟩:∃a:Nat,z = -(a:Int):=⟨z.natAbs,by omega⟩;rw [qbr,qan]
  by_cases F:a<=18446744073709551615
  ·rw [if_pos F]
   show (if 2 ^ (64-1)<a then _ else _)=_
   by_cases G:9223372036854775808<a
   ·rw [if_pos (by exact G),if_neg (by omega)]
   ·rw [if_neg (by exact G),if_pos (by omega)]
  ·rw [if_neg F,if_neg (by omega)];rfl
 ·rw [if_neg I];obtain⟨a,rfl⟩:∃a:Nat,z=(a:Int):=⟨z.natAbs,by omega⟩;rw [qan];have H:=qiY a;cases hl:decDigits a with
  | nil=>exact absurd hl (qdr a)
  | cons c r =>
   have J:=qdp a c (by rw [hl];exact List.mem_cons_self ..);rw [hl] at H;rw [parseIntB_plain 64 c r (by omega) (by omega),H]
   by_cases F:a<=18446744073709551615
   ·rw [if_pos F]
    show (if 2 ^ (64-1)<=a then _ else _)=_
    by_cases G:9223372036854775808<=a
    ·rw [if_pos (by exact G),if_neg (by omega)]
    ·rw [if_neg (by exact G),if_pos (by omega)]
   ·rw [if_neg F,if_neg (by omega)];rfl
open Go.Proofs.Tryz
theorem qiC {q:Rat} (h:q≠0):(q⁻¹).num=(if q.num<0 then -(q.den:Int) else q.den)/\(q⁻¹).den=q.num.natAbs:=by
 have G:q.num≠0:=fun e=>h (Rat.num_eq_zero.1 e)
 show (Rat.inv q).num=_/\(Rat.inv q).den=_
 unfold Rat.inv
 by_cases F:q.num<0
 ·rw [dif_pos F,if_pos F];exact⟨rfl,rfl⟩
 ·rw [dif_neg F,dif_pos (show q.num > 0 by omega),if_neg F];exact⟨rfl,rfl⟩
theorem qjD (q:Rat) (hq:q≠0) (v:Value) (w:World) (hv:RatV w v q) :
  Calls prog 205 #[v] w fun e w'=>∃r,e=.returned r/\Below w.heap.size w w'/\RatV w' r q⁻¹:=by
 obtain⟨vm,vo,rfl,hm,ho⟩:=hv;obtain⟨am,bm,om,cm,nm,M,rfl,hM⟩:=id hm;obtain⟨ao,bo,oo,co,no,O,rfl,hO⟩:=id ho;obtain⟨bb,F⟩:∃b,decide (q.num<0)=b:=⟨_,rfl⟩;rw [F];obtain⟨Z,U,G⟩:=nw2 w #[.slice am nm cm,.bool bb,.slice ao no co] 138 #[.slice none 0 0,.bool false,.slice none 0 0] 138;have HS:=qH ((qb3 .f) q.den bb (.slice ao no co) Z.drew ((ho.below G.o.1).below qB.drew));have Y:=qH (qA (hm.below G.o.1) F);have aa:w.heap.size<w.heap.size+1:=by omega
 have q0:=rowG (g0:=w.heap.size+1) G.o.2.1 0;have q1:=rowG (g0:=w.heap.size+1) G.o.2.1 1;have q2:=rowG (g0:=w.heap.size+1) G.o.2.1 2;clear hm ho hM hO F;go_enter func205,ntmps205;go_upto_region 1 with fail;rw [<-U];clear U;refine wp_region_held_drew (S:=fun W=>Z.grownBy W (some (w.heap.size+1))) (by kernel_rfl) (keepB qB.drew) (fun hS0=>?_);refine hT 0 (h:=?_);refine hT 1 (h:=?_);refine hT 2 (h:=?_);refine hT 3 (h:=?_);refine hT 4 (h:=?_);refine hT 6 (h:=?_);refine hT 7 (h:=?_);refine hT 8 (h:=?_);refine hC 5 (f:=95) HS.o (h:=?_);rintro e w3 ⟨x,rfl,H,hx⟩;have V:=qH (qb2 H);have J:Z.grownBy w3 (some (w.heap.size+1)):=keepB V.o;have I:=G.below V.o;obtain⟨a9,n9,c9,b9,rfl⟩:=qbR hx;have HI:=qH hx;clear H hx;refine⟨_,rfl,J,hN (h:=?_)⟩;refine hT 9 (h:=?_);have HE:=qH (qA (qT _ _ _ #[.slice a9 n9 c9,.bool b9,.slice am nm cm] _ _ I.o.2.2) (qS I.o.1 (show w.heap.size<=w.heap.size+1 by omega) #[.slice a9 n9 c9,.bool b9,.slice am nm cm]));refine hSt 10 3 I.o.2.2 (h:=⟨qbX J (qci _ _ _),?_⟩);go_wp2_with fail;refine qR (v:=.agg #[.slice a9 n9 c9,.bool b9,.slice am nm cm]) (rA_ rfl ((w.heap.size+1)) HE.o.1 underlying138 3) rfl ⟨_,rfl,HE.o.2,?_⟩;have hR:RatV w3 (.agg #[.slice a9 n9 c9,.bool b9,.slice am nm cm]) q⁻¹:=by
  obtain⟨i1,i2⟩:=qiC hq;obtain⟨m9,e9,h9⟩:=HI.o;have e1:Value.slice a9 n9 c9=m9/\b9=decide ((if bb=true then -(q.den:Int) else q.den)<0):=by
   simp only [qaV,qa3,qaU,qbO] at e9;exact⟨e9.1,e9.2.1⟩
  refine⟨.slice a9 n9 c9,.slice am nm cm,?_,?_,?_⟩
  ·rw [e1.2,i1];have H:(decide (q.num<0)=true)=(q.num<0):=by simp
   rw [<-Y.o.2];simp only [H]
  ·rw [e1.1,i1];have H:(decide (q.num<0)=true)=(q.num<0):=by simp
   rw [<-Y.o.2] at h9;simp only [H] at h9;exact h9
  ·rw [i2];exact Y.o.1.below V.o
 obtain⟨m,o,h1,h2,h3⟩:=hR;exact⟨m,o,h1,qcl h2 (qci _ _ _) I.o.2.2 qdS,qcl h3 (qci _ _ _) I.o.2.2 qdS⟩
theorem readq {p:Rat} (U:Short p) (w:World):Calls prog 94 #[.agg #[.string (ftxt p).1,.string (ftxt p).2]] w fun e G=>∃(a:Option Addr) (n c:Nat) (b:Bool) (d:Option Addr) (m f:Nat),e=.returned (.tuple #[.agg #[.slice a n c,.bool b,.slice d m f],.bool true])/\RatV G (.agg #[.slice a n c,.bool b,.slice d m f]) p/\RFit p 67/\Below w.heap.size w G:=by
 refine (qds _ _ w).mono ?_;rintro e G ⟨v,ok,rfl,h | h,O⟩
 ·obtain⟨rfl,H,J⟩:=h;have F:=H.at J;have I:=H.fit;rw [qcV] at F I;obtain⟨a,n,c,b,d,m,f,rfl⟩:=qcB F;exact⟨a,n,c,b,d,m,f,rfl,F,I,O⟩
 ·exact absurd (qdz U) h.2.1
theorem RFit.inv {q:Rat} {K:Nat} (F:q≠0) (h:RFit q K):RFit q⁻¹ K:=by
 obtain⟨i1,i2⟩:=qiC F;refine⟨?_,by rw [i2];exact h.1⟩;rw [i1];have:(if q.num<0 then -(q.den:Int) else q.den).natAbs=q.den:=by split <;> omega
 rw [this];exact h.2
theorem divq {p q:Rat} (sp:Short p) (sq:Short q) (hq:q≠0) (sz:Short (p*q⁻¹)) (w:World) (hT:HasT w) :
  Calls prog 144 #[.agg #[.string (ftxt p).1,.string (ftxt p).2],.agg #[.string (ftxt q).1,.string (ftxt q).2]] w fun e w'=>e=.returned (.tuple #[.agg #[.string (ftxt (p*q⁻¹)).1,.string (ftxt (p*q⁻¹)).2],.int .i64 0])/\Below w.heap.size w w':=by
 obtain⟨p1,p2,hp⟩:=qb6 p;obtain⟨q1,q2,aa⟩:=qb6 q;obtain⟨r1,r2,hr⟩:=qb6 (p*q⁻¹);obtain⟨W3,aB,K3⟩:=nw3 w #[.string p1,.string p2] 44 #[.string q1,.string q2] 44 #[.string ⟨#[]⟩,.string ⟨#[]⟩] 44;have Rp:=fun W=>readq sp W
 have Rq:=fun W=>readq sq W
 rw [hp] at Rp;rw [aa] at Rq;have HR:=qH (qA Rp Rq);have O:=qH (qA hq (qA sz (qA hr (hT.below K3.o.1))));rw [hp,aa,hr];have b0:=qC W3 _ 0 _ _ _ K3.o.2.2.1;have b1:=qC W3 _ 1 _ _ _ K3.o.2.2.1;clear Rp Rq sp sq hq sz hT hp aa hr;go_enter func144,ntmps144;go_wp2_with fail;rw [<-aB];clear aB;refine (HR.o.1 W3).mono ?_;rintro e w1 ⟨a0,n0,c0,bb0,d0,e0,f0,rfl,aI,aD,U⟩;have K4:=(K3.below U).also (q:=fun W=>RatV W (.agg #[.slice a0 n0 c0,.bool bb0,.slice d0 e0 f0]) p) aI;have ag:=qH aD;have ai:=qH (O.o.2.2.2.below U);have k1:=qC w1 _ 0 _ _ _ K4.o.1.2.2.1;have k2:=qC w1 _ 1 _ _ _ K4.o.1.2.2.1;have aP:w.heap.size+1<w1.heap.size:=(qG K4.o.1.2.2.1).1;have q9:w.heap.size+1+1<w1.heap.size:=(qG K4.o.1.2.2.2).1;clear aI U aD K3 b0 b1;go_wp2_with fail;obtain⟨V1,az,N1⟩:=nw1 w1 #[.slice a0 n0 c0,.bool bb0,.slice d0 e0 f0] 138;have K5:=(K4.below N1.o.1).also (q:=fun W=>W.heap[w1.heap.size]? = some (.cells #[.slice a0 n0 c0,.bool bb0,.slice d0 e0 f0] 138 (0,0))) N1.o.2;have aj:=qH (ai.o.below N1.o.1);rw [<-az];clear az k1 k2 K4 N1;refine (HR.o.2 V1).mono ?_;rintro e w2 ⟨a1,n1,c1,bb1,d1,e1,f1,rfl,aJ,aF,V⟩;have K6:=(K5.below V).also (q:=fun W=>RatV W (.agg #[.slice a1 n1 c1,.bool bb1,.slice d1 e1 f1]) q) aJ;have ah:=qH aF;have aQ:w1.heap.size<w2.heap.size:=(qG K6.o.1.2).1;have ak:=qH (aj.o.below V);obtain⟨V2,aA,N2⟩:=nw1 w2 #[.slice a1 n1 c1,.bool bb1,.slice d1 e1 f1] 138;have G:=(K6.below N2.o.1).also (q:=fun W=>W.heap[w2.heap.size]? = some (.cells #[.slice a1 n1 c1,.bool bb1,.slice d1 e1 f1] 138 (0,0))) N2.o.2;have aL:=qH (ak.o.below N2.o.1);have aG:MagAt V2 (.slice a1 n1 c1) q.num.natAbs:=by
  obtain⟨m,o,e,h1,h2⟩:=G.o.1.2;simp only [qaV,qa3,qaU] at e;rw [e.1];exact h1
 have aH:decide (q.num.natAbs=0)=false:=qU fun h=>O.o.1 (Rat.num_eq_zero.1 (by omega))
 have F:=(qcq .f) q.num.natAbs (.slice a1 n1 c1) V2 aG;rw [aH] at F;have F:=qH F;clear aJ aF V K5 K6 N2 aG aH ai aj ak aP;go_upto_region 5 with fail;rw [<-aA];clear aA;have j0:=qC V2 _ 0 _ _ _ G.o.2;go_wp2_with fail;refine F.o.mono ?_;rintro e w5 ⟨rfl,hw⟩;have hw:=hw.symm;subst hw;clear F j0;go_wp2_with fail;have r0:=rowG (g0:=w.heap.size+1+1) G.o.1.1.2 0;have aR:=rowG (g0:=w.heap.size+1+1) G.o.1.1.2 1;have aS:=rowG (g0:=w.heap.size+1+1) G.o.1.1.2 2;have s0:=rowG (g0:=w.heap.size+1+1) G.o.2 0;have s1:=rowG (g0:=w.heap.size+1+1) G.o.2 1;have s2:=rowG (g0:=w.heap.size+1+1) G.o.2 2;refine wp_region_held_drew (S:=fun W=>V2.grownBy W (some (w.heap.size+1+1))) (by kernel_rfl) (keepB qB.drew) (fun hS0=>?_);refine hT 0 (h:=?_);refine hT 1 (h:=?_);refine hC 2 (qjD q O.o.1 _ V2.drew (G.o.1.2.below qB.drew)) (h:=?_);rintro e w6 ⟨u6,rfl,aC,ae⟩;have H:=qH (qb2 aC);have au:V2.grownBy w6 (some (w.heap.size+1+1)):=keepB H.o;obtain⟨x0,x1,x2,x3,x4,x5,x6,rfl⟩:=qcB ae;have aM:=qH ae;clear aC ae;refine⟨_,rfl,au,hN (h:=?_)⟩;refine hC 3 (qkw p q⁻¹ 67 (by decide) _ _ w6 (G.o.1.1.1.2.below H.o) aM.o ag.o (ah.o.inv O.o.1)) (h:=?_);rintro e w7 ⟨u7,rfl,Y,af⟩;have J:=qH (H.o.trans (Y.mono H.o.size));have av:=qce au Y;obtain⟨y0,y1,y2,y3,y4,y5,y6,rfl⟩:=qcB af;have aN:=qH af;clear Y af;refine⟨_,rfl,av,hN (h:=?_)⟩;refine hC 4 (qeO (p*q⁻¹) (67+67) (by decide) (by decide) _ w7 aN.o (ag.o.mul (ah.o.inv O.o.1)) (aL.o.below J.o)) (h:=?_);rintro e w8 ⟨h,Z⟩;have aK:=qH (J.o.trans (Z.mono J.o.size));have ax:=qce av Z;clear Z;rcases h with ⟨_,rfl⟩ | ⟨aO,_⟩
 case inr=>exact absurd O.o.2.1 aO
 rw [qfe,O.o.2.2.1];have K8:=G.below aK.o;refine⟨_,rfl,ax,hN (h:=?_)⟩;refine hT 5 (h:=?_);refine hT 6 (h:=?_);have I:=K8.o.1.1.1.1.2.2.2;have HE:=qH (qA (qT _ _ _ #[.string r1,.string r2] _ _ I) (qS K8.o.1.1.1.1.1 (show w.heap.size<=w.heap.size+1+1 by omega) #[.string r1,.string r2]));have ay:=qbX ax (qci w8 (w.heap.size+1+1) #[.string r1,.string r2]);refine hSn 7 2 I (h:=⟨ay,?_⟩);refine hT 8 (hS:=ay) (h:=?_);refine wpAnyH_done (by kernel_rfl) ?_ _;go_wp2_with fail;exact qR (v:=.tuple #[.agg #[.string r1,.string r2],.int .i64 0]) (rB_ rfl (w.heap.size+1+1) HE.o.1 underlying44 2) rfl ⟨rfl,HE.o.2⟩
end Go.Proofs.YtplkdeknjghobaaGreatDoor
namespace Go.Proofs.YtplkdeknjghobaaGreatDoor
open Go.RowKit Go.Proofs.Tryz
def RBlk (W:World) (g:Nat) (q:Rat):Prop:=∃(a:Option Addr) (n c:Nat) (b:Bool) (d:Option Addr) (m f:Nat),W.heap[g]? = some (.cells #[.slice a n c,.bool b,.slice d m f] 138 (0,0))/\RatV W (.agg #[.slice a n c,.bool b,.slice d m f]) q
theorem RBlk.below {W W':World} {g:Nat} {q:Rat} (h:RBlk W g q) (F:Below W.heap.size W W'):RBlk W' g q:=by
 obtain⟨a,n,c,b,d,m,f,G,H⟩:=h;exact⟨a,n,c,b,d,m,f,zkeep F _ _ G,H.below F⟩
theorem qi3 {a:Option Addr} {n c:Nat} {b:Bool} {d:Option Addr} {m f:Nat}:∀x∈(#[.slice a n c,.bool b,.slice d m f]:Array Value).toList,∀z,x≠.int .u32 z:=by
 intro x hx z;simp at hx;rcases hx with rfl | rfl | rfl <;> intro h <;> cases h
theorem RatV.keep {W W':World} {v:Value} {q:Rat} {g:Nat} {cs:Array Value} {t:TypeId} (h:RatV W v q) (F:W.grownBy W' (some g)) (hg:W.heap[g]? = some (.cells cs t (0,0))) (G:∀x∈cs.toList,∀z,x≠.int .u32 z):RatV W' v q:=by
 obtain⟨m,o,H,I,J⟩:=h;exact⟨m,o,H,qcl I F hg G,qcl J F hg G⟩
theorem qls (S P:Rat) (K:Nat) (V:K<=34359738368) (H:Nat) (v:Value) (w:World) (hs:RBlk w H S) (Z:RatV w v P) (hS:RFit S K) (hP:RFit P K) :
  Calls prog 255 #[v,.pointer (some ⟨H,0,none⟩)] w fun e w'=>e=.returned (.tuple #[])/\RBlk w' H (S+P)/\w.grownBy w' (some H):=by
 obtain⟨a,n,c,b,d,m,f,h1,h2⟩:=hs;obtain⟨a0,n0,c0,b0,d0,m0,f0,rfl⟩:=qcB Z;obtain⟨W1,O,I⟩:=nw1 w #[.slice a0 n0 c0,.bool b0,.slice d0 m0 f0] 138;have G:=zkeep I.o.1 _ _ h1;have x0:=qC _ _ 0 _ _ _ G;have x1:=qC _ _ 1 _ _ _ G;have x2:=qC _ _ 2 _ _ _ G;have y0:=qC _ _ 0 _ _ _ I.o.2;have y1:=qC _ _ 1 _ _ _ I.o.2;have y2:=qC _ _ 2 _ _ _ I.o.2;have HA:=qH (qkv S P K V _ _ W1 (h2.below I.o.1) (Z.below I.o.1) hS hP);have HX:=qH G;clear h1 h2 Z G hS hP;go_enter func255,ntmps255;go_upto_region 1 with fail;rw [<-O];clear O;go_wp2_with fail;refine HA.o.mono ?_;rintro e w2 ⟨r,rfl,Y,G⟩;obtain⟨e0,e1,e2,e3,e4,e5,e6,rfl⟩:=qcB G;have F:=zkeep Y _ _ HX.o;have U:=qH (qA (qT _ _ _ #[.slice e0 e1 e2,.bool e3,.slice e4 e5 e6] _ _ F) (qA (qbX (qce (keepB (g:=H) I.o.1) Y) (qci w2 H #[.slice e0 e1 e2,.bool e3,.slice e4 e5 e6])) (G.keep (qci w2 H #[.slice e0 e1 e2,.bool e3,.slice e4 e5 e6]) F qi3)));have J:=qH F;clear Y G F HA;rename_i V;dsimp only;refine V _ _ ?_
 go_wp2_with ((with_reducible refine sR_ rfl 138 _ _ rfl (H) #[.slice e0 e1 e2,.bool e3,.slice e4 e5 e6] J.o 3 ?_))
 go_end0
 exact⟨rfl,⟨e0,e1,e2,e3,e4,e5,e6,U.o.1,U.o.2.2⟩,U.o.2.1⟩
theorem RFit.plus {p q:Rat} {K J:Nat} (F:RFit p K) (G:RFit q J):RFit (p+q) (K+J+1):=by
 have H:Fit (p.num*q.den+q.num*p.den).natAbs (K+J+1):=by
  refine (Fit.add (x:=(p.num*q.den).natAbs) (y:=(q.num*p.den).natAbs) (K:=K+J) ?_ ?_).le (qbB _ _)
  ·rw [qaD,qan];exact F.1.mul G.2
  ·rw [qaD,qan,Nat.add_comm K J];exact G.1.mul F.2
 have I:Fit (p.den*q.den) (K+J+1):=(F.2.mul G.2).mono (by omega);rw [Rat.add_def'];have hne:=Nat.mul_ne_zero p.den_nz q.den_nz
 constructor
 ·rw [Rat.num_mkRat,if_neg hne];refine H.le ?_;rw [Int.natAbs_ediv_of_dvd (Int.ofNat_dvd_left.2 (qaS _ _))];exact qaO _ _
 ·rw [Rat.den_mkRat,if_neg hne];exact I.le (qaO _ _)
theorem RFit.up {q:Rat} {K J:Nat} (h:RFit q K) (F:K<=J):RFit q J:=⟨h.1.mono F,h.2.mono F⟩
structure RCells (W:World) (b n:Nat) (x:Nat->Rat):Prop where
 cell:∀k,k<n->∃(a:Option Addr) (m c:Nat) (bb:Bool) (d:Option Addr) (e f:Nat),W.cell? ⟨b,k*3,none⟩=some (.slice a m c)/\W.cell? ⟨b,k*3+1,none⟩=some (.bool bb)/\W.cell? ⟨b,k*3+2,none⟩=some (.slice d e f)/\RatV W (.agg #[.slice a m c,.bool bb,.slice d e f]) (x k)
theorem RCells.below {W W':World} {b n:Nat} {x:Nat->Rat} (h:RCells W b n x) (F:Below W.heap.size W W'):RCells W' b n x:=⟨fun k O=>by
 obtain⟨a,m,c,bb,d,e,f,G,H,I,J⟩:=h.cell k O;exact⟨a,m,c,bb,d,e,f,(F.cell (qac W _ G)).trans G,(F.cell (qac W _ H)).trans H,(F.cell (qac W _ I)).trans I,J.below F⟩⟩
theorem one_mag (W:World) (g:Nat) (h:W.heap[g]? = some (.cells #[.int .u32 1] 232 (0,0))):MagAt W (.slice (some ⟨g,0,none⟩) 1 1) 1:=by
 refine⟨some ⟨g,0,none⟩,g,0,1,1,[1],rfl,⟨rfl,qae _,⟨fun _=>rfl,fun k F=>?_⟩,fun k=>?_,qag (by decide)⟩,by decide⟩
 ·obtain rfl:k=0:=by simp at F;omega
  exact qC _ _ 0 _ _ _ h
 ·rcases k with _ | k
  ·decide
  ·simp
theorem qnl (b n c:Nat) (ao:Option Addr) (x:Nat->Rat) (w:World) (aa:0<n->ao=some ⟨b,0,none⟩) (hn:n<=300) (hx:∀k,k<n->RFit (x k) 67) (hC:RCells w b n x) :
  Calls prog 204 #[.slice ao n c] w fun e w'=>∃r,e=.returned r/\Below w.heap.size w w'/\RatV w' r (sumQ n x)/\RFit (sumQ n x) (68*n+1):=by
 obtain⟨W1,J,N1⟩:=nw1 w #[.slice none 0 0,.bool false,.slice none 0 0] 138;obtain⟨W2,O,N2⟩:=nw1 W1 #[.int .u32 1] 232;have V:W1.heap.size=w.heap.size+1:=by rw [J];simp
 have ah:W2.heap.size=w.heap.size+1+1:=by rw [O];simp [V]
 obtain⟨W3,Z,N3⟩:=nw1 W2 #[.slice none 0 0,.bool false,.slice (some ⟨w.heap.size+1,0,none⟩) 1 1] 138;have I:W1.heap[w.heap.size]? = some (.cells #[.slice none 0 0,.bool false,.slice none 0 0] 138 (0,0)):=N1.o.2;have Y:=N2.o.2;rw [V] at Y;have H:=N3.o.2;rw [ah] at H;have af:Below w.heap.size w W3:=N1.o.1.trans ((N2.o.1.trans (N3.o.1.mono N2.o.1.size)).mono N1.o.1.size);have hz:RBlk W3 (w.heap.size+1+1) 0:=by
  refine⟨none,0,0,false,_,1,1,H,.slice none 0 0,.slice (some ⟨w.heap.size+1,0,none⟩) 1 1,rfl,MagAt.nil _,?_⟩;exact (one_mag _ _ Y).below N3.o.1
 have ag:=zkeep N3.o.1 _ _ (zkeep N2.o.1 _ _ I);have ak:=@hmf_ prog;have H0:=qH (qA af (qA hz ag));have HX:=qH (qA aa (qA hx (hC)));clear I Y H af hz ag V ah N1 N2 N3 aa hx hC;go_enter func204,ntmps204;go_upto_region 2 with fail;rw [<-J,<-O,<-Z];clear J O Z;go_wp2_with fail
 go_loopw [12] (fun x12 W=>∃i:Nat,x12=.int .i64 i/\i<=n/\Hu (Below w.heap.size w W/\RBlk W (w.heap.size+1+1) (sumQ i x)/\W.heap[w.heap.size]? = some (.cells #[.slice none 0 0,.bool false,.slice none 0 0] 138 (0,0))/\RFit (sumQ i x) (68*i+1))) (fun x12 _=>n-(intOf x12).toNat)
 case atStart =>
  exact⟨0,rfl,qam _,qH ⟨H0.o.1,H0.o.2.1,H0.o.2.2,⟨(by show (0:Nat)<1000000000 ^ 1;decide),(by show (1:Nat)<1000000000 ^ 1;decide)⟩⟩⟩
 case round =>
  obtain⟨i,rfl,aj,F⟩:=hrel
  by_cases hi:i<n
  ·have ai:(i:Int)<n:=by omega
   have ha:=HX.o.1 (by omega);subst ha;obtain⟨a0,m0,c0,b0,d0,e0,f0,y0,y1,y2,hv⟩:=(HX.o.2.2.below F.o.1).cell i hi;have au:i*3<n*3:=by omega
   have HV:=qH hv;clear hv;go_wp2_with fail;have G:Below wr.heap.size wr (wr.alloc (.cells #[.slice a0 m0 c0,.bool b0,.slice d0 e0 f0] 138)):=qB.alloc qN _;refine (qls (sumQ i x) (x i) (68*n+68) (by omega) (w.heap.size+1+1) _ _ (F.o.2.1.below G) (HV.o.below G) (F.o.2.2.2.up (by omega)) ((HX.o.2.1 i hi).up (by omega))).mono ?_;rintro e w5 ⟨rfl,hr,U⟩;have HN:Hu (Below w.heap.size w w5/\RBlk w5 (w.heap.size+1+1) (sumQ i x+x i)/\w5.heap[w.heap.size]? = some (.cells #[.slice none 0 0,.bool false,.slice none 0 0] 138 (0,0))):=qH (by
    have ae:=F.o.1.trans (G.mono F.o.1.size);refine⟨ae.trans ⟨U.os,U.tape,U.output,U.size,fun j hj=>U.block j (by have:=ae.size;omega) (fun e=>by have:=qah e;omega)⟩,hr,?_⟩;have hg:=zkeep G _ _ F.o.2.2.1;exact (U.block _ (qG hg).1 (fun e=>by have:=qah e;omega)).trans hg)
   clear hr U;go_wp2;go_roundw
   case rel=>exact⟨i+1,by go_num,hi,qH ⟨HN.o.1,HN.o.2.1,HN.o.2.2,(F.o.2.2.2.plus (HX.o.2.1 i hi)).up (by omega)⟩⟩
   case measure=>simp [intOf];omega
  ·obtain rfl:i=n:=by omega
   obtain⟨hb,⟨a,m,c',bb,d,e',f,h1,Y⟩,H,h4⟩:=F.o;have x0:=qC _ _ 0 _ _ _ h1;have x1:=qC _ _ 1 _ _ _ h1;have x2:=qC _ _ 2 _ _ _ h1;have HE:=qH (qA (qT _ _ _ #[.slice a m c',.bool bb,.slice d e' f] _ _ H) (qA (qS hb qN #[.slice a m c',.bool bb,.slice d e' f]) (qA (Y.keep (qci _ w.heap.size #[.slice a m c',.bool bb,.slice d e' f]) H qi3) h4)));have Hr:=qH H;clear F hb h1 Y H h4
   go_wp2_with ((with_reducible refine sR_ rfl 138 _ _ rfl (w.heap.size) #[.slice a m c',.bool bb,.slice d e' f] Hr.o 3 ?_))
   exact qR (v:=.agg #[.slice a m c',.bool bb,.slice d e' f]) (rA_ rfl (w.heap.size) HE.o.1 underlying138 3) rfl ⟨_,rfl,HE.o.2.1,HE.o.2.2.1,HE.o.2.2.2⟩
theorem qlX (x:Int) (d K:Nat) (ag:0<K) (Y:K<=137438953472) (hd:0<d) (v o:Value) (w:World) (hv:IntAt w v x) (ho:MagAt w o d) (hx:Fit x.natAbs K) (hy:Fit d K) :
  Calls prog 264 #[v,o] w fun e w'=>∃u,e=.returned u/\Below w.heap.size w w'/\IntAt w' u (x / (d:Int)):=by
 obtain⟨m,rfl,hm⟩:=hv;have V:=sg_floor x hd;obtain⟨am,bm,om,cm,nm,M,rfl,hM⟩:=id hm;obtain⟨ao,bo,oo,co,no,O,rfl,hO⟩:=id ho;obtain⟨bb,au⟩:∃b,decide (x<0)=b:=⟨_,rfl⟩;rw [au] at V ⊢;obtain⟨W2,ah,K2⟩:=nw2 w #[.slice am nm cm,.bool bb] 136 #[.slice none 0 0,.bool false] 136;have c0:=qC _ _ 0 _ _ _ K2.o.2.1;have HD:=qH ((qb0 .f) x.natAbs d K Y _ _ W2 (hm.below K2.o.1) (ho.below K2.o.1) hx hy hd);have ae:Fit (x.natAbs / d) K:=hx.le (qaO _ _);have af:Fit 1 K:=(show Fit 1 1 from (by show 1<1000000000 ^ 1;decide)).mono ag;obtain⟨H,hq⟩:=qX (x.natAbs / d);obtain⟨r0,hr⟩:=qX (x.natAbs % d);obtain⟨Z,hZ⟩:=qX (x / (d:Int));rw [hq,hr] at V HD;rw [hZ] at V ⊢;rw [hq] at ae;have HX:=qH (qA V (qA ae (qA af Y)));clear hm ho hM hO au V hx hy hd hq hr hZ ae af Y ag;go_enter func264,ntmps264;go_upto_region 1 with fail;rw [<-ah];clear ah;go_wp2_with fail;refine HD.o.mono ?_;rintro e w3 ⟨q,r,rfl,ai,hq,hr⟩;have J:=(K2.below ai).also (q:=fun W=>MagAt W q H/\MagAt W r r0) ⟨hq,hr⟩;obtain⟨aq,_,_,cq,nq,_,rfl,_,_⟩:=hq;obtain⟨ar,_,_,cr,nr,_,rfl,_,_⟩:=hr;clear ai K2 HD c0;have c1:=qC _ _ 1 _ _ _ J.o.1.2.1;cases bb with
 | false =>
  go_wp2_with fail;refine ((qb3 .f) H false _ w3 J.o.2.1).mono ?_;rintro e w4 ⟨u,rfl,U,G⟩;obtain⟨a9,n9,c9,b9,rfl⟩:=qbR G;have K4:=J.below U;have hz:(if false=true then -(H:Int) else H)=Z:=by have:=HX.o.1;simpa using this
  rw [hz] at G;have F:=qH K4.o.1.2.2;have I:=qH (qA (qT _ _ _ #[.slice a9 n9 c9,.bool b9] _ _ F.o) (qA (qS K4.o.1.1 (show w.heap.size<=w.heap.size+1 by omega) #[.slice a9 n9 c9,.bool b9]) (qcm (cs':=#[.slice a9 n9 c9,.bool b9]) G F.o qdh)));clear G U hz J c1;rename_i Y;dsimp only;refine Y _ _ ?_
  go_wp2_with ((with_reducible refine sR_ rfl 136 _ _ rfl ((w.heap.size+1)) #[.slice a9 n9 c9,.bool b9] F.o 2 ?_))
  exact qR (v:=.agg #[.slice a9 n9 c9,.bool b9]) (rA_ rfl ((w.heap.size+1)) I.o.1 underlying136 2) rfl ⟨_,rfl,I.o.2.1,I.o.2.2⟩
 | true =>
  go_wp2_with fail;refine ((qcq .f) r0 _ w3 J.o.2.2).mono ?_;rintro e w4 ⟨rfl,hw⟩;subst hw
  by_cases h0:r0=0
  ·rw [qV h0];have H0:=qH h0;clear h0;go_wp2_with fail;refine ((qb3 .f) H true _ _ J.o.2.1).mono ?_;rintro e w5 ⟨u,rfl,U,G⟩;obtain⟨a9,n9,c9,b9,rfl⟩:=qbR G;have K4:=J.below U;have hz:(if true=true then -(H:Int) else H)=Z:=by have:=HX.o.1;simp [H0.o] at this;rw [if_pos rfl];omega
   rw [hz] at G;have F:=qH K4.o.1.2.2;have I:=qH (qA (qT _ _ _ #[.slice a9 n9 c9,.bool b9] _ _ F.o) (qA (qS K4.o.1.1 (show w.heap.size<=w.heap.size+1 by omega) #[.slice a9 n9 c9,.bool b9]) (qcm (cs':=#[.slice a9 n9 c9,.bool b9]) G F.o qdh)));clear G U hz J c1;rename_i Y;dsimp only;refine Y _ _ ?_
   go_wp2_with ((with_reducible refine sR_ rfl 136 _ _ rfl ((w.heap.size+1)) #[.slice a9 n9 c9,.bool b9] F.o 2 ?_))
   exact qR (v:=.agg #[.slice a9 n9 c9,.bool b9]) (rA_ rfl ((w.heap.size+1)) I.o.1 underlying136 2) rfl ⟨_,rfl,I.o.2.1,I.o.2.2⟩
  ·rw [qU h0];have H0:=qH h0;clear h0;obtain⟨W4,aa,N4⟩:=nw1 w4 #[.int .u32 1] 232;have HP:=qH ((qgz .f) H 1 K (by have:=HX.o.2.2.2;omega) (.slice aq nq cq) (.slice (some ⟨w4.heap.size,0,none⟩) 1 1) W4 (J.o.2.1.below N4.o.1) (aa▸qey w4 232 (s:=1) (by decide) (by decide)) HX.o.2.1 HX.o.2.2.1);have K4:=J.below N4.o.1;clear J c1 N4;go_wp2_with fail;rw [<-aa];clear aa;refine HP.o.mono ?_;rintro e w5 ⟨p,rfl,aj,hp⟩;have K5:=(K4.below aj).also (q:=fun W=>MagAt W p (H+1)) hp;obtain⟨ap,_,_,cp,np,_,rfl,_,_⟩:=hp;clear aj K4 HP;have c1:=qC _ _ 1 _ _ _ K5.o.1.1.2.1;go_wp2_with fail;refine ((qb3 .f) (H+1) true _ w5 K5.o.2).mono ?_;rintro e w6 ⟨u,rfl,ak,G⟩;obtain⟨a9,n9,c9,b9,rfl⟩:=qbR G;have K6:=K5.below ak;have hz:(if true=true then -((H+1:Nat):Int) else ((H+1:Nat):Int))=Z:=by have:=HX.o.1;simp [H0.o] at this;rw [if_pos rfl];omega
   rw [hz] at G;have F:=qH K6.o.1.1.2.2;have I:=qH (qA (qT _ _ _ #[.slice a9 n9 c9,.bool b9] _ _ F.o) (qA (qS K6.o.1.1.1 (show w.heap.size<=w.heap.size+1 by omega) #[.slice a9 n9 c9,.bool b9]) (qcm (cs':=#[.slice a9 n9 c9,.bool b9]) G F.o qdh)));clear G ak hz K5 c1;rename_i Y;dsimp only;refine Y _ _ ?_
   go_wp2_with ((with_reducible refine sR_ rfl 136 _ _ rfl ((w.heap.size+1)) #[.slice a9 n9 c9,.bool b9] F.o 2 ?_))
   exact qR (v:=.agg #[.slice a9 n9 c9,.bool b9]) (rA_ rfl ((w.heap.size+1)) I.o.1 underlying136 2) rfl ⟨_,rfl,I.o.2.1,I.o.2.2⟩
theorem near_any (q:Rat) (s K J:Nat) (V:K+J+2<=34359738368) (v u:Value) (w:World) (hv:RatV w v q) (hu:MagAt w u s) (hq:RFit q K) (hs:Fit s J) :
  Calls prog 217 #[v,u] w fun e w'=>∃r,e=.returned r/\Below w.heap.size w w'/\IntAt w' r (nearZ q s):=by
 obtain⟨vm,vo,rfl,hm,ho⟩:=hv;obtain⟨am,bm,om,cm,nm,M,rfl,hM⟩:=id hm;obtain⟨ao,bo,oo,co,no,O,rfl,hO⟩:=id ho;obtain⟨au,bu,ou,cu,nu,U,rfl,hU⟩:=id hu;have I:Fit 2 1:=by show 2<1000000000 ^ 1;decide
 have g1:Fit (s*2) (J+1):=hs.mul I;have g2:Fit (q.num*((s*2:Nat):Int)).natAbs (K+J+2):=by rw [qaD,qan];exact (hq.1.mul g1).mono (by omega)
 have g3:Fit ((q.den:Int)).natAbs (K+J+2):=by rw [qan];exact hq.2.mono (by omega)
 have g4:Fit (q.num*((s*2:Nat):Int)+(q.den:Int)).natAbs (K+J+3):=(g2.add g3).le (qbB _ _);have g5:Fit (q.den*2) (K+J+3):=(hq.2.mul I).mono (by omega);have hz:=qiU q s;obtain⟨z,av⟩:=qX (nearZ q s);rw [av] at hz ⊢;obtain⟨H,ae,Z⟩:=nw3 w #[.slice am nm cm,.bool (decide (q.num<0)),.slice ao no co] 138 #[.slice none 0 0,.bool false] 136 #[.int .u32 2] 232;have ai:MagAt H (.slice (some ⟨w.heap.size+1+1,0,none⟩) 1 1) 2:=by
  have:=qey ((w.alloc (.cells #[.slice am nm cm,.bool (decide (q.num<0)),.slice ao no co] 138)).alloc (.cells #[.slice none 0 0,.bool false] 136)) 232 (s:=2) (by decide) (by decide);rw [ae];simpa using this
 have HM:=qH (qA (hm.below Z.o.1) (qA (ho.below Z.o.1) (qA (hu.below Z.o.1) ai)));have HG:=qH (qA g1 (qA g2 (qA g3 (qA g4 (qA g5 (qA hq (qA hs (qA V hz))))))));have HC:=qH fun (W:World) (h:Below H.heap.size H W)=>(qcb .f) s 2 J 1 (by omega) _ _ W (HM.o.2.2.1.below h) (HM.o.2.2.2.below h) hs I
 have HS:=qH fun (W:World) (x:Value) (h:Below H.heap.size H W) (hx:MagAt W x (s*2))=>(qcn .f) q.num (s*2) K (J+1) (by omega) (.agg #[.slice am nm cm,.bool (decide (q.num<0))]) x W ⟨_,rfl,HM.o.1.below h⟩ hx hq.1 g1
 have HN:=qH fun (W:World) (h:Below H.heap.size H W)=>(qb3 .f) q.den false (.slice ao no co) W (HM.o.2.1.below h)
 have HA:=qH fun (W:World) (x y:Value) (hx:IntAt W x (q.num*((s*2:Nat):Int))) (hy:IntAt W y (q.den:Int))=>(qdb .f) _ _ (K+J+2) (by omega) x y W hx hy g2 g3
 dsimp only [Pk.of] at HC HS HN HA;obtain⟨bb,ay⟩:∃b,decide (q.num<0)=b:=⟨_,rfl⟩;rw [ay] at HS ae Z ⊢;clear hm ho hu hM hO hU hq hs I g1 g2 g3 g4 g5 hz V ai av;have lt:=(qG Z.o.2.2.2).1;have c0:=rowC (B:=H.heap.size) Z.o.2.1 0;have c1:=rowC (B:=H.heap.size) Z.o.2.1 1;have c2:=rowC (B:=H.heap.size) Z.o.2.1 2;go_enter func217,ntmps217;go_upto_region 2 with fail;rw [<-ae];clear ae;refine wp_region_held_drew (S:=fun W=>Below H.heap.size H W) (by kernel_rfl) qB.drew (fun hS0=>?_);refine hT 0 (h:=hT 1 (h:=hT 2 (h:=hT 3 (h:=hT 6 (h:=hT 7 (h:=?_))))));refine gr [(4,12),(5,13),(8,16),(9,17),(10,6)] [(5,[4]),(9,[5,8])] [0,1,2,3,6,7] [4,5,8,9,10] [10] 11 12 (fl2 [(4,fun x W=>MagAt W x (s*2)),(5,fun x W=>IntAt W x (q.num*((s*2:Nat):Int))),(8,fun x W=>IntAt W x (q.den:Int)),(9,fun x W=>IntAt W x (q.num*((s*2:Nat):Int)+(q.den:Int))),(10,ZC H.heap.size #[.slice none 0 0,.bool false] 136)]) _ 1
  (hS:=fun w' h=>qb2 h) (hstep:=⟨⟨_,rfl,fun v w2 F Y K V=>?_⟩,⟨_,rfl,fun v w2 F Y K V=>?_⟩,⟨_,rfl,fun v w2 F Y K V=>?_⟩,⟨_,rfl,fun v w2 F Y K V=>?_⟩,⟨_,rfl,fun v w2 F Y K V=>?_⟩,trivial⟩) (hend:=fun v w2 F Y _ f=>?_)
 ·exact gC V (HC.o _ (qb2 F)) (h:=fun e w3 ⟨u,e1,h1,I⟩=>⟨u,e1,I,h1⟩)
 ·exact gC V (HS.o _ _ (qb2 F) Y.1) (h:=fun e w3 ⟨u,e1,h1,I⟩=>⟨u,e1,I,h1⟩)
 ·exact gC V (HN.o _ (qb2 F)) (h:=fun e w3 ⟨u,e1,h1,I⟩=>⟨u,e1,I,h1⟩)
 ·exact gC V (HA.o _ _ _ Y.1 Y.2.1) (h:=fun e w3 ⟨u,e1,h1,I⟩=>⟨u,e1,I,h1⟩)
 ·exact gW V (h:=ZC.new F.size)
 obtain⟨g,hg,e11,az⟩:ZC _ _ _ _ _:=Y 10 (by decide) (by decide);have hx:IntAt w2 (v 9) _:=Y 9 (by decide) (by decide);obtain⟨ax,nx,cx,bx,e10⟩:=qbR hx;rw [e10] at hx;have K2:=Z.below (qb2 F);have ak:=HM.o.2.1.below (qb2 F);have ah:=HM.o.2.2.2.below (qb2 F);refine hSt 11 2 hg (hx:=by exact e11) (hy:=by exact e10) (h:=⟨qS (qb2 F) az _,?_⟩);obtain⟨W4,af⟩:=qY (w2.setRow g #[.slice ax nx cx,.bool bx]);have K4:Kn (fun W=>(Below w.heap.size w W/\W.heap[w.heap.size]? = some (.cells #[.slice am nm cm,.bool bb,.slice ao no co] 138 (0,0))/\W.heap[w.heap.size+1]? = some (.cells #[.slice none 0 0,.bool false] 136 (0,0))) /\
   (W.heap[g]? = some (.cells #[.slice ax nx cx,.bool bx] 136 (0,0))/\IntAt W (.agg #[.slice ax nx cx,.bool bx]) (q.num*((s*2:Nat):Int)+(q.den:Int)))/\MagAt W (.slice ao no co) q.den/\MagAt W (.slice (some ⟨w.heap.size+1+1,0,none⟩) 1 1) 2) W4 :=
  .of (by rw [af];exact⟨⟨qS K2.o.1 (by omega) _,(setRow_other _ _ _ _ (by omega)).trans K2.o.2.1,(setRow_other _ _ _ _ (by omega)).trans K2.o.2.2.1⟩,⟨qT _ _ _ _ _ _ hg,qcm hx hg qdh⟩,qda ak hg qdh,qda ah hg qdh⟩)
 rw [<-af];have lg:=(qG K4.o.2.1.1).1;have l1:=(qG K4.o.1.2.2).1;have aj:g≠w.heap.size+1:=by omega
 clear c0 c1 c2 af K2 Z HM HC HS HN HA hg Y F hx hS0 ak ah lt;have d2:=rowG (g0:=w.heap.size+1) K4.o.1.2.1 2;have g0:=rowG (g0:=w.heap.size+1) K4.o.2.1.1 0 (hne:=aj);have g1:=rowG (g0:=w.heap.size+1) K4.o.2.1.1 1 (hne:=aj);go_wp2_with fail;refine wp_region_held_drew (S:=fun W=>W4.grownBy W (some (w.heap.size+1))) (by kernel_rfl) (keepB qB.drew) (fun hS0=>?_);refine hT 0 (h:=hT 1 (h:=hT 2 (h:=hT 3 (h:=?_))));refine hC 4 (f:=155) ((qcb .f) q.den 2 K 1 (by have:=HG.o.2.2.2.2.2.2.2.1;omega) _ _ W4.drew (K4.o.2.2.1.below qB.drew) (K4.o.2.2.2.below qB.drew) HG.o.2.2.2.2.2.1.2 (by show 2<1000000000 ^ 1;decide)) (h:=?_);rintro e w5 ⟨x,rfl,F,hx⟩;have aa:=qH (qb2 F);have K5:=(K4.below aa.o).also (q:=fun W=>MagAt W x (q.den*2)) hx;clear F hx;refine⟨_,rfl,keepB aa.o,hN (h:=?_)⟩;refine hC 5 (qlX _ _ (K+J+3) (by omega) (by have:=HG.o.2.2.2.2.2.2.2.1;omega) (by have:=q.den_pos;omega) _ _ w5 K5.o.1.2.1.2 K5.o.2 HG.o.2.2.2.1 HG.o.2.2.2.2.1) (h:=?_);rintro e w6 ⟨r,rfl,F,hr⟩;have ag:=qH (aa.o.trans (F.mono aa.o.size));have K6:=K5.below F;obtain⟨a9,n9,c9,b9,rfl⟩:=qbR hr;have HR:=qH hr;clear F hr;refine⟨_,rfl,keepB ag.o,hN (h:=?_)⟩;have G:=K6.o.1.1.2.2;refine hSt 6 2 G (h:=⟨qbX (keepB ag.o) (qci _ _ _),?_⟩);have HE:=qH (qA (qT _ _ _ #[.slice a9 n9 c9,.bool b9] _ _ G) (qA (qS K6.o.1.1.1 (show w.heap.size<=w.heap.size+1 by omega) #[.slice a9 n9 c9,.bool b9]) (qcm (cs':=#[.slice a9 n9 c9,.bool b9]) HR.o G qdh)));clear G;go_wp2_with fail;refine qR (v:=.agg #[.slice a9 n9 c9,.bool b9]) (rA_ rfl ((w.heap.size+1)) HE.o.1 underlying136 2) rfl ⟨_,rfl,HE.o.2.1,?_⟩;rw [HG.o.2.2.2.2.2.2.2.2];exact HE.o.2.2
open Go.Lib
def HasE (w:World):Prop:=∃F,w.cell? ⟨3,0,none⟩=some F/\(F=.nilIface\/∃H G,F=.iface H G)
theorem HasE.below {w G:World} (h:HasE w) (I:Below w.heap.size w G):HasE G:=by
 obtain⟨ev,F,H⟩:=h;exact⟨ev,(I.cell (qac w _ F)).trans F,H⟩
instance stays_hase:Stays fun W=>HasE W:=⟨fun h F=>h.below F⟩
def I64 (z:Int):Prop:=-9223372036854775808<=z/\z<=9223372036854775807
theorem qny {z:Int} {K:Nat} (h:Fit z.natAbs K) (G:0<K):(qcc z).size<=9*K+1:=by
 have F:(decDigits z.natAbs).length<=9*K:=qcp _ _ (by omega) (by rw [<-pow9];exact h)
 show (itxt z).length<=_
 unfold itxt;split
 ·simpa using F
 ·omega
theorem intw_any (z:Int) (K:Nat) (aa:0<K) (hK:K<=1000) (hz:Fit z.natAbs K) (w:World) (hE:HasE w) :
  Calls prog 216 #[.string (qcc z)] w fun e w'=>Below w.heap.size w w'/\((I64 z/\e=.returned (.tuple #[.int .i64 z,.int .i64 0]))\/(¬I64 z/\∃c:Int,c≠0/\e=.returned (.tuple #[.int .i64 0,.int .i64 c]))):=by
 have Y:=qny hz aa;have I:=qeT (qcc z) w;have F:I64 z->Valid (qcc z).data.toList:=fun h=>qfM (qaL (m:=9223372036854775808) (by have h1:=h.1;have h2:=h.2;omega) (by decide +kernel))
 have hp:Lib.parseIntB 64 (qcc z).data.toList=if -9223372036854775808<=z/\z<=9223372036854775807 then .ok z else .range:=qld z
 obtain⟨s,hs⟩:=qX (qcc z);rw [hs] at Y I F hp ⊢;have HC:=qH I;have O:=qH (qA (show s.size<=281474976710656 by omega) (qA F (qA hp hE)));clear Y I F hp hs hE hz hK;go_enter func216,ntmps216;go_wp2_with fail;refine HC.o.mono ?_;rintro e w2 ⟨c,rfl,h,hb⟩;have J:=qH hb;clear hb HC;rcases h with ⟨rfl,Z⟩ | ⟨rfl,Z⟩
 ·clear Z
  by_cases U:I64 z
  ·have HI:=qH U;have V:=qH (Tryz.strconv_ParseInt_10_at64_ok s (by have:=O.o.1;omega) z (by rw [O.o.2.2.1,if_pos (show -9223372036854775808<=z/\z<=9223372036854775807 from U)]) w2);clear U;go_wp2_with fail;refine V.o.mono ?_;rintro e w3 ⟨rfl,hw⟩;have G:Below w2.heap.size w2 w3:=by
    rcases hw with rfl | ⟨t,rfl⟩
    ·exact Below.refl _ _
    ·exact Lib.bytesWorld_below _ _ _
   have H:=qH (J.o.trans (G.mono J.o.size));clear G hw V;go_wp2_with fail
   go_ret2
   exact⟨H.o,qal ⟨HI.o,rfl⟩⟩
  ·have HI:=qH U;obtain⟨ev,h1,h2⟩:=O.o.2.2.2.below J.o;have V:=qH (Tryz.strconv_ParseInt_10_at64_range s O.o.1 (by rw [O.o.2.2.1,if_neg (show ¬(-9223372036854775808<=z/\z<=9223372036854775807) from U)]) ev w2 h1 h2);clear U h1 h2;go_wp2_with fail;refine V.o.mono ?_;rintro e w3 ⟨N,rfl,_,_,G⟩;have H:=qH (J.o.trans (G.mono J.o.size));clear G V;go_wp2_with fail
   go_ret2
   exact⟨H.o,qag ⟨HI.o,6,by decide,rfl⟩⟩
 ·have HV:=qH Z;clear Z;go_wp2_with fail
  go_ret2
  exact⟨J.o,qag ⟨fun h=>HV.o (O.o.2.1 h),10,by decide,rfl⟩⟩
theorem near_fit {q:Rat} {s K J:Nat} (F:RFit q K) (O:Fit s J):Fit (nearZ q s).natAbs (K+J+3):=by
 have I:Fit 2 1:=by show 2<1000000000 ^ 1;decide
 have G:Fit (q.num*((s*2:Nat):Int)).natAbs (K+J+2):=by rw [qaD,qan];exact (F.1.mul (O.mul I)).mono (by omega)
 have H:Fit ((q.den:Int)).natAbs (K+J+2):=by rw [qan];exact F.2.mono (by omega)
 have g4:Fit (q.num*((s*2:Nat):Int)+(q.den:Int)).natAbs (K+J+3):=(G.add H).le (qbB _ _);rw [qiU];exact g4.le (Int.natAbs_ediv_le_natAbs _ _)
theorem near_q (q:Rat) (s:Nat) (sq:Short q) (ai:(1:Int)<=s) (aj:(s:Int)<=1000000000000) (w:World) (hT:HasT w) (hE:HasE w) :
  Calls prog 157 #[.agg #[.string (ftxt q).1,.string (ftxt q).2],.int .i64 (s:Int)] w fun e w'=>Below w.heap.size w w'/\((I64 (nearZ q s)/\e=.returned (.tuple #[.int .i64 (nearZ q s),.int .i64 0]))\/(¬I64 (nearZ q s)/\e=.returned (.tuple #[.int .i64 0,.int .i64 6]))):=by
 obtain⟨q1,q2,af⟩:=qb6 q;obtain⟨W1,aa,K1⟩:=nw1 w #[.string q1,.string q2] 44;have Rq:=readq sq W1;rw [af] at Rq ⊢;have HR:=qH Rq;have U:=qH (qA (hT.below K1.o.1) (hE.below K1.o.1));have H:IntKind.u64.wrap (s:Int)=s:=by simp [IntKind.wrap,IntKind.bits,IntKind.signed];omega
 have ae:Fit s 3:=qev (by omega);have HW:=qH (qA H ae);clear Rq sq hT hE af H ae;go_enter func157,ntmps157;go_wp2_with fail;rw [<-aa];clear aa;refine HR.o.mono ?_;rintro e w2 ⟨a0,n0,c0,bb0,d0,e0,f0,rfl,hv,hf,G⟩;have K2:=(K1.below G).also (q:=fun W=>RatV W (.agg #[.slice a0 n0 c0,.bool bb0,.slice d0 e0 f0]) q/\HasT W/\HasE W) ⟨hv,U.o.1.below G,U.o.2.below G⟩;have HF:=qH (qA hf (near_fit hf HW.o.2));obtain⟨V2,Y,N2⟩:=nw1 w2 #[.slice a0 n0 c0,.bool bb0,.slice d0 e0 f0] 138;have V:=(K2.below N2.o.1).also (q:=fun W=>W.heap[w2.heap.size]? = some (.cells #[.slice a0 n0 c0,.bool bb0,.slice d0 e0 f0] 138 (0,0))) N2.o.2;clear hv G hf K1 K2 N2 HR U;go_upto_region 6 with fail;rw [<-Y];clear Y;have lt:=(qG V.o.2).1;have r0:=rowC (B:=V2.heap.size) V.o.2 0;have r1:=rowC (B:=V2.heap.size) V.o.2 1;have r2:=rowC (B:=V2.heap.size) V.o.2 2;refine wp_region_held_drew (S:=fun W=>Below V2.heap.size V2 W) (by kernel_rfl) qB.drew (fun hS0=>?_);refine hT 0 (h:=hT 1 (h:=?_));refine hT 2 (v:=.int .u64 (s:Int)) (hy:=by (intro w ag;(try dsimp only at ag);go_simp;rw [HW.o.1])) (h:=?_);refine hC 3 (f:=212) ((qdw .f) s (by omega) V2.drew) (h:=?_);rintro e w3 ⟨x,rfl,G,hx⟩;have K4:=(V.below (qb2 G)).also (q:=fun W=>MagAt W x s) hx;have I:=qH (qb2 G);obtain⟨ax,_,_,cx,nx,_,rfl,_,_⟩:=hx;clear G;refine⟨_,rfl,I.o,hN (h:=?_)⟩;refine hC 4 (near_any q s 67 3 (by decide) _ _ w3 K4.o.1.1.2.1 K4.o.2 HF.o.1 HW.o.2) (h:=?_);rintro e w4 ⟨y,rfl,G,hy⟩;have K5:=(K4.below G).also (q:=fun W=>IntAt W y (nearZ q s)) hy;have J:=qH (I.o.trans (G.mono I.o.size));obtain⟨ay,ny,cy,by',rfl⟩:=qbR hy;clear G;refine⟨_,rfl,J.o,hN (h:=?_)⟩;refine hC 5 (f:=161) ((qe3 .f) (nearZ q s) 73 (by decide) (by decide) _ w4 K5.o.2 HF.o.2 K5.o.1.1.1.2.2.1) (h:=?_);rintro e w5 ⟨rfl,G⟩;have K6:=K5.below G;have O:=qH (J.o.trans (G.mono J.o.size));clear G;refine⟨_,rfl,O.o,hN (h:=?_)⟩;refine hC 6 (intw_any (nearZ q s) 73 (by decide) (by decide) HF.o.2 w5 K6.o.1.1.1.2.2.2) (h:=?_);rintro e w6 ⟨G,h⟩;have F:=qH (O.o.trans (G.mono O.o.size));have K7:=K6.below G;obtain⟨Z,hZ⟩:=qX (nearZ q s);rw [hZ] at h ⊢;have U:=qH hZ;clear G hZ;rcases h with ⟨hi,rfl⟩ | ⟨hi,c,hc,rfl⟩
 ·have HI:=qH hi;clear hi;refine⟨_,rfl,F.o,hN (h:=?_)⟩;refine hT 7 (hS:=F.o) (h:=hT 8 (hS:=F.o) (h:=hT 9 (hS:=F.o) (h:=hT 10 (hS:=F.o) (h:=hT 11 (hS:=F.o) (h:=?_)))));refine wpAnyH_done (by kernel_rfl) ?_ _;go_wp2_with fail
  go_ret2
  exact⟨K7.o.1.1.1.1.1,qal ⟨by rw [U.o];exact HI.o,by rw [U.o];rfl⟩⟩
 ·have HI:=qH hi;have ah:(c != 0)=true:=by rw [bne_iff_ne];exact hc
  clear hi hc;refine⟨_,rfl,F.o,hN (h:=?_)⟩;refine hT 7 (hS:=F.o) (h:=hT 8 (hS:=F.o) (h:=hT 9 (hS:=F.o) (h:=hT 10 (hS:=F.o) (h:=hT 11 (hS:=F.o) (h:=?_)))));refine wpAnyH_done (by kernel_rfl) ?_ _;go_wp2_with fail
  go_ret2
  exact⟨K7.o.1.1.1.1.1,qag ⟨by rw [U.o];exact HI.o,rfl⟩⟩
open Go.ChangeShapes Go.WideShapes Go.ChangeAt
abbrev laidK:List (String×DataW Unit):=[("math/bits.deBruijn32tab", Rows.laid_math_bits_deBruijn32tab),("math/bits.deBruijn64tab", Rows.laid_math_bits_deBruijn64tab),("internal/strconv.uint64pow10", Rows.laid_internal_strconv_uint64pow10),("strconv.ErrRange", Rows.laid_strconv_ErrRange),("strconv.ErrSyntax", Rows.laid_strconv_ErrSyntax)]
theorem Tryz.own:ownKnob Tryz.prog.godebug=none:=by kernel_rfl
theorem datK:(Rows.laid_internal_strconv_uint64pow10:DataW Unit)=Lib.tabData .u64 Lib.pow10Tab:=by kernel_rfl
theorem gK:Tryz.prog.globalNamed "internal/strconv.uint64pow10" = some 1:=by kernel_rfl
theorem tK:(Tryz.prog.globals[1]?).map (·.type)=some 363:=by kernel_rfl
theorem gE:Tryz.prog.globalNamed "strconv.ErrRange" = some 3:=by kernel_rfl
theorem tE:(Tryz.prog.globals[3]?).map (·.type)=some 306:=by kernel_rfl
theorem qmI {W:World} (h:laidMetH prog laidK W):HasT W/\HasE W:=by
 rw [MakeChecks.laidMetH_plain _ _ _ (by kernel_rfl)] at h;obtain⟨ps,⟨_,_,_,_,_,_,_,_,_,_,⟨_,_,_,_,_,_,_,_,_,_,⟨g2,t2,cs2,f2,p2,q2,O,U,Y,F,⟨g3,t3,I,f3,p3,q3,H,V,Z,J,_,_⟩,_⟩,_⟩,_⟩,_⟩:=h;obtain rfl:=qah (gK.symm.trans O);obtain rfl:=qah (tK.symm.trans U);obtain rfl:=qah (gE.symm.trans H);obtain rfl:=qah (tE.symm.trans V)
 constructor
 ·rw [datK] at F;unfold HasT Lib.TabIs;rw [Y,<-Lib.cells_of_tab underlying363 underlying267 (by kernel_rfl) (by kernel_rfl) F]
 ·obtain⟨l3⟩:=I;have G:DataW.trod (fun x=>()) prog W 0 (fun x=>true) false f3 306 l3=some (.iface "*errors.errorString" (.ptr (.agg [.lit (.string [118,97,108,117,101,32,111,117,116,32,111,102,32,114,97,110,103,101])])),p3):=J
  obtain⟨f1,u,v,rfl,_,_⟩:=iface_of_trod underlying306 G;exact⟨.iface u v,by simpa using World.var?_cell H Z 0,.inr ⟨u,v,rfl⟩⟩
section
variable {H:Type} {enc:TypeId×Value->H} {P:Program}
theorem qh3 {f:Func} {s:ChangeSpec} {apart aa G Z:Bool} {W W':World} {args:Array Value} {v:Value} {ds gs:List (DataW H)} {F pa pv:List MemPlace}
  (hW:DataW.Whole enc P f.params.toList s.vars apart W args.toList ds gs F)
  (Y:∀(b:Nat) (sp:Nat->Bool) (hd:Bool),DataW.TrodAll enc P W' b sp hd f.resultTypes.toList (v.resultList f.resultTypes.size) (s.fn H (ds++gs)).results [])
  (I:∀sp:Nat->Bool,(∀p∈F,sp p.block=true)->DataW.TrodAll enc P W' 0 sp true f.params.toList args.toList (s.fn H (ds++gs)).args pa)
  (O:∀sp:Nat->Bool,(∀p∈F,sp p.block=true)->DataW.TrodVars enc P W' sp s.vars (s.fn H (ds++gs)).vars pv)
  (U:F=pa++pv) (hb:Below W.heap.size W W')
  (ag:∀(j:Nat) (t:TypeId) (r:Value),f.resultTypes[j]? = some t->(v.resultList f.resultTypes.size)[j]? = some r->Value.okWide P W' .any 0 t r) :
  s.post enc P f apart aa G Z W args v W':=by
 have af:∀p∈F,p.block<W.heap.size:=fun p J=>hW.lt p J
 have V:∀p∈F,(fun b=>decide (b<W.heap.size)) p.block=true:=fun p J=>by simpa using af p J
 refine⟨ds,gs,F,[],pa,pv,hW,Y _ _ _,I _ V,O _ V,World.keptBut_mono (fun p J=>⟨J,?_⟩) (hb.frame (·∈F)),fun _=>?_⟩
 ·rw [U,qaK] at J;exact qag J
 ·obtain⟨_,_,_,_,_,hz,hn⟩:=hW;refine⟨ag,_,_,([]++pa)++pv,⟨[]++pa,pv,trodAll_append (I _ (fun _ _=>rfl)) (Y _ _ _),O _ (fun _ _=>rfl),rfl,?_,?_⟩,?_⟩
  ·intro b off J;have ae:MemPlace.cell b off∈F:=by rw [U];simpa using J
   rw [hb.frozen (af _ ae)];exact hz b off ae
  ·intro ha;have:=hn ha;rw [U] at this
   simpa using this
  ·intro p J _;rw [U]
   simpa using J
theorem Tryz.laidOut:laidOutB prog=true:=by kernel_rfl
end
theorem jf1:laidOutB prog=true:=by kernel_rfl
theorem jf2:mapsRowed prog=true:=by kernel_rfl
theorem jf3:Tryz.prog.plainKeys=true:=by kernel_rfl
theorem jf4:Tryz.prog.stopsHeard=true:=by kernel_rfl
theorem jf5:Tryz.prog.mayEnter=true:=by kernel_rfl
theorem jf6:(Rows.fitKnownRow.lifted == Tryz.prog.liftsFinal)=true:=by kernel_rfl
theorem jf7:(Tryz.prog.make == some Rows.fitKnownRow.make)=true:=by kernel_rfl
end Go.Proofs.YtplkdeknjghobaaGreatDoor
namespace Go.Proofs.YtplkdeknjghobaaGreatDoor
open Go.RowKit
structure KCells (W:World) (kd:IntKind) (ao:Option Addr) (b off:Nat) (L:List Int):Prop where
 addr:0<L.length->ao=some ⟨b,off,none⟩
 cell:∀k,k<L.length->W.cell? ⟨b,off+k,none⟩=some (.int kd (L.getD k 0))
theorem KCells.below {W W':World} {H:IntKind} {F:Option Addr} {b off:Nat} {L:List Int} (h:KCells W H F b off L) (I:Below W.heap.size W W'):KCells W' H F b off L :=
 ⟨h.addr,fun k G=>(I.cell (qac W _ (h.cell k G))).trans (h.cell k G)⟩
end Go.Proofs.YtplkdeknjghobaaGreatDoor
namespace Go.Proofs.YtplkdeknjghobaaGreatDoor.p4
def mval:List Nat->Nat
 | []=>0
 | d :: l=>d+10000*mval l
theorem qcs (l r:List Nat):mval (l++r)=mval l+10000 ^ l.length*mval r:=by
 induction l with
 | nil=>simp [mval]
 | cons d l ih =>
  simp only [List.cons_append,mval,ih,qbH,qaI];rw [qaT,qax (10000 ^ l.length) 10000,qaz];omega
theorem qfG (l:List Nat) (h:∀d∈l,d<10000):mval l<10000 ^ l.length:=by
 induction l with
 | nil=>simp [mval]
 | cons d l ih =>
  have F:=h d List.mem_cons_self;have G:=ih fun x hx=>h x (List.mem_cons_of_mem _ hx)
  simp only [mval,qbH,qaI];omega
theorem qcP (l:List Nat) (d:Nat):mval (l++[d])=mval l+10000 ^ l.length*d:=by
 rw [qcs];simp [mval]
theorem qhW (l:List Nat) (i d:Nat) (h:i<l.length):mval (l.set i d)+10000 ^ i*l[i]=mval l+10000 ^ i*d:=by
 induction l generalizing i with
 | nil=>exact absurd h (by simp)
 | cons x l ih =>
  cases i with
  | zero=>simp [mval];omega
  | succ i =>
   have F:i<l.length:=by simpa using h
   have:=ih i F;simp only [List.set_cons_succ,mval,List.getElem_cons_succ,qaI];have G:10000 ^ i*10000*l[i]=10000*(10000 ^ i*l[i]):=by rw [qax (10000 ^ i),qaz]
   have H:10000 ^ i*10000*d=10000*(10000 ^ i*d):=by rw [qax (10000 ^ i),qaz]
   omega
def Dig (L:List Nat):Prop:=∀k,L.getD k 0<10000
theorem Dig.mem {L:List Nat} (h:Dig L):∀d∈L,d<10000:=fun d F=>by
 obtain⟨i,G,rfl⟩:=List.getElem_of_mem F;have:=h i
 rwa [qaa,qad G] at this
theorem Dig.of {L:List Nat} (h:∀d∈L,d<10000):Dig L:=fun k=>by
 rw [qaa];cases hk:L[k]? with
 | none=>exact (by decide:0<10000)
 | some x=>exact h x (List.mem_of_getElem? hk)
theorem Dig.nil:Dig []:=Dig.of (by simp)
theorem Dig.snoc {L:List Nat} (h:Dig L) {d:Nat} (F:d<10000):Dig (L++[d]):=Dig.of fun x hx=>by
 rcases qaK.1 hx with hx | hx
 ·exact h.mem x hx
 ·rw [qas.1 hx];exact F
theorem Dig.set {L:List Nat} (h:Dig L) {d:Nat} (F:d<10000) (i:Nat):Dig (L.set i d):=Dig.of fun x hx=>by
 rcases List.mem_or_eq_of_mem_set hx with hx | rfl
 ·exact h.mem x hx
 ·exact F
theorem Dig.take {L:List Nat} (h:Dig L) (n:Nat):Dig (L.take n):=Dig.of fun x hx=>h.mem x (qbG hx)
theorem Dig.drop {L:List Nat} (h:Dig L) (n:Nat):Dig (L.drop n):=Dig.of fun x hx=>h.mem x (List.mem_of_mem_drop hx)
theorem Dig.append {L M:List Nat} (h:Dig L) (F:Dig M):Dig (L++M):=Dig.of fun x hx=>(qaK.1 hx).elim (h.mem x) (F.mem x)
theorem Dig.lt {L:List Nat} (h:Dig L):mval L<10000 ^ L.length:=qfG L h.mem
theorem qeh {L:List Nat} {k:Nat} (h:k<L.length):L[k]? = some (L.getD k 0):=by
 rw [qad h,qaa,qad h];rfl
theorem qdH {L:List Nat} {k:Nat} (h:L.length<=k):L.getD k 0=0:=by
 rw [qaa,qaA h];rfl
theorem qbU (L:List Nat) (k:Nat):mval (L.take (k+1))=mval (L.take k)+10000 ^ k*L.getD k 0:=by
 by_cases h:k<L.length
 ·rw [List.take_add_one,qeh h]
  show mval (L.take k++[L.getD k 0])=_
  rw [qcP,qay,qa7 (qaq h)]
 ·rw [qak (by omega),qak (by omega),qdH (by omega)];simp
theorem qcO (L:List Nat) (k:Nat):mval (L.drop k)=L.getD k 0+10000*mval (L.drop (k+1)):=by
 by_cases h:k<L.length
 ·rw [qbq h];simp only [mval];rw [qaa,qad h];rfl
 ·rw [qba (by omega),qba (by omega),qdH (by omega)];simp [mval]
theorem qdU (L:List Nat) (k:Nat) (F:k<=L.length):mval L=mval (L.take k)+10000 ^ k*mval (L.drop k):=by
 conv=>lhs;rw [<-List.take_append_drop k L]
 rw [qcs,qay,qa7 F]
theorem getD_set_ne {L:List Nat} {i j d:Nat} (h:i≠j):(L.set i d).getD j 0=L.getD j 0:=by
 rw [qaa,qbx h,<-qaa]
theorem qc6 {L:List Nat} {i d:Nat} (h:i<L.length):(L.set i d).getD i 0=d:=by
 rw [qaa,List.getElem?_set_self h];rfl
theorem qcT {L:List Nat} {k d:Nat} (h:k<L.length):mval ((L.set k d).take (k+1))=mval (L.take k)+10000 ^ k*d:=by
 rw [qbU,qc6 h]
 congr 2
 rw [List.take_set_of_le qN]
theorem qde {L:List Nat} {k d:Nat} (h:k<L.length):mval ((L.set k d).drop k)=d+10000*mval (L.drop (k+1)):=by
 rw [qcO,qc6 h,List.drop_set_of_lt (by omega)]
theorem qeB {L:List Nat} {k d:Nat} (h:k<L.length):mval (L.set k d)+10000 ^ k*L.getD k 0=mval L+10000 ^ k*d:=by
 have:=qhW L k d h
 rwa [qaa,qad h]
def Zero (L:List Nat) (n:Nat):Prop:=∀k,n<=k->L.getD k 0=0
theorem Zero.all (L:List Nat):Zero L L.length:=fun _ h=>qdH h
theorem Zero.mono {L:List Nat} {n m:Nat} (h:Zero L n) (G:n<=m):Zero L m:=fun k F=>h k (by omega)
theorem Zero.set {L:List Nat} {n k d:Nat} (h:Zero L n) (G:k<n):Zero (L.set k d) n:=fun j F=>by rw [getD_set_ne (by omega)];exact h j F
theorem Zero.set_succ {L:List Nat} {n d:Nat} (h:Zero L n):Zero (L.set n d) (n+1):=fun j F=>by rw [getD_set_ne (by omega)];exact h j (by omega)
theorem qdq {L:List Nat} {n:Nat} (h:Zero L n):mval (L.drop n)=0:=by
 induction hm:L.length-n generalizing n with
 | zero=>rw [qba (by omega)];rfl
 | succ m ih =>
  rw [qcO,h n qN,ih (h.mono (by omega)) (by omega)]
theorem qcx {L:List Nat} {n:Nat} (h:Zero L n):mval (L.take n)=mval L:=by
 by_cases F:n<=L.length
 ·rw [qdU L n F,qdq h];omega
 ·rw [qak (by omega)]
def Nrm (L:List Nat):Prop:=L.length=0\/L.getD (L.length-1) 0≠0
theorem Nrm.ge {L:List Nat} (h:Nrm L) (G:0<L.length):10000 ^ (L.length-1)<=mval L:=by
 have F:=h.resolve_left (by omega);have e:=qbU L (L.length-1);rw [show L.length-1+1=L.length by omega,qbg] at e;rw [e];exact qaj (Nat.le_mul_of_pos_right _ (qbe F)) (Nat.le_add_left _ _)
theorem Nrm.snoc (L:List Nat) {d:Nat} (h:d≠0):Nrm (L++[d]):=by
 right
 rw [qaf,qaw,Nat.add_sub_cancel,qaa,qao qN,qaJ];exact h
theorem Nrm.zero {L:List Nat} (h:Nrm L):mval L=0↔L.length=0:=by
 constructor
 ·intro e;rcases qaW L.length with h0 | h0
  ·exact h0
  ·have:=h.ge h0;have:=Nat.pow_pos (n:=L.length-1) (show 0<10000 by decide);omega
 ·intro e;rw [List.length_eq_zero_iff.1 e];rfl
theorem Nrm.len {L:List Nat} (h:Nrm L) {n:Nat} (G:mval L<10000 ^ n):L.length<=n:=by
 rcases qaW L.length with h0 | h0
 ·omega
 ·have F:=h.ge h0;have H:=(Nat.pow_lt_pow_iff_right (show 1<10000 by decide)).1 (qaL F G);omega
theorem qf9 {P B x y z s c c' m o:Nat} (H:x+P*c=y+z) (F:s+B*c'=m+c+o):x+P*s+P*B*c'=y+P*m+(z+P*o):=by
 have h:=congrArg (P * ·) F;simp only [qaT] at h;have G:P*B*c'=P*(B*c'):=by simp only [qaz]
 omega
theorem qfq {P B x y z s b F m o:Nat} (I:x+z=y+P*b) (G:s+b+o=m+B*F):x+P*s+(z+P*o)=y+P*m+P*B*F:=by
 have h:=congrArg (P * ·) G;simp only [qaT] at h;have H:P*B*F=P*(B*F):=by simp only [qaz]
 omega
theorem qg4 {A C B x p s c c' d e X Y Z: Nat} (I:Y+A*C*p=x+A*C*s) (J:x+A*C*c=X+A*d*Z) (F:s+B*c'=c+(p+d*e)):Y+A*(C*B)*c'=X+A*d*(Z+C*e):=by
 have h:=congrArg (A*C * ·) F;simp only [qaT] at h ⊢;have G:A*(C*B)*c'=A*C*(B*c'):=by simp only [qaz]
 have H:A*d*(C*e)=A*C*(d*e):=by simp only [qaz,qbt]
 omega
theorem qhZ {A F E G x c d H X Y Z:Nat} (I:Y+E*0=x+E*c) (J:x+E*c=X*Z+A*d*Z):Y+G*0=(X+A*d)*Z+F*H*mval []:=by
 simp only [mval,Nat.mul_zero,qbp,qaG] at *;omega
theorem qgT {B R d r m M q t:Nat} (F:R*d+r=M) (J:d*q+t=r*B+m):(q+B*R)*d+t=m+B*M:=by
 subst F;simp only [qaT,qaG];have G:B*R*d=B*(R*d):=by simp only [qaz]
 have H:q*d=d*q:=qax _ _;have I:r*B=B*r:=qax _ _;omega
structure PlusInv (m o:List Nat) (k:Nat) (L:List Nat) (c:Nat):Prop where
 len:L.length=k
 dig:Dig L
 carry:c<=1
 val:mval L+10000 ^ k*c=mval (m.take k)+mval (o.take k)
theorem PlusInv.step {m o L:List Nat} {k c s c':Nat} (h:PlusInv m o k L c) (G:s<10000) (F:c'<=1) (e:s+10000*c'=m.getD k 0+c+o.getD k 0):PlusInv m o (k+1) (L++[s]) c':=by
 refine⟨by rw [qaf,h.len];rfl,h.dig.snoc G,F,?_⟩;have H:=h.val;rw [qcP,h.len,qbU,qbU,qaI];exact qf9 H e
theorem PlusInv.done {m o L:List Nat} {c:Nat} (h:PlusInv m o m.length L c) (F:o.length<=m.length):mval L+10000 ^ m.length*c=mval m+mval o:=by
 have:=h.val
 rwa [qak qN,qak F] at this
structure MinusInv (m o:List Nat) (k:Nat) (R:List Nat) (b:Nat):Prop where
 len:R.length=m.length
 dig:Dig R
 carry:b<=1
 val:mval (R.take k)+mval (o.take k)=mval (m.take k)+10000 ^ k*b
theorem MinusInv.step {m o R:List Nat} {k b s F:Nat} (h:MinusInv m o k R b) (H:k<m.length) (I:s<10000) (G:F<=1) (e:s+b+o.getD k 0=m.getD k 0+10000*F):MinusInv m o (k+1) (R.set k s) F:=by
 refine⟨by rw [qaC,h.len],h.dig.set I _,G,?_⟩;have J:=h.val;rw [qcT (by rw [h.len];exact H),qbU,qbU,qaI];exact qfq J e
theorem MinusInv.done {m o R:List Nat} {b:Nat} (h:MinusInv m o m.length R b) (H:o.length<=m.length) (G:mval o<=mval m):mval R=mval m-mval o:=by
 have I:=h.val;rw [qak qN,qak H,qak (by rw [h.len];exact qae _)] at I;have F:=h.dig.lt;rw [h.len] at F;have J:=h.carry;rcases (show b=0\/b=1 by omega) with rfl | rfl
 ·omega
 ·omega
structure TimesInv (m o:List Nat) (i j:Nat) (P:List Nat) (c:Nat):Prop where
 len:P.length=m.length+o.length
 dig:Dig P
 carry:c<10000
 zero:Zero P (i+o.length)
 val:mval P+10000 ^ (i+j)*c=mval (m.take i)*mval o+10000 ^ i*m.getD i 0*mval (o.take j)
theorem TimesInv.step {m o P:List Nat} {i j c s c':Nat} (h:TimesInv m o i j P c) (I:i<m.length) (J:j<o.length) (F:s<10000) (H:c'<10000) (e:s+10000*c'=c+(P.getD (i+j) 0+m.getD i 0*o.getD j 0)):TimesInv m o i (j+1) (P.set (i+j) s) c':=by
 refine⟨by rw [qaC,h.len],h.dig.set F _,H,h.zero.set (by omega),?_⟩;have G:=h.val;have F:=qeB (L:=P) (k:=i+j) (d:=s) (by rw [h.len];omega);rw [qbU,Nat.pow_add,qaI];rw [Nat.pow_add] at F G;exact qg4 F G e
theorem TimesInv.next {m o P:List Nat} {i c:Nat} (h:TimesInv m o i o.length P c) (H:i<m.length):TimesInv m o (i+1) 0 (P.set (i+o.length) c) 0:=by
 refine⟨by rw [qaC,h.len],h.dig.set h.carry _,by decide,?_,?_⟩
 ·have:=h.zero.set_succ (d:=c)
  rwa [show i+o.length+1=i+1+o.length by omega] at this
 have G:=h.val;have F:=qeB (L:=P) (k:=i+o.length) (d:=c) (by rw [h.len];omega);rw [h.zero _ qN] at F;rw [qak qN] at G;rw [qbU,List.take_zero];exact qhZ F G
theorem TimesInv.done {m o P:List Nat} {c:Nat} (h:TimesInv m o m.length 0 P c) (G:c=0):mval P=mval m*mval o:=by
 have F:=h.val;subst G;rw [qak qN] at F
 simpa [mval] using F
structure ShortInv (m:List Nat) (d k:Nat) (R:List Nat) (r:Nat):Prop where
 len:R.length=m.length
 dig:Dig R
 rest:r<d
 val:mval (R.drop k)*d+r=mval (m.drop k)
theorem ShortInv.step {m R:List Nat} {d k r:Nat} (h:ShortInv m d (k+1) R r) (G:k<m.length) (H:Dig m):ShortInv m d k (R.set k ((r*10000+m.getD k 0) / d)) ((r*10000+m.getD k 0) % d):=by
 have F:0<d:=by have:=h.rest;omega
 have I:(r*10000+m.getD k 0) / d<10000:=by
  rw [Nat.div_lt_iff_lt_mul F];have J:=H k;have O:=h.rest;have:(r+1)*10000<=d*10000:=qa5 _ (by omega);omega
 refine⟨by rw [qaC,h.len],h.dig.set I _,qbA _ F,?_⟩;rw [qde (by rw [h.len];exact G),qcO m k,<-h.val];have:=Nat.div_add_mod (r*10000+m.getD k 0) d;exact qgT rfl this
theorem ShortInv.done {m R:List Nat} {d r:Nat} (h:ShortInv m d 0 R r):mval R=mval m / d/\r=mval m % d:=by
 have G:=h.val;simp only [List.drop_zero] at G;have F:=h.rest;rw [<-G]
 constructor
 ·rw [qax,Nat.mul_add_div (by omega),Nat.div_eq_of_lt F];rfl
 ·rw [qax,Nat.mul_add_mod,Nat.mod_eq_of_lt F]
