import Derived.Test.YtjalhnlhcdfncaaGreatDoorBk16
import Derived.Test.YtjalhnlhcdfncaaGreatDoorBk17
import Derived.WalkMore
set_option maxRecDepth 100000
set_option maxHeartbeats 0
namespace Go.Proofs.YtjalhnlhcdfncaaGreatDoor
open Go.RowKit
def gR (n:Nat) (f:Nat->Nat->Rat) (b:Nat->Rat) (i c:Nat):Rat:=if c<n then f i c else b i
def normR (R n:Nat) (f:Nat->Nat->Rat) (b w:Nat->Rat) (r c:Nat):Rat:=sumQ R fun i=>w i*(gR n f b i r*gR n f b i c)
theorem qhY {R n:Nat} {f:Nat->Nat->Rat} {b:Nat->Rat} {i:Nat} (F:i<R):besides (ttab R n f) (told R b) i=told n (f i)++[ftxt (b i)]:=by
 unfold besides;rw [qem F,qdB F]
theorem qfK {R n:Nat} {f:Nat->Nat->Rat} {b:Nat->Rat} {i c:Nat} (F:i<R) (G:c<=n):lval (besides (ttab R n f) (told R b) i) c=gR n f b i c:=by
 rw [qhY F];unfold gR
 by_cases h:c<n
 ·rw [if_pos h,qgm (by rw [qbQ];exact h),qcI h]
 ·obtain rfl:c=n:=by omega
  rw [if_neg h];have:=qgl (l:=told c (f i)) (x:=ftxt (b i));rw [qbQ] at this;rw [this,qdN]
theorem qhg {R n:Nat} {f:Nat->Nat->Rat} {b w:Nat->Rat} {r c:Nat} (hr:r<=n) (G:c<=n):normQ (ttab R n f) (told R b) (told R w) R r c=normR R n f b w r c :=
 qbS fun i F=>by rw [qcI F,qfK F hr,qfK F G]
theorem qkI {R n:Nat} {f:Nat->Nat->Rat} {b w x:Nat->Rat}:measQ (ttab R n f) (told R b) (told R w) (told n x) n R=msR R n f b w x :=
 qbS fun i F=>by
  have:resQ (ttab R n f) (told R b) (told n x) n i=resR n f b x i:=by
   unfold resQ resR;rw [qcI F]
   congr 1
   exact qbS fun j G=>by rw [ttab_val F G,qcI G]
  rw [qcI F,this]
def qf5 (R n:Nat) (f:Nat->Nat->Rat) (b w:Nat->Rat) (e:Ending) (w':World):Prop :=
 (Sing n (normR R n f b w)/\e=.returned (.tuple #[.slice none 0 0,.int .i64 7]))\/(¬Sing n (normR R n f b w)/\∃x,qcv n (normR R n f b w) (fun r=>normR R n f b w r n) x/\Tells n x e w')
theorem qj1 {R:Nat} {w:Nat->Rat} (h:∀i,i<R->0<=w i):¬Neg (told R w):=by
 rintro ⟨k,F,G⟩;rw [qbQ] at F;rw [qdB F,show (ftxt (w k)).1.data.toList=itxt (w k).num from rfl,qdu] at G;have:=Rat.num_nonneg.2 (h k F);omega
theorem qf4.told {O:World} {R n:Nat} {f:Nat->Nat->Rat} {b w:Nat->Rat} {e:Ending} {w':World} (h:qf4 O (ttab R n f) (told R b) (told R w) e w') (U:1<=R) (Y:R<=40) (Z:1<=n) (h4:n<=10) (hf:∀i,i<R->qbP n (f i)) (hb:qbP R b) (hw:qbP R w) (J:∀i,i<R->0<=w i):qf5 R n f b w e w'/\Below O.heap.size O w':=by
 have hT:=qmS U Y Z h4 hf;refine⟨?_,h.2⟩;rcases h.1 with h | h | h | h
 ·exact absurd hT h.1
 ·exact absurd ⟨qcS hb,qcS hw⟩ h.2.1
 ·exact absurd ⟨by rw [qbQ,qcx],by rw [qbQ,qcx],qj1 J⟩ h.2.2.2.1
 ·have V:=h.2.2.2.2.2.2;rw [qeA U,qcx] at V;have F:∀r,r<n->∀c,c<n->normQ (ttab R n f) (Go.Proofs.YtjalhnlhcdfncaaGreatDoor.told R b) (Go.Proofs.YtjalhnlhcdfncaaGreatDoor.told R w) R r c=normR R n f b w r c:=fun r hr c F=>qhg (by omega) (by omega)
  rcases V with ⟨H,he⟩ | ⟨H,x,hx,ht⟩
  ·exact qav ⟨H.congr F,he⟩
  ·exact qaj ⟨fun I=>H (I.congr fun r hr c G=>(F r hr c G).symm),x,hx.congr F (fun r hr=>qhg (by omega) qN) (fun _ _=>rfl),ht⟩
open Go.Lib Go.Proofs.Tryz
def fv (l:List Rat) (i:Nat):Rat:=l.getD i 0
def fm (t:List (List Rat)) (i j:Nat):Rat:=(t.getD i []).getD j 0
theorem num_lt {u:Nat} (h:u<10):num u=⟨#[UInt8.ofNat (48+u)]⟩:=by
 unfold num;rw [qbX h]
theorem qei {n:Nat} {A:Nat->Nat->Rat} (B:Nat->Nat->Rat) (h:∀k,k<n->∀j,j<n->sumQ n (fun i=>B k i*A i j)=if k=j then 1 else 0):¬Sing n A:=by
 rintro ⟨y,⟨k,G,V⟩,H⟩;apply V;have e:sumQ n (fun i=>B k i*sumQ n fun j=>A i j*y j)=y k:=by
  have I:sumQ n (fun i=>B k i*sumQ n fun j=>A i j*y j)=sumQ n fun i=>sumQ n fun j=>y j*(B k i*A i j):=qbS fun i _=>by
   rw [<-qcc];exact qbS fun j _=>by grind
  rw [I,qek];have J:sumQ n (fun j=>sumQ n fun i=>y j*(B k i*A i j))=sumQ n fun j=>y j*(if k=j then 1 else 0):=qbS fun j U=>by rw [qcc,h k G j U]
  rw [J,qda n k _ G fun j _ F=>by rw [if_neg (fun h=>F h.symm)];grind];rw [if_pos rfl];grind
 rw [<-e];exact qcN _ _ fun i O=>by rw [H i O];grind
theorem qjB.told {H:World} {R n:Nat} {f:Nat->Nat->Rat} {b w x:Nat->Rat} {e:Ending} {w':World} (h:qjB H (ttab R n f) (told R b) (told R w) (told n x) e w') (F:1<=R) (J:R<=40) (O:1<=n) (U:n<=10) (Y:∀i,i<R->qbP n (f i)) (V:qbP R b) (Z:qbP R w) (hx:qbP n x) (G:∀i,i<R->0<=w i) :
  (Short (msR R n f b w x)/\e=.returned (.tuple #[fstr (msR R n f b w x),.int .i64 0])\/¬Short (msR R n f b w x)/\e=.returned (.tuple #[.agg #[.string ⟨#[]⟩,.string ⟨#[]⟩],.int .i64 6]))/\Below H.heap.size H w':=by
 have hT:=qmS F J O U Y;refine⟨?_,h.2⟩;rcases h.1 with h | h | h | h
 ·exact absurd hT h.1
 ·exact absurd ⟨qcS V,qcS Z,qcS hx⟩ h.2.1
 ·exact absurd ⟨by rw [qbQ,qcx],by rw [qbQ,qcx],by rw [qbQ,qeA F],qj1 G⟩ h.2.2.2.2.1
 ·have I:=h.2.2.2.2.2.2.2.2;rw [qeA F,qcx,qkI] at I;exact I
theorem qgE {q:Rat} (h:q.num.natAbs<10/\q.den<10):Short q:=⟨by rw [num_lt h.1];exact (by decide:1<=600),by rw [num_lt h.2];exact (by decide:1<=600)⟩
theorem qcQ {n:Nat} {x:Nat->Rat} (h:∀i,i<n->(x i).num.natAbs<=1000/\(x i).den<=1000):qbP n x:=fun i F=>qc9 (N:=1000) (h i F) (by decide +kernel)
theorem qiN {n m:Nat} {f:Nat->Nat->Rat} (G:m<=1000):∀k,k<n->((ttab n m f).getD k []).length<=4611686018427387904:=fun k F=>by rw [qem F,qbQ];omega
theorem qlT {R n:Nat} {f:Nat->Nat->Rat} {b v:Nat->Rat} {H:Option Addr} {g c:Nat} {F:Option Addr} {O c2:Nat} {G:Option Addr} {U c3:Nat} {w:World} (V:1<=R) (Y:R<=40) (Z:1<=n) (h4:n<=10) (hf:∀i,i<R->qbP n (f i)) (hb:qbP R b) (hv:qbP R v) (J:∀i,i<R->0<=v i) (hT:TCells w H g 0 (ttab R n f)) (hF:FCells w F O 0 (told R b)) (I:FCells w G U 0 (told R v)) (hP:HasT w) :
  Calls prog 117 #[.slice H R c,.slice F R c2,.slice G R c3] w fun e w'=>qf5 R n f b v e w'/\Below w.heap.size w w' :=
 (qkF H g 0 R c _ F O 0 R c2 _ G U 0 R c3 _ w (qcx _ _ _) (by omega) (qiN (by omega)) hT (qbQ _ _) (by omega) hF (qbQ _ _) (by omega) I hP).mono fun _ _ h=>h.told V Y Z h4 hf hb hv J
theorem qju {kind:Nat} {d:List Int} (I:kind=1\/kind=2\/kind=3) (H:qeC d) (_h4:d.length<=4) (Y:kind=3->d.length<=3):∀p∈termL kind d,Short p:=by
 have O:∀k,Short (dq d k):=fun k=>(dq_cd H k).short (by decide) (by decide +kernel) (by decide +kernel)
 have U:∀k,Short (dq d k*dq d k):=fun k=>((dq_cd H k).mul (dq_cd H k) (by decide) (by decide)).short (by decide) (by decide +kernel) (by decide +kernel)
 have J:∀k,k<=3->∀p∈prods d k,Short p:=fun k I p F=>(qfi (by decide) (dq_cd H) k p F).short (qbf (Nat.pow_pos (by decide))) (qaX (qaZ (by decide) I) qjG) (qaX (qaZ (by decide) I) qjG)
 have V:Short 1:=qgE ⟨by decide,by decide⟩;have G:∀p∈lin d,Short p:=fun p F=>by
  unfold lin at F;rcases qay.1 F with rfl | F
  ·exact V
  ·obtain⟨j,_,rfl⟩:=qbl.1 F;exact O j
 rcases I with rfl | rfl | rfl
 ·exact G
 ·intro p F;rw [qmL] at F;rcases qaG.1 F with F | F
  ·exact G p F
  ·unfold sqs at F;obtain⟨j,_,rfl⟩:=qbl.1 F;exact U j
 ·intro p F;rw [qmM] at F;exact J _ (Y rfl) p F
theorem qmN {kind:Nat} {d:List Int} {j:Nat} (F:j<many kind d.length):termQ kind d j∈termL kind d:=by
 unfold termQ;rw [qab,qad (by rw [qgL];exact F)];exact qbG _
theorem PtsOk.terms {l:List Pt} (h:PtsOk l) {k:Nat} {kind:Int} (O:qcG kind k) (U:¬(k=3/\chans l=4)):∀i,i<l.length->qbP (many k (chans l)) (tqf l k i):=fun i I j J=>by
 obtain⟨F,G⟩:=h.rows i I;have H:=F.n4;refine qju (by obtain⟨_,a,b⟩:=O;omega) F.vals H (fun e=>by have:=h.n4;omega) _ (qmN (by rw [G];exact J))
theorem PtsOk.labs {l:List Pt} (h:PtsOk l) {c:Nat}:qbP l.length (labq l c):=fun i H=>by
 have F:=(h.rows i H).1;have:=F.l0;have:=F.l1;have:=F.l2;have G:((l.getD i pt0).lab c).natAbs<1000000000000000000000:=by unfold Pt.lab;(repeat' split) <;> omega
 exact qgx (d:=100) (by decide) G (by decide)
theorem PtsOk.bound {l:List Pt} (h:PtsOk l) (c:Nat):∀k,k<l.length->-9223372036854775808<=(l.getD k pt0).lab c/\(l.getD k pt0).lab c<=9223372036854775807:=fun i G=>by
 have F:=(h.rows i G).1;have:=F.l0;have:=F.l1;have:=F.l2;unfold Pt.lab;(repeat' split) <;> omega
theorem WOk.short {F:List Int} (h:WOk F):qbP F.length (wq F):=fun i G=>by
 obtain⟨H,I⟩:=h i G;have:Short ((F.getD i 0:Int) / ((1:Int):Rat)):=qgx (d:=1) (by decide) (by omega) (by decide);rw [show ((1:Int):Rat)=1 from rfl,Rat.div_def,show (1:Rat)⁻¹=1 by decide +kernel,Rat.mul_one] at this;exact this
theorem WOk.pos {F:List Int} (h:WOk F):∀i,i<F.length->0<=wq F i:=fun i G=>by unfold wq;exact Rat.intCast_nonneg.2 (h i G).1
theorem qfv {k n:Nat} {kind:Int} (F:qcG kind k) (G:1<=n) (I:n<=4) (H:¬(k=3/\n=4)):1<=many k n/\many k n<=10:=by
 obtain⟨_,a,b⟩:=F;unfold many;rcases (show k=1\/k=2\/k=3 by omega) with rfl | rfl | rfl
 ·simp;omega
 ·simp;omega
 ·rcases (show n=1\/n=2\/n=3 by omega) with rfl | rfl | rfl <;> decide
def nq (l:List Pt) (k:Nat) (F:List Int) (c:Nat):Nat->Nat->Rat:=normR l.length (many k (chans l)) (tqf l k) (labq l c) (wq F)
theorem qfy {l:List Pt} {k:Nat} {H:List Int} {c c':Nat} (h:Sing (many k (chans l)) (nq l k H c)):Sing (many k (chans l)) (nq l k H c'):=h.congr fun i F j G=>by
 unfold nq normR;refine qbS fun r _=>?_
 unfold gR;rw [if_pos F,if_pos G,if_pos F,if_pos G]
def FitX (l:List Pt) (k:Nat) (F:List Int) (c:Nat) (x:Nat->Rat):Prop:=qcv (many k (chans l)) (nq l k F c) (fun r=>nq l k F c r (many k (chans l))) x
def FitG (l:List Pt) (kind:Int) (F:List Int) (W:World) (v:Value):Prop :=
 PtsOk l/\F.length=l.length/\WOk F/\∃k,qcG kind k/\¬(k=3/\chans l=4)/\¬Sing (many k (chans l)) (nq l k F 0) /\
  ∃x:Nat->Nat->Rat,(∀c,c<3->FitX l k F c (x c)/\qbP (many k (chans l)) (x c))/\MdAt W v (mdq k (chans l) (many k (chans l)) x)
def FitF (l:List Pt) (kind:Int) (F:List Int) (e:Int):Prop :=
 (¬PtsOk l/\e=310)\/(PtsOk l/\¬((∃k,qcG kind k)/\F.length=l.length/\WOk F)/\e=2) \/
 (PtsOk l/\F.length=l.length/\WOk F/\∃k,qcG kind k/\((k=3/\chans l=4/\e=5)\/(¬(k=3/\chans l=4) /\
  ((Sing (many k (chans l)) (nq l k F 0)/\e=7)\/(¬Sing (many k (chans l)) (nq l k F 0)/\∃c x,c<3/\FitX l k F c x/\¬qbP (many k (chans l)) x/\e=6)))))
def FitAs (w:World) (l:List Pt) (kind:Int) (F:List Int) (e:Ending) (w':World):Prop :=
 Below w.heap.size w w'/\((∃v,e=.returned (.tuple #[v,.int .i64 0])/\FitG l kind F w' v)\/∃c,e=.returned (.tuple #[mdv0,.int .i64 c])/\FitF l kind F c)
end Go.Proofs.YtjalhnlhcdfncaaGreatDoor
namespace Go.Proofs.YtjalhnlhcdfncaaGreatDoor
open Go.RowKit Go.Proofs.Tryz
theorem qlh (kind:Int) (k n:Nat) (F:qcG kind k) (G:1<=n) (H:n<=4) (w:World):Calls prog 208 #[.int .i64 kind,.int .i64 (n:Int)] w fun e w'=>e=.returned (.int .i64 (many k n:Nat))/\w=w':=by
 rcases qg7 F with ⟨rfl,rfl⟩ | ⟨rfl,rfl⟩ | ⟨rfl,rfl⟩
 all_goals
  rcases (show n=1\/n=2\/n=3\/n=4 by omega) with rfl | rfl | rfl | rfl
  all_goals
   clear G H F;go_enter func208,ntmps208;go_wp2;go_ret;exact⟨rfl,rfl⟩
def qdF (m:Md):Prop:=∃k n,MdOk m k n
theorem MdAt.parts {W:World} {v:Value} {m:Md} (h:MdAt W v m):∃(a:Nat->Option Addr) (b o c:Nat->Nat),v=.agg #[.int .i64 m.kind,.int .i64 m.inn,.slice (a 0) (m.row 0).length (c 0),.slice (a 1) (m.row 1).length (c 1),.slice (a 2) (m.row 2).length (c 2)]/\∀q,q<3->FCells W (a q) (b q) (o q) (m.row q):=by
 obtain⟨a0,a1,a2,b0,o0,c0,b1,o1,c1,b2,o2,c2,rfl,F,G,H⟩:=h;refine⟨fun q=>if q=0 then a0 else if q=1 then a1 else a2,fun q=>if q=0 then b0 else if q=1 then b1 else b2,fun q=>if q=0 then o0 else if q=1 then o1 else o2,fun q=>if q=0 then c0 else if q=1 then c1 else c2,rfl,fun q I=>?_⟩;rcases (show q=0\/q=1\/q=2 by omega) with rfl | rfl | rfl
 ·exact F
 ·exact G
 ·exact H
theorem qkH (m:Md) (v:Value) (w:World) (hM:MdAt w v m) (hl:∀q,q<3->(m.row q).length<=4611686018427387904):Calls prog 142 #[v] w fun e w'=>qeT w (qdF m) 320 e w':=by
 obtain⟨a,b,o,c,rfl,hF⟩:=hM.parts;obtain⟨kind,H⟩:∃z,m.kind=z:=⟨_,rfl⟩;obtain⟨inn,V⟩:∃z,m.inn=z:=⟨_,rfl⟩;rw [H,V];obtain⟨L,hL⟩:∃L:Nat->Nat,∀q,(m.row q).length=L q:=⟨_,fun _=>rfl⟩;rw [hL,hL,hL];obtain⟨W1,ax,O⟩:=nw1 w #[.int .i64 kind,.int .i64 inn,.slice (a 0) (L 0) (c 0),.slice (a 1) (L 1) (c 1),.slice (a 2) (L 2) (c 2)] 46;have c0:=qC _ _ 0 _ _ _ O.o.2;have c1:=qC _ _ 1 _ _ _ O.o.2;have c2:=qC _ _ 2 _ _ _ O.o.2;have c3:=qC _ _ 3 _ _ _ O.o.2;have c4:=qC _ _ 4 _ _ _ O.o.2;have J:=qH (qA H (qA V (qA hl (fun q hq=>(hF q hq).below O.o.1))));have aF:=qH hL;have F:=qH O.o.1;clear hM hF hl H V hL;go_enter func142,ntmps142;go_upto_region 1 with fail;rw [<-ax];clear ax
 go_step3
 go_wp2_with fail;refine (qid kind W1).mono ?_;rintro e w2 ⟨rfl,hw⟩;subst hw
 by_cases Y:1<=kind/\kind<=3
 case neg =>
  rw [qU Y];have HN:=qH Y;clear Y;go_wp2;go_ret;exact⟨320,rfl,qaj ⟨rfl,fun⟨k,n,h⟩=>HN.o (by have:=h.kind.1;have:=h.kind.2;have:=J.o.1;omega)⟩,F.o⟩
 obtain⟨k,aB⟩:∃k,qcG kind k:=⟨kind.toNat,by omega,by omega,by omega⟩;rw [qV Y];have Hk:=qH aB;clear aB Y
 by_cases ai:1<=inn/\inn<=4
 case neg =>
  have HN:=qH ai
  by_cases h1:inn<1
  ·clear ai;go_wp2;go_ret;exact⟨320,rfl,qaj ⟨rfl,fun⟨k,n,h⟩=>HN.o (by have:=h.inn;have:=J.o.2.1;omega)⟩,F.o⟩
  ·have h2:4<inn:=by omega
   clear ai;go_wp2;go_ret;exact⟨320,rfl,qaj ⟨rfl,fun⟨k,n,h⟩=>HN.o (by have:=h.inn;have:=J.o.2.1;omega)⟩,F.o⟩
 obtain⟨n,hn⟩:∃n:Nat,inn=n:=⟨inn.toNat,by omega⟩;subst hn;have aP:¬(n:Int)<1:=by omega
 have aR:¬4<(n:Int):=by omega
 by_cases af:kind=3/\n=4
 ·obtain⟨h3,h4⟩:=af;subst h3 h4;go_wp2;go_ret;exact⟨320,rfl,qaj ⟨rfl,fun⟨k',n',h⟩=>h.both ⟨by have:=h.kind.1;have:=J.o.1;omega,by have:=h.inn;have:=J.o.2.1;omega⟩⟩,F.o⟩
 have aG:=qH af;go_upto_region 3 with fail
 go_cut [29] (fun x29 W=>x29=.bool false/\Hu (W=W1))
 case first =>
  by_cases h3:kind=3
  ·have aQ:¬(3:Int)<n:=fun h=>af ⟨h3,by omega⟩
   subst h3;go_wp2;go_meet;exact⟨rfl,qH rfl⟩
  ·go_wp2;go_meet;exact⟨rfl,qH rfl⟩
 case rest =>
  obtain⟨rfl,ah⟩:=hcut;have ah:=ah.o.symm;subst ah;clear af;go_wp2_with fail
  go_step3
  go_wp2_with fail
  go_loopw [3,32] (fun x3 x32 W=>x3=.bool true/\∃j:Nat,x32=.int .i64 j/\j<=3/\Hu ((∀q,q<j->(m.row q).length=many k n/\FAll (m.row q))/\Below W1.heap.size W1 W)) (fun _ x32 _=>3-(intOf x32).toNat)
  case atStart=>exact⟨rfl,0,rfl,qan _,qH ⟨fun q hq=>absurd hq (qbb _),Below.refl _ _⟩⟩
  case round =>
   obtain⟨rfl,j,rfl,hj,hI⟩:=hrel
   by_cases ak:j<3
   ·have aN:(j:Int)<3:=by omega
    obtain⟨row,G⟩:∃r,m.row j=r:=⟨_,rfl⟩;obtain⟨aj,U⟩:∃r,a j=r:=⟨_,rfl⟩;obtain⟨bj,az⟩:∃r,b j=r:=⟨_,rfl⟩;obtain⟨oj,aC⟩:∃r,o j=r:=⟨_,rfl⟩;obtain⟨cj,ag⟩:∃r,c j=r:=⟨_,rfl⟩;obtain⟨I,Z⟩:∃r,L j=r:=⟨_,rfl⟩;have hF:=J.o.2.2.2 j ak;rw [G,U,az,aC] at hF;have au:row.length=I:=by rw [<-G,aF.o,Z]
    have aO:I<=4611686018427387904:=by rw [<-au,<-G];exact J.o.2.2.1 j ak
    have HR:=qH (qA G au);have HF:=qH hF;have HI:=qH hI.o;obtain⟨wo,aK⟩:=qY wr;have hB:=hI.o.2;have d0:=(rowC (B:=W1.heap.size) O.o.2 0 (hg:=by have:=(qG O.o.2).1;exact this)) _ hB;have d1:=(rowC (B:=W1.heap.size) O.o.2 1 (hg:=by have:=(qG O.o.2).1;exact this)) _ hB;have aA:(j=0/\a 0=aj/\L 0=I/\c 0=cj)\/(j=1/\a 1=aj/\L 1=I/\c 1=cj)\/(j=2/\a 2=aj/\L 2=I/\c 2=cj):=by
     rcases (show j=0\/j=1\/j=2 by omega) with rfl | rfl | rfl
     ·exact qav ⟨rfl,U,Z,ag⟩
     ·exact qaj (qav ⟨rfl,U,Z,ag⟩)
     ·exact qaj (qaj ⟨rfl,U,Z,ag⟩)
    have HJ:=qH ak;have aS:∀W,(Instr.index 44 (.agg #[.slice (a 0) (L 0) (c 0),.slice (a 1) (L 1) (c 1),.slice (a 2) (L 2) (c 2)]) (.int .i64 (j:Int))).run prog W=.ok (.slice aj I cj) W:=fun W=>by
     rcases aA with ⟨rfl,h1,h2,h3⟩ | ⟨rfl,h1,h2,h3⟩ | ⟨rfl,h1,h2,h3⟩
     all_goals
      rw [<-h1,<-h2,<-h3]
      kernel_rfl
    clear hI hF G au U az aC ag Z hB aA;subst aK;go_wp2_with fail;refine (qlh kind k n Hk.o (by omega) (by omega) _).mono ?_;rintro e w5 ⟨rfl,hw⟩;subst hw
    by_cases aa:I=many k n
    case neg =>
     have hne:((I:Int) != ((many k n:Nat):Int))=true:=by rw [bne_iff_ne];omega
     have aH:=qH aa;clear aa;go_wp2;go_ret;exact⟨320,rfl,qaj ⟨rfl,fun⟨k',n',h⟩=>aH.o (by
      have h1:=(h.rows j HJ.o).1;have h2:=h.kind.1;have h3:=h.inn.1;have h4:=J.o.1;have h5:=J.o.2.1;have h6:=Hk.o.1;obtain rfl:k'=k:=by omega
      obtain rfl:n'=n:=by omega
      rw [<-h1,HR.o.1,HR.o.2])⟩,F.o.trans (HI.o.2.mono F.o.size)⟩
    have hne:((I:Int) != ((many k n:Nat):Int))=false:=by simp [aa]
    have aD:=qH aa;clear aa;go_wp2_with fail
    go_loopw [3,45] (fun x3 x45 W=>x3=.bool true/\∃i:Nat,x45=.int .i64 i/\i<=I/\Hu ((∀q,q<i->FOk (row.getD q fd0).1.data.toList (row.getD q fd0).2.data.toList)/\Below wo.heap.size wo W)) (fun _ x45 _=>I-(intOf x45).toNat)
    case atStart=>exact⟨rfl,0,rfl,qan _,qH ⟨fun q hq=>absurd hq (qbb _),Below.refl _ _⟩⟩
    case round =>
     obtain⟨rfl,i,rfl,aM,hJ⟩:=hrel
     by_cases hi:i<I
     ·have aL:(i:Int)<I:=by omega
      have aI:=HF.o.addr (by have:=HR.o.2;omega);subst aI;obtain⟨e0,e1⟩:=(HF.o.below (HI.o.2.trans (hJ.o.2.mono HI.o.2.size))).cell i (by have:=HR.o.2;omega);obtain⟨N,hN⟩:=qX ((row.getD i fd0).1);obtain⟨D,hD⟩:=qX ((row.getD i fd0).2);rw [hN] at e0;rw [hD] at e1;have ae:=qH (qA hN hD);clear hN hD;go_wp2_with fail;refine (qep N D _).mono ?_;rintro e w5 ⟨cc,rfl,aJ,ay⟩;have av:=qH (hJ.o.2.trans ((qB.alloc qN _ |>.trans (ay.mono (by simp only [qaa];omega))).mono hJ.o.2.size));clear ay;rcases aJ with ⟨rfl,hf⟩ | ⟨rfl,hf⟩
      ·have Hf:=qH hf;clear hf;go_wp2;go_roundw
       case rel =>
        refine⟨rfl,i+1,by go_num,hi,qH ⟨fun q hq=>?_,av.o⟩⟩;rcases qaV q i with h | h
        ·exact hJ.o.1 q h
        ·obtain rfl:q=i:=by omega
         rw [ae.o.1,ae.o.2];exact Hf.o
       case measure=>simp [intOf];omega
      ·have Hf:=qH hf;clear hf;go_wp2;go_ret;exact⟨320,rfl,qaj ⟨rfl,fun⟨k',n',h⟩=>Hf.o (by
        have h1:=(h.rows j HJ.o).2 i (by rw [HR.o.1,HR.o.2];exact hi);rw [HR.o.1,ae.o.1,ae.o.2] at h1;exact h1)⟩,F.o.trans ((HI.o.2.trans (av.o.mono HI.o.2.size)).mono F.o.size)⟩
     ·obtain rfl:i=I:=by omega
      go_wp2;go_roundw
      case rel =>
       refine⟨rfl,j+1,by go_num,HJ.o,qH ⟨fun q hq=>?_,HI.o.2.trans (hJ.o.2.mono HI.o.2.size)⟩⟩;rcases qaV q j with h | h
       ·exact HI.o.1 q h
       ·obtain rfl:q=j:=by omega
        rw [HR.o.1];exact⟨HR.o.2.trans aD.o,fun x hx=>hJ.o.1 x (by rw [HR.o.2] at hx;exact hx)⟩
      case measure=>simp [intOf];omega
   ·obtain rfl:j=3:=by omega
    go_wp2;go_ret;exact⟨0,rfl,qav ⟨rfl,k,n,⟨by rw [J.o.1];exact Hk.o,⟨J.o.2.1,by omega,by omega⟩,fun h=>aG.o ⟨by have:=Hk.o.1;omega,h.2⟩,fun q hq=>hI.o.1 q hq⟩⟩,F.o.trans (hI.o.2.mono F.o.size)⟩
