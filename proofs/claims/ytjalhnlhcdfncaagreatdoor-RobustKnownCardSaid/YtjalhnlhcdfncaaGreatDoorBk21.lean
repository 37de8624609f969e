import Derived.Test.YtjalhnlhcdfncaaGreatDoorBk20
set_option maxRecDepth 100000
set_option maxHeartbeats 0
namespace Go.Proofs.YtjalhnlhcdfncaaGreatDoor
open Go.RowKit Go.Proofs.Tryz
def SqG (m:Md) (l:List Pt) (W:World) (v:Value):Prop:=PtsOk l/\∃F,MdOk m F (chans l)/\qbP l.length (sqq m l F)/\SlF l.length (sqq m l F) v W
def SqF (m:Md) (l:List Pt) (e:Int):Prop :=
 (¬qdF m/\e=320)\/(qdF m/\¬PtsOk l/\e=310)\/(qdF m/\PtsOk l/\m.inn≠(chans l:Nat)/\e=5) \/
 (PtsOk l/\e=6/\∃F,MdOk m F (chans l)/\¬qbP l.length (sqq m l F))
theorem sq1_any (m:Md) (R pb mb b aa c:Nat) (ao:Option Addr) (l:List Pt) (a:Nat->Option Addr) (b' o d:Nat->Nat) (ty:TypeId) (w:World) (hR:l.length=R) (hl:R<=4611686018427387904) (hs:∀k,k<R->(l.getD k pt0).name.size<=4611686018427387904/\(l.getD k pt0).dev.length<=4611686018427387904) (aA:∀q,q<3->(m.row q).length<=4611686018427387904)
  (ag:w.heap[pb]? = some (.cells #[.slice ao R c] ty (0,0))) (G:w.heap[mb]? = some (.cells #[.int .i64 m.kind,.int .i64 m.inn,.slice (a 0) (m.row 0).length (d 0),.slice (a 1) (m.row 1).length (d 1),.slice (a 2) (m.row 2).length (d 2)] 46 (0,0))) (hF:∀q,q<3->FCells w (a q) (b' q) (o q) (m.row q))
  (hP:PCells w ao b aa l) (hT:HasT w) :
  Calls prog 86 #[.pointer (some ⟨mb,0,none⟩),.pointer (some ⟨pb,0,none⟩)] w fun e w'=>Below w.heap.size w w' /\
   ((∃(p:Option Addr) (n c:Nat),e=.returned (.slice p n c)/\SqG m l w' (.slice p n c))\/∃c,e=thrown c/\SqF m l c):=by
 have hM:MdAt w (.agg #[.int .i64 m.kind,.int .i64 m.inn,.slice (a 0) (m.row 0).length (d 0),.slice (a 1) (m.row 1).length (d 1),.slice (a 2) (m.row 2).length (d 2)]) m :=
  ⟨_,_,_,_,_,_,_,_,_,_,_,_,rfl,hF 0 (by decide),hF 1 (by decide),hF 2 (by decide)⟩
 have ae:=ql4 m _ R b aa c ao l w hM aA hR hl hs hP;obtain⟨kind,I⟩:∃z,m.kind=z:=⟨_,rfl⟩;obtain⟨inn,V⟩:∃z,m.inn=z:=⟨_,rfl⟩;obtain⟨L,hL⟩:∃L:Nat->Nat,∀q,(m.row q).length=L q:=⟨_,fun _=>rfl⟩;rw [I,V,hL,hL,hL] at G ae;have ai:=qH ae;have c0:=qC _ _ 0 _ _ _ G;have c1:=qC _ _ 1 _ _ _ G;have c2:=qC _ _ 2 _ _ _ G;have c3:=qC _ _ 3 _ _ _ G;have c4:=qC _ _ 4 _ _ _ G;have p0:=qC _ _ 0 _ _ _ ag;have K0:Kn (fun W=>Below w.heap.size w W/\W.heap[mb]? = some (.cells #[.int .i64 kind,.int .i64 inn,.slice (a 0) (L 0) (d 0),.slice (a 1) (L 1) (d 1),.slice (a 2) (L 2) (d 2)] 46 (0,0))/\W.heap[pb]? = some (.cells #[.slice ao R c] ty (0,0))/\PCells W ao b aa l/\HasT W) w:=.of ⟨Below.refl _ _,G,ag,hP,hT⟩;have O:=qH (qA hR (qA I (qA V (qA hL hF))));have aG:=@hmf_ prog;clear hM ae ag G hF hP hT hR hl hs aA I V hL;go_enter func86,ntmps86;go_wp2_with fail;refine ai.o.mono ?_;rintro e w2 ⟨au,h⟩;have K2:=K0.below au;clear au ai c0 c1 c2 c3 c4 p0;rcases h with ⟨F,rfl⟩ | ⟨F,J,rfl⟩ | ⟨F,J,U,rfl⟩ | ⟨F,J,U,rfl⟩
 ·have H:=qH F;clear F;unfold thrown;go_wp2_with fail;exact⟨rfl,K2.o.1,qaj ⟨320,rfl,qav ⟨H.o,rfl⟩⟩⟩
 ·have H:=qH (qA F J);clear F J;unfold thrown;go_wp2_with fail;exact⟨rfl,K2.o.1,qaj ⟨310,rfl,qaj (qav ⟨H.o.1,H.o.2,rfl⟩)⟩⟩
 ·have H:=qH (qA F (qA J U));clear F J U;unfold thrown;go_wp2_with fail;exact⟨rfl,K2.o.1,qaj ⟨5,rfl,qaj (qaj (qav ⟨H.o.1,H.o.2.1,H.o.2.2,rfl⟩))⟩⟩
 obtain⟨Y,aj⟩:∃Y,MdOk m Y (chans l):=by
  obtain⟨Y,n,h⟩:=F;have:=h.inn.1;obtain rfl:n=chans l:=by omega
  exact⟨Y,h⟩
 have H:=qH (qA J aj);clear F J U aj;go_wp2_with fail;have aB:((1:Int):Rat) / ((1:Int):Rat)=1:=by decide +kernel
 have af:=of_int 1 1 (by decide) (by decide) (by decide) w2 K2.o.2.2.2.2;obtain⟨o1,o2,ho⟩:=qcs 1;rw [aB,ho] at af;have Ho:=qH ho;clear ho aB;refine af.mono ?_;rintro e w3 ⟨rfl,av⟩;have K3:=K2.below av;clear av K2 af;go_wp2_with fail;refine (qdk o1 o2 w3).mono ?_;rintro e w4 ⟨rfl,ax⟩;have K4:=K3.below ax;clear ax K3;obtain⟨W5,ak,N5⟩:=nw1 w4 #[.string o1,.string o2] 27;have Z:=(K4.below N5.o.1).also (q:=fun W=>W.heap[w4.heap.size]? = some (.cells #[.string o1,.string o2] 27 (0,0))) N5.o.2;have az:MBox W5 mb m (many Y (chans l)):=by
  have F:=(Z.o.1).2.1;have aC:=(H.o.2.rows 0 (by decide)).1;have aD:=(H.o.2.rows 1 (by decide)).1;have aF:=(H.o.2.rows 2 (by decide)).1;rw [<-O.o.2.1,<-O.o.2.2.1,<-O.o.2.2.2.1,<-O.o.2.2.2.1,<-O.o.2.2.2.1,aC,aD,aF] at F;exact⟨a,b',o,d,F,fun q hq=>(O.o.2.2.2.2 q hq).below Z.o.1.1⟩
 have hg:qjA 88 #[.pointer (some ⟨pb,0,none⟩),.pointer (some ⟨w4.heap.size,0,none⟩),.pointer (some ⟨mb,0,none⟩)] W5 R (fun i x=>Short (sqq m l Y i)/\x=ftxt (sqq m l Y i)) (fun i c=>¬Short (sqq m l Y i)/\c=6):=by
  intro i hi W hb;refine (sq11_any i Y R pb w4.heap.size mb b aa c ao l m o1 o2 ty 27 W O.o.1 hi H.o.1 H.o.2 Ho.o.symm (zkeep hb _ _ Z.o.1.2.2.1) (zkeep hb _ _ Z.o.2) (az.below hb) (Z.o.1.2.2.2.1.below hb) (Z.o.1.2.2.2.2.below hb)).mono ?_;rintro e w' ⟨F,J⟩;refine⟨F,?_⟩;rcases J with ⟨x,y,rfl,U,h4⟩ | ⟨cc,rfl,U,h4⟩
  ·exact qav ⟨x,y,rfl,U,h4⟩
  ·exact qaj ⟨cc,rfl,U,h4⟩
 have HG:=qH (qd6 88 #[.pointer (some ⟨pb,0,none⟩),.pointer (some ⟨w4.heap.size,0,none⟩),.pointer (some ⟨mb,0,none⟩)] R (by have:=H.o.1.r2;have:=O.o.1;omega) _ _ W5 (fun a W=>enters func88 (by kernel_rfl) (by kernel_rfl) _ W) hg);have p5:=qC _ _ 0 _ _ _ Z.o.1.2.2.1;clear N5 az hg K4;go_upto_region 3 with fail;rw [<-ak];clear ak;go_wp2_with fail;refine HG.o.mono ?_;rintro e w6 ⟨ay,h⟩;have ah:=qH (Z.o.1.1.trans (ay.mono Z.o.1.1.size));clear ay;rcases h with ⟨lq,g,F,J,rfl,h4,_⟩ | ⟨i,cc,hi,rfl,U,rfl⟩
 ·have HE:=qH (qA F (qA J h4));clear F J h4 HG;go_wp2;go_ret;refine⟨ah.o,qav ⟨_,_,_,rfl,H.o.1,Y,H.o.2,fun i hi=>(HE.o.2.1 i (by have:=O.o.1;omega)).1,?_⟩⟩;have hr:=O.o.1;refine⟨g,by rw [hr],?_⟩;rw [hr,<-qhS HE.o.1 (fun i hi=>(HE.o.2.1 i hi).2)];exact HE.o.2.2
 ·have HE:=qH (qA hi U);clear hi U HG;unfold thrown;go_wp2_with fail;exact⟨rfl,ah.o,qaj ⟨6,rfl,qaj (qaj (qaj ⟨H.o.1,rfl,Y,H.o.2,fun h=>HE.o.2 (h i (by have:=O.o.1;have:=HE.o.1;omega))⟩))⟩⟩
theorem SlF.kept {W W':World} {n:Nat} {f:Nat->Rat} {v:Value} (H:∀a s,W.cell? a=some (.string s)->W'.cell? a=some (.string s)) (h:SlF n f v W):SlF n f v W':=by
 obtain⟨g,F,G⟩:=h;exact⟨g,F,G.kept H⟩
theorem SqG.kept {m:Md} {l:List Pt} {W W':World} {v:Value} (J:∀a s,W.cell? a=some (.string s)->W'.cell? a=some (.string s)) (h:SqG m l W v):SqG m l W' v:=by
 obtain⟨F,kk,G,H,I⟩:=h;exact⟨F,kk,G,H,I.kept J⟩
def SqAs (w:World) (m:Md) (l:List Pt) (e:Ending) (w':World):Prop :=
 Below w.heap.size w w'/\((∃v,e=.returned (.tuple #[v,.int .i64 0])/\SqG m l w' v)\/∃c,e=.returned (.tuple #[.slice none 0 0,.int .i64 c])/\SqF m l c)
theorem qgF (m:Md) (v:Value) (R b U c:Nat) (V:Option Addr) (l:List Pt) (w:World) (hM:MdAt w v m) (hR:l.length=R) (hl:R<=4611686018427387904) (hs:∀k,k<R->(l.getD k pt0).name.size<=4611686018427387904/\(l.getD k pt0).dev.length<=4611686018427387904) (O:∀q,q<3->(m.row q).length<=4611686018427387904) (hP:PCells w V b U l) (hT:HasT w) :
  Calls prog 48 #[v,.slice V R c] w fun e w'=>SqAs w m l e w':=by
 obtain⟨a,b',o,d,rfl,hF⟩:=hM.parts;obtain⟨W2,H,F⟩:=nw2 w #[.int .i64 m.kind,.int .i64 m.inn,.slice (a 0) (m.row 0).length (d 0),.slice (a 1) (m.row 1).length (d 1),.slice (a 2) (m.row 2).length (d 2)] 46 #[.slice V R c] 48;have aa:=@hmf_ prog;have HG:=qH (qhW 86 #[.pointer (some ⟨w.heap.size,0,none⟩),.pointer (some ⟨w.heap.size+1,0,none⟩)] (SqG m l) (SqF m l) W2 (fun W=>enters func86 (by kernel_rfl) (by kernel_rfl) _ W)
  (fun W W' v hk h=>h.kept hk)
  (fun w1 I=>sq1_any m R (w.heap.size+1) w.heap.size b U c V l a b' o d _ w1 hR hl hs O (zkeep I _ _ F.o.2.2) (zkeep I _ _ F.o.2.1) (fun q hq=>(hF q hq).below (F.o.1.trans (I.mono F.o.1.size))) (hP.below (F.o.1.trans (I.mono F.o.1.size))) (hT.below (F.o.1.trans (I.mono F.o.1.size)))))
 have Z:=qH F.o.1;clear hM hR hl hs O hP hT hF F;go_enter func48,ntmps48;go_upto_region 1 with fail;rw [<-H];clear H;go_wp2_with fail;refine HG.o.mono ?_;rintro e w5 ⟨J,h⟩;have G:=qH (Z.o.trans (J.mono Z.o.size));clear J HG;rcases h with ⟨p,n,c',rfl,hg⟩ | ⟨cc,rfl,hf⟩
 ·have Y:=qH hg;clear hg;go_wp2_with fail
  go_ret2
  exact⟨G.o,qav ⟨_,rfl,Y.o⟩⟩
 ·have Y:=qH hf;clear hf;go_wp2_with fail
  go_ret2
  exact⟨G.o,qaj ⟨cc,rfl,Y.o⟩⟩
theorem qcG.uniq {z:Int} {k F:Nat} (h:qcG z k) (G:qcG z F):F=k:=by have:=h.1;have:=G.1;omega
theorem qil {k n m:Nat} {x y:Nat->Nat->Rat} (h:∀c,c<3->told m (x c)=told m (y c)):mdq k n m x=mdq k n m y:=by
 unfold mdq;rw [h 0 (by decide),h 1 (by decide),h 2 (by decide)]
theorem qj0 {k n:Nat} {X:Nat->Nat->Rat} (O:1<=k/\k<=3) (G:1<=n) (I:n<=4) (H:¬(k=3/\n=4)) (J:∀c,c<3->qbP (many k n) (X c)):MdOk (mdq k n (many k n) X) k n :=
 ⟨⟨rfl,O⟩,⟨rfl,G,I⟩,H,fun c F=>by rw [qfw F];exact⟨qbQ _ _,qcS (J c F)⟩⟩
theorem MdOk.uniq {m:Md} {k n G H:Nat} (h:MdOk m k n) (F:MdOk m G H):G=k/\H=n:=⟨h.kind.uniq F.kind,by have:=h.inn.1;have:=F.inn.1;omega⟩
theorem qhP {k n m:Nat} {X:Nat->Nat->Rat} {l:List Pt} {F i:Nat} (I:many F (chans l)<=m):sqq (mdq k n m X) l F i=msR 3 (many F (chans l)) X (fun q=>labq l q i) (fun _=>1) (tqf l F i):=by
 unfold sqq msR;refine qbS fun q G=>?_
 have:(sumQ (many F (chans l)) fun j=>lval ((mdq k n m X).row q) j*tqf l F i j)=sumQ (many F (chans l)) fun j=>X q j*tqf l F i j:=by
  rw [qfw G];exact qbS fun j H=>by rw [qcI (by omega)]
 have hr:resR (many F (chans l)) (fun q=>lval ((mdq k n m X).row q)) (fun q=>labq l q i) (tqf l F i) q=resR (many F (chans l)) X (fun q=>labq l q i) (tqf l F i) q:=by
  unfold resR;rw [this]
 rw [hr]
theorem qhK {c:UInt8} (h:qdb c=true):qjC ⟨#[c]⟩:=⟨qae 1,show 1<=12 by decide,fun k F=>by
 have F:k<1:=F;obtain rfl:k=0:=by omega
 exact h⟩
theorem qkh {z:Int} (h:0<=z/\z<=10000):qeC [z]:=fun k F=>by
 have F:k<1:=F;obtain rfl:k=0:=by omega
 exact h
def KFit (l:List Pt) (k:Nat) (K:List Nat) (X:Nat->Nat->Rat):Prop:=¬Sing (many k (chans l)) (nq l k (keepW K l.length) 0)/\∀c,c<3->FitX l k (keepW K l.length) c (X c)
def mdX (l:List Pt) (k:Nat) (X:Nat->Nat->Rat):Md:=mdq k (chans l) (many k (chans l)) X
def nextK (l:List Pt) (k keep:Nat) (m:Md):List Nat:=bestL (sqq m l k) l.length keep
def Runs (l:List Pt) (k keep:Nat):Nat->List Nat->(Nat->Nat->Rat)->Prop
 | 0,K,X=>K=List.range l.length/\KFit l k K X
 | p+1,K,X=>∃G F,Runs l k keep p G F/\K=nextK l k keep (mdX l k F)/\KFit l k K X
theorem KFit.same {l:List Pt} {k:Nat} {K:List Nat} {X Y:Nat->Nat->Rat} (h:KFit l k K X) (G:KFit l k K Y):mdX l k X=mdX l k Y :=
 qil fun c F=>qdq (qcv.uniq (fun H=>h.1 (qfy H)) (h.2 c F) (G.2 c F))
theorem Runs.fit {l:List Pt} {k keep:Nat}:∀{p:Nat} {K:List Nat} {X:Nat->Nat->Rat},Runs l k keep p K X->KFit l k K X
 | 0,_,_,h=>h.2
 | _+1,_,_,⟨_,_,_,_,h⟩=>h
theorem Runs.uniq {l:List Pt} {k keep:Nat}:∀{p:Nat} {K H:List Nat} {X Y:Nat->Nat->Rat},Runs l k keep p K X->Runs l k keep p H Y->K=H/\mdX l k X=mdX l k Y
 | 0,_,_,_,_,⟨e,h⟩,⟨e',F⟩=>by
  subst e e';exact⟨rfl,h.same F⟩
 | _+1,_,_,_,_,⟨_,_,I,e,h⟩,⟨_,_,G,e',F⟩=>by
  obtain⟨_,e0⟩:=Runs.uniq I G;rw [e0,<-e'] at e;subst e;exact⟨rfl,h.same F⟩
theorem Runs.stay {l:List Pt} {k keep p:Nat} {K:List Nat} {X:Nat->Nat->Rat} (h:Runs l k keep p K X) (e:nextK l k keep (mdX l k X)=K):∀j,Runs l k keep (p+j) K X
 | 0=>h
 | j+1=>⟨K,X,Runs.stay h e j,e.symm,h.fit⟩
theorem Runs.before {l:List Pt} {k keep:Nat}:∀{p q:Nat} {K:List Nat} {X:Nat->Nat->Rat},Runs l k keep (p+q) K X->∃F G,Runs l k keep p F G
 | _,0,_,_,h=>⟨_,_,h⟩
 | _,_+1,_,_,⟨_,_,h,_,_⟩=>Runs.before h
def RunF (l:List Pt) (k keep F:Nat) (c:Int):Prop :=
 FitF l (k:Int) (keepW (List.range l.length) l.length) c \/
 ∃p K X,p<F/\Runs l k keep p K X/\(SqF (mdX l k X) l c\/FitF l (k:Int) (keepW (nextK l k keep (mdX l k X)) l.length) c)
def RunG (l:List Pt) (k keep F:Nat) (K:List Nat) (m:Md):Prop:=∃X,Runs l k keep F K X/\m=mdX l k X/\∀c,c<3->qbP (many k (chans l)) (X c)
def SameAs (w:World) (l l2:List FT) (e:Ending) (w':World):Prop:=∃F,e=.returned (.bool F)/\(F=true↔l=l2)/\Below w.heap.size w w'
theorem qmK {l l2:List FT} {k:Nat} (F:k<l.length) (G:k<l2.length) (h:l.take k=l2.take k) (e:l.getD k fd0=l2.getD k fd0):l.take (k+1)=l2.take (k+1):=by
 rw [List.take_add_one,List.take_add_one,h]
 congr 1
 rw [qab,qab,qad F,qad G] at e;rw [qad F,qad G];exact congrArg (fun x=>(some x).toList) e
theorem qjY {a b:ByteArray} (h:a≠b):¬a.toList=b.toList:=by
 rw [ByteArray.toList_eq,ByteArray.toList_eq];intro e;apply h;obtain⟨⟨x⟩⟩:=a;obtain⟨⟨y⟩⟩:=b;cases e;rfl
theorem qlB {l l2:List FT} {k:Nat} (h:l.getD k fd0≠l2.getD k fd0):¬l=l2:=fun e=>h (by rw [e])
theorem qhO (ao:Option Addr) (b ai n c:Nat) (l:List FT) (Y:Option Addr) (b2 ae m c2:Nat) (l2:List FT) (w:World) (hn:l.length=n) (ak:n<=1000000) (hc:FCells w ao b ai l) (hm:l2.length=m) (ah:m<=1000000) (aa:FCells w Y b2 ae l2) :
  Calls prog 35 #[.slice ao n c,.slice Y m c2] w fun e w'=>SameAs w l l2 e w':=by
 have F:=qH (qA hc (qA hn (qA aa hm)));clear hc aa
 by_cases hne:n=m
 ·subst hne;clear hn hm ah;go_enter func35,ntmps35;go_wp2_with fail
  go_loopw [5] (fun x5 W=>∃k:Nat,x5=.int .i64 k/\k<=n/\Hu (l.take k=l2.take k)/\Hu (Below w.heap.size w W)) (fun x5 _=>n-(intOf x5).toNat)
  case atStart=>exact⟨0,rfl,qan _,qH rfl,qH qB⟩
  case round =>
   obtain⟨k,rfl,hk,hI,hB⟩:=hrel
   by_cases G:k<n
   ·have aj:(k:Int)<n:=by omega
    have ag:=F.o.1.addr (by rw [F.o.2.1];omega);subst ag;have af:=F.o.2.2.1.addr (by rw [F.o.2.2.2];omega);subst af;obtain⟨h1,h2⟩:=(F.o.1.below hB.o).cell k (by rw [F.o.2.1];exact G);obtain⟨h3,h4⟩:=(F.o.2.2.1.below hB.o).cell k (by rw [F.o.2.2.2];exact G);obtain⟨x1,H⟩:=qX ((l.getD k fd0).1);obtain⟨x2,I⟩:=qX ((l.getD k fd0).2);obtain⟨y1,J⟩:=qX ((l2.getD k fd0).1);obtain⟨y2,O⟩:=qX ((l2.getD k fd0).2);rw [H] at h1;rw [I] at h2;rw [J] at h3;rw [O] at h4;have U:Hu (l.getD k fd0=(x1,x2)/\l2.getD k fd0=(y1,y2)):=qH ⟨by rw [<-H,<-I],by rw [<-J,<-O]⟩;clear H I J O
    by_cases Z:x1=y1
    ·by_cases g2:x2=y2
     ·subst Z;subst g2;have HI:=qH (qmK (by rw [F.o.2.1];exact G) (by rw [F.o.2.2.2];exact G) hI.o (U.o.1.trans U.o.2.symm));go_wp2_with fail
      go_quiet (fail)
      go_wp2;go_roundw
      case rel=>exact⟨k+1,by go_num,G,HI,qH (below_drewN hB.o _)⟩
      case measure=>simp [intOf];omega
     ·subst Z;have V:=qH (qlB (l:=l) (l2:=l2) (k:=k) (by rw [U.o.1,U.o.2];exact fun h=>g2 (congrArg Prod.snd h)));have g3:=qjY g2;clear g2;go_wp2_with fail
      go_quiet (fail)
      go_wp2;go_ret;exact⟨false,rfl,qdT V.o,below_drewN hB.o _⟩
    ·have V:=qH (qlB (l:=l) (l2:=l2) (k:=k) (by rw [U.o.1,U.o.2];exact fun h=>Z (congrArg Prod.fst h)));have g3:=qjY Z;clear Z;go_wp2_with fail
     go_quiet (fail)
     go_wp2;go_ret;exact⟨false,rfl,qdT V.o,below_drewN hB.o _⟩
   ·obtain rfl:k=n:=by omega
    have hE:l=l2:=by have h:=hI.o;rwa [qal (by rw [F.o.2.1];exact qae _),qal (by rw [F.o.2.2.2];exact qae _)] at h
    have HE:=qH hE;clear hE;go_wp2;go_ret;exact⟨true,rfl,qjz HE.o,hB.o⟩
 ·have hb:((n:Int) != (m:Int))=true:=by rw [bne_iff_ne];omega
  have V:Hu (¬l=l2):=qH (fun h=>hne (by rw [<-hn,<-hm,h]));go_enter func35,ntmps35;go_wp2;go_ret;exact⟨false,rfl,qdT V.o,Below.refl _ _⟩
theorem qi5 (H J c I O d:Nat) (F G:List Int) (n m:Nat) (w:World) (hn:F.length=n) (Y:G.length=m) (aa:n<=1000000) (Z:m<=1000000) (U:NCells w (some ⟨H,J,none⟩) H J F) (V:NCells w (some ⟨I,O,none⟩) I O G) :
  Calls prog 15 #[.slice (some ⟨H,J,none⟩) n c,.slice (some ⟨I,O,none⟩) m d] w fun e w'=>e=.returned (.bool (F == G))/\Below w.heap.size w w':=by
 subst hn Y;refine (Tryz.slices_Equal_int H J F.length c I O G.length d F G w qN qN (by omega) (by omega) U.cell V.cell).mono ?_;rintro e w' ⟨rfl,q,rfl⟩;rw [qba,qba];exact⟨rfl,below_drewN qB q⟩
theorem md_eq {m F:Md}:m=F↔m.kind=F.kind/\m.inn=F.inn/\m.row 0=F.row 0/\m.row 1=F.row 1/\m.row 2=F.row 2:=by
 obtain⟨k,i,a,b,c⟩:=m;obtain⟨k',i',a',b',c'⟩:=F
 constructor
 ·rintro h;cases h;exact⟨rfl,rfl,rfl,rfl,rfl⟩
 ·rintro ⟨G,H,I,J,O⟩;have I:a=a':=I;have J:b=b':=J;have O:c=c':=O;have G:k=k':=G;have H:i=i':=H;subst G H I J O;rfl
theorem ql8 (m m2:Md) (v v2:Value) (w:World) (hM:MdAt w v m) (ae:MdAt w v2 m2) (hl:∀q,q<3->(m.row q).length<=1000000) (aj:∀q,q<3->(m2.row q).length<=1000000) :
  Calls prog 24 #[v,v2] w fun e w'=>∃ok,e=.returned (.bool ok)/\(ok=true↔m=m2)/\Below w.heap.size w w':=by
 obtain⟨a,b,o,c,rfl,hF⟩:=hM.parts;obtain⟨a',b',o',c',rfl,aa⟩:=ae.parts;obtain⟨kind,H⟩:∃z,m.kind=z:=⟨_,rfl⟩;obtain⟨inn,O⟩:∃z,m.inn=z:=⟨_,rfl⟩;obtain⟨kind',F⟩:∃z,m2.kind=z:=⟨_,rfl⟩;obtain⟨U,G⟩:∃z,m2.inn=z:=⟨_,rfl⟩;obtain⟨L,hL⟩:∃L:Nat->Nat,∀q,(m.row q).length=L q:=⟨_,fun _=>rfl⟩;obtain⟨L',I⟩:∃L:Nat->Nat,∀q,(m2.row q).length=L q:=⟨_,fun _=>rfl⟩;have J:=fun (q:Nat) (hq:q<3) (W:World) (hb:Below w.heap.size w W)=>qhO (a q) (b q) (o q) (L q) (c q) (m.row q) (a' q) (b' q) (o' q) (L' q) (c' q) (m2.row q) W (hL q) (by have:=hl q hq;rw [hL] at this;exact this) ((hF q hq).below hb) (I q) (by have:=aj q hq;rw [I] at this;exact this) ((aa q hq).below hb)
 rw [H,O,hL,hL,hL,F,G,I,I,I];obtain⟨W2,af,V⟩:=nw2 w #[.int .i64 kind,.int .i64 inn,.slice (a 0) (L 0) (c 0),.slice (a 1) (L 1) (c 1),.slice (a 2) (L 2) (c 2)] 46 #[.int .i64 kind',.int .i64 U,.slice (a' 0) (L' 0) (c' 0),.slice (a' 1) (L' 1) (c' 1),.slice (a' 2) (L' 2) (c' 2)] 46;have Y:=qH (qA H (qA O (qA F G)));have HC:=qH J;have c0:=qC _ _ 0 _ _ _ V.o.2.1;have c1:=qC _ _ 1 _ _ _ V.o.2.1;have c2:=qC _ _ 2 _ _ _ V.o.2.1;have d0:=qC _ _ 0 _ _ _ V.o.2.2;have d1:=qC _ _ 1 _ _ _ V.o.2.2;have d2:=qC _ _ 2 _ _ _ V.o.2.2;clear J hM ae hF aa hl aj H O F G hL I;go_enter func24,ntmps24;go_upto_region 1 with fail;rw [<-af];clear af
 by_cases hk:kind=kind'
 case neg =>
  have av:(kind == kind')=false:=beq_eq_false_iff_ne.2 hk;have HK:=qH hk;clear hk;go_wp2;go_ret;exact⟨false,rfl,qdT fun h=>HK.o (by rw [<-Y.o.1,<-Y.o.2.2.1,h]),V.o.1⟩
 subst hk
 by_cases hi:inn=U
 case neg =>
  have au:(inn == U)=false:=beq_eq_false_iff_ne.2 hi;have HI:=qH hi;clear hi;go_wp2;go_ret;exact⟨false,rfl,qdT fun h=>HI.o (by rw [<-Y.o.2.1,<-Y.o.2.2.2,h]),V.o.1⟩
 subst hi;go_wp2_with fail;refine (HC.o 0 (by decide) W2 V.o.1).mono ?_;rintro e w3 ⟨ok0,rfl,h0,ag⟩;have Z:=V.below ag;have H0:=qH h0;clear h0 ag c0 c1 c2 d0 d1 d2;have c0:=qC _ _ 2 _ _ _ Z.o.2.1;have c1:=qC _ _ 3 _ _ _ Z.o.2.1;have d0:=qC _ _ 2 _ _ _ Z.o.2.2;have d1:=qC _ _ 3 _ _ _ Z.o.2.2;cases ok0 with
 | false =>
  go_wp2;go_ret;exact⟨false,rfl,qdT fun h=>absurd (H0.o.2 (by rw [h])) (by decide),Z.o.1⟩
 | true =>
 go_wp2_with fail;refine (HC.o 1 (by decide) w3 Z.o.1).mono ?_;rintro e w4 ⟨ok1,rfl,h1,ah⟩;have K4:=Z.below ah;have H1:=qH h1;clear h1 ah c0 c1 d0 d1;have c0:=qC _ _ 4 _ _ _ K4.o.2.1;have d0:=qC _ _ 4 _ _ _ K4.o.2.2;cases ok1 with
 | false =>
  go_wp2;go_ret;exact⟨false,rfl,qdT fun h=>absurd (H1.o.2 (by rw [h])) (by decide),K4.o.1⟩
 | true =>
 go_wp2_with fail;refine (HC.o 2 (by decide) w4 K4.o.1).mono ?_;rintro e w5 ⟨ak,rfl,h2,ai⟩;have K5:=K4.below ai;have H2:=qH h2;clear h2 ai c0 d0;go_wp2;go_ret;refine⟨ak,rfl,⟨fun h=>md_eq.2 ⟨by rw [Y.o.1,Y.o.2.2.1],by rw [Y.o.2.1,Y.o.2.2.2],H0.o.1 (by trivial),H1.o.1 (by trivial),H2.o.1 h⟩,fun h=>H2.o.2 (by rw [h])⟩,K5.o.1⟩
theorem ql5 (w:World):MdAt w mdv0 md0 :=
 have h:FCells w none 0 0 []:=⟨fun h=>absurd h (by decide),fun k F=>absurd F (by simp)⟩
 ⟨none,none,none,0,0,0,0,0,0,0,0,0,rfl,h,h,h⟩
theorem qjf:∀q,q<3->(md0.row q).length<=1000000:=fun q F=>by
 rcases (show q=0\/q=1\/q=2 by omega) with rfl | rfl | rfl <;> decide
theorem qb4 {P:Program} {I:Func} {p q r:Tmp} {G:TypeId} (h:I.results=#[.cell p G,.tmp q,.tmp r]) (F:Array Value) (w:World) (g:Nat) (t:TypeId) (cs:Array Value) (d:TypeDesc)
  (J:F.getD p undef=.pointer (some ⟨g,0,none⟩)) (hg:w.heap[g]? = some (.cells cs t (0,0)))
  (Y:P.underlying G=some d) (U:(match d with | .struct _ | .array _ _=>true | _=>false)=true) (n:Nat) (V:(P.info? G).map (·.size)=some n) (H:cs.size=n) (v2 v3:Value) (O:F.getD q undef=v2) (hr:F.getD r undef=v3) :
  (results I F).run P w=.ok (.tuple #[.agg cs,v2,v3]) w:=by
 rw [Array.getD_eq_getD_getElem?] at J O hr;simp only [results,h];simp [J,O,hr,asAddr,run_loadVar_row w g t G cs (0,0) d hg Y U (by rw [H];exact V),Result.andThen]
theorem NatR.keep {W W':World} {B g n c G:Nat} {d:List Nat} (h:NatR W B g n c d) (I:W.grownBy W' (some G)) (hne:G<B):NatR W' B g n c d:=⟨h.len,by
 have F:=h.own;unfold IOwn at F ⊢;exact⟨F.1,F.2.imp id fun⟨g',cap,cur,e,H,hg,r⟩=>⟨g',cap,cur,e,H,(I.block g' (qG hg).1 fun e=>by have:=qag e;omega).trans hg,r⟩⟩⟩
theorem qeK {s F:Nat->Rat} {n m:Nat} (h:∀i,i<n->s i=F i):bestL s n m=bestL F n m:=by
 unfold bestL;have:qcL s n=qcL F n:=qgc fun a G b H=>by rw [h a (qau.1 G),h b (qau.1 H)]
 rw [this]
theorem qeS.only {w:World} {x:Nat->Rat} {R k:Nat} {e:Ending} {w':World} (h:qeS w (told R x) (k:Int) e w') (J:qbP R x) (U:R<=40) (Y:k<=R):Below w.heap.size w w' /\
  ∃g,e=.returned (.tuple #[.slice (some ⟨g,0,none⟩) k k,.int .i64 0])/\NatR w' w.heap.size g k k (bestL x R k):=by
 refine⟨h.1,?_⟩;have G:=qcS J;have F:∀{z},ExIs (told R x) z->z=0:=by
  rintro z (⟨h,_⟩ | ⟨_,h,_⟩ | ⟨_,_,h⟩)
  ·rw [qbQ] at h;omega
  ·exact absurd G h
  ·exact h
 rcases h.2 with ⟨z,O,he,_⟩ | ⟨_,I,_⟩ | ⟨_,g,j,V,_,he,hN⟩
 ·exact absurd (F he) O
 ·exact absurd ⟨by omega,by rw [qbQ];omega⟩ I
 ·obtain rfl:j=k:=by omega
  refine⟨g,he,?_⟩;rw [qbQ] at hN;have:bestL (lval (told R x)) R j=bestL x R j:=qeK fun i H=>qcI H
  rwa [this] at hN
theorem FitF.ne {l:List Pt} {kind:Int} {F:List Int} {c:Int} (h:FitF l kind F c):c≠0:=by
 rcases h with ⟨_,rfl⟩ | ⟨_,_,rfl⟩ | ⟨_,_,_,k,_,⟨_,_,rfl⟩ | ⟨_,⟨_,rfl⟩ | ⟨_,c',x,_,_,_,rfl⟩⟩⟩ <;> decide
theorem SqF.ne {m:Md} {l:List Pt} {c:Int} (h:SqF m l c):c≠0:=by
 rcases h with ⟨_,rfl⟩ | ⟨_,_,rfl⟩ | ⟨_,_,_,rfl⟩ | ⟨_,rfl,_⟩ <;> decide
theorem FitG.kfit {l:List Pt} {k:Nat} {K:List Nat} {W:World} {v:Value} (h:FitG l (k:Int) (keepW K l.length) W v):many k (chans l)<=10/\∃X,KFit l k K X/\(∀c,c<3->qbP (many k (chans l)) (X c))/\MdAt W v (mdX l k X):=by
 obtain⟨H,_,_,k',F,J,U,x,I,O⟩:=h;obtain rfl:k'=k:=by have:=F.1;omega
 exact⟨(qfv F H.n1 H.n4 J).2,x,⟨U,fun c G=>(I c G).1⟩,fun c G=>(I c G).2,O⟩
theorem MdAt.five {W:World} {v:Value} {m:Md} (h:MdAt W v m):∃(Z i5:Int) (F G H:Option Addr) (U I V J Y O:Nat),v=.agg #[.int .i64 Z,.int .i64 i5,.slice F U I,.slice G V J,.slice H Y O]:=by
 obtain⟨a0,a1,a2,b0,o0,c0,b1,o1,c1,b2,o2,c2,rfl,_⟩:=h;exact⟨_,_,_,_,_,_,_,_,_,_,_,rfl⟩
def RunAs (w:World) (l:List Pt) (k keep F:Nat) (e:Ending) (w':World):Prop:=Below w.heap.size w w' /\
  ((∃c,c≠0/\e=.returned (.tuple #[mdv0,.slice none 0 0,.int .i64 c])/\RunF l k keep F c) \/
   ∃(v:Value) (g:Nat) (K:List Nat) (m:Md),e=.returned (.tuple #[v,.slice (some ⟨g,0,none⟩) K.length K.length,.int .i64 0])/\NatR w' w.heap.size g K.length K.length K/\MdAt w' v m/\RunG l k keep F K m)
abbrev RunK (w:World) (row:Array Value) (l:List Pt) (kk g n B:Nat) (K:List Nat) (X:Nat->Nat->Rat) (Z i5:Int) (F G H:Option Addr) (U I V J Y O:Nat) (W:World):Prop :=
 ((Below w.heap.size w W/\W.heap[w.heap.size]? = some (.cells row 116 (0,0)))/\W.heap[w.heap.size+1]? = some (.cells #[.int .i64 Z,.int .i64 i5,.slice F U I,.slice G V J,.slice H Y O] 46 (0,0)))/\NatR W B g n n K/\MdAt W (.agg #[.int .i64 Z,.int .i64 i5,.slice F U I,.slice G V J,.slice H Y O]) (mdX l kk X)
def RunL (w:World) (row:Array Value) (l:List Pt) (F keep p g n B:Nat) (W:World):Prop :=
 ∃K X k5 i5 G H I V J Y O Z U,(Runs l F keep p K X/\(∀c,c<3->qbP (many F (chans l)) (X c))/\K.length=n)/\RunK w row l F g n B K X k5 i5 G H I V J Y O Z U W
instance stays_runk {w:World} {row:Array Value} {l:List Pt} {kk g n B:Nat} {K:List Nat} {X:Nat->Nat->Rat} {k5 i5:Int} {G H I:Option Addr} {V J Y O Z U:Nat}:Stays fun W=>RunK w row l kk g n B K X k5 i5 G H I V J Y O Z U W :=
 ⟨fun⟨⟨⟨F,h2⟩,h3⟩,h4,h5⟩ hb=>⟨⟨⟨F.trans (hb.mono F.size),zkeep hb _ _ h2⟩,zkeep hb _ _ h3⟩,h4.below hb,h5.below hb⟩⟩
theorem NatR.all {W:World} {B g n c:Nat} {d:List Nat} (h:NatR W B g n c d):NCells W (some ⟨g,0,none⟩) g 0 (natI d):=by
 have F:=h.cells (qae n)
 rwa [qal (by rw [h.len];exact qae _)] at F
theorem natI_inj {a b:List Nat} (h:natI a=natI b):a=b:=by
 have:=congrArg (List.map Int.toNat) h
 simpa [natI,List.map_map,Function.comp_def] using this
theorem RunK.store {w:World} {row:Array Value} {l:List Pt} {kk g n B:Nat} {K:List Nat} {X:Nat->Nat->Rat} {Z i5 j5 h5:Int} {F G H:Option Addr} {U I V J Y O:Nat} {D0 D1 D2:Option Addr} {M0 E0 M1 E1 M2 E2:Nat} {W:World}
  (hb:Below w.heap.size w W) (h0:W.heap[w.heap.size]? = some (.cells row 116 (0,0))) (h1:W.heap[w.heap.size+1]? = some (.cells #[.int .i64 j5,.int .i64 h5,.slice D0 M0 E0,.slice D1 M1 E1,.slice D2 M2 E2] 46 (0,0))) (hN:NatR W B g n n K) (hB:w.heap.size+1<B)
  (hM:MdAt W (.agg #[.int .i64 Z,.int .i64 i5,.slice F U I,.slice G V J,.slice H Y O]) (mdX l kk X)):RunK w row l kk g n B K X Z i5 F G H U I V J Y O (W.setRow (w.heap.size+1) #[.int .i64 Z,.int .i64 i5,.slice F U I,.slice G V J,.slice H Y O]) :=
 ⟨⟨⟨qS hb (qa6 _) _,(setRow_other _ _ _ _ (by omega)).trans h0⟩,qT _ _ _ _ _ _ h1⟩,hN.keep (qb3 _ _ _) hB,hM.keepB (qb3 _ _ _) h1 (qjH _ _ _ _ _ _ _ _ _ _ _)⟩
theorem run_any (R b ax c I keep F:Nat) (Z:Option Addr) (l:List Pt) (w:World) (hR:l.length=R) (bD:1<=R) (aP:R<20) (hk:1<=I/\I<=3) (af:1<=keep/\keep<=R) (bC:F<=100) (hs:∀k,k<R->(l.getD k pt0).name.size<=4611686018427387904/\(l.getD k pt0).dev.length<=4611686018427387904)
  (hP:PCells w Z b ax l) (hT:HasT w) :
  Calls prog 56 #[.agg #[.slice Z R c,.int .i64 (I:Int),.int .i64 (keep:Int)],.int .i64 (F:Int)] w fun e w'=>RunAs w l I keep F e w':=by
 obtain⟨W1,aG,N1⟩:=nw2 w #[.slice Z R c,.int .i64 (I:Int),.int .i64 (keep:Int)] 116 #[.int .i64 0,.int .i64 0,.slice none 0 0,.slice none 0 0,.slice none 0 0] 46;have bf:W1.heap.size=w.heap.size+1+1:=by rw [aG];simp
 have G:=qH (qA hP (qA hT (qA hR (qA hs (qA hk bf)))));have bF:=@hmf_ prog;have bE:∀(a:Value) (W:World),(callFunc 104 #[.agg #[.slice Z R c,.int .i64 (I:Int)],a]).run prog W=.ok (.enter 104 #[.agg #[.slice Z R c,.int .i64 (I:Int)],a]) W:=fun a W=>enters func104 (by kernel_rfl) (by kernel_rfl) _ W
 have c0:=qC _ _ 0 _ _ _ N1.o.2.1;have c1:=qC _ _ 1 _ _ _ N1.o.2.1;clear hP hT hR hs hk bf;go_enter func56,ntmps56;go_upto_region 1 with fail;rw [<-aG];clear aG;go_wp2_with fail
 go_step3
 go_wp2_with fail;refine (qkg R W1 (by omega)).mono ?_;rintro e w2 ⟨g2,rfl,aF,aT⟩;have K2:=(N1.below aT).also (q:=fun W=>NatR W W1.heap.size g2 R R (List.range R)) aF;have HF:=qH (qjW R b ax c g2 0 R R (I:Int) Z (some ⟨g2,0,none⟩) l (List.range R) w2 G.o.2.2.1 (by omega) G.o.2.2.2.1 qbC (by omega) (fun x hx=>by have:=qau.1 hx;omega) (G.o.1.below K2.o.1.1) (by
  have h:=aF.cells (m:=R) qN
  rwa [qal (by simp)] at h) (G.o.2.1.below K2.o.1.1))
 clear aT aF c0 c1 N1;go_wp2_with fail;refine HF.o.mono ?_;intro e w3 hA;have K3:=K2.below hA.1;have hz:=K3.o.1.2.2;have HA:=qH hA;have aL:=qH (show w.heap.size<W1.heap.size by rw [G.o.2.2.2.2.2];omega);clear HF K2 hA;rcases HA.o.2 with ⟨v,rfl,hG⟩ | ⟨cc,rfl,hf⟩
 case inr =>
  have Y:(cc == (0:Int))=false:=beq_false_of_ne hf.ne;have bu:(cc != (0:Int))=true:=by rw [bne,Y];rfl
  have J:=qH hf;clear hf;unfold mdv0;have bi:=qT _ _ _ #[.int .i64 0,.int .i64 0,.slice none 0 0,.slice none 0 0,.slice none 0 0] _ _ hz
  go_wp2_with (first | (with_reducible refine sR_ rfl 46 _ _ rfl (w.heap.size+1) #[.int .i64 0,.int .i64 0,.slice none 0 0,.slice none 0 0,.slice none 0 0] hz 5 ?_) | (with_reducible refine sR_ rfl 46 _ _ rfl (w.heap.size+1) #[.int .i64 0,.int .i64 0,.slice none 0 0,.slice none 0 0,.slice none 0 0] bi 5 ?_) | fail)
  refine qR (v:=.tuple #[.agg #[.int .i64 0,.int .i64 0,.slice none 0 0,.slice none 0 0,.slice none 0 0],.slice none 0 0,.int .i64 cc]) (qb4 rfl _ _ (w.heap.size+1) 46 _ _ rfl (qT _ _ _ _ _ _ bi) underlying46 rfl 5 (by kernel_rfl) rfl _ _ rfl rfl) rfl ?_;exact⟨qS (qS K3.o.1.1 (qa6 _) _) (qa6 _) _,.inl ⟨cc,J.o.ne,rfl,.inl (by rw [G.o.2.2.1];exact J.o)⟩⟩
 have ae:FitG l (I:Int) (keepW (List.range R) l.length) w3 v:=by rw [G.o.2.2.1];exact hG
 obtain⟨ay,X0,ag,ah,hM⟩:=ae.kfit;obtain⟨k5,i5,A0,A1,A2,L0,C0,L1,C1,L2,C2,rfl⟩:=hM.five;have KK:=qH (RunK.store K3.o.1.1 K3.o.1.2.1 hz K3.o.2 (by rw [G.o.2.2.2.2.2];omega) hM);have aj:Hu (Runs l I keep 0 (List.range R) X0/\(∀c,c<3->qbP (many I (chans l)) (X0 c))/\many I (chans l)<=10):=qH ⟨⟨by rw [G.o.2.2.1],ag⟩,ah,ay⟩;have Y:((0:Int) != 0)=false:=rfl;clear hG ae ag ah hM ay
 go_wp2_with (first | (with_reducible refine sR_ rfl 46 _ _ rfl (w.heap.size+1) #[.int .i64 k5,.int .i64 i5,.slice A0 L0 C0,.slice A1 L1 C1,.slice A2 L2 C2] hz 5 ?_) | fail)
 have bz:Hu (RunL w #[.slice Z R c,.int .i64 (I:Int),.int .i64 (keep:Int)] l I keep 0 g2 R W1.heap.size (w3.setRow (w.heap.size+1) #[.int .i64 k5,.int .i64 i5,.slice A0 L0 C0,.slice A1 L1 C1,.slice A2 L2 C2])):=qH ⟨_,X0,_,_,_,_,_,_,_,_,_,_,_,⟨aj.o.1,aj.o.2.1,qbC⟩,KK.o⟩;have aN:=qH aj.o.2.2;clear hz KK aj HA K3
 go_step3
 go_wp2_with fail
 go_loopw [5,30] (fun x5 x30 W=>∃p:Nat,x30=.int .i64 (p:Int)/\p<=F/\∃g n:Nat,x5=.slice (some ⟨g,0,none⟩) n n/\n<=R/\Hu (RunL w #[.slice Z R c,.int .i64 (I:Int),.int .i64 (keep:Int)] l I keep p g n W1.heap.size W)) (fun _ x30 _=>F-(intOf x30).toNat)
 case atStart=>exact⟨0,rfl,qan _,g2,R,rfl,qae _,qH bz.o⟩
 case round =>
  obtain⟨p,rfl,hp,g,n,rfl,bG,hI⟩:=hrel;obtain⟨K,X,k5,i5,A0,A1,A2,L0,C0,L1,C1,L2,C2,aQ,aD⟩:=hI.o;have KW:Kn (RunK w #[.slice Z R c,.int .i64 (I:Int),.int .i64 (keep:Int)] l I g n W1.heap.size K X k5 i5 A0 A1 A2 L0 C0 L1 C1 L2 C2) wr:=.of aD;have H:=qH aQ;have hz:=aD.1.2;clear hI aQ aD
  by_cases aZ:p<F
  case neg =>
   obtain rfl:p=F:=by omega
   have bB:¬(p:Int)<(p:Int):=by omega
   go_wp2_with (first | (with_reducible refine lW_ rfl 46 _ rfl (w.heap.size+1) #[.int .i64 k5,.int .i64 i5,.slice A0 L0 C0,.slice A1 L1 C1,.slice A2 L2 C2] hz underlying46 5 ?_) | (with_reducible refine sR_ rfl 46 _ _ rfl (w.heap.size+1) #[.int .i64 k5,.int .i64 i5,.slice A0 L0 C0,.slice A1 L1 C1,.slice A2 L2 C2] hz 5 ?_) | fail)
   refine qR (v:=.tuple #[.agg #[.int .i64 k5,.int .i64 i5,.slice A0 L0 C0,.slice A1 L1 C1,.slice A2 L2 C2],.slice (some ⟨g,0,none⟩) n n,.int .i64 0]) (qb4 rfl _ _ (w.heap.size+1) 46 _ _ rfl (qT _ _ _ _ _ _ hz) underlying46 rfl 5 (by kernel_rfl) rfl _ _ rfl rfl) rfl ?_;refine⟨qS KW.o.1.1.1 (qa6 _) _,.inr ⟨_,g,K,_,by rw [H.o.2.2],?_,KW.o.2.2.keepB (qb3 _ _ _) hz (qjH _ _ _ _ _ _ _ _ _ _ _),⟨X,H.o.1,rfl,H.o.2.1⟩⟩⟩;rw [H.o.2.2];exact (KW.o.2.1.keep (qb3 _ _ _) (by rw [G.o.2.2.2.2.2];omega)).mono (qap aL.o)
  have bB:(p:Int)<(F:Int):=by omega
  have c0:=qC _ _ 0 _ _ _ KW.o.1.1.2;have aX:∀q,q<3->((mdX l I X).row q).length<=4611686018427387904:=fun q hq=>by
   unfold mdX;rw [qfw hq,qbQ];exact qak aN.o (by decide)
  have HQ:=qH (qgF (mdX l I X) _ R b ax c Z l wr KW.o.2.2 G.o.2.2.1 (by omega) G.o.2.2.2.1 aX (G.o.1.below KW.o.1.1.1) (G.o.2.1.below KW.o.1.1.1));have aa:=qH aZ;clear aX aZ
  go_wp2_with (first | (with_reducible refine lW_ rfl 46 _ rfl (w.heap.size+1) #[.int .i64 k5,.int .i64 i5,.slice A0 L0 C0,.slice A1 L1 C1,.slice A2 L2 C2] hz underlying46 5 ?_) | fail)
  refine HQ.o.mono ?_;rintro e w4 ⟨aU,hq⟩;have K4:=KW.below aU;have au:=K4.o.1.2;clear aU hz c0 HQ;rcases hq with ⟨v4,rfl,hG⟩ | ⟨cc,rfl,hf⟩
  case inr =>
   have Y:(cc == (0:Int))=false:=beq_false_of_ne hf.ne;have bu:(cc != (0:Int))=true:=by rw [bne,Y];rfl
   have J:=qH hf;clear hf
   go_wp2_with (first | (with_reducible refine sR_ rfl 46 _ _ rfl (w.heap.size+1) #[.int .i64 0,.int .i64 0,.slice none 0 0,.slice none 0 0,.slice none 0 0] au 5 ?_) | fail)
   refine qR (v:=.tuple #[.agg #[.int .i64 0,.int .i64 0,.slice none 0 0,.slice none 0 0,.slice none 0 0],.slice none 0 0,.int .i64 cc]) (qb4 rfl _ _ (w.heap.size+1) 46 _ _ rfl (qT _ _ _ _ _ _ au) underlying46 rfl 5 (by kernel_rfl) rfl _ _ rfl rfl) rfl ?_;exact⟨qS K4.o.1.1.1 (qa6 _) _,.inl ⟨cc,J.o.ne,rfl,.inr ⟨p,K,X,aa.o,H.o.1,.inl J.o⟩⟩⟩
  obtain⟨_,k',aW,U,g4,rfl,ak⟩:=hG;obtain rfl:k'=I:=by have e:(I:Int)=(k':Int):=aW.kind.1;omega
  have bg:w.heap.size+1<w4.heap.size:=(qG au).1;obtain⟨sq,aJ⟩:=qX (sqq (mdX l k' X) l k');rw [aJ] at U ak;rw [G.o.2.2.1] at U ak ⊢;have aB:=qH (qA aJ (qA U bg));have HB:=qH (qdh R g4 0 R (keep:Int) (some ⟨g4,0,none⟩) (told R sq) w4 (qbQ _ _) (by omega) (fun _=>aP) ak);have c2:=qC _ _ 2 _ _ _ K4.o.1.1.2;clear aJ U bg ak aW au;go_wp2_with fail;refine HB.o.mono ?_;intro e w5 aO;obtain⟨aV,g5,rfl,O⟩:=aO.only aB.o.2.1 (by omega) af.2;have K5:=K4.below aV;obtain⟨T,hT⟩:=qX (bestL sq R keep);rw [hT] at O;have O:NatR w5 W1.heap.size g5 keep keep T:=O.mono (by rw [G.o.2.2.2.2.2];have:=aB.o.2.2;omega);obtain⟨bq,aI⟩:=qX (natI T == natI K);have az:=qi5 g5 0 keep g 0 n (natI T) (natI K) keep n w5 (by rw [qc8];exact O.len) (by rw [qc8];exact K5.o.2.1.len) (by omega) (by omega) O.all K5.o.2.1.all;rw [aI] at az;have HE:=qH az;have V:=qH (qA hT (qA aI O));clear aV aO O hT aI az c2 HB;go_wp2_with fail;refine HE.o.mono ?_;rintro e w6 ⟨rfl,aH⟩;have K6:=(K5.below aH).also (q:=fun W=>NatR W W1.heap.size g5 keep keep T) (V.o.2.2.below aH);have ai:=K6.o.1.1.2;have aY:nextK l k' keep (mdX l k' X)=T:=by unfold nextK;rw [aB.o.1,G.o.2.2.1];exact V.o.1
  have aA:=qH aY;clear aH HE aY;cases bq
  case true =>
   have aR:T=K:=natI_inj (eq_of_beq V.o.2.1);have aK:=Runs.stay H.o.1 (aA.o.trans aR) (F-p);rw [show p+(F-p)=F by have:=aa.o;omega] at aK;have bA:=qH aK;clear aR aK
   go_wp2_with (first | (with_reducible refine lW_ rfl 46 _ rfl (w.heap.size+1) #[.int .i64 k5,.int .i64 i5,.slice A0 L0 C0,.slice A1 L1 C1,.slice A2 L2 C2] ai underlying46 5 ?_) | (with_reducible refine sR_ rfl 46 _ _ rfl (w.heap.size+1) #[.int .i64 k5,.int .i64 i5,.slice A0 L0 C0,.slice A1 L1 C1,.slice A2 L2 C2] ai 5 ?_) | fail)
   refine qR (v:=.tuple #[.agg #[.int .i64 k5,.int .i64 i5,.slice A0 L0 C0,.slice A1 L1 C1,.slice A2 L2 C2],.slice (some ⟨g,0,none⟩) n n,.int .i64 0]) (qb4 rfl _ _ (w.heap.size+1) 46 _ _ rfl (qT _ _ _ _ _ _ ai) underlying46 rfl 5 (by kernel_rfl) rfl _ _ rfl rfl) rfl ?_;refine⟨qS K6.o.1.1.1.1 (qa6 _) _,.inr ⟨_,g,K,_,by rw [H.o.2.2],?_,K6.o.1.2.2.keepB (qb3 _ _ _) ai (qjH _ _ _ _ _ _ _ _ _ _ _),⟨X,bA.o,rfl,H.o.2.1⟩⟩⟩;rw [H.o.2.2];exact (K6.o.1.2.1.keep (qb3 _ _ _) (by rw [G.o.2.2.2.2.2];omega)).mono (qap aL.o)
  case false =>
   have aS:T.length=keep:=V.o.2.2.len;have aM:=qH (qjW R b ax c g5 0 keep keep (k':Int) Z (some ⟨g5,0,none⟩) l T w6 G.o.2.2.1 (by omega) G.o.2.2.2.1 aS (by omega) (fun x hx=>by
    rw [<-V.o.1] at hx;have:=qjF x hx;omega) (G.o.1.below K6.o.1.1.1.1) K6.o.2.all (G.o.2.1.below K6.o.1.1.1.1))
   clear aS ai;go_wp2_with fail;refine aM.o.mono ?_;intro e w7 aC;have K7:=K6.below aC.1;have av:=K7.o.1.1.2;have bv:=qH aC;clear aM aC;rcases bv.o.2 with ⟨v,rfl,hG⟩ | ⟨cc,rfl,hf⟩
   case inr =>
    have Y:(cc == (0:Int))=false:=beq_false_of_ne hf.ne;have bu:(cc != (0:Int))=true:=by rw [bne,Y];rfl
    have J:=qH hf;clear hf;unfold mdv0;have bn:=qT _ _ _ #[.int .i64 0,.int .i64 0,.slice none 0 0,.slice none 0 0,.slice none 0 0] _ _ av
    go_wp2_with (first | (with_reducible refine sR_ rfl 46 _ _ rfl (w.heap.size+1) #[.int .i64 0,.int .i64 0,.slice none 0 0,.slice none 0 0,.slice none 0 0] av 5 ?_) | (with_reducible refine sR_ rfl 46 _ _ rfl (w.heap.size+1) #[.int .i64 0,.int .i64 0,.slice none 0 0,.slice none 0 0,.slice none 0 0] bn 5 ?_) | fail)
    refine qR (v:=.tuple #[.agg #[.int .i64 0,.int .i64 0,.slice none 0 0,.slice none 0 0,.slice none 0 0],.slice none 0 0,.int .i64 cc]) (qb4 rfl _ _ (w.heap.size+1) 46 _ _ rfl (qT _ _ _ _ _ _ bn) underlying46 rfl 5 (by kernel_rfl) rfl _ _ rfl rfl) rfl ?_;exact⟨qS (qS K7.o.1.1.1.1 (qa6 _) _) (qa6 _) _,.inl ⟨cc,J.o.ne,rfl,.inr ⟨p,K,X,aa.o,H.o.1,.inr (by rw [aA.o,G.o.2.2.1];exact J.o)⟩⟩⟩
   have ae:FitG l (k':Int) (keepW T l.length) w7 v:=by rw [G.o.2.2.1];exact hG
   obtain⟨_,X0,ag,ah,hM⟩:=ae.kfit;obtain⟨j5,h5,D0,D1,D2,M0,E0,M1,E1,M2,E2,rfl⟩:=hM.five;have HL:Hu (RunL w #[.slice Z R c,.int .i64 (k':Int),.int .i64 (keep:Int)] l k' keep (p+1) g5 keep W1.heap.size (w7.setRow (w.heap.size+1) #[.int .i64 j5,.int .i64 h5,.slice D0 M0 E0,.slice D1 M1 E1,.slice D2 M2 E2])):=qH ⟨T,X0,_,_,_,_,_,_,_,_,_,_,_,⟨⟨K,X,H.o.1,aA.o.symm,ag⟩,ah,V.o.2.2.len⟩,RunK.store K7.o.1.1.1.1 K7.o.1.1.1.2 av K7.o.2 (by rw [G.o.2.2.2.2.2];omega) hM⟩;clear hG ae ag ah hM
   go_wp2_with (first | (with_reducible refine sR_ rfl 46 _ _ rfl (w.heap.size+1) #[.int .i64 j5,.int .i64 h5,.slice D0 M0 E0,.slice D1 M1 E1,.slice D2 M2 E2] av 5 ?_) | fail)
   go_roundw
   case rel=>exact⟨p+1,by go_num,aa.o,g5,keep,rfl,af.2,HL⟩
   case measure=>have:=aa.o;simp [intOf];omega
def qcF (kind drop F:Int) (k d p:Nat):Prop:=kind=(k:Int)/\(1<=k/\k<=3)/\drop=(d:Int)/\d<=50/\F=(p:Int)/\p<=8
def keepN (n d:Nat):Nat:=n-n*d / 100
theorem keepN_le {n d:Nat} (I:1<=n) (G:d<=50):1<=keepN n d/\keepN n d<=n:=by
 unfold keepN;have F:n*d<=n*50:=qaJ n G;obtain⟨m,H⟩:=qX (n*d);rw [H] at F ⊢;omega
def RFAs (w:World) (l:List Pt) (kind drop F:Int) (e:Ending) (w':World):Prop:=Below w.heap.size w w' /\
  ((¬PtsOk l/\e=.returned (.tuple #[mdv0,.slice none 0 0,.int .i64 310]))\/(PtsOk l/\(¬∃k d p,qcF kind drop F k d p)/\e=.returned (.tuple #[mdv0,.slice none 0 0,.int .i64 2])) \/
   (PtsOk l/\∃k d p,qcF kind drop F k d p/\RunAs w l k (keepN l.length d) p e w'))
theorem qdc (R b ae c:Nat) (kind drop F:Int) (ao:Option Addr) (l:List Pt) (w:World) (hR:l.length=R) (hl:R<=4611686018427387904) (ai:PtsOk l->R<20) (hs:∀k,k<R->(l.getD k pt0).name.size<=4611686018427387904/\(l.getD k pt0).dev.length<=4611686018427387904)
  (hP:PCells w ao b ae l) (hT:HasT w) :
  Calls prog 22 #[.slice ao R c,.int .i64 kind,.int .i64 drop,.int .i64 F] w fun e w'=>RFAs w l kind drop F e w':=by
 obtain⟨W1,ak,N1⟩:=nw1 w #[.int .i64 0,.int .i64 0,.slice none 0 0,.slice none 0 0,.slice none 0 0] 46;have HC:=qH (qfB ao b ae R c l W1 hR hl hs (hP.below N1.o.1));have Z:=qH (qA hP (qA hT (qA hR (qA hs ai))));clear hP hT hR hs ai;go_enter func22,ntmps22;go_upto_region 1 with fail;rw [<-ak];clear ak;go_wp2_with fail;refine HC.o.mono ?_;rintro e w2 ⟨z,rfl,hz,au⟩;have J:=N1.below au;have G:=J.o.2;clear au HC N1;rcases hz with ⟨rfl,Y⟩ | ⟨rfl,aA⟩
 case inr =>
  have I:=qH aA;clear aA
  go_wp2_with (first | (with_reducible refine sR_ rfl 46 _ _ rfl (w.heap.size) #[.int .i64 0,.int .i64 0,.slice none 0 0,.slice none 0 0,.slice none 0 0] G 5 ?_) | fail)
  refine qR (v:=.tuple #[.agg #[.int .i64 0,.int .i64 0,.slice none 0 0,.slice none 0 0,.slice none 0 0],.slice none 0 0,.int .i64 310]) (qb4 rfl _ _ w.heap.size 46 _ _ rfl (qT _ _ _ _ _ _ G) underlying46 rfl 5 (by kernel_rfl) rfl _ _ rfl rfl) rfl ?_;exact⟨qS J.o.1 qN _,.inl ⟨I.o,rfl⟩⟩
 have H:=qH Y;have hr:=Y.r1;rw [Z.o.2.2.1] at hr;have aj:=Z.o.2.2.2.2 Y;clear Y
 by_cases aH:kind<1
 ·have I:Hu (¬∃k d p,qcF kind drop F k d p):=qH fun⟨k,d,p,h⟩=>by have:=h.1;have:=h.2.1;omega
  go_wp2_with (first | (with_reducible refine sR_ rfl 46 _ _ rfl (w.heap.size) #[.int .i64 0,.int .i64 0,.slice none 0 0,.slice none 0 0,.slice none 0 0] G 5 ?_) | fail)
  refine qR (v:=.tuple #[.agg #[.int .i64 0,.int .i64 0,.slice none 0 0,.slice none 0 0,.slice none 0 0],.slice none 0 0,.int .i64 2]) (qb4 rfl _ _ w.heap.size 46 _ _ rfl (qT _ _ _ _ _ _ G) underlying46 rfl 5 (by kernel_rfl) rfl _ _ rfl rfl) rfl ?_;exact⟨qS J.o.1 qN _,.inr (.inl ⟨H.o,I.o,rfl⟩)⟩
 by_cases aI:kind > 3
 ·have I:Hu (¬∃k d p,qcF kind drop F k d p):=qH fun⟨k,d,p,h⟩=>by have:=h.1;have:=h.2.1;omega
  go_wp2_with (first | (with_reducible refine sR_ rfl 46 _ _ rfl (w.heap.size) #[.int .i64 0,.int .i64 0,.slice none 0 0,.slice none 0 0,.slice none 0 0] G 5 ?_) | fail)
  refine qR (v:=.tuple #[.agg #[.int .i64 0,.int .i64 0,.slice none 0 0,.slice none 0 0,.slice none 0 0],.slice none 0 0,.int .i64 2]) (qb4 rfl _ _ w.heap.size 46 _ _ rfl (qT _ _ _ _ _ _ G) underlying46 rfl 5 (by kernel_rfl) rfl _ _ rfl rfl) rfl ?_;exact⟨qS J.o.1 qN _,.inr (.inl ⟨H.o,I.o,rfl⟩)⟩
 by_cases aF:drop<0
 ·have I:Hu (¬∃k d p,qcF kind drop F k d p):=qH fun⟨k,d,p,h⟩=>by have:=h.2.2.1;omega
  go_wp2_with (first | (with_reducible refine sR_ rfl 46 _ _ rfl (w.heap.size) #[.int .i64 0,.int .i64 0,.slice none 0 0,.slice none 0 0,.slice none 0 0] G 5 ?_) | fail)
  refine qR (v:=.tuple #[.agg #[.int .i64 0,.int .i64 0,.slice none 0 0,.slice none 0 0,.slice none 0 0],.slice none 0 0,.int .i64 2]) (qb4 rfl _ _ w.heap.size 46 _ _ rfl (qT _ _ _ _ _ _ G) underlying46 rfl 5 (by kernel_rfl) rfl _ _ rfl rfl) rfl ?_;exact⟨qS J.o.1 qN _,.inr (.inl ⟨H.o,I.o,rfl⟩)⟩
 by_cases aG:drop > 50
 ·have I:Hu (¬∃k d p,qcF kind drop F k d p):=qH fun⟨k,d,p,h⟩=>by have:=h.2.2.1;have:=h.2.2.2.1;omega
  go_wp2_with (first | (with_reducible refine sR_ rfl 46 _ _ rfl (w.heap.size) #[.int .i64 0,.int .i64 0,.slice none 0 0,.slice none 0 0,.slice none 0 0] G 5 ?_) | fail)
  refine qR (v:=.tuple #[.agg #[.int .i64 0,.int .i64 0,.slice none 0 0,.slice none 0 0,.slice none 0 0],.slice none 0 0,.int .i64 2]) (qb4 rfl _ _ w.heap.size 46 _ _ rfl (qT _ _ _ _ _ _ G) underlying46 rfl 5 (by kernel_rfl) rfl _ _ rfl rfl) rfl ?_;exact⟨qS J.o.1 qN _,.inr (.inl ⟨H.o,I.o,rfl⟩)⟩
 by_cases aK:F<0
 ·have I:Hu (¬∃k d p,qcF kind drop F k d p):=qH fun⟨k,d,p,h⟩=>by have:=h.2.2.2.2.1;omega
  go_wp2_with (first | (with_reducible refine sR_ rfl 46 _ _ rfl (w.heap.size) #[.int .i64 0,.int .i64 0,.slice none 0 0,.slice none 0 0,.slice none 0 0] G 5 ?_) | fail)
  refine qR (v:=.tuple #[.agg #[.int .i64 0,.int .i64 0,.slice none 0 0,.slice none 0 0,.slice none 0 0],.slice none 0 0,.int .i64 2]) (qb4 rfl _ _ w.heap.size 46 _ _ rfl (qT _ _ _ _ _ _ G) underlying46 rfl 5 (by kernel_rfl) rfl _ _ rfl rfl) rfl ?_;exact⟨qS J.o.1 qN _,.inr (.inl ⟨H.o,I.o,rfl⟩)⟩
 by_cases aL:F > 8
 ·have I:Hu (¬∃k d p,qcF kind drop F k d p):=qH fun⟨k,d,p,h⟩=>by have:=h.2.2.2.2.1;have:=h.2.2.2.2.2;omega
  go_wp2_with (first | (with_reducible refine sR_ rfl 46 _ _ rfl (w.heap.size) #[.int .i64 0,.int .i64 0,.slice none 0 0,.slice none 0 0,.slice none 0 0] G 5 ?_) | fail)
  refine qR (v:=.tuple #[.agg #[.int .i64 0,.int .i64 0,.slice none 0 0,.slice none 0 0,.slice none 0 0],.slice none 0 0,.int .i64 2]) (qb4 rfl _ _ w.heap.size 46 _ _ rfl (qT _ _ _ _ _ _ G) underlying46 rfl 5 (by kernel_rfl) rfl _ _ rfl rfl) rfl ?_;exact⟨qS J.o.1 qN _,.inr (.inl ⟨H.o,I.o,rfl⟩)⟩
 obtain⟨k,rfl⟩:∃k:Nat,kind=(k:Int):=⟨kind.toNat,by omega⟩;obtain⟨d,rfl⟩:∃d:Nat,drop=(d:Int):=⟨drop.toNat,by omega⟩;obtain⟨p,rfl⟩:∃p:Nat,F=(p:Int):=⟨F.toNat,by omega⟩;have HA:Hu (qcF (k:Int) (d:Int) (p:Int) k d p):=qH ⟨rfl,by omega,rfl,by omega,rfl,by omega⟩;have aD:R*d<=R*50:=qaJ R (by omega);obtain⟨m,hm⟩:=qX (R*d);have aC:(R:Int)*(d:Int)=(m:Int):=by rw [<-hm];exact (Int.natCast_mul R d).symm
 have aJ:m<=1000:=by omega
 have aM:IntKind.i64.wrap ((R:Int)*(d:Int))=(m:Int):=by rw [aC,IntKind.wrap_i64];omega
 have ay:keepN R d=R-m / 100:=by unfold keepN;rw [hm]
 have aB:(R:Int)-(m:Int) / 100=((keepN R d:Nat):Int):=by rw [ay];omega
 obtain⟨kp,V⟩:=qX (keepN R d);rw [V] at aB;have ax:1<=kp/\kp<=R:=by rw [<-V];exact keepN_le hr (by omega)
 have ah:=qH (run_any R b ae c k kp p ao l w2 Z.o.2.2.1 hr aj HA.o.2.1 ax (by have:=HA.o.2.2.2.2.2;omega) Z.o.2.2.2.1 (Z.o.1.below J.o.1) (Z.o.2.1.below J.o.1));have ag:=qH V;clear ay hm V ax;go_wp2_with fail;refine ah.o.mono ?_;rintro e w3 ⟨aa,h⟩;have K3:=J.below aa;have U:=K3.o.2;have az:w.heap.size<w2.heap.size:=(qG G).1;have af:=qH (qA aa az);clear G ah aa az;rcases h with ⟨cc,av,rfl,hf⟩ | ⟨v,g,K,md,rfl,hN,hM,hG⟩
 ·have HF:=qH (qA av hf);clear hf av;unfold mdv0
  go_wp2_with (first | (with_reducible refine sR_ rfl 46 _ _ rfl (w.heap.size) #[.int .i64 0,.int .i64 0,.slice none 0 0,.slice none 0 0,.slice none 0 0] U 5 ?_) | fail)
  refine qR (v:=.tuple #[.agg #[.int .i64 0,.int .i64 0,.slice none 0 0,.slice none 0 0,.slice none 0 0],.slice none 0 0,.int .i64 cc]) (qb4 rfl _ _ w.heap.size 46 _ _ rfl (qT _ _ _ _ _ _ U) underlying46 rfl 5 (by kernel_rfl) rfl _ _ rfl rfl) rfl ?_;have O:=qS K3.o.1 (qae w.heap.size) #[.int .i64 0,.int .i64 0,.slice none 0 0,.slice none 0 0,.slice none 0 0];exact⟨O,.inr (.inr ⟨H.o,k,d,p,HA.o,O,.inl ⟨cc,HF.o.1,rfl,by rw [Z.o.2.2.1,ag.o];exact HF.o.2⟩⟩)⟩
 ·obtain⟨k5,i5,A0,A1,A2,L0,C0,L1,C1,L2,C2,rfl⟩:=hM.five;have HF:=qH (qA hN (qA hM hG));clear hN hM hG
  go_wp2_with (first | (with_reducible refine sR_ rfl 46 _ _ rfl (w.heap.size) #[.int .i64 k5,.int .i64 i5,.slice A0 L0 C0,.slice A1 L1 C1,.slice A2 L2 C2] U 5 ?_) | fail)
  refine qR (v:=.tuple #[.agg #[.int .i64 k5,.int .i64 i5,.slice A0 L0 C0,.slice A1 L1 C1,.slice A2 L2 C2],.slice (some ⟨g,0,none⟩) K.length K.length,.int .i64 0]) (qb4 rfl _ _ w.heap.size 46 _ _ rfl (qT _ _ _ _ _ _ U) underlying46 rfl 5 (by kernel_rfl) rfl _ _ rfl rfl) rfl ?_;have O:=qS K3.o.1 (qae w.heap.size) #[.int .i64 k5,.int .i64 i5,.slice A0 L0 C0,.slice A1 L1 C1,.slice A2 L2 C2];exact⟨O,.inr (.inr ⟨H.o,k,d,p,HA.o,O,.inr ⟨_,g,K,md,rfl,(HF.o.1.keep (qb3 _ _ _) af.o.2).mono (qap af.o.2),HF.o.2.1.keepB (qb3 _ _ _) U (qjH _ _ _ _ _ _ _ _ _ _ _),by rw [Z.o.2.2.1,ag.o];exact HF.o.2.2⟩⟩)⟩
theorem readq {p:Rat} (O:Short p) (w:World):Calls prog 91 #[.agg #[.string (ftxt p).1,.string (ftxt p).2]] w fun e w'=>∃(a:Option Addr) (n c:Nat) (b:Bool) (d:Option Addr) (m f:Nat),e=.returned (.tuple #[.agg #[.slice a n c,.bool b,.slice d m f],.bool true])/\RatV w' (.agg #[.slice a n c,.bool b,.slice d m f]) p/\RFit p 67/\Below w.heap.size w w':=by
 refine (qdM _ _ w).mono ?_;rintro e w' ⟨v,ok,rfl,h | h,J⟩
 ·obtain⟨rfl,G,I⟩:=h;have F:=G.at I;have H:=G.fit;rw [qdN] at F H;obtain⟨a,n,c,b,d,m,f,rfl⟩:=qcV F;exact⟨a,n,c,b,d,m,f,rfl,F,H,J⟩
 ·exact absurd (qe2 O) h.2.1
def RBlk (W:World) (g:Nat) (q:Rat):Prop:=∃(a:Option Addr) (n c:Nat) (b:Bool) (d:Option Addr) (m f:Nat),W.heap[g]? = some (.cells #[.slice a n c,.bool b,.slice d m f] 127 (0,0))/\RatV W (.agg #[.slice a n c,.bool b,.slice d m f]) q
theorem RBlk.below {W W':World} {g:Nat} {q:Rat} (h:RBlk W g q) (F:Below W.heap.size W W'):RBlk W' g q:=by
 obtain⟨a,n,c,b,d,m,f,G,H⟩:=h;exact⟨a,n,c,b,d,m,f,zkeep F _ _ G,H.below F⟩
theorem qiD {a:Option Addr} {n c:Nat} {b:Bool} {d:Option Addr} {m f:Nat}:∀x∈(#[.slice a n c,.bool b,.slice d m f]:Array Value).toList,∀z,x≠.int .u32 z:=by
 intro x F z;simp at F;rcases F with rfl | rfl | rfl <;> intro h <;> cases h
theorem RatV.keep {W W':World} {v:Value} {q:Rat} {g:Nat} {cs:Array Value} {t:TypeId} (h:RatV W v q) (F:W.grownBy W' (some g)) (hg:W.heap[g]? = some (.cells cs t (0,0))) (G:∀x∈cs.toList,∀z,x≠.int .u32 z):RatV W' v q:=by
 obtain⟨m,o,H,I,J⟩:=h;exact⟨m,o,H,qch I F hg G,qch J F hg G⟩
theorem qk0 (S P:Rat) (K:Nat) (U:K<=34359738368) (G:Nat) (v:Value) (w:World) (hs:RBlk w G S) (Y:RatV w v P) (hS:RFit S K) (hP:RFit P K) :
  Calls prog 164 #[v,.pointer (some ⟨G,0,none⟩)] w fun e w'=>e=.returned (.tuple #[])/\RBlk w' G (S+P)/\w.grownBy w' (some G):=by
 obtain⟨a,n,c,b,d,m,f,h1,h2⟩:=hs;obtain⟨a0,n0,c0,b0,d0,m0,f0,rfl⟩:=qcV Y;obtain⟨W1,J,H⟩:=nw1 w #[.slice a0 n0 c0,.bool b0,.slice d0 m0 f0] 127;have hr:=zkeep H.o.1 _ _ h1;have x0:=qC _ _ 0 _ _ _ hr;have x1:=qC _ _ 1 _ _ _ hr;have x2:=qC _ _ 2 _ _ _ hr;have y0:=qC _ _ 0 _ _ _ H.o.2;have y1:=qC _ _ 1 _ _ _ H.o.2;have y2:=qC _ _ 2 _ _ _ H.o.2;have Z:=qH (radd_any S P K U _ _ W1 (h2.below H.o.1) (Y.below H.o.1) hS hP);have HX:=qH hr;clear h1 h2 Y hr hS hP;go_enter func164,ntmps164;go_upto_region 1 with fail;rw [<-J];clear J;go_wp2_with fail;refine Z.o.mono ?_;rintro e w2 ⟨r,rfl,V,hr⟩;obtain⟨e0,e1,e2,e3,e4,e5,e6,rfl⟩:=qcV hr;have F:=zkeep V _ _ HX.o;have O:=qH (qA (qT _ _ _ #[.slice e0 e1 e2,.bool e3,.slice e4 e5 e6] _ _ F) (qA (qbR (qca (keepB (g:=G) H.o.1) V) (qb3 w2 G #[.slice e0 e1 e2,.bool e3,.slice e4 e5 e6])) (hr.keep (qb3 w2 G #[.slice e0 e1 e2,.bool e3,.slice e4 e5 e6]) F qiD)));have I:=qH F;clear V hr F Z;rename_i U;dsimp only;refine U _ _ ?_
 go_wp2_with ((with_reducible refine sR_ rfl 127 _ _ rfl (G) #[.slice e0 e1 e2,.bool e3,.slice e4 e5 e6] I.o 3 ?_))
 go_end0
 exact⟨rfl,⟨e0,e1,e2,e3,e4,e5,e6,O.o.1,O.o.2.2⟩,O.o.2.1⟩
theorem RFit.plus {p q:Rat} {K J:Nat} (F:RFit p K) (G:RFit q J):RFit (p+q) (K+J+1):=by
 have H:Fit (p.num*q.den+q.num*p.den).natAbs (K+J+1):=by
  refine (Fit.add (x:=(p.num*q.den).natAbs) (y:=(q.num*p.den).natAbs) (K:=K+J) ?_ ?_).le (Int.natAbs_add_le _ _)
  ·rw [qaD,qaq];exact F.1.mul G.2
  ·rw [qaD,qaq,Nat.add_comm K J];exact G.1.mul F.2
 have I:Fit (p.den*q.den) (K+J+1):=(F.2.mul G.2).mono (by omega);rw [Rat.add_def'];have hne:=qbF p.den_nz q.den_nz
 constructor
 ·rw [Rat.num_mkRat,if_neg hne];refine H.le ?_;rw [Int.natAbs_ediv_of_dvd (Int.ofNat_dvd_left.2 (qaR _ _))];exact qaM _ _
 ·rw [Rat.den_mkRat,if_neg hne];exact I.le (qaM _ _)
theorem RFit.up {q:Rat} {K J:Nat} (h:RFit q K) (F:K<=J):RFit q J:=⟨h.1.mono F,h.2.mono F⟩
structure RCells (W:World) (b n:Nat) (x:Nat->Rat):Prop where
 cell:∀k,k<n->∃(a:Option Addr) (m c:Nat) (bb:Bool) (d:Option Addr) (e f:Nat),W.cell? ⟨b,k*3,none⟩=some (.slice a m c)/\W.cell? ⟨b,k*3+1,none⟩=some (.bool bb)/\W.cell? ⟨b,k*3+2,none⟩=some (.slice d e f)/\RatV W (.agg #[.slice a m c,.bool bb,.slice d e f]) (x k)
theorem RCells.below {W W':World} {b n:Nat} {x:Nat->Rat} (h:RCells W b n x) (F:Below W.heap.size W W'):RCells W' b n x:=⟨fun k O=>by
 obtain⟨a,m,c,bb,d,e,f,G,H,I,J⟩:=h.cell k O;exact⟨a,m,c,bb,d,e,f,(F.cell (qac W _ G)).trans G,(F.cell (qac W _ H)).trans H,(F.cell (qac W _ I)).trans I,J.below F⟩⟩
theorem one_mag (W:World) (g:Nat) (h:W.heap[g]? = some (.cells #[.int .u32 1] 201 (0,0))):MagAt W (.slice (some ⟨g,0,none⟩) 1 1) 1:=by
 refine⟨some ⟨g,0,none⟩,g,0,1,1,[1],rfl,⟨rfl,qae _,⟨fun _=>rfl,fun k F=>?_⟩,fun k=>?_,qaj (by decide)⟩,by decide⟩
 ·obtain rfl:k=0:=by simp at F;omega
  exact qC _ _ 0 _ _ _ h
 ·rcases k with _ | k
  ·decide
  ·simp
theorem qmQ (b n c:Nat) (ao:Option Addr) (x:Nat->Rat) (w:World) (aa:0<n->ao=some ⟨b,0,none⟩) (hn:n<=300) (hx:∀k,k<n->RFit (x k) 67) (hC:RCells w b n x) :
  Calls prog 92 #[.slice ao n c] w fun e w'=>∃r,e=.returned r/\Below w.heap.size w w'/\RatV w' r (sumQ n x)/\RFit (sumQ n x) (68*n+1):=by
 obtain⟨W1,J,N1⟩:=nw1 w #[.slice none 0 0,.bool false,.slice none 0 0] 127;obtain⟨W2,O,N2⟩:=nw1 W1 #[.int .u32 1] 201;have V:W1.heap.size=w.heap.size+1:=by rw [J];simp
 have ah:W2.heap.size=w.heap.size+1+1:=by rw [O];simp [V]
 obtain⟨W3,Z,N3⟩:=nw1 W2 #[.slice none 0 0,.bool false,.slice (some ⟨w.heap.size+1,0,none⟩) 1 1] 127;have I:W1.heap[w.heap.size]? = some (.cells #[.slice none 0 0,.bool false,.slice none 0 0] 127 (0,0)):=N1.o.2;have Y:=N2.o.2;rw [V] at Y;have H:=N3.o.2;rw [ah] at H;have af:Below w.heap.size w W3:=N1.o.1.trans ((N2.o.1.trans (N3.o.1.mono N2.o.1.size)).mono N1.o.1.size);have hz:RBlk W3 (w.heap.size+1+1) 0:=by
  refine⟨none,0,0,false,_,1,1,H,.slice none 0 0,.slice (some ⟨w.heap.size+1,0,none⟩) 1 1,rfl,MagAt.nil _,?_⟩;exact (one_mag _ _ Y).below N3.o.1
 have ag:=zkeep N3.o.1 _ _ (zkeep N2.o.1 _ _ I);have ak:=@hmf_ prog;have H0:=qH (qA af (qA hz ag));have HX:=qH (qA aa (qA hx (hC)));clear I Y H af hz ag V ah N1 N2 N3 aa hx hC;go_enter func92,ntmps92;go_upto_region 2 with fail;rw [<-J,<-O,<-Z];clear J O Z;go_wp2_with fail
 go_loopw [12] (fun x12 W=>∃i:Nat,x12=.int .i64 i/\i<=n/\Hu (Below w.heap.size w W/\RBlk W (w.heap.size+1+1) (sumQ i x)/\W.heap[w.heap.size]? = some (.cells #[.slice none 0 0,.bool false,.slice none 0 0] 127 (0,0))/\RFit (sumQ i x) (68*i+1))) (fun x12 _=>n-(intOf x12).toNat)
 case atStart =>
  exact⟨0,rfl,qan _,qH ⟨H0.o.1,H0.o.2.1,H0.o.2.2,⟨(by show (0:Nat)<1000000000 ^ 1;decide),(by show (1:Nat)<1000000000 ^ 1;decide)⟩⟩⟩
 case round =>
  obtain⟨i,rfl,aj,F⟩:=hrel
  by_cases hi:i<n
  ·have ai:(i:Int)<n:=by omega
   have ha:=HX.o.1 (by omega);subst ha;obtain⟨a0,m0,c0,b0,d0,e0,f0,y0,y1,y2,hv⟩:=(HX.o.2.2.below F.o.1).cell i hi;have au:i*3<n*3:=by omega
   have HV:=qH hv;clear hv;go_wp2_with fail;have G:Below wr.heap.size wr (wr.alloc (.cells #[.slice a0 m0 c0,.bool b0,.slice d0 e0 f0] 127)):=qB.alloc qN _;refine (qk0 (sumQ i x) (x i) (68*n+68) (by omega) (w.heap.size+1+1) _ _ (F.o.2.1.below G) (HV.o.below G) (F.o.2.2.2.up (by omega)) ((HX.o.2.1 i hi).up (by omega))).mono ?_;rintro e w5 ⟨rfl,hr,U⟩;have HN:Hu (Below w.heap.size w w5/\RBlk w5 (w.heap.size+1+1) (sumQ i x+x i)/\w5.heap[w.heap.size]? = some (.cells #[.slice none 0 0,.bool false,.slice none 0 0] 127 (0,0))):=qH (by
    have ae:=F.o.1.trans (G.mono F.o.1.size);refine⟨ae.trans ⟨U.os,U.tape,U.output,U.size,fun j hj=>U.block j (by have:=ae.size;omega) (fun e=>by have:=qag e;omega)⟩,hr,?_⟩;have hg:=zkeep G _ _ F.o.2.2.1;exact (U.block _ (qG hg).1 (fun e=>by have:=qag e;omega)).trans hg)
   clear hr U;go_wp2;go_roundw
   case rel=>exact⟨i+1,by go_num,hi,qH ⟨HN.o.1,HN.o.2.1,HN.o.2.2,(F.o.2.2.2.plus (HX.o.2.1 i hi)).up (by omega)⟩⟩
   case measure=>simp [intOf];omega
  ·obtain rfl:i=n:=by omega
   obtain⟨hb,⟨a,m,c',bb,d,e',f,h1,Y⟩,H,h4⟩:=F.o;have x0:=qC _ _ 0 _ _ _ h1;have x1:=qC _ _ 1 _ _ _ h1;have x2:=qC _ _ 2 _ _ _ h1;have HE:=qH (qA (qT _ _ _ #[.slice a m c',.bool bb,.slice d e' f] _ _ H) (qA (qS hb qN #[.slice a m c',.bool bb,.slice d e' f]) (qA (Y.keep (qb3 _ w.heap.size #[.slice a m c',.bool bb,.slice d e' f]) H qiD) h4)));have Hr:=qH H;clear F hb h1 Y H h4
   go_wp2_with ((with_reducible refine sR_ rfl 127 _ _ rfl (w.heap.size) #[.slice a m c',.bool bb,.slice d e' f] Hr.o 3 ?_))
   exact qR (v:=.agg #[.slice a m c',.bool bb,.slice d e' f]) (rA_ rfl (w.heap.size) HE.o.1 underlying127 3) rfl ⟨_,rfl,HE.o.2.1,HE.o.2.2.1,HE.o.2.2.2⟩
def RRow (W:World) (g n:Nat) (x:Nat->Rat) (i:Nat):Prop:=∃cs:Array Value,W.heap[g]? = some (.cells cs 127 (0,0))/\cs.size=n*3/\(∀y∈cs.toList,∀z,y≠.int .u32 z)/\RCells W g i x
theorem RRow.below {W W':World} {g n i:Nat} {x:Nat->Rat} (h:RRow W g n x i) (F:Below W.heap.size W W'):RRow W' g n x i:=by
 obtain⟨cs,G,H,I,J⟩:=h;exact⟨cs,zkeep F _ _ G,H,I,J.below F⟩
theorem RRow.at {W:World} {g n i:Nat} {x:Nat->Rat} (h:RRow W g n x i) (I:i<n):(∃v0 G v2,W.cell? ⟨g,i*3,none⟩=some v0/\W.cell? ⟨g,i*3+1,none⟩=some G/\W.cell? ⟨g,i*3+2,none⟩=some v2)/\∀j,W.frozen? ⟨g,j,none⟩=false:=by
 obtain⟨cs,F,H,_,_⟩:=h;refine⟨⟨cs[i*3]'(by omega),cs[i*3+1]'(by omega),cs[i*3+2]'(by omega),?_,?_,?_⟩,fun j=>qF _ _ _ _ _ F⟩
 ·exact (qC _ _ _ _ _ _ F).trans (Array.getElem?_eq_getElem _)
 ·exact (qC _ _ _ _ _ _ F).trans (Array.getElem?_eq_getElem _)
 ·exact (qC _ _ _ _ _ _ F).trans (Array.getElem?_eq_getElem _)
theorem qjg {cs:Array Value} {k:Nat} {v y:Value} (h:y∈(cs.setIfInBounds k v).toList):y∈cs.toList\/y=v:=by
 rw [Array.toList_setIfInBounds] at h;exact List.mem_or_eq_of_mem_set h
theorem RRow.set {W:World} {g n i:Nat} {x:Nat->Rat} (h:RRow W g n x i) (hi:i<n) {a:Option Addr} {m c:Nat} {b:Bool} {d:Option Addr} {e f:Nat} (Z:RatV W (.agg #[.slice a m c,.bool b,.slice d e f]) (x i)) :
  RRow (((W.setCell ⟨g,i*3,none⟩ (.slice a m c)).setCell ⟨g,i*3+1,none⟩ (.bool b)).setCell ⟨g,i*3+2,none⟩ (.slice d e f)) g n x (i+1):=by
 obtain⟨cs,H,U,I,V⟩:=h;have O:W.grownBy (((W.setCell ⟨g,i*3,none⟩ (.slice a m c)).setCell ⟨g,i*3+1,none⟩ (.bool b)).setCell ⟨g,i*3+2,none⟩ (.slice d e f)) (some g):=qbR (qbR (qbO W g (i*3) _) (qbO _ g (i*3+1) _)) (qbO _ g (i*3+2) _);have J:=heap_setCell_same _ g (i*3+2) _ _ (.slice d e f) (heap_setCell_same _ g (i*3+1) _ _ (.bool b) (heap_setCell_same _ g (i*3) _ _ (.slice a m c) H));refine⟨_,J,by simp [U],fun y G z=>?_,⟨fun k Y=>?_⟩⟩
 ·rcases qjg G with G | rfl
  ·rcases qjg G with G | rfl
   ·rcases qjg G with G | rfl
    ·exact I y G z
    ·intro h;cases h
   ·intro h;cases h
  ·intro h;cases h
 ·have F:∀j,(((W.setCell ⟨g,i*3,none⟩ (.slice a m c)).setCell ⟨g,i*3+1,none⟩ (.bool b)).setCell ⟨g,i*3+2,none⟩ (.slice d e f)).cell? ⟨g,j,none⟩=(((cs.setIfInBounds (i*3) (.slice a m c)).setIfInBounds (i*3+1) (.bool b)).setIfInBounds (i*3+2) (.slice d e f))[j]?:=fun j=>qC _ _ _ _ _ _ J
  rcases qaV k i with hlt | hge
  ·obtain⟨a',m',c',b',d',e',f',g1,g2,g3,g4⟩:=V.cell k hlt;rw [qC _ _ _ _ _ _ H] at g1 g2 g3;refine⟨a',m',c',b',d',e',f',?_,?_,?_,g4.keep O H I⟩
   ·rw [F,qaN (by omega),qaN (by omega),qaN (by omega)];exact g1
   ·rw [F,qaN (by omega),qaN (by omega),qaN (by omega)];exact g2
   ·rw [F,qaN (by omega),qaN (by omega),qaN (by omega)];exact g3
  ·obtain rfl:k=i:=by omega
   refine⟨a,m,c,b,d,e,f,?_,?_,?_,Z.keep O H I⟩
   ·rw [F,qaN (by omega),qaN (by omega),Array.getElem?_setIfInBounds_self_of_lt (by omega)]
   ·rw [F,qaN (by omega),Array.getElem?_setIfInBounds_self_of_lt (by simp;omega)]
   ·rw [F,Array.getElem?_setIfInBounds_self_of_lt (by simp;omega)]
theorem infoRt:(Tryz.prog.info? 127).map (fun i=>(i.zero,i.size,i.bytes))=some (some (.agg #[.slice none 0 0,.bool false,.slice none 0 0]),3,56):=by kernel_rfl
theorem make_rts (n:Nat) (J:n<=1000) (w:World):(Instr.makeSlice 158 (.int .i64 (n:Int)) (.int .i64 (n:Int))).run prog w=.ok (.slice (some ⟨w.heap.size,0,none⟩) n n) (w.alloc (.cells (madeCells #[.slice none 0 0,.bool false,.slice none 0 0] (n*3)) 127)):=by
 obtain⟨i,I,F,G,H⟩:=info_parts infoRt;have h:=run_make (P:=prog) w 158 127 i _ underlying158 I F .i64 .i64 (n:Int) (n:Int) (by omega) (Int.le_refl _) (by rw [H];omega) (by omega);rw [G,Int.toNat_natCast] at h;exact h
theorem RRow.made (W:World) (n:Nat) (x:Nat->Rat):RRow (W.alloc (.cells (madeCells #[.slice none 0 0,.bool false,.slice none 0 0] (n*3)) 127)) W.heap.size n x 0:=by
 refine⟨_,qM _ _ _ rfl,size_madeCells _ _,fun y F z=>?_,⟨fun k G=>absurd G (qbb _)⟩⟩;simp [madeCells] at F;obtain⟨j,_,rfl⟩:=F;rcases (show j % 3=0\/j % 3=1\/j % 3=2 by omega) with e | e | e <;> rw [e] <;> intro h <;> cases h
theorem sum_any (b n c:Nat) (ao:Option Addr) (x:Nat->Rat) (w:World) (hn:n<=300) (hF:FCells w ao b 0 (told n x)) (hx:qbP n x) (hs:Short (sumQ n x)) (hT:HasT w) :
  Calls prog 49 #[.slice ao n c] w fun e w'=>e=.returned (.tuple #[.agg #[.string (ftxt (sumQ n x)).1,.string (ftxt (sumQ n x)).2],.int .i64 0])/\Below w.heap.size w w':=by
 obtain⟨r1,r2,hr⟩:=qcs (sumQ n x);rw [hr];obtain⟨W1,Y,N1⟩:=nw1 w #[.string ⟨#[]⟩,.string ⟨#[]⟩] 27;have ae:W1.heap.size=w.heap.size+1:=by rw [Y];simp
 have ai:=make_rts n (by omega) W1;obtain⟨W2,J⟩:=qY (W1.alloc (.cells (madeCells #[.slice none 0 0,.bool false,.slice none 0 0] (n*3)) 127));rw [<-J,ae] at ai;have ak:RRow W2 (w.heap.size+1) n x 0:=by rw [J,<-ae];exact RRow.made W1 n x
 have Z:Below W1.heap.size W1 W2:=J▸qB.alloc qN _;have H0:=qH (qA (N1.o.1.trans (Z.mono N1.o.1.size)) (qA ak (zkeep Z _ _ N1.o.2)));have V:=qH (qA hF (qA hx (qA hs (qA hT hr))));have aA:¬(300:Int)<n:=by omega
 clear N1 ae ak Z hF hx hs hT hr J;go_enter func49,ntmps49;go_upto_region 1 with fail;rw [<-Y];clear Y;go_wp2_with fail;clear ai
 go_loopw [18] (fun x18 W=>∃i:Nat,x18=.int .i64 i/\i<=n/\Hu (Below w.heap.size w W/\RRow W (w.heap.size+1) n x i/\W.heap[w.heap.size]? = some (.cells #[.string ⟨#[]⟩,.string ⟨#[]⟩] 27 (0,0)))) (fun x18 _=>n-(intOf x18).toNat)
 case atStart=>exact⟨0,rfl,qan _,H0⟩
 case round =>
  obtain⟨i,rfl,az,U⟩:=hrel
  by_cases hi:i<n
  ·have ay:(i:Int)<n:=by omega
   have ha:=V.o.1.addr (by rw [qbQ];omega);subst ha;obtain⟨d0,d1⟩:=(V.o.1.below U.o.1).cell i (by rw [qbQ];exact hi);rw [qdB hi] at d0 d1;have G:=fun W=>readq (V.o.2.1 i hi) W
   obtain⟨t1,t2,ht⟩:=qcs (x i);rw [ht] at d0 d1 G;rw [qaL] at d0 d1;have G:=qH G;clear ht;go_wp2_with fail;refine (G.o _).mono ?_;rintro e w5 ⟨a0,m0,c0,b0,e0,e1,e2,rfl,hv,F,hb⟩;have O:Below wr.heap.size wr w5:=(qB.alloc qN _).trans (hb.mono (by simp only [qaa];omega));have HN:=qH (qA (U.o.1.trans (O.mono U.o.1.size)) (qA (U.o.2.1.below O) (qA (zkeep O _ _ U.o.2.2) (qA hv F))));clear hv F hb O G;obtain⟨V6,ah,N6⟩:=nw1 w5 #[.slice a0 m0 c0,.bool b0,.slice e0 e1 e2] 127;obtain⟨⟨v0,v1,v2,q0,q1,q2⟩,qf⟩:=(HN.o.2.1.below N6.o.1).at hi;have aB:=qf (i*3);have aC:=qf (i*3+1);have aD:=qf (i*3+2);have HS:=qH (qA (HN.o.1.trans (N6.o.1.mono HN.o.1.size)) (qA ((HN.o.2.1.below N6.o.1).set hi (HN.o.2.2.2.1.below N6.o.1)) (zkeep N6.o.1 _ _ HN.o.2.2.1)));go_upto_region 10 with fail;rw [<-ah];clear ah;have y0:=qC _ _ 0 _ _ _ N6.o.2;have y1:=qC _ _ 1 _ _ _ N6.o.2;have y2:=qC _ _ 2 _ _ _ N6.o.2;have ax:i*3<n*3:=by omega
   clear qf N6;go_wp2;go_roundw
   case rel =>
    refine⟨i+1,by go_num,hi,qH ⟨((HS.o.1.setCell (p:=⟨w.heap.size+1,i*3,none⟩) (show w.heap.size<=w.heap.size+1 by omega) _).setCell (p:=⟨w.heap.size+1,i*3+1,none⟩) (show w.heap.size<=w.heap.size+1 by omega) _).setCell (p:=⟨w.heap.size+1,i*3+2,none⟩) (show w.heap.size<=w.heap.size+1 by omega) _,HS.o.2.1,?_⟩⟩;exact (qW _ _ _ _ (show w.heap.size≠w.heap.size+1 by omega)).trans ((qW _ _ _ _ (show w.heap.size≠w.heap.size+1 by omega)).trans ((qW _ _ _ _ (show w.heap.size≠w.heap.size+1 by omega)).trans HS.o.2.2))
   case measure=>simp [intOf];omega
  ·obtain rfl:i=n:=by omega
   have I:∀k,k<i->RFit (x k) 67:=fun k hk=>by
    have:=(qe2 (V.o.2.1 k hk)).fit;rw [qdN] at this;exact this
   have aj:RCells wr (w.heap.size+1) i x:=by obtain⟨cs,_,_,_,h⟩:=U.o.2.1;exact h
   have af:=qH (qmQ (w.heap.size+1) i i (some ⟨w.heap.size+1,0,none⟩) x wr (fun _=>rfl) hn I aj);have HI:=qH U.o;clear U I aj;go_wp2_with fail;refine af.o.mono ?_;rintro e w5 ⟨r,rfl,hb,hv,F⟩;obtain⟨a0,m0,c0,b0,e0,e1,e2,rfl⟩:=qcV hv;have HB:=qH (HI.o.1.trans (hb.mono HI.o.1.size));have ag:=qH (zkeep hb _ _ HI.o.2.2);have HW:=qH (qfD (sumQ i x) (68*i+1) (by omega) (by omega) _ w5 hv F (V.o.2.2.2.1.below HB.o));clear hb hv F af;go_wp2_with fail;refine HW.o.mono ?_;rintro e w6 ⟨h,aa⟩;have au:=qH (HB.o.trans (aa.mono HB.o.size));have H:=qH (zkeep aa _ _ ag.o);clear aa HW;rcases h with ⟨_,rfl⟩ | ⟨av,_⟩
   case inr=>exact absurd V.o.2.2.1 av
   rw [qfS,V.o.2.2.2.2];have HE:=qH (qA (qT _ _ _ #[.string r1,.string r2] _ _ H.o) (qS au.o qN #[.string r1,.string r2]))
   go_wp2_with ((with_reducible refine sR_ rfl 27 _ _ rfl (w.heap.size) #[.string r1,.string r2] H.o 2 ?_))
   exact qR (v:=.tuple #[.agg #[.string r1,.string r2],.int .i64 0]) (rB_ rfl w.heap.size HE.o.1 underlying27 2) rfl ⟨rfl,HE.o.2⟩
def Rises (K:List Int) (R i:Nat):Prop:=∀j,j<i->(0<=K.getD j 0/\K.getD j 0<(R:Int))/\(0<j->K.getD (j-1) 0<K.getD j 0)
theorem Rises.more {K:List Int} {R i:Nat} (h:Rises K R i) (F:0<=K.getD i 0/\K.getD i 0<(R:Int)) (G:0<i->K.getD (i-1) 0<K.getD i 0):Rises K R (i+1):=fun j H=>by
 rcases (show j<i\/j=i by omega) with h3 | rfl
 ·exact h j h3
 ·exact⟨F,G⟩
def CoAs (w:World) (m:Md) (l:List Pt) (K:List Int) (e:Ending) (w':World):Prop:=Below w.heap.size w w' /\
  ((∃c,e=.returned (.tuple #[.agg #[.string ⟨#[]⟩,.string ⟨#[]⟩],.int .i64 c])/\SqF m l c) \/
   ∃F,PtsOk l/\MdOk m F (chans l)/\qbP l.length (sqq m l F) /\
    ((¬Rises K l.length K.length/\e=.returned (.tuple #[.agg #[.string ⟨#[]⟩,.string ⟨#[]⟩],.int .i64 2])) \/
     (Rises K l.length K.length/\e=.returned (.tuple #[.agg #[.string (ftxt (sumQ K.length fun i=>sqq m l F (K.getD i 0).toNat)).1,.string (ftxt (sumQ K.length fun i=>sqq m l F (K.getD i 0).toNat)).2],.int .i64 0]))))
theorem qds (R b aQ c n kb ko kc:Nat) (ao ka:Option Addr) (m:Md) (v:Value) (l:List Pt) (K:List Int) (w:World) (hM:MdAt w v m) (hR:l.length=R) (hl:R<=1000) (hs:∀k,k<R->(l.getD k pt0).name.size<=4611686018427387904/\(l.getD k pt0).dev.length<=4611686018427387904) (aI:∀q,q<3->(m.row q).length<=4611686018427387904)
  (hn:K.length=n) (aX:n<=300) (hP:PCells w ao b aQ l) (hK:NCells w ka kb ko K) (hT:HasT w)
  (ag:∀Z,MdOk m Z (chans l)->qbP l.length (sqq m l Z)->Rises K R n->Short (sumQ n fun i=>sqq m l Z (K.getD i 0).toNat)) :
  Calls prog 20 #[v,.slice ao R c,.slice ka n kc] w fun e w'=>CoAs w m l K e w':=by
 obtain⟨k5,i5,A0,A1,A2,L0,C0,L1,C1,L2,C2,rfl⟩:=hM.five;obtain⟨W1,ai,N1⟩:=nw2 w #[.int .i64 k5,.int .i64 i5,.slice A0 L0 C0,.slice A1 L1 C1,.slice A2 L2 C2] 46 #[.string ⟨#[]⟩,.string ⟨#[]⟩] 27;have aL:W1.heap.size=w.heap.size+1+1:=by rw [ai];simp
 have HQ:=qH (qgF m _ R b aQ c ao l W1 (hM.below N1.o.1) hR (by omega) hs aI (hP.below N1.o.1) (hT.below N1.o.1));have H:=qH (qA hR (qA hn (qA hK (qA hT (qA ag aL)))));have aK:=N1.o.2.1;clear hM hP hR hs aI hn hK hT ag aL;go_enter func20,ntmps20;go_upto_region 1 with fail;rw [<-ai];clear ai
 go_wp2_with (first | (with_reducible refine lW_ rfl 46 _ rfl (w.heap.size) #[.int .i64 k5,.int .i64 i5,.slice A0 L0 C0,.slice A1 L1 C1,.slice A2 L2 C2] aK underlying46 5 ?_) | fail)
 refine HQ.o.mono ?_;rintro e w2 ⟨aj,h⟩;have ay:=qH aj;have af:=zkeep aj _ _ N1.o.2.2;clear HQ aK aj;rcases h with ⟨v2,rfl,hG⟩ | ⟨cc,rfl,hf⟩
 case inr =>
  have aY:(cc == (0:Int))=false:=beq_false_of_ne hf.ne;have bu:(cc != (0:Int))=true:=by rw [bne,aY];rfl
  have aS:=qH hf;clear hf
  go_wp2_with (first | (with_reducible refine sR_ rfl 27 _ _ rfl (w.heap.size+1) #[.string ⟨#[]⟩,.string ⟨#[]⟩] af 2 ?_) | fail)
  refine qR (v:=.tuple #[.agg #[.string ⟨#[]⟩,.string ⟨#[]⟩],.int .i64 cc]) (rB_ rfl (w.heap.size+1) (qT _ _ _ _ _ _ af) underlying27 2) rfl ?_;exact⟨qS (N1.o.1.trans (ay.o.mono N1.o.1.size)) (qa6 _) _,.inl ⟨cc,rfl,aS.o⟩⟩
 obtain⟨aJ,Z,aH,aM,g2,rfl,ae⟩:=hG;have J:=qH (qA aJ (qA aH aM));obtain⟨sq,ax⟩:=qX (sqq m l Z);rw [ax] at ae;rw [H.o.1] at ae ⊢;have HS:=qH ax;obtain⟨f,hf⟩:∃f:Nat->Rat,(fun i=>sq (K.getD i 0).toNat)=f:=⟨_,rfl⟩;have aa:=qH hf;have K2:Kn (fun W=>(Below W1.heap.size W1 W/\W.heap[w.heap.size+1]? = some (.cells #[.string ⟨#[]⟩,.string ⟨#[]⟩] 27 (0,0)))/\FCells W (some ⟨g2,0,none⟩) g2 0 (told R sq)) w2:=.of ⟨⟨ay.o,af⟩,ae⟩;clear aJ aH aM ax hf ae af;go_wp2_with fail
 go_loopw [10,25] (fun x10 x25 W=>∃i:Nat,x25=.int .i64 (i:Int)/\i<=n/\Hu (Rises K R i)/\Kn (fun W=>((Below W1.heap.size W1 W/\W.heap[w.heap.size+1]? = some (.cells #[.string ⟨#[]⟩,.string ⟨#[]⟩] 27 (0,0)))/\FCells W (some ⟨g2,0,none⟩) g2 0 (told R sq))/\Below w2.heap.size w2 W/\Rws W w2.heap.size 27 2 x10 i (fflat (told i f))) W) (fun _ x25 _=>n-(intOf x25).toNat)
 case atStart=>exact⟨0,rfl,qan _,qH fun j hj=>absurd hj (qbb j),.of ⟨K2.o,Below.refl _ _,Rws.nil _ _ _ _⟩⟩
 case round =>
  obtain⟨i,rfl,hi,O,K3⟩:=hrel;have G:=K3.o.1.1.2;have I:=qH (N1.o.1.trans (K3.o.1.1.1.mono N1.o.1.size))
  by_cases au:i<n
  case neg =>
   obtain rfl:i=n:=by omega
   have aV:¬(i:Int)<(i:Int):=by omega
   obtain⟨aT,g3,aB,rfl,aD,_⟩:=qdL K3.o.2.2 (qbQ _ _);have aG:qbP i f:=fun j hj=>by
    have h:=(O.o j hj).1;have h2:=J.o.2.2 ((K.getD j 0).toNat) (by rw [H.o.1];omega);rw [HS.o] at h2;rw [<-aa.o];exact h2
   have aN:Short (sumQ i f):=by
    have h:=H.o.2.2.2.2.1 Z J.o.2.1 J.o.2.2 O.o;rw [HS.o] at h;rw [<-aa.o];exact h
   obtain⟨r1,r2,hr⟩:=qcs (sumQ i f);have U:=sum_any g3 i aB aT f wr aX aD aG aN (H.o.2.2.2.1.below I.o);rw [hr] at U;have aA:=qH U;have HX:=qH hr;clear aG aN aD U hr;go_wp2_with fail;refine aA.o.mono ?_;rintro e w9 ⟨rfl,ak⟩;have aP:=zkeep ak _ _ G;have aR:=qH (I.o.trans (ak.mono I.o.size));clear ak aA G
   go_wp2_with (first | (with_reducible refine sR_ rfl 27 _ _ rfl (w.heap.size+1) #[.string r1,.string r2] aP 2 ?_) | fail)
   refine qR (v:=.tuple #[.agg #[.string r1,.string r2],.int .i64 0]) (rB_ rfl (w.heap.size+1) (qT _ _ _ _ _ _ aP) underlying27 2) rfl ?_;refine⟨qS aR.o (qa6 _) _,.inr ⟨Z,J.o.1,J.o.2.1,J.o.2.2,.inr ⟨by rw [H.o.1,H.o.2.1];exact O.o,?_⟩⟩⟩;rw [H.o.2.1,HS.o,aa.o,HX.o]
  have aV:(i:Int)<(n:Int):=by omega
  have aW:=H.o.2.2.1.addr (by rw [H.o.2.1];omega);subst aW;have ck:∀j,j<n->wr.cell? ⟨kb,ko+j,none⟩=some (.int .i64 (K.getD j 0)):=fun j hj=>(H.o.2.2.1.below I.o).cell j (by rw [H.o.2.1];exact hj)
  have aC:=ck i au;obtain⟨z,hz⟩:=qX (K.getD i 0);rw [hz] at aC;have HZ:=qH hz;have F:∀{P:Prop},(Rises K R (i+1)->P)->Rises K R n->P:=fun h1 h2=>h1 fun j hj=>h2 j (by omega)
  clear hz
  by_cases bn:z<0
  ·have HN:Hu (¬Rises K l.length K.length):=qH (by rw [H.o.1,H.o.2.1];exact F fun h=>by have:=(h i (Nat.lt_succ_self i)).1;rw [HZ.o] at this;omega);clear F ck
   go_wp2_with (first | (with_reducible refine sR_ rfl 27 _ _ rfl (w.heap.size+1) #[.string ⟨#[]⟩,.string ⟨#[]⟩] G 2 ?_) | fail)
   refine qR (v:=.tuple #[.agg #[.string ⟨#[]⟩,.string ⟨#[]⟩],.int .i64 2]) (rB_ rfl (w.heap.size+1) (qT _ _ _ _ _ _ G) underlying27 2) rfl ?_;exact⟨qS I.o (qa6 _) _,.inr ⟨Z,J.o.1,J.o.2.1,J.o.2.2,.inl ⟨HN.o,rfl⟩⟩⟩
  by_cases bq:z≥(R:Int)
  ·have HN:Hu (¬Rises K l.length K.length):=qH (by rw [H.o.1,H.o.2.1];exact F fun h=>by have:=(h i (Nat.lt_succ_self i)).1;rw [HZ.o] at this;omega);clear F ck
   go_wp2_with (first | (with_reducible refine sR_ rfl 27 _ _ rfl (w.heap.size+1) #[.string ⟨#[]⟩,.string ⟨#[]⟩] G 2 ?_) | fail)
   refine qR (v:=.tuple #[.agg #[.string ⟨#[]⟩,.string ⟨#[]⟩],.int .i64 2]) (rB_ rfl (w.heap.size+1) (qT _ _ _ _ _ _ G) underlying27 2) rfl ?_;exact⟨qS I.o (qa6 _) _,.inr ⟨Z,J.o.1,J.o.2.1,J.o.2.2,.inl ⟨HN.o,rfl⟩⟩⟩
  obtain⟨x,rfl⟩:∃x:Nat,z=(x:Int):=⟨z.toNat,by omega⟩;have aO:x<R:=by omega
  have bi:(x:Int)<(R:Int):=by omega
  obtain⟨d0,d1⟩:=K3.o.1.2.cell x (by rw [qbQ];exact aO);rw [qdB aO] at d0 d1;obtain⟨x1,x2,hx⟩:=qcs (sq x);rw [hx,qaL] at d0 d1;have aF:told (i+1) f=told i f++[(x1,x2)]:=by
   rw [qfo,<-aa.o]
   show _++[ftxt (sq (K.getD i 0).toNat)]=_
   rw [HZ.o,Int.toNat_natCast,hx]
  have az:=qH aF;have HX:=qH hx;clear aF hx;rcases i with _ | Y
  ·have ah:Hu (Rises K R (0+1)):=qH (O.o.more (by rw [HZ.o];omega) fun h=>absurd h (by decide));rw [qbA] at aC;clear F ck G
   go_wp2_with (first | (at_builtin;refine qeQ rfl _ _ rfl K3.o.2.1 rfl K3.o.2.2 rfl rfl rfl (by omega) ?_;intro v' w' av V) | fail)
   go_roundw
   case rel=>exact⟨1,by go_num,au,ah,.of ⟨(K2.below V.o).o,V.o,by rw [az.o];exact av.o⟩⟩
   case measure=>simp [intOf] <;> omega
  obtain⟨y,hy⟩:=qX (K.getD Y 0);have aU:=ck Y (by omega);rw [hy] at aU;have p0:(0:Int)<=(Y:Int):=by omega
  have p1:(Y:Int)<(n:Int):=by omega
  have aZ:(0:Int)<(Y:Int)+1:=by omega
  have bg:IntKind.i64.wrap (Y:Int)=(Y:Int):=by rw [IntKind.wrap_i64];omega
  by_cases bf:(x:Int)<=y
  ·have HN:Hu (¬Rises K l.length K.length):=qH (by
    rw [H.o.1,H.o.2.1];exact F fun h=>by
     have:=(h (Y+1) (Nat.lt_succ_self _)).2 (Nat.succ_pos _);rw [HZ.o,Nat.add_sub_cancel,hy] at this;omega)
   clear F ck hy
   go_wp2_with (first | (with_reducible refine sR_ rfl 27 _ _ rfl (w.heap.size+1) #[.string ⟨#[]⟩,.string ⟨#[]⟩] G 2 ?_) | fail)
   refine qR (v:=.tuple #[.agg #[.string ⟨#[]⟩,.string ⟨#[]⟩],.int .i64 2]) (rB_ rfl (w.heap.size+1) (qT _ _ _ _ _ _ G) underlying27 2) rfl ?_;exact⟨qS I.o (qa6 _) _,.inr ⟨Z,J.o.1,J.o.2.1,J.o.2.2,.inl ⟨HN.o,rfl⟩⟩⟩
  ·have ah:Hu (Rises K R (Y+1+1)):=qH (O.o.more (by rw [HZ.o];omega) fun _=>by rw [HZ.o,Nat.add_sub_cancel,hy];omega);clear F ck G hy
   go_wp2_with (first | (at_builtin;refine qeQ rfl _ _ rfl K3.o.2.1 rfl K3.o.2.2 rfl rfl rfl (by omega) ?_;intro v' w' av V) | fail)
   go_roundw
   case rel=>exact⟨Y+1+1,by go_num,au,ah,.of ⟨(K2.below V.o).o,V.o,by rw [az.o];exact av.o⟩⟩
   case measure=>simp [intOf] <;> omega
