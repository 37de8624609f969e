import Derived.Test.YtjalhnlhcdfncaaGreatDoorBf23
set_option maxRecDepth 100000
set_option maxHeartbeats 0
namespace Go.Proofs.YtjalhnlhcdfncaaGreatDoor
open Go.RowKit Go.Proofs.Tryz
def SqG (m:Md) (l:List Pt) (W:World) (v:Value):Prop:=PtsOk l/\∃F,MdOk m F (chans l)/\qbS l.length (sqq m l F)/\SlF l.length (sqq m l F) v W
def SqF (m:Md) (l:List Pt) (e:Int):Prop :=
 (¬qd7 m/\e=320)\/(qd7 m/\¬PtsOk l/\e=310)\/(qd7 m/\PtsOk l/\m.inn≠(chans l:Nat)/\e=5) \/
 (PtsOk l/\e=6/\∃F,MdOk m F (chans l)/\¬qbS l.length (sqq m l F))
theorem sq1_any (m:Md) (R pb mb b aa c:Nat) (ao:Option Addr) (l:List Pt) (a:Nat->Option Addr) (b' o d:Nat->Nat) (ty:TypeId) (w:World) (hR:l.length=R) (hl:R<=4611686018427387904) (hs:∀k,k<R->(l.getD k pt0).name.size<=4611686018427387904/\(l.getD k pt0).dev.length<=4611686018427387904) (aA:∀q,q<3->(m.row q).length<=4611686018427387904)
  (ag:w.heap[pb]? = some (.cells #[.slice ao R c] ty (0,0))) (G:w.heap[mb]? = some (.cells #[.int .i64 m.kind,.int .i64 m.inn,.slice (a 0) (m.row 0).length (d 0),.slice (a 1) (m.row 1).length (d 1),.slice (a 2) (m.row 2).length (d 2)] 46 (0,0))) (hF:∀q,q<3->FCells w (a q) (b' q) (o q) (m.row q))
  (hP:PCells w ao b aa l) (hT:HasT w) :
  Calls prog 86 #[.pointer (some ⟨mb,0,none⟩),.pointer (some ⟨pb,0,none⟩)] w fun e w'=>Below w.heap.size w w' /\
   ((∃(p:Option Addr) (n c:Nat),e=.returned (.slice p n c)/\SqG m l w' (.slice p n c))\/∃c,e=thrown c/\SqF m l c):=by
 have hM:MdAt w (.agg #[.int .i64 m.kind,.int .i64 m.inn,.slice (a 0) (m.row 0).length (d 0),.slice (a 1) (m.row 1).length (d 1),.slice (a 2) (m.row 2).length (d 2)]) m :=
  ⟨_,_,_,_,_,_,_,_,_,_,_,_,rfl,hF 0 (by decide),hF 1 (by decide),hF 2 (by decide)⟩
 have ae:=ql5 m _ R b aa c ao l w hM aA hR hl hs hP;obtain⟨kind,I⟩:∃z,m.kind=z:=⟨_,rfl⟩;obtain⟨inn,V⟩:∃z,m.inn=z:=⟨_,rfl⟩;obtain⟨L,hL⟩:∃L:Nat->Nat,∀q,(m.row q).length=L q:=⟨_,fun _=>rfl⟩;rw [I,V,hL,hL,hL] at G ae;have ai:=qH ae;have c0:=qC _ _ 0 _ _ _ G;have c1:=qC _ _ 1 _ _ _ G;have c2:=qC _ _ 2 _ _ _ G;have c3:=qC _ _ 3 _ _ _ G;have c4:=qC _ _ 4 _ _ _ G;have p0:=qC _ _ 0 _ _ _ ag;have K0:Kn (fun W=>Below w.heap.size w W/\W.heap[mb]? = some (.cells #[.int .i64 kind,.int .i64 inn,.slice (a 0) (L 0) (d 0),.slice (a 1) (L 1) (d 1),.slice (a 2) (L 2) (d 2)] 46 (0,0))/\W.heap[pb]? = some (.cells #[.slice ao R c] ty (0,0))/\PCells W ao b aa l/\HasT W) w:=.of ⟨Below.refl _ _,G,ag,hP,hT⟩;have O:=qH (qA hR (qA I (qA V (qA hL hF))));have aG:=@hmf_ prog;clear hM ae ag G hF hP hT hR hl hs aA I V hL;go_enter func86,ntmps86;go_wp2_with fail;refine ai.o.mono ?_;rintro e w2 ⟨au,h⟩;have K2:=K0.below au;clear au ai c0 c1 c2 c3 c4 p0;rcases h with ⟨F,rfl⟩ | ⟨F,J,rfl⟩ | ⟨F,J,U,rfl⟩ | ⟨F,J,U,rfl⟩
 ·have H:=qH F;clear F;unfold thrown;go_wp2_with fail;exact⟨rfl,K2.o.1,qak ⟨320,rfl,qaw ⟨H.o,rfl⟩⟩⟩
 ·have H:=qH (qA F J);clear F J;unfold thrown;go_wp2_with fail;exact⟨rfl,K2.o.1,qak ⟨310,rfl,qak (qaw ⟨H.o.1,H.o.2,rfl⟩)⟩⟩
 ·have H:=qH (qA F (qA J U));clear F J U;unfold thrown;go_wp2_with fail;exact⟨rfl,K2.o.1,qak ⟨5,rfl,qak (qak (qaw ⟨H.o.1,H.o.2.1,H.o.2.2,rfl⟩))⟩⟩
 obtain⟨Y,aj⟩:∃Y,MdOk m Y (chans l):=by
  obtain⟨Y,n,h⟩:=F;have:=h.inn.1;obtain rfl:n=chans l:=by omega
  exact⟨Y,h⟩
 have H:=qH (qA J aj);clear F J U aj;go_wp2_with fail;have aB:((1:Int):Rat) / ((1:Int):Rat)=1:=by decide +kernel
 have af:=of_int 1 1 (by decide) (by decide) (by decide) w2 K2.o.2.2.2.2;obtain⟨o1,o2,ho⟩:=qco 1;rw [aB,ho] at af;have Ho:=qH ho;clear ho aB;refine af.mono ?_;rintro e w3 ⟨rfl,av⟩;have K3:=K2.below av;clear av K2 af;go_wp2_with fail;refine (qdi o1 o2 w3).mono ?_;rintro e w4 ⟨rfl,ax⟩;have K4:=K3.below ax;clear ax K3;obtain⟨W5,ak,N5⟩:=nw1 w4 #[.string o1,.string o2] 27;have Z:=(K4.below N5.o.1).also (q:=fun W=>W.heap[w4.heap.size]? = some (.cells #[.string o1,.string o2] 27 (0,0))) N5.o.2;have az:MBox W5 mb m (many Y (chans l)):=by
  have F:=(Z.o.1).2.1;have aC:=(H.o.2.rows 0 (by decide)).1;have aD:=(H.o.2.rows 1 (by decide)).1;have aF:=(H.o.2.rows 2 (by decide)).1;rw [<-O.o.2.1,<-O.o.2.2.1,<-O.o.2.2.2.1,<-O.o.2.2.2.1,<-O.o.2.2.2.1,aC,aD,aF] at F;exact⟨a,b',o,d,F,fun q hq=>(O.o.2.2.2.2 q hq).below Z.o.1.1⟩
 have hg:qjy 88 #[.pointer (some ⟨pb,0,none⟩),.pointer (some ⟨w4.heap.size,0,none⟩),.pointer (some ⟨mb,0,none⟩)] W5 R (fun i x=>Short (sqq m l Y i)/\x=ftxt (sqq m l Y i)) (fun i c=>¬Short (sqq m l Y i)/\c=6):=by
  intro i hi W hb;refine (sq11_any i Y R pb w4.heap.size mb b aa c ao l m o1 o2 ty 27 W O.o.1 hi H.o.1 H.o.2 Ho.o.symm (zkeep hb _ _ Z.o.1.2.2.1) (zkeep hb _ _ Z.o.2) (az.below hb) (Z.o.1.2.2.2.1.below hb) (Z.o.1.2.2.2.2.below hb)).mono ?_;rintro e w' ⟨F,J⟩;refine⟨F,?_⟩;rcases J with ⟨x,y,rfl,U,h4⟩ | ⟨cc,rfl,U,h4⟩
  ·exact qaw ⟨x,y,rfl,U,h4⟩
  ·exact qak ⟨cc,rfl,U,h4⟩
 have HG:=qH (qd0 88 #[.pointer (some ⟨pb,0,none⟩),.pointer (some ⟨w4.heap.size,0,none⟩),.pointer (some ⟨mb,0,none⟩)] R (by have:=H.o.1.r2;have:=O.o.1;omega) _ _ W5 (fun a W=>enters func88 (by kernel_rfl) (by kernel_rfl) _ W) hg);have p5:=qC _ _ 0 _ _ _ Z.o.1.2.2.1;clear N5 az hg K4;go_upto_region 3 with fail;rw [<-ak];clear ak;go_wp2_with fail;refine HG.o.mono ?_;rintro e w6 ⟨ay,h⟩;have ah:=qH (Z.o.1.1.trans (ay.mono Z.o.1.1.size));clear ay;rcases h with ⟨lq,g,F,J,rfl,h4,_⟩ | ⟨i,cc,hi,rfl,U,rfl⟩
 ·have HE:=qH (qA F (qA J h4));clear F J h4 HG;go_wp2;go_ret;refine⟨ah.o,qaw ⟨_,_,_,rfl,H.o.1,Y,H.o.2,fun i hi=>(HE.o.2.1 i (by have:=O.o.1;omega)).1,?_⟩⟩;have hr:=O.o.1;refine⟨g,by rw [hr],?_⟩;rw [hr,<-qhO HE.o.1 (fun i hi=>(HE.o.2.1 i hi).2)];exact HE.o.2.2
 ·have HE:=qH (qA hi U);clear hi U HG;unfold thrown;go_wp2_with fail;exact⟨rfl,ah.o,qak ⟨6,rfl,qak (qak (qak ⟨H.o.1,rfl,Y,H.o.2,fun h=>HE.o.2 (h i (by have:=O.o.1;have:=HE.o.1;omega))⟩))⟩⟩
theorem SlF.kept {W W':World} {n:Nat} {f:Nat->Rat} {v:Value} (H:∀a s,W.cell? a=some (.string s)->W'.cell? a=some (.string s)) (h:SlF n f v W):SlF n f v W':=by
 obtain⟨g,F,G⟩:=h;exact⟨g,F,G.kept H⟩
theorem SqG.kept {m:Md} {l:List Pt} {W W':World} {v:Value} (J:∀a s,W.cell? a=some (.string s)->W'.cell? a=some (.string s)) (h:SqG m l W v):SqG m l W' v:=by
 obtain⟨F,kk,G,H,I⟩:=h;exact⟨F,kk,G,H,I.kept J⟩
def SqAs (w:World) (m:Md) (l:List Pt) (e:Ending) (w':World):Prop :=
 Below w.heap.size w w'/\((∃v,e=.returned (.tuple #[v,.int .i64 0])/\SqG m l w' v)\/∃c,e=.returned (.tuple #[.slice none 0 0,.int .i64 c])/\SqF m l c)
theorem qgv (m:Md) (v:Value) (R b O c:Nat) (U:Option Addr) (l:List Pt) (w:World) (hM:MdAt w v m) (hR:l.length=R) (hl:R<=4611686018427387904) (hs:∀k,k<R->(l.getD k pt0).name.size<=4611686018427387904/\(l.getD k pt0).dev.length<=4611686018427387904) (J:∀q,q<3->(m.row q).length<=4611686018427387904) (hP:PCells w U b O l) (hT:HasT w) :
  Calls prog 48 #[v,.slice U R c] w fun e w'=>SqAs w m l e w':=by
 obtain⟨a,b',o,d,rfl,hF⟩:=hM.parts;obtain⟨W2,G,K2⟩:=nw2 w #[.int .i64 m.kind,.int .i64 m.inn,.slice (a 0) (m.row 0).length (d 0),.slice (a 1) (m.row 1).length (d 1),.slice (a 2) (m.row 2).length (d 2)] 46 #[.slice U R c] 48;have aa:=@hmf_ prog;have Z:=qH (qhT 86 #[.pointer (some ⟨w.heap.size,0,none⟩),.pointer (some ⟨w.heap.size+1,0,none⟩)] (SqG m l) (SqF m l) W2 (fun W=>enters func86 (by kernel_rfl) (by kernel_rfl) _ W)
  (fun W W' v hk h=>h.kept hk)
  (fun w1 H=>sq1_any m R (w.heap.size+1) w.heap.size b O c U l a b' o d _ w1 hR hl hs J (zkeep H _ _ K2.o.2.2) (zkeep H _ _ K2.o.2.1) (fun q hq=>(hF q hq).below (K2.o.1.trans (H.mono K2.o.1.size))) (hP.below (K2.o.1.trans (H.mono K2.o.1.size))) (hT.below (K2.o.1.trans (H.mono K2.o.1.size)))))
 have Y:=qH K2.o.1;clear hM hR hl hs J hP hT hF K2;go_enter func48,ntmps48;go_upto_region 1 with fail;rw [<-G];clear G;go_wp2_with fail;refine Z.o.mono ?_;rintro e w5 ⟨I,h⟩;have F:=qH (Y.o.trans (I.mono Y.o.size));clear I Z;rcases h with ⟨p,n,c',rfl,hg⟩ | ⟨cc,rfl,hf⟩
 ·have V:=qH hg;clear hg;go_wp2_with fail
  go_ret2
  exact⟨F.o,qaw ⟨_,rfl,V.o⟩⟩
 ·have V:=qH hf;clear hf;go_wp2_with fail
  go_ret2
  exact⟨F.o,qak ⟨cc,rfl,V.o⟩⟩
theorem qcN.uniq {z:Int} {k F:Nat} (h:qcN z k) (G:qcN z F):F=k:=by have:=h.1;have:=G.1;omega
theorem qig {k n m:Nat} {x y:Nat->Nat->Rat} (h:∀c,c<3->told m (x c)=told m (y c)):mdq k n m x=mdq k n m y:=by
 unfold mdq;rw [h 0 (by decide),h 1 (by decide),h 2 (by decide)]
theorem ql6 {k n:Nat} {X:Nat->Nat->Rat} (O:1<=k/\k<=3) (G:1<=n) (I:n<=4) (H:¬(k=3/\n=4)) (J:∀c,c<3->qbS (many k n) (X c)):MdOk (mdq k n (many k n) X) k n :=
 ⟨⟨rfl,O⟩,⟨rfl,G,I⟩,H,fun c F=>by rw [qfp F];exact⟨qbT _ _,qcR (J c F)⟩⟩
theorem MdOk.uniq {m:Md} {k n G H:Nat} (h:MdOk m k n) (F:MdOk m G H):G=k/\H=n:=⟨h.kind.uniq F.kind,by have:=h.inn.1;have:=F.inn.1;omega⟩
theorem qmP {k n m:Nat} {X:Nat->Nat->Rat} {l:List Pt} {F i:Nat} (J:many F (chans l)<=m):sqq (mdq k n m X) l F i=msR 3 (many F (chans l)) X (fun q=>labq l q i) (fun _=>1) (tqf l F i):=by
 unfold sqq msR;refine qbQ fun q G=>?_
 have:(sumQ (many F (chans l)) fun j=>lval ((mdq k n m X).row q) j*tqf l F i j)=sumQ (many F (chans l)) fun j=>X q j*tqf l F i j:=by
  rw [qfp G];exact qbQ fun j I=>by rw [qcH (by omega)]
 have H:resR (many F (chans l)) (fun q=>lval ((mdq k n m X).row q)) (fun q=>labq l q i) (tqf l F i) q=resR (many F (chans l)) X (fun q=>labq l q i) (tqf l F i) q:=by
  unfold resR;rw [this]
 rw [H]
theorem name_one {c:UInt8} (h:qda c=true):qgN ⟨#[c]⟩:=⟨qaf 1,show 1<=12 by decide,fun k F=>by
 have F:k<1:=F;obtain rfl:k=0:=by omega
 exact h⟩
theorem vals_one {z:Int} (h:0<=z/\z<=10000):qeA [z]:=fun k F=>by
 have F:k<1:=F;obtain rfl:k=0:=by omega
 exact h
def KFit (l:List Pt) (k:Nat) (K:List Nat) (X:Nat->Nat->Rat):Prop:=¬Sing (many k (chans l)) (nq l k (keepW K l.length) 0)/\∀c,c<3->FitX l k (keepW K l.length) c (X c)
def mdX (l:List Pt) (k:Nat) (X:Nat->Nat->Rat):Md:=mdq k (chans l) (many k (chans l)) X
def nextK (l:List Pt) (k keep:Nat) (m:Md):List Nat:=bestL (sqq m l k) l.length keep
def Runs (l:List Pt) (k keep:Nat):Nat->List Nat->(Nat->Nat->Rat)->Prop
 | 0,K,X=>K=List.range l.length/\KFit l k K X
 | p+1,K,X=>∃G F,Runs l k keep p G F/\K=nextK l k keep (mdX l k F)/\KFit l k K X
theorem KFit.same {l:List Pt} {k:Nat} {K:List Nat} {X Y:Nat->Nat->Rat} (h:KFit l k K X) (G:KFit l k K Y):mdX l k X=mdX l k Y :=
 qig fun c F=>qdq (qcs.uniq (fun H=>h.1 (qeM H)) (h.2 c F) (G.2 c F))
theorem Runs.fit {l:List Pt} {k keep:Nat}:∀{p:Nat} {K:List Nat} {X:Nat->Nat->Rat},Runs l k keep p K X->KFit l k K X
 | 0,_,_,h=>h.2
 | _+1,_,_,⟨_,_,_,_,h⟩=>h
theorem Runs.uniq {l:List Pt} {k keep:Nat}:∀{p:Nat} {K H:List Nat} {X Y:Nat->Nat->Rat},Runs l k keep p K X->Runs l k keep p H Y->K=H/\mdX l k X=mdX l k Y
 | 0,_,_,_,_,⟨e,h⟩,⟨e',F⟩=>by
  subst e e';exact⟨rfl,h.same F⟩
 | _+1,_,_,_,_,⟨_,_,I,e,h⟩,⟨_,_,G,e',F⟩=>by
  obtain⟨_,e0⟩:=Runs.uniq I G;rw [e0,<-e'] at e;subst e;exact⟨rfl,h.same F⟩
theorem Runs.stay {l:List Pt} {k keep p:Nat} {K:List Nat} {X:Nat->Nat->Rat} (h:Runs l k keep p K X) (e:nextK l k keep (mdX l k X)=K):∀j,Runs l k keep (p+j) K X
 | 0=>h
 | j+1=>⟨K,X,Runs.stay h e j,e.symm,h.fit⟩
theorem Runs.before {l:List Pt} {k keep:Nat}:∀{p q:Nat} {K:List Nat} {X:Nat->Nat->Rat},Runs l k keep (p+q) K X->∃F G,Runs l k keep p F G
 | _,0,_,_,h=>⟨_,_,h⟩
 | _,_+1,_,_,⟨_,_,h,_,_⟩=>Runs.before h
theorem Runs.lt {l:List Pt} {k keep:Nat}:∀{p:Nat} {K:List Nat} {X:Nat->Nat->Rat},Runs l k keep p K X->∀i∈K,i<l.length
 | 0,_,_,h=>fun i F=>by rw [h.1] at F;exact qat.1 F
 | _+1,_,_,⟨_,_,_,e,_⟩=>fun i F=>by rw [e] at F;exact qho i F
theorem Runs.up {l:List Pt} {k keep:Nat}:∀{p:Nat} {K:List Nat} {X:Nat->Nat->Rat},Runs l k keep p K X->Up K
 | 0,_,_,h=>h.1▸qfO _
 | _+1,_,_,⟨_,_,_,e,_⟩=>e▸qfG _ _ _
def RunF (l:List Pt) (k keep F:Nat) (c:Int):Prop :=
 FitF l (k:Int) (keepW (List.range l.length) l.length) c \/
 ∃p K X,p<F/\Runs l k keep p K X/\(SqF (mdX l k X) l c\/FitF l (k:Int) (keepW (nextK l k keep (mdX l k X)) l.length) c)
def RunG (l:List Pt) (k keep F:Nat) (K:List Nat) (m:Md):Prop:=∃X,Runs l k keep F K X/\m=mdX l k X/\∀c,c<3->qbS (many k (chans l)) (X c)
def SameAs (w:World) (l l2:List FT) (e:Ending) (w':World):Prop:=∃F,e=.returned (.bool F)/\(F=true↔l=l2)/\Below w.heap.size w w'
theorem qmX {l l2:List FT} {k:Nat} (F:k<l.length) (G:k<l2.length) (h:l.take k=l2.take k) (e:l.getD k fd0=l2.getD k fd0):l.take (k+1)=l2.take (k+1):=by
 rw [List.take_add_one,List.take_add_one,h]
 congr 1
 rw [qab,qab,qad F,qad G] at e;rw [qad F,qad G];exact congrArg (fun x=>(some x).toList) e
theorem qjX {a b:ByteArray} (h:a≠b):¬a.toList=b.toList:=by
 rw [ByteArray.toList_eq,ByteArray.toList_eq];intro e;apply h;obtain⟨⟨x⟩⟩:=a;obtain⟨⟨y⟩⟩:=b;cases e;rfl
theorem qlD {l l2:List FT} {k:Nat} (h:l.getD k fd0≠l2.getD k fd0):¬l=l2:=fun e=>h (by rw [e])
theorem qhL (ao:Option Addr) (b ai n c:Nat) (l:List FT) (Z:Option Addr) (b2 ae m c2:Nat) (l2:List FT) (w:World) (hn:l.length=n) (ak:n<=1000000) (hc:FCells w ao b ai l) (hm:l2.length=m) (ah:m<=1000000) (aa:FCells w Z b2 ae l2) :
  Calls prog 35 #[.slice ao n c,.slice Z m c2] w fun e w'=>SameAs w l l2 e w':=by
 have F:=qH (qA hc (qA hn (qA aa hm)));clear hc aa
 by_cases hne:n=m
 ·subst hne;clear hn hm ah;go_enter func35,ntmps35;go_wp2_with fail
  go_loopw [5] (fun x5 W=>∃k:Nat,x5=.int .i64 k/\k<=n/\Hu (l.take k=l2.take k)/\Hu (Below w.heap.size w W)) (fun x5 _=>n-(intOf x5).toNat)
  case atStart=>exact⟨0,rfl,qam _,qH rfl,qH qB⟩
  case round =>
   obtain⟨k,rfl,hk,hI,V⟩:=hrel
   by_cases G:k<n
   ·have aj:(k:Int)<n:=by omega
    have ag:=F.o.1.addr (by rw [F.o.2.1];omega);subst ag;have af:=F.o.2.2.1.addr (by rw [F.o.2.2.2];omega);subst af;obtain⟨h1,h2⟩:=(F.o.1.below V.o).cell k (by rw [F.o.2.1];exact G);obtain⟨h3,h4⟩:=(F.o.2.2.1.below V.o).cell k (by rw [F.o.2.2.2];exact G);obtain⟨x1,H⟩:=qX ((l.getD k fd0).1);obtain⟨x2,I⟩:=qX ((l.getD k fd0).2);obtain⟨y1,J⟩:=qX ((l2.getD k fd0).1);obtain⟨y2,O⟩:=qX ((l2.getD k fd0).2);rw [H] at h1;rw [I] at h2;rw [J] at h3;rw [O] at h4;have U:Hu (l.getD k fd0=(x1,x2)/\l2.getD k fd0=(y1,y2)):=qH ⟨by rw [<-H,<-I],by rw [<-J,<-O]⟩;clear H I J O
    by_cases g1:x1=y1
    ·by_cases g2:x2=y2
     ·subst g1;subst g2;have HI:=qH (qmX (by rw [F.o.2.1];exact G) (by rw [F.o.2.2.2];exact G) hI.o (U.o.1.trans U.o.2.symm));go_wp2_with fail
      go_quiet (fail)
      go_wp2;go_roundw
      case rel=>exact⟨k+1,by go_num,G,HI,qH (below_drewN V.o _)⟩
      case measure=>simp [intOf];omega
     ·subst g1;have Y:=qH (qlD (l:=l) (l2:=l2) (k:=k) (by rw [U.o.1,U.o.2];exact fun h=>g2 (congrArg Prod.snd h)));have g3:=qjX g2;clear g2;go_wp2_with fail
      go_quiet (fail)
      go_wp2;go_ret;exact⟨false,rfl,qdP Y.o,below_drewN V.o _⟩
    ·have Y:=qH (qlD (l:=l) (l2:=l2) (k:=k) (by rw [U.o.1,U.o.2];exact fun h=>g1 (congrArg Prod.fst h)));have g3:=qjX g1;clear g1;go_wp2_with fail
     go_quiet (fail)
     go_wp2;go_ret;exact⟨false,rfl,qdP Y.o,below_drewN V.o _⟩
   ·obtain rfl:k=n:=by omega
    have hE:l=l2:=by have h:=hI.o;rwa [qal (by rw [F.o.2.1];exact qaf _),qal (by rw [F.o.2.2.2];exact qaf _)] at h
    have HE:=qH hE;clear hE;go_wp2;go_ret;exact⟨true,rfl,qjx HE.o,V.o⟩
 ·have hb:((n:Int) != (m:Int))=true:=by rw [bne_iff_ne];omega
  have Y:Hu (¬l=l2):=qH (fun h=>hne (by rw [<-hn,<-hm,h]));go_enter func35,ntmps35;go_wp2;go_ret;exact⟨false,rfl,qdP Y.o,Below.refl _ _⟩
theorem qhv (H J c I O d:Nat) (F G:List Int) (n m:Nat) (w:World) (hn:F.length=n) (Y:G.length=m) (aa:n<=1000000) (Z:m<=1000000) (U:NCells w (some ⟨H,J,none⟩) H J F) (V:NCells w (some ⟨I,O,none⟩) I O G) :
  Calls prog 15 #[.slice (some ⟨H,J,none⟩) n c,.slice (some ⟨I,O,none⟩) m d] w fun e w'=>e=.returned (.bool (F == G))/\Below w.heap.size w w':=by
 subst hn Y;refine (Tryz.slices_Equal_int H J F.length c I O G.length d F G w qN qN (by omega) (by omega) U.cell V.cell).mono ?_;rintro e w' ⟨rfl,q,rfl⟩;rw [qbd,qbd];exact⟨rfl,below_drewN qB q⟩
theorem md_eq {m F:Md}:m=F↔m.kind=F.kind/\m.inn=F.inn/\m.row 0=F.row 0/\m.row 1=F.row 1/\m.row 2=F.row 2:=by
 obtain⟨k,i,a,b,c⟩:=m;obtain⟨k',i',a',b',c'⟩:=F
 constructor
 ·rintro h;cases h;exact⟨rfl,rfl,rfl,rfl,rfl⟩
 ·rintro ⟨G,H,I,J,O⟩;have I:a=a':=I;have J:b=b':=J;have O:c=c':=O;have G:k=k':=G;have H:i=i':=H;subst G H I J O;rfl
theorem ql9 (m Z:Md) (v v2:Value) (w:World) (hM:MdAt w v m) (ae:MdAt w v2 Z) (hl:∀q,q<3->(m.row q).length<=1000000) (aj:∀q,q<3->(Z.row q).length<=1000000) :
  Calls prog 24 #[v,v2] w fun e w'=>∃ok,e=.returned (.bool ok)/\(ok=true↔m=Z)/\Below w.heap.size w w':=by
 obtain⟨a,b,o,c,rfl,hF⟩:=hM.parts;obtain⟨a',b',o',c',rfl,aa⟩:=ae.parts;obtain⟨kind,H⟩:∃z,m.kind=z:=⟨_,rfl⟩;obtain⟨inn,O⟩:∃z,m.inn=z:=⟨_,rfl⟩;obtain⟨kind',F⟩:∃z,Z.kind=z:=⟨_,rfl⟩;obtain⟨U,G⟩:∃z,Z.inn=z:=⟨_,rfl⟩;obtain⟨L,hL⟩:∃L:Nat->Nat,∀q,(m.row q).length=L q:=⟨_,fun _=>rfl⟩;obtain⟨L',I⟩:∃L:Nat->Nat,∀q,(Z.row q).length=L q:=⟨_,fun _=>rfl⟩;have J:=fun (q:Nat) (hq:q<3) (W:World) (hb:Below w.heap.size w W)=>qhL (a q) (b q) (o q) (L q) (c q) (m.row q) (a' q) (b' q) (o' q) (L' q) (c' q) (Z.row q) W (hL q) (by have:=hl q hq;rw [hL] at this;exact this) ((hF q hq).below hb) (I q) (by have:=aj q hq;rw [I] at this;exact this) ((aa q hq).below hb)
 rw [H,O,hL,hL,hL,F,G,I,I,I];obtain⟨W2,af,K2⟩:=nw2 w #[.int .i64 kind,.int .i64 inn,.slice (a 0) (L 0) (c 0),.slice (a 1) (L 1) (c 1),.slice (a 2) (L 2) (c 2)] 46 #[.int .i64 kind',.int .i64 U,.slice (a' 0) (L' 0) (c' 0),.slice (a' 1) (L' 1) (c' 1),.slice (a' 2) (L' 2) (c' 2)] 46;have V:=qH (qA H (qA O (qA F G)));have HC:=qH J;have c0:=qC _ _ 0 _ _ _ K2.o.2.1;have c1:=qC _ _ 1 _ _ _ K2.o.2.1;have c2:=qC _ _ 2 _ _ _ K2.o.2.1;have d0:=qC _ _ 0 _ _ _ K2.o.2.2;have d1:=qC _ _ 1 _ _ _ K2.o.2.2;have d2:=qC _ _ 2 _ _ _ K2.o.2.2;clear J hM ae hF aa hl aj H O F G hL I;go_enter func24,ntmps24;go_upto_region 1 with fail;rw [<-af];clear af
 by_cases hk:kind=kind'
 case neg =>
  have av:(kind == kind')=false:=beq_eq_false_iff_ne.2 hk;have HK:=qH hk;clear hk;go_wp2;go_ret;exact⟨false,rfl,qdP fun h=>HK.o (by rw [<-V.o.1,<-V.o.2.2.1,h]),K2.o.1⟩
 subst hk
 by_cases hi:inn=U
 case neg =>
  have au:(inn == U)=false:=beq_eq_false_iff_ne.2 hi;have HI:=qH hi;clear hi;go_wp2;go_ret;exact⟨false,rfl,qdP fun h=>HI.o (by rw [<-V.o.2.1,<-V.o.2.2.2,h]),K2.o.1⟩
 subst hi;go_wp2_with fail;refine (HC.o 0 (by decide) W2 K2.o.1).mono ?_;rintro e w3 ⟨ok0,rfl,h0,ag⟩;have Y:=K2.below ag;have H0:=qH h0;clear h0 ag c0 c1 c2 d0 d1 d2;have c0:=qC _ _ 2 _ _ _ Y.o.2.1;have c1:=qC _ _ 3 _ _ _ Y.o.2.1;have d0:=qC _ _ 2 _ _ _ Y.o.2.2;have d1:=qC _ _ 3 _ _ _ Y.o.2.2;cases ok0 with
 | false =>
  go_wp2;go_ret;exact⟨false,rfl,qdP fun h=>absurd (H0.o.2 (by rw [h])) (by decide),Y.o.1⟩
 | true =>
 go_wp2_with fail;refine (HC.o 1 (by decide) w3 Y.o.1).mono ?_;rintro e w4 ⟨ok1,rfl,h1,ah⟩;have K4:=Y.below ah;have H1:=qH h1;clear h1 ah c0 c1 d0 d1;have c0:=qC _ _ 4 _ _ _ K4.o.2.1;have d0:=qC _ _ 4 _ _ _ K4.o.2.2;cases ok1 with
 | false =>
  go_wp2;go_ret;exact⟨false,rfl,qdP fun h=>absurd (H1.o.2 (by rw [h])) (by decide),K4.o.1⟩
 | true =>
 go_wp2_with fail;refine (HC.o 2 (by decide) w4 K4.o.1).mono ?_;rintro e w5 ⟨ak,rfl,h2,ai⟩;have K5:=K4.below ai;have H2:=qH h2;clear h2 ai c0 d0;go_wp2;go_ret;refine⟨ak,rfl,⟨fun h=>md_eq.2 ⟨by rw [V.o.1,V.o.2.2.1],by rw [V.o.2.1,V.o.2.2.2],H0.o.1 (by trivial),H1.o.1 (by trivial),H2.o.1 h⟩,fun h=>H2.o.2 (by rw [h])⟩,K5.o.1⟩
theorem qb6 {P:Program} {I:Func} {p q r:Tmp} {G:TypeId} (h:I.results=#[.cell p G,.tmp q,.tmp r]) (F:Array Value) (w:World) (g:Nat) (t:TypeId) (cs:Array Value) (d:TypeDesc)
  (J:F.getD p undef=.pointer (some ⟨g,0,none⟩)) (hg:w.heap[g]? = some (.cells cs t (0,0)))
  (Z:P.underlying G=some d) (V:(match d with | .struct _ | .array _ _=>true | _=>false)=true) (n:Nat) (Y:(P.info? G).map (·.size)=some n) (H:cs.size=n) (v2 v3:Value) (O:F.getD q undef=v2) (U:F.getD r undef=v3) :
  (results I F).run P w=.ok (.tuple #[.agg cs,v2,v3]) w:=by
 rw [Array.getD_eq_getD_getElem?] at J O U;simp only [results,h];simp [J,O,U,asAddr,run_loadVar_row w g t G cs (0,0) d hg Z V (by rw [H];exact Y),Result.andThen]
theorem NatR.keep {W W':World} {B g n c G:Nat} {d:List Nat} (h:NatR W B g n c d) (I:W.grownBy W' (some G)) (hne:G<B):NatR W' B g n c d:=⟨h.len,by
 have F:=h.own;unfold IOwn at F ⊢;exact⟨F.1,F.2.imp id fun⟨g',cap,cur,e,H,hg,r⟩=>⟨g',cap,cur,e,H,(I.block g' (qG hg).1 fun e=>by have:=qag e;omega).trans hg,r⟩⟩⟩
theorem qiW {s F:Nat->Rat} {n m:Nat} (h:∀i,i<n->s i=F i):bestL s n m=bestL F n m:=by
 unfold bestL;have:qcF s n=qcF F n:=qf4 fun a G b H=>by rw [h a (qat.1 G),h b (qat.1 H)]
 rw [this]
theorem qgL.only {w:World} {x:Nat->Rat} {R k:Nat} {e:Ending} {w':World} (h:qgL w (told R x) (k:Int) e w') (J:qbS R x) (U:R<=40) (Y:k<=R):Below w.heap.size w w' /\
  ∃g,e=.returned (.tuple #[.slice (some ⟨g,0,none⟩) k k,.int .i64 0])/\NatR w' w.heap.size g k k (bestL x R k):=by
 refine⟨h.1,?_⟩;have G:=qcR J;have F:∀{z},ExIs (told R x) z->z=0:=by
  rintro z (⟨h,_⟩ | ⟨_,h,_⟩ | ⟨_,_,h⟩)
  ·rw [qbT] at h;omega
  ·exact absurd G h
  ·exact h
 rcases h.2 with ⟨z,O,he,_⟩ | ⟨_,I,_⟩ | ⟨_,g,j,V,_,he,hN⟩
 ·exact absurd (F he) O
 ·exact absurd ⟨by omega,by rw [qbT];omega⟩ I
 ·obtain rfl:j=k:=by omega
  refine⟨g,he,?_⟩;rw [qbT] at hN;have:bestL (lval (told R x)) R j=bestL x R j:=qiW fun i H=>qcH H
  rwa [this] at hN
theorem FitF.ne {l:List Pt} {kind:Int} {F:List Int} {c:Int} (h:FitF l kind F c):c≠0:=by
 rcases h with ⟨_,rfl⟩ | ⟨_,_,rfl⟩ | ⟨_,_,_,k,_,⟨_,_,rfl⟩ | ⟨_,⟨_,rfl⟩ | ⟨_,c',x,_,_,_,rfl⟩⟩⟩ <;> decide
theorem SqF.ne {m:Md} {l:List Pt} {c:Int} (h:SqF m l c):c≠0:=by
 rcases h with ⟨_,rfl⟩ | ⟨_,_,rfl⟩ | ⟨_,_,_,rfl⟩ | ⟨_,rfl,_⟩ <;> decide
theorem FitG.kfit {l:List Pt} {k:Nat} {K:List Nat} {W:World} {v:Value} (h:FitG l (k:Int) (keepW K l.length) W v):many k (chans l)<=10/\∃X,KFit l k K X/\(∀c,c<3->qbS (many k (chans l)) (X c))/\MdAt W v (mdX l k X):=by
 obtain⟨H,_,_,k',F,J,U,x,I,O⟩:=h;obtain rfl:k'=k:=by have:=F.1;omega
 exact⟨(qeK F H.n1 H.n4 J).2,x,⟨U,fun c G=>(I c G).1⟩,fun c G=>(I c G).2,O⟩
theorem MdAt.five {W:World} {v:Value} {m:Md} (h:MdAt W v m):∃(Z i5:Int) (F G H:Option Addr) (U I V J Y O:Nat),v=.agg #[.int .i64 Z,.int .i64 i5,.slice F U I,.slice G V J,.slice H Y O]:=by
 obtain⟨a0,a1,a2,b0,o0,c0,b1,o1,c1,b2,o2,c2,rfl,_⟩:=h;exact⟨_,_,_,_,_,_,_,_,_,_,_,rfl⟩
def RunAs (w:World) (l:List Pt) (k keep F:Nat) (e:Ending) (w':World):Prop:=Below w.heap.size w w' /\
  ((∃c,c≠0/\e=.returned (.tuple #[mdv0,.slice none 0 0,.int .i64 c])/\RunF l k keep F c) \/
   ∃(v:Value) (g:Nat) (K:List Nat) (m:Md),e=.returned (.tuple #[v,.slice (some ⟨g,0,none⟩) K.length K.length,.int .i64 0])/\NatR w' w.heap.size g K.length K.length K/\MdAt w' v m/\RunG l k keep F K m)
abbrev RunK (w:World) (row:Array Value) (l:List Pt) (kk g n B:Nat) (K:List Nat) (X:Nat->Nat->Rat) (Z i5:Int) (F G H:Option Addr) (U I V J Y O:Nat) (W:World):Prop :=
 ((Below w.heap.size w W/\W.heap[w.heap.size]? = some (.cells row 116 (0,0)))/\W.heap[w.heap.size+1]? = some (.cells #[.int .i64 Z,.int .i64 i5,.slice F U I,.slice G V J,.slice H Y O] 46 (0,0)))/\NatR W B g n n K/\MdAt W (.agg #[.int .i64 Z,.int .i64 i5,.slice F U I,.slice G V J,.slice H Y O]) (mdX l kk X)
def RunL (w:World) (row:Array Value) (l:List Pt) (F keep p g n B:Nat) (W:World):Prop :=
 ∃K X k5 i5 G H I V J Y O Z U,(Runs l F keep p K X/\(∀c,c<3->qbS (many F (chans l)) (X c))/\K.length=n)/\RunK w row l F g n B K X k5 i5 G H I V J Y O Z U W
instance stays_runk {w:World} {row:Array Value} {l:List Pt} {kk g n B:Nat} {K:List Nat} {X:Nat->Nat->Rat} {k5 i5:Int} {G H I:Option Addr} {V J Y O Z U:Nat}:Stays fun W=>RunK w row l kk g n B K X k5 i5 G H I V J Y O Z U W :=
 ⟨fun⟨⟨⟨F,h2⟩,h3⟩,h4,h5⟩ hb=>⟨⟨⟨F.trans (hb.mono F.size),zkeep hb _ _ h2⟩,zkeep hb _ _ h3⟩,h4.below hb,h5.below hb⟩⟩
theorem NatR.all {W:World} {B g n c:Nat} {d:List Nat} (h:NatR W B g n c d):NCells W (some ⟨g,0,none⟩) g 0 (natI d):=by
 have F:=h.cells (qaf n)
 rwa [qal (by rw [h.len];exact qaf _)] at F
theorem qjZ {a b:List Nat} (h:natI a=natI b):a=b:=by
 have:=congrArg (List.map Int.toNat) h
 simpa [natI,List.map_map,Function.comp_def] using this
theorem RunK.store {w:World} {row:Array Value} {l:List Pt} {kk g n B:Nat} {K:List Nat} {X:Nat->Nat->Rat} {Z i5 j5 h5:Int} {F G H:Option Addr} {U I V J Y O:Nat} {D0 D1 D2:Option Addr} {M0 E0 M1 E1 M2 E2:Nat} {W:World}
  (hb:Below w.heap.size w W) (h0:W.heap[w.heap.size]? = some (.cells row 116 (0,0))) (h1:W.heap[w.heap.size+1]? = some (.cells #[.int .i64 j5,.int .i64 h5,.slice D0 M0 E0,.slice D1 M1 E1,.slice D2 M2 E2] 46 (0,0))) (hN:NatR W B g n n K) (hB:w.heap.size+1<B)
  (hM:MdAt W (.agg #[.int .i64 Z,.int .i64 i5,.slice F U I,.slice G V J,.slice H Y O]) (mdX l kk X)):RunK w row l kk g n B K X Z i5 F G H U I V J Y O (W.setRow (w.heap.size+1) #[.int .i64 Z,.int .i64 i5,.slice F U I,.slice G V J,.slice H Y O]) :=
 ⟨⟨⟨qS hb (qa9 _) _,(setRow_other _ _ _ _ (by omega)).trans h0⟩,qT _ _ _ _ _ _ h1⟩,hN.keep (qb5 _ _ _) hB,hM.keepB (qb5 _ _ _) h1 (qjD _ _ _ _ _ _ _ _ _ _ _)⟩
theorem run_any (R b ax c I keep F:Nat) (Z:Option Addr) (l:List Pt) (w:World) (hR:l.length=R) (bD:1<=R) (aP:R<20) (hk:1<=I/\I<=3) (af:1<=keep/\keep<=R) (bC:F<=100) (hs:∀k,k<R->(l.getD k pt0).name.size<=4611686018427387904/\(l.getD k pt0).dev.length<=4611686018427387904)
  (hP:PCells w Z b ax l) (hT:HasT w) :
  Calls prog 56 #[.agg #[.slice Z R c,.int .i64 (I:Int),.int .i64 (keep:Int)],.int .i64 (F:Int)] w fun e w'=>RunAs w l I keep F e w':=by
 obtain⟨W1,aG,N1⟩:=nw2 w #[.slice Z R c,.int .i64 (I:Int),.int .i64 (keep:Int)] 116 #[.int .i64 0,.int .i64 0,.slice none 0 0,.slice none 0 0,.slice none 0 0] 46;have bf:W1.heap.size=w.heap.size+1+1:=by rw [aG];simp
 have G:=qH (qA hP (qA hT (qA hR (qA hs (qA hk bf)))));have bF:=@hmf_ prog;have bE:∀(a:Value) (W:World),(callFunc 104 #[.agg #[.slice Z R c,.int .i64 (I:Int)],a]).run prog W=.ok (.enter 104 #[.agg #[.slice Z R c,.int .i64 (I:Int)],a]) W:=fun a W=>enters func104 (by kernel_rfl) (by kernel_rfl) _ W
 have c0:=qC _ _ 0 _ _ _ N1.o.2.1;have c1:=qC _ _ 1 _ _ _ N1.o.2.1;clear hP hT hR hs hk bf;go_enter func56,ntmps56;go_upto_region 1 with fail;rw [<-aG];clear aG;go_wp2_with fail
 go_step3
 go_wp2_with fail;refine (qki R W1 (by omega)).mono ?_;rintro e w2 ⟨g2,rfl,aF,aT⟩;have K2:=(N1.below aT).also (q:=fun W=>NatR W W1.heap.size g2 R R (List.range R)) aF;have HF:=qH (qjU R b ax c g2 0 R R (I:Int) Z (some ⟨g2,0,none⟩) l (List.range R) w2 G.o.2.2.1 (by omega) G.o.2.2.2.1 qbl (by omega) (fun x hx=>by have:=qat.1 hx;omega) (G.o.1.below K2.o.1.1) (by
  have h:=aF.cells (m:=R) qN
  rwa [qal (by simp)] at h) (G.o.2.1.below K2.o.1.1))
 clear aT aF c0 c1 N1;go_wp2_with fail;refine HF.o.mono ?_;intro e w3 hA;have K3:=K2.below hA.1;have hz:=K3.o.1.2.2;have HA:=qH hA;have aL:=qH (show w.heap.size<W1.heap.size by rw [G.o.2.2.2.2.2];omega);clear HF K2 hA;rcases HA.o.2 with ⟨v,rfl,hG⟩ | ⟨cc,rfl,hf⟩
 case inr =>
  have Y:(cc == (0:Int))=false:=beq_false_of_ne hf.ne;have bu:(cc != (0:Int))=true:=by rw [bne,Y];rfl
  have J:=qH hf;clear hf;unfold mdv0;have bi:=qT _ _ _ #[.int .i64 0,.int .i64 0,.slice none 0 0,.slice none 0 0,.slice none 0 0] _ _ hz
  go_wp2_with (first | (with_reducible refine sR_ rfl 46 _ _ rfl (w.heap.size+1) #[.int .i64 0,.int .i64 0,.slice none 0 0,.slice none 0 0,.slice none 0 0] hz 5 ?_) | (with_reducible refine sR_ rfl 46 _ _ rfl (w.heap.size+1) #[.int .i64 0,.int .i64 0,.slice none 0 0,.slice none 0 0,.slice none 0 0] bi 5 ?_) | fail)
  refine qR (v:=.tuple #[.agg #[.int .i64 0,.int .i64 0,.slice none 0 0,.slice none 0 0,.slice none 0 0],.slice none 0 0,.int .i64 cc]) (qb6 rfl _ _ (w.heap.size+1) 46 _ _ rfl (qT _ _ _ _ _ _ bi) underlying46 rfl 5 (by kernel_rfl) rfl _ _ rfl rfl) rfl ?_;exact⟨qS (qS K3.o.1.1 (qa9 _) _) (qa9 _) _,.inl ⟨cc,J.o.ne,rfl,.inl (by rw [G.o.2.2.1];exact J.o)⟩⟩
 have ae:FitG l (I:Int) (keepW (List.range R) l.length) w3 v:=by rw [G.o.2.2.1];exact hG
 obtain⟨ay,X0,ag,ah,hM⟩:=ae.kfit;obtain⟨k5,i5,A0,A1,A2,L0,C0,L1,C1,L2,C2,rfl⟩:=hM.five;have KK:=qH (RunK.store K3.o.1.1 K3.o.1.2.1 hz K3.o.2 (by rw [G.o.2.2.2.2.2];omega) hM);have aj:Hu (Runs l I keep 0 (List.range R) X0/\(∀c,c<3->qbS (many I (chans l)) (X0 c))/\many I (chans l)<=10):=qH ⟨⟨by rw [G.o.2.2.1],ag⟩,ah,ay⟩;have Y:((0:Int) != 0)=false:=rfl;clear hG ae ag ah hM ay
 go_wp2_with (first | (with_reducible refine sR_ rfl 46 _ _ rfl (w.heap.size+1) #[.int .i64 k5,.int .i64 i5,.slice A0 L0 C0,.slice A1 L1 C1,.slice A2 L2 C2] hz 5 ?_) | fail)
 have bz:Hu (RunL w #[.slice Z R c,.int .i64 (I:Int),.int .i64 (keep:Int)] l I keep 0 g2 R W1.heap.size (w3.setRow (w.heap.size+1) #[.int .i64 k5,.int .i64 i5,.slice A0 L0 C0,.slice A1 L1 C1,.slice A2 L2 C2])):=qH ⟨_,X0,_,_,_,_,_,_,_,_,_,_,_,⟨aj.o.1,aj.o.2.1,qbl⟩,KK.o⟩;have aN:=qH aj.o.2.2;clear hz KK aj HA K3
 go_step3
 go_wp2_with fail
 go_loopw [5,30] (fun x5 x30 W=>∃p:Nat,x30=.int .i64 (p:Int)/\p<=F/\∃g n:Nat,x5=.slice (some ⟨g,0,none⟩) n n/\n<=R/\Hu (RunL w #[.slice Z R c,.int .i64 (I:Int),.int .i64 (keep:Int)] l I keep p g n W1.heap.size W)) (fun _ x30 _=>F-(intOf x30).toNat)
 case atStart=>exact⟨0,rfl,qam _,g2,R,rfl,qaf _,qH bz.o⟩
 case round =>
  obtain⟨p,rfl,hp,g,n,rfl,bG,hI⟩:=hrel;obtain⟨K,X,k5,i5,A0,A1,A2,L0,C0,L1,C1,L2,C2,aQ,aD⟩:=hI.o;have KW:Kn (RunK w #[.slice Z R c,.int .i64 (I:Int),.int .i64 (keep:Int)] l I g n W1.heap.size K X k5 i5 A0 A1 A2 L0 C0 L1 C1 L2 C2) wr:=.of aD;have H:=qH aQ;have hz:=aD.1.2;clear hI aQ aD
  by_cases aZ:p<F
  case neg =>
   obtain rfl:p=F:=by omega
   have bB:¬(p:Int)<(p:Int):=by omega
   go_wp2_with (first | (with_reducible refine lW_ rfl 46 _ rfl (w.heap.size+1) #[.int .i64 k5,.int .i64 i5,.slice A0 L0 C0,.slice A1 L1 C1,.slice A2 L2 C2] hz underlying46 5 ?_) | (with_reducible refine sR_ rfl 46 _ _ rfl (w.heap.size+1) #[.int .i64 k5,.int .i64 i5,.slice A0 L0 C0,.slice A1 L1 C1,.slice A2 L2 C2] hz 5 ?_) | fail)
   refine qR (v:=.tuple #[.agg #[.int .i64 k5,.int .i64 i5,.slice A0 L0 C0,.slice A1 L1 C1,.slice A2 L2 C2],.slice (some ⟨g,0,none⟩) n n,.int .i64 0]) (qb6 rfl _ _ (w.heap.size+1) 46 _ _ rfl (qT _ _ _ _ _ _ hz) underlying46 rfl 5 (by kernel_rfl) rfl _ _ rfl rfl) rfl ?_;refine⟨qS KW.o.1.1.1 (qa9 _) _,.inr ⟨_,g,K,_,by rw [H.o.2.2],?_,KW.o.2.2.keepB (qb5 _ _ _) hz (qjD _ _ _ _ _ _ _ _ _ _ _),⟨X,H.o.1,rfl,H.o.2.1⟩⟩⟩;rw [H.o.2.2];exact (KW.o.2.1.keep (qb5 _ _ _) (by rw [G.o.2.2.2.2.2];omega)).mono (qap aL.o)
  have bB:(p:Int)<(F:Int):=by omega
  have c0:=qC _ _ 0 _ _ _ KW.o.1.1.2;have aX:∀q,q<3->((mdX l I X).row q).length<=4611686018427387904:=fun q hq=>by
   unfold mdX;rw [qfp hq,qbT];exact qaj aN.o (by decide)
  have HQ:=qH (qgv (mdX l I X) _ R b ax c Z l wr KW.o.2.2 G.o.2.2.1 (by omega) G.o.2.2.2.1 aX (G.o.1.below KW.o.1.1.1) (G.o.2.1.below KW.o.1.1.1));have aa:=qH aZ;clear aX aZ
  go_wp2_with (first | (with_reducible refine lW_ rfl 46 _ rfl (w.heap.size+1) #[.int .i64 k5,.int .i64 i5,.slice A0 L0 C0,.slice A1 L1 C1,.slice A2 L2 C2] hz underlying46 5 ?_) | fail)
  refine HQ.o.mono ?_;rintro e w4 ⟨aU,hq⟩;have K4:=KW.below aU;have au:=K4.o.1.2;clear aU hz c0 HQ;rcases hq with ⟨v4,rfl,hG⟩ | ⟨cc,rfl,hf⟩
  case inr =>
   have Y:(cc == (0:Int))=false:=beq_false_of_ne hf.ne;have bu:(cc != (0:Int))=true:=by rw [bne,Y];rfl
   have J:=qH hf;clear hf
   go_wp2_with (first | (with_reducible refine sR_ rfl 46 _ _ rfl (w.heap.size+1) #[.int .i64 0,.int .i64 0,.slice none 0 0,.slice none 0 0,.slice none 0 0] au 5 ?_) | fail)
   refine qR (v:=.tuple #[.agg #[.int .i64 0,.int .i64 0,.slice none 0 0,.slice none 0 0,.slice none 0 0],.slice none 0 0,.int .i64 cc]) (qb6 rfl _ _ (w.heap.size+1) 46 _ _ rfl (qT _ _ _ _ _ _ au) underlying46 rfl 5 (by kernel_rfl) rfl _ _ rfl rfl) rfl ?_;exact⟨qS K4.o.1.1.1 (qa9 _) _,.inl ⟨cc,J.o.ne,rfl,.inr ⟨p,K,X,aa.o,H.o.1,.inl J.o⟩⟩⟩
  obtain⟨_,k',aW,U,g4,rfl,ak⟩:=hG;obtain rfl:k'=I:=by have e:(I:Int)=(k':Int):=aW.kind.1;omega
  have bg:w.heap.size+1<w4.heap.size:=(qG au).1;obtain⟨sq,aJ⟩:=qX (sqq (mdX l k' X) l k');rw [aJ] at U ak;rw [G.o.2.2.1] at U ak ⊢;have aB:=qH (qA aJ (qA U bg));have HB:=qH (qhp R g4 0 R (keep:Int) (some ⟨g4,0,none⟩) (told R sq) w4 (qbT _ _) (by omega) (fun _=>aP) ak);have c2:=qC _ _ 2 _ _ _ K4.o.1.1.2;clear aJ U bg ak aW au;go_wp2_with fail;refine HB.o.mono ?_;intro e w5 aO;obtain⟨aV,g5,rfl,O⟩:=aO.only aB.o.2.1 (by omega) af.2;have K5:=K4.below aV;obtain⟨T,hT⟩:=qX (bestL sq R keep);rw [hT] at O;have O:NatR w5 W1.heap.size g5 keep keep T:=O.mono (by rw [G.o.2.2.2.2.2];have:=aB.o.2.2;omega);obtain⟨bq,aI⟩:=qX (natI T == natI K);have az:=qhv g5 0 keep g 0 n (natI T) (natI K) keep n w5 (by rw [qcw];exact O.len) (by rw [qcw];exact K5.o.2.1.len) (by omega) (by omega) O.all K5.o.2.1.all;rw [aI] at az;have HE:=qH az;have V:=qH (qA hT (qA aI O));clear aV aO O hT aI az c2 HB;go_wp2_with fail;refine HE.o.mono ?_;rintro e w6 ⟨rfl,aH⟩;have K6:=(K5.below aH).also (q:=fun W=>NatR W W1.heap.size g5 keep keep T) (V.o.2.2.below aH);have ai:=K6.o.1.1.2;have aY:nextK l k' keep (mdX l k' X)=T:=by unfold nextK;rw [aB.o.1,G.o.2.2.1];exact V.o.1
  have aA:=qH aY;clear aH HE aY;cases bq
  case true =>
   have aR:T=K:=qjZ (eq_of_beq V.o.2.1);have aK:=Runs.stay H.o.1 (aA.o.trans aR) (F-p);rw [show p+(F-p)=F by have:=aa.o;omega] at aK;have bA:=qH aK;clear aR aK
   go_wp2_with (first | (with_reducible refine lW_ rfl 46 _ rfl (w.heap.size+1) #[.int .i64 k5,.int .i64 i5,.slice A0 L0 C0,.slice A1 L1 C1,.slice A2 L2 C2] ai underlying46 5 ?_) | (with_reducible refine sR_ rfl 46 _ _ rfl (w.heap.size+1) #[.int .i64 k5,.int .i64 i5,.slice A0 L0 C0,.slice A1 L1 C1,.slice A2 L2 C2] ai 5 ?_) | fail)
   refine qR (v:=.tuple #[.agg #[.int .i64 k5,.int .i64 i5,.slice A0 L0 C0,.slice A1 L1 C1,.slice A2 L2 C2],.slice (some ⟨g,0,none⟩) n n,.int .i64 0]) (qb6 rfl _ _ (w.heap.size+1) 46 _ _ rfl (qT _ _ _ _ _ _ ai) underlying46 rfl 5 (by kernel_rfl) rfl _ _ rfl rfl) rfl ?_;refine⟨qS K6.o.1.1.1.1 (qa9 _) _,.inr ⟨_,g,K,_,by rw [H.o.2.2],?_,K6.o.1.2.2.keepB (qb5 _ _ _) ai (qjD _ _ _ _ _ _ _ _ _ _ _),⟨X,bA.o,rfl,H.o.2.1⟩⟩⟩;rw [H.o.2.2];exact (K6.o.1.2.1.keep (qb5 _ _ _) (by rw [G.o.2.2.2.2.2];omega)).mono (qap aL.o)
  case false =>
   have aS:T.length=keep:=V.o.2.2.len;have aM:=qH (qjU R b ax c g5 0 keep keep (k':Int) Z (some ⟨g5,0,none⟩) l T w6 G.o.2.2.1 (by omega) G.o.2.2.2.1 aS (by omega) (fun x hx=>by
    rw [<-V.o.1] at hx;have:=qho x hx;omega) (G.o.1.below K6.o.1.1.1.1) K6.o.2.all (G.o.2.1.below K6.o.1.1.1.1))
   clear aS ai;go_wp2_with fail;refine aM.o.mono ?_;intro e w7 aC;have K7:=K6.below aC.1;have av:=K7.o.1.1.2;have bv:=qH aC;clear aM aC;rcases bv.o.2 with ⟨v,rfl,hG⟩ | ⟨cc,rfl,hf⟩
   case inr =>
    have Y:(cc == (0:Int))=false:=beq_false_of_ne hf.ne;have bu:(cc != (0:Int))=true:=by rw [bne,Y];rfl
    have J:=qH hf;clear hf;unfold mdv0;have bn:=qT _ _ _ #[.int .i64 0,.int .i64 0,.slice none 0 0,.slice none 0 0,.slice none 0 0] _ _ av
    go_wp2_with (first | (with_reducible refine sR_ rfl 46 _ _ rfl (w.heap.size+1) #[.int .i64 0,.int .i64 0,.slice none 0 0,.slice none 0 0,.slice none 0 0] av 5 ?_) | (with_reducible refine sR_ rfl 46 _ _ rfl (w.heap.size+1) #[.int .i64 0,.int .i64 0,.slice none 0 0,.slice none 0 0,.slice none 0 0] bn 5 ?_) | fail)
    refine qR (v:=.tuple #[.agg #[.int .i64 0,.int .i64 0,.slice none 0 0,.slice none 0 0,.slice none 0 0],.slice none 0 0,.int .i64 cc]) (qb6 rfl _ _ (w.heap.size+1) 46 _ _ rfl (qT _ _ _ _ _ _ bn) underlying46 rfl 5 (by kernel_rfl) rfl _ _ rfl rfl) rfl ?_;exact⟨qS (qS K7.o.1.1.1.1 (qa9 _) _) (qa9 _) _,.inl ⟨cc,J.o.ne,rfl,.inr ⟨p,K,X,aa.o,H.o.1,.inr (by rw [aA.o,G.o.2.2.1];exact J.o)⟩⟩⟩
   have ae:FitG l (k':Int) (keepW T l.length) w7 v:=by rw [G.o.2.2.1];exact hG
   obtain⟨_,X0,ag,ah,hM⟩:=ae.kfit;obtain⟨j5,h5,D0,D1,D2,M0,E0,M1,E1,M2,E2,rfl⟩:=hM.five;have HL:Hu (RunL w #[.slice Z R c,.int .i64 (k':Int),.int .i64 (keep:Int)] l k' keep (p+1) g5 keep W1.heap.size (w7.setRow (w.heap.size+1) #[.int .i64 j5,.int .i64 h5,.slice D0 M0 E0,.slice D1 M1 E1,.slice D2 M2 E2])):=qH ⟨T,X0,_,_,_,_,_,_,_,_,_,_,_,⟨⟨K,X,H.o.1,aA.o.symm,ag⟩,ah,V.o.2.2.len⟩,RunK.store K7.o.1.1.1.1 K7.o.1.1.1.2 av K7.o.2 (by rw [G.o.2.2.2.2.2];omega) hM⟩;clear hG ae ag ah hM
   go_wp2_with (first | (with_reducible refine sR_ rfl 46 _ _ rfl (w.heap.size+1) #[.int .i64 j5,.int .i64 h5,.slice D0 M0 E0,.slice D1 M1 E1,.slice D2 M2 E2] av 5 ?_) | fail)
   go_roundw
   case rel=>exact⟨p+1,by go_num,aa.o,g5,keep,rfl,af.2,HL⟩
   case measure=>have:=aa.o;simp [intOf];omega
def qdd (kind drop F:Int) (k d p:Nat):Prop:=kind=(k:Int)/\(1<=k/\k<=3)/\drop=(d:Int)/\d<=50/\F=(p:Int)/\p<=8
def keepN (n d:Nat):Nat:=n-n*d / 100
theorem keepN_le {n d:Nat} (I:1<=n) (G:d<=50):1<=keepN n d/\keepN n d<=n:=by
 unfold keepN;have F:n*d<=n*50:=qaG n G;obtain⟨m,H⟩:=qX (n*d);rw [H] at F ⊢;omega
def RFAs (w:World) (l:List Pt) (kind drop F:Int) (e:Ending) (w':World):Prop:=Below w.heap.size w w' /\
  ((¬PtsOk l/\e=.returned (.tuple #[mdv0,.slice none 0 0,.int .i64 310]))\/(PtsOk l/\(¬∃k d p,qdd kind drop F k d p)/\e=.returned (.tuple #[mdv0,.slice none 0 0,.int .i64 2])) \/
   (PtsOk l/\∃k d p,qdd kind drop F k d p/\RunAs w l k (keepN l.length d) p e w'))
theorem qgp (R b aa c:Nat) (kind drop F:Int) (ao:Option Addr) (l:List Pt) (w:World) (hR:l.length=R) (hl:R<=4611686018427387904) (ah:PtsOk l->R<20) (hs:∀k,k<R->(l.getD k pt0).name.size<=4611686018427387904/\(l.getD k pt0).dev.length<=4611686018427387904)
  (hP:PCells w ao b aa l) (hT:HasT w) :
  Calls prog 22 #[.slice ao R c,.int .i64 kind,.int .i64 drop,.int .i64 F] w fun e w'=>RFAs w l kind drop F e w':=by
 obtain⟨W1,aj,N1⟩:=nw1 w #[.int .i64 0,.int .i64 0,.slice none 0 0,.slice none 0 0,.slice none 0 0] 46;have HC:=qH (qfs ao b aa R c l W1 hR hl hs (hP.below N1.o.1));have Y:=qH (qA hP (qA hT (qA hR (qA hs ah))));clear hP hT hR hs ah;go_enter func22,ntmps22;go_upto_region 1 with fail;rw [<-aj];clear aj;go_wp2_with fail;refine HC.o.mono ?_;rintro e w2 ⟨z,rfl,hz,ak⟩;have K2:=N1.below ak;have G:=K2.o.2;clear ak HC N1;rcases hz with ⟨rfl,V⟩ | ⟨rfl,az⟩
 case inr =>
  have I:=qH az;clear az
  go_wp2_with (first | (with_reducible refine sR_ rfl 46 _ _ rfl (w.heap.size) #[.int .i64 0,.int .i64 0,.slice none 0 0,.slice none 0 0,.slice none 0 0] G 5 ?_) | fail)
  refine qR (v:=.tuple #[.agg #[.int .i64 0,.int .i64 0,.slice none 0 0,.slice none 0 0,.slice none 0 0],.slice none 0 0,.int .i64 310]) (qb6 rfl _ _ w.heap.size 46 _ _ rfl (qT _ _ _ _ _ _ G) underlying46 rfl 5 (by kernel_rfl) rfl _ _ rfl rfl) rfl ?_;exact⟨qS K2.o.1 qN _,.inl ⟨I.o,rfl⟩⟩
 have H:=qH V;have hr:=V.r1;rw [Y.o.2.2.1] at hr;have ai:=Y.o.2.2.2.2 V;clear V
 by_cases aG:kind<1
 ·have I:Hu (¬∃k d p,qdd kind drop F k d p):=qH fun⟨k,d,p,h⟩=>by have:=h.1;have:=h.2.1;omega
  go_wp2_with (first | (with_reducible refine sR_ rfl 46 _ _ rfl (w.heap.size) #[.int .i64 0,.int .i64 0,.slice none 0 0,.slice none 0 0,.slice none 0 0] G 5 ?_) | fail)
  refine qR (v:=.tuple #[.agg #[.int .i64 0,.int .i64 0,.slice none 0 0,.slice none 0 0,.slice none 0 0],.slice none 0 0,.int .i64 2]) (qb6 rfl _ _ w.heap.size 46 _ _ rfl (qT _ _ _ _ _ _ G) underlying46 rfl 5 (by kernel_rfl) rfl _ _ rfl rfl) rfl ?_;exact⟨qS K2.o.1 qN _,.inr (.inl ⟨H.o,I.o,rfl⟩)⟩
 by_cases aH:kind > 3
 ·have I:Hu (¬∃k d p,qdd kind drop F k d p):=qH fun⟨k,d,p,h⟩=>by have:=h.1;have:=h.2.1;omega
  go_wp2_with (first | (with_reducible refine sR_ rfl 46 _ _ rfl (w.heap.size) #[.int .i64 0,.int .i64 0,.slice none 0 0,.slice none 0 0,.slice none 0 0] G 5 ?_) | fail)
  refine qR (v:=.tuple #[.agg #[.int .i64 0,.int .i64 0,.slice none 0 0,.slice none 0 0,.slice none 0 0],.slice none 0 0,.int .i64 2]) (qb6 rfl _ _ w.heap.size 46 _ _ rfl (qT _ _ _ _ _ _ G) underlying46 rfl 5 (by kernel_rfl) rfl _ _ rfl rfl) rfl ?_;exact⟨qS K2.o.1 qN _,.inr (.inl ⟨H.o,I.o,rfl⟩)⟩
 by_cases aD:drop<0
 ·have I:Hu (¬∃k d p,qdd kind drop F k d p):=qH fun⟨k,d,p,h⟩=>by have:=h.2.2.1;omega
  go_wp2_with (first | (with_reducible refine sR_ rfl 46 _ _ rfl (w.heap.size) #[.int .i64 0,.int .i64 0,.slice none 0 0,.slice none 0 0,.slice none 0 0] G 5 ?_) | fail)
  refine qR (v:=.tuple #[.agg #[.int .i64 0,.int .i64 0,.slice none 0 0,.slice none 0 0,.slice none 0 0],.slice none 0 0,.int .i64 2]) (qb6 rfl _ _ w.heap.size 46 _ _ rfl (qT _ _ _ _ _ _ G) underlying46 rfl 5 (by kernel_rfl) rfl _ _ rfl rfl) rfl ?_;exact⟨qS K2.o.1 qN _,.inr (.inl ⟨H.o,I.o,rfl⟩)⟩
 by_cases aF:drop > 50
 ·have I:Hu (¬∃k d p,qdd kind drop F k d p):=qH fun⟨k,d,p,h⟩=>by have:=h.2.2.1;have:=h.2.2.2.1;omega
  go_wp2_with (first | (with_reducible refine sR_ rfl 46 _ _ rfl (w.heap.size) #[.int .i64 0,.int .i64 0,.slice none 0 0,.slice none 0 0,.slice none 0 0] G 5 ?_) | fail)
  refine qR (v:=.tuple #[.agg #[.int .i64 0,.int .i64 0,.slice none 0 0,.slice none 0 0,.slice none 0 0],.slice none 0 0,.int .i64 2]) (qb6 rfl _ _ w.heap.size 46 _ _ rfl (qT _ _ _ _ _ _ G) underlying46 rfl 5 (by kernel_rfl) rfl _ _ rfl rfl) rfl ?_;exact⟨qS K2.o.1 qN _,.inr (.inl ⟨H.o,I.o,rfl⟩)⟩
 by_cases aJ:F<0
 ·have I:Hu (¬∃k d p,qdd kind drop F k d p):=qH fun⟨k,d,p,h⟩=>by have:=h.2.2.2.2.1;omega
  go_wp2_with (first | (with_reducible refine sR_ rfl 46 _ _ rfl (w.heap.size) #[.int .i64 0,.int .i64 0,.slice none 0 0,.slice none 0 0,.slice none 0 0] G 5 ?_) | fail)
  refine qR (v:=.tuple #[.agg #[.int .i64 0,.int .i64 0,.slice none 0 0,.slice none 0 0,.slice none 0 0],.slice none 0 0,.int .i64 2]) (qb6 rfl _ _ w.heap.size 46 _ _ rfl (qT _ _ _ _ _ _ G) underlying46 rfl 5 (by kernel_rfl) rfl _ _ rfl rfl) rfl ?_;exact⟨qS K2.o.1 qN _,.inr (.inl ⟨H.o,I.o,rfl⟩)⟩
 by_cases aK:F > 8
 ·have I:Hu (¬∃k d p,qdd kind drop F k d p):=qH fun⟨k,d,p,h⟩=>by have:=h.2.2.2.2.1;have:=h.2.2.2.2.2;omega
  go_wp2_with (first | (with_reducible refine sR_ rfl 46 _ _ rfl (w.heap.size) #[.int .i64 0,.int .i64 0,.slice none 0 0,.slice none 0 0,.slice none 0 0] G 5 ?_) | fail)
  refine qR (v:=.tuple #[.agg #[.int .i64 0,.int .i64 0,.slice none 0 0,.slice none 0 0,.slice none 0 0],.slice none 0 0,.int .i64 2]) (qb6 rfl _ _ w.heap.size 46 _ _ rfl (qT _ _ _ _ _ _ G) underlying46 rfl 5 (by kernel_rfl) rfl _ _ rfl rfl) rfl ?_;exact⟨qS K2.o.1 qN _,.inr (.inl ⟨H.o,I.o,rfl⟩)⟩
 obtain⟨k,rfl⟩:∃k:Nat,kind=(k:Int):=⟨kind.toNat,by omega⟩;obtain⟨d,rfl⟩:∃d:Nat,drop=(d:Int):=⟨drop.toNat,by omega⟩;obtain⟨p,rfl⟩:∃p:Nat,F=(p:Int):=⟨F.toNat,by omega⟩;have HA:Hu (qdd (k:Int) (d:Int) (p:Int) k d p):=qH ⟨rfl,by omega,rfl,by omega,rfl,by omega⟩;have aC:R*d<=R*50:=qaG R (by omega);obtain⟨m,hm⟩:=qX (R*d);have aB:(R:Int)*(d:Int)=(m:Int):=by rw [<-hm];exact (Int.natCast_mul R d).symm
 have aI:m<=1000:=by omega
 have aL:IntKind.i64.wrap ((R:Int)*(d:Int))=(m:Int):=by rw [aB,IntKind.wrap_i64];omega
 have ax:keepN R d=R-m / 100:=by unfold keepN;rw [hm]
 have aA:(R:Int)-(m:Int) / 100=((keepN R d:Nat):Int):=by rw [ax];omega
 obtain⟨kp,U⟩:=qX (keepN R d);rw [U] at aA;have av:1<=kp/\kp<=R:=by rw [<-U];exact keepN_le hr (by omega)
 have ag:=qH (run_any R b aa c k kp p ao l w2 Y.o.2.2.1 hr ai HA.o.2.1 av (by have:=HA.o.2.2.2.2.2;omega) Y.o.2.2.2.1 (Y.o.1.below K2.o.1) (Y.o.2.1.below K2.o.1));have af:=qH U;clear ax hm U av;go_wp2_with fail;refine ag.o.mono ?_;rintro e w3 ⟨Z,h⟩;have K3:=K2.below Z;have O:=K3.o.2;have ay:w.heap.size<w2.heap.size:=(qG G).1;have ae:=qH (qA Z ay);clear G ag Z ay;rcases h with ⟨cc,au,rfl,hf⟩ | ⟨v,g,K,md,rfl,hN,hM,hG⟩
 ·have HF:=qH (qA au hf);clear hf au;unfold mdv0
  go_wp2_with (first | (with_reducible refine sR_ rfl 46 _ _ rfl (w.heap.size) #[.int .i64 0,.int .i64 0,.slice none 0 0,.slice none 0 0,.slice none 0 0] O 5 ?_) | fail)
  refine qR (v:=.tuple #[.agg #[.int .i64 0,.int .i64 0,.slice none 0 0,.slice none 0 0,.slice none 0 0],.slice none 0 0,.int .i64 cc]) (qb6 rfl _ _ w.heap.size 46 _ _ rfl (qT _ _ _ _ _ _ O) underlying46 rfl 5 (by kernel_rfl) rfl _ _ rfl rfl) rfl ?_;have J:=qS K3.o.1 (qaf w.heap.size) #[.int .i64 0,.int .i64 0,.slice none 0 0,.slice none 0 0,.slice none 0 0];exact⟨J,.inr (.inr ⟨H.o,k,d,p,HA.o,J,.inl ⟨cc,HF.o.1,rfl,by rw [Y.o.2.2.1,af.o];exact HF.o.2⟩⟩)⟩
 ·obtain⟨k5,i5,A0,A1,A2,L0,C0,L1,C1,L2,C2,rfl⟩:=hM.five;have HF:=qH (qA hN (qA hM hG));clear hN hM hG
  go_wp2_with (first | (with_reducible refine sR_ rfl 46 _ _ rfl (w.heap.size) #[.int .i64 k5,.int .i64 i5,.slice A0 L0 C0,.slice A1 L1 C1,.slice A2 L2 C2] O 5 ?_) | fail)
  refine qR (v:=.tuple #[.agg #[.int .i64 k5,.int .i64 i5,.slice A0 L0 C0,.slice A1 L1 C1,.slice A2 L2 C2],.slice (some ⟨g,0,none⟩) K.length K.length,.int .i64 0]) (qb6 rfl _ _ w.heap.size 46 _ _ rfl (qT _ _ _ _ _ _ O) underlying46 rfl 5 (by kernel_rfl) rfl _ _ rfl rfl) rfl ?_;have J:=qS K3.o.1 (qaf w.heap.size) #[.int .i64 k5,.int .i64 i5,.slice A0 L0 C0,.slice A1 L1 C1,.slice A2 L2 C2];exact⟨J,.inr (.inr ⟨H.o,k,d,p,HA.o,J,.inr ⟨_,g,K,md,rfl,(HF.o.1.keep (qb5 _ _ _) ae.o.2).mono (qap ae.o.2),HF.o.2.1.keepB (qb5 _ _ _) O (qjD _ _ _ _ _ _ _ _ _ _ _),by rw [Y.o.2.2.1,af.o];exact HF.o.2.2⟩⟩)⟩
def zq (F:List Int) (i:Nat):Rat:=((F.getD i 0:Int):Rat)
theorem lqn_any (b O n c:Nat) (F:List Int) (w:World) (hn:F.length=n) (aj:n<=1000) (hc:NCells w (some ⟨b,O,none⟩) b O F) (hz:∀z∈F,-9223372036854775808<=z/\z<=9223372036854775807) (hT:HasT w) :
  Calls prog 29 #[.slice (some ⟨b,O,none⟩) n c] w fun e w'=>∃v,e=.returned v/\Rws w' w.heap.size 27 2 v n (fflat (told n (zq F)))/\Below w.heap.size w w':=by
 have V:=qH (qA hc (qA hn (qA hz hT)));clear hc hn hz hT;go_enter func29,ntmps29;go_wp2_with fail
 go_loopw [3,5,6,7,10] (fun x3 x5 x6 x7 x10 W=>∃k:Nat,x10=.int .i64 (k:Int)/\k<=n/\Kn (fun W=>Below w.heap.size w W/\Rws W w.heap.size 27 2 x3 k (fflat (told k (zq F)))) W) (fun _ _ _ _ x10 _=>n-(intOf x10).toNat)
 case atStart=>exact⟨0,rfl,qam _,.of ⟨Below.refl _ _,Rws.nil _ _ _ _⟩⟩
 case round =>
  obtain⟨k,rfl,hk,Y⟩:=hrel
  by_cases H:k<n
  ·have ai:(k:Int)<n:=by omega
   have d0:=(V.o.1.below Y.o.1).cell k (by rw [V.o.2.1];exact H);have G:k<F.length:=by rw [V.o.2.1];exact H
   have J:=V.o.2.2.1 (F.getD k 0) (by rw [qab,qad G];exact qbx G);obtain⟨z,I⟩:=qX (F.getD k 0);rw [I] at d0 J;have hq:((z:Int):Rat) / (((1:Int):Int):Rat)=zq F k:=by unfold zq;rw [I,Rat.div_def,show (((1:Int):Rat))⁻¹=1 by decide +kernel,Rat.mul_one]
   obtain⟨x1,x2,hx⟩:=qco (zq F k);have HO:Hu (∀W,Below w.heap.size w W->Calls prog 31 #[.int .i64 z,.int .i64 1] W fun e w'=>e=.returned (.tuple #[.agg #[.string x1,.string x2],.int .i64 0])/\Below W.heap.size W w'):=qH fun W Z=>by
    have h:=of_int z 1 (by decide) J (by decide) W (V.o.2.2.2.below Z);rw [hq,hx] at h;exact h
   have HX:=qH hx;have aa:=qH (HO.o wr Y.o.1);clear hq hx I J G;go_wp2_with fail;refine aa.o.mono ?_;rintro e U ⟨rfl,Z⟩;have K2:=Y.below Z;clear Z d0;have K4:=K2.on (q:=fun W=>W.heap[U.heap.size]? = some (.cells #[.string x1,.string x2] 27 (0,0))) (qbN (Below.refl _ U) qN) (heap_alloc_new U (.cells #[.string x1,.string x2] 27));have ae:=qH (show U.heap.size+1=(U.alloc (.cells #[.string x1,.string x2] 27)).heap.size by simp only [qaa])
   go_wp2_with (first | ((with_reducible refine qbZ rfl 27 _ _ rfl #[.string ⟨#[]⟩,.string ⟨#[]⟩] #[.string x1,.string x2] ?_ ?_ 2 ?_ ?_ ?_ ?_ ?_);(next=>rfl);(next=>rfl);(next=>kernel_rfl);(next=>rfl);(next=>rfl);(next=>rfl)) | (with_reducible refine lW_ rfl 27 _ rfl (U.heap.size) #[.string x1,.string x2] K4.o.2 underlying27 2 ?_) | (at_builtin;refine qeO rfl _ _ rfl K4.o.1.1 rfl K4.o.1.2 rfl rfl ae.o (by omega) ?_;intro v' w' ag af) | fail)
   go_roundw
   case rel=>exact⟨k+1,by go_num,H,.of ⟨af.o,by rw [qfj,HX.o];exact ag.o⟩⟩
   case measure=>simp [intOf];omega
  ·obtain rfl:k=n:=by omega
   have ah:¬(k:Int)<(k:Int):=by omega
   go_wp2;go_ret;exact⟨_,rfl,Y.o.2,Y.o.1⟩
theorem lq_any (b F n c:Nat) (G:List Int) (w:World) (V:G.length=n) (I:n<=1000) (U:NCells w (some ⟨b,F,none⟩) b F G) (Y:∀z∈G,-9223372036854775808<=z/\z<=9223372036854775807) (hT:HasT w) :
  Calls prog 29 #[.slice (some ⟨b,F,none⟩) n c] w fun e w'=>∃(H:Option Addr) (g cap:Nat),e=.returned (.slice H n cap)/\FCells w' H g 0 (told n (zq G))/\Below w.heap.size w w':=by
 refine (lqn_any b F n c G w V I U Y hT).mono ?_;rintro e w' ⟨v,rfl,h,O⟩;obtain⟨H,g,cap,rfl,J,_⟩:=qdG h (qbT _ _);exact⟨H,g,cap,rfl,J,O⟩
theorem lis_any (F:Option Addr) (n c:Nat) (w:World) :
  Calls prog 27 #[.slice F n c] w fun e w'=>∃b,e=.returned (.func (.func 72) #[] #[.pointer (some ⟨b,0,none⟩)])/\Below w.heap.size w w'/\w'.heap[b]? = some (.cells #[.slice F n c] 30 (0,0)):=by
 have H:=qH (qA (qbN (o:=.cells #[.slice F n c] 30) (Below.refl w.heap.size w) qN) (qM w (.cells #[.slice F n c] 30) _ rfl));have G:=@hmf_ prog;go_enter func27,ntmps27;go_wp2;go_ret;exact⟨_,rfl,H.o.1,H.o.2⟩
theorem qjW (I O n c J U m d b:Nat) (G H:List Int) (z:Int) (w:World) (hb:w.heap[b]? = some (.cells #[.slice (some ⟨J,U,none⟩) m d] 30 (0,0))) (hn:G.length=n) (hm:H.length=m) (Z:n<=1000000) (Y:m<=1000000) (h1:NCells w (some ⟨I,O,none⟩) I O G) (h2:NCells w (some ⟨J,U,none⟩) J U H) :
  Calls prog 72 #[.slice (some ⟨I,O,none⟩) n c,.int .i64 z,.pointer (some ⟨b,0,none⟩)] w fun e w'=>e=.returned (.bool ((G == H) && (z == (0:Int))))/\Below w.heap.size w w':=by
 have c0:=qC _ _ 0 _ _ _ hb;have V:=qH (qhv I O c J U d G H n m w hn hm Z Y h1 h2);clear h1 h2;obtain⟨q,hq⟩:=qX (G == H);rw [hq] at V ⊢;go_enter func72,ntmps72;go_wp2_with fail;refine V.o.mono ?_;rintro e w2 ⟨rfl,F⟩;have HB:=qH F;clear F c0 V;cases q
 ·go_wp2;go_ret;exact⟨rfl,HB.o⟩
 ·go_wp2;go_ret;exact⟨by simp,HB.o⟩
theorem qkG (n:Int) (w:World) :
  Calls prog 28 #[.int .i64 n] w fun e w'=>∃b,e=.returned (.func (.func 73) #[] #[.pointer (some ⟨b,0,none⟩)])/\Below w.heap.size w w'/\w'.heap[b]? = some (.cells #[.int .i64 n] 31 (0,0)):=by
 have H:=qH (qA (qbN (o:=.cells #[.int .i64 n] 31) (Below.refl w.heap.size w) qN) (qM w (.cells #[.int .i64 n] 31) _ rfl));have F:=@hmf_ prog;go_enter func28,ntmps28;go_wp2;go_ret;exact⟨_,rfl,H.o.1,H.o.2⟩
theorem qi8 (n:Int) (b c:Nat) (F:Option Addr) (w:World) (G:w.heap[b]? = some (.cells #[.int .i64 n] 31 (0,0))) :
  Calls prog 73 #[.slice F 0 c,.int .i64 n,.pointer (some ⟨b,0,none⟩)] w fun e w'=>e=.returned (.bool true)/\w'=w:=by
 have H:=qC _ _ 0 _ _ _ G;go_enter func73,ntmps73;go_wp2;go_ret;exact⟨by simp,rfl⟩
theorem qle {s:Nat->Rat} {n k:Nat} (hk:k<n) (h:∀i,i<n->i≠k->s i<s k):bestL s n (n-1)=(List.range n).filter fun i=>decide (i≠k):=by
 have hU:Up ((List.range n).filter fun i=>decide (i≠k)):=(qfO n).sublist List.filter_sublist;refine (qfG s n (n-1)).eq hU ((qdl s n (n-1)).trans ?_);have G:=qev s n;obtain⟨A,z,e⟩:∃A z,qcF s n=A++[z]:=by
  rcases List.eq_nil_or_concat (qcF s n) with e | ⟨A,z,e⟩
  ·rw [e] at G;simp at G;omega
  ·exact⟨A,z,by rw [e];simp⟩
 have V:z<n:=qat.1 ((qcx s n).mem_iff.1 (by rw [e];simp));have U:z=k:=by
  by_cases O:z=k
  ·exact O
  ·have J:k∈A:=by
    have:k∈qcF s n:=(qcx s n).mem_iff.2 (qat.2 hk);rw [e] at this;rcases qaH.1 this with h | h
    ·exact h
    ·exact absurd (qao.1 h).symm O
   have Y:=qhc s n;rw [e] at Y;have h1:=(List.pairwise_append.1 Y).2.2 k J z (by simp);have h2:=h z V O
   grind
 subst U;have aa:A.length=n-1:=by rw [e] at G;simp at G;omega
 have F:=qei s n;rw [e] at F;have H:∀a∈A,a≠z:=fun a I he=>by
  subst he;exact (List.nodup_append.1 F).2.2 a I a (by simp) rfl
 rw [e,List.take_append_of_le_length (by omega),qal (by omega)];have Z:=((qcx s n).filter (fun i=>decide (i≠z)));rw [e,List.filter_append] at Z;have e1:A.filter (fun i=>decide (i≠z))=A:=List.filter_eq_self.2 fun a I=>qV (H a I)
 have e2:[z].filter (fun i=>decide (i≠z))=[]:=by simp
 rwa [e1,e2,qbB] at Z
def line5:List Pt:=[⟨⟨#[97]⟩,[0],0,0,0⟩,⟨⟨#[98]⟩,[2500],2500,0,0⟩,⟨⟨#[99]⟩,[5000],9000,0,0⟩,⟨⟨#[100]⟩,[7500],7500,0,0⟩,⟨⟨#[101]⟩,[10000],10000,0,0⟩]
theorem qee:PtsOk line5 where
 r1:=by decide
 r2:=by decide
 rows:=fun k H=>by
  have H:k<5:=H;rcases (show k=0\/k=1\/k=2\/k=3\/k=4 by omega) with rfl | rfl | rfl | rfl | rfl <;> exact⟨⟨name_one (by decide),by decide,by decide,vals_one (by decide),by decide,by decide,by decide⟩,rfl⟩
 apart:=fun i k I F=>by
  have F:i<5:=F;have G:∀i,i<5->∀k,k<i->(line5.getD k pt0).name≠(line5.getD i pt0).name:=by decide
  exact G i F k I
def linX0 (c:Nat):Nat->Rat:=if c=0 then fv [8,100] else fv [0,0]
def linX1 (c:Nat):Nat->Rat:=if c=0 then fv [0,100] else fv [0,0]
theorem qie:∀c,c<3->FitX line5 1 [1,1,1,1,1] c (linX0 c)/\qbS 2 (linX0 c):=fun c F=>by
 rcases (show c=0\/c=1\/c=2 by omega) with rfl | rfl | rfl
 ·exact⟨show ∀i,i<2->_ from by decide +kernel,qcO (by decide +kernel)⟩
 ·exact⟨show ∀i,i<2->_ from by decide +kernel,qcO (by decide +kernel)⟩
 ·exact⟨show ∀i,i<2->_ from by decide +kernel,qcO (by decide +kernel)⟩
theorem ql1:∀c,c<3->FitX line5 1 [1,1,0,1,1] c (linX1 c)/\qbS 2 (linX1 c):=fun c F=>by
 rcases (show c=0\/c=1\/c=2 by omega) with rfl | rfl | rfl
 ·exact⟨show ∀i,i<2->_ from by decide +kernel,qcO (by decide +kernel)⟩
 ·exact⟨show ∀i,i<2->_ from by decide +kernel,qcO (by decide +kernel)⟩
 ·exact⟨show ∀i,i<2->_ from by decide +kernel,qcO (by decide +kernel)⟩
theorem lin_n0:¬Sing 2 (nq line5 1 [1,1,1,1,1] 0):=qir (fm [[3 / 5,-4 / 5],[-4 / 5,8 / 5]]) (by decide +kernel)
theorem lin_n1:¬Sing 2 (nq line5 1 [1,1,0,1,1] 0):=qir (fm [[13 / 20,-4 / 5],[-4 / 5,8 / 5]]) (by decide +kernel)
theorem keep_5:keepW (List.range line5.length) line5.length=[1,1,1,1,1]:=by decide
theorem lin_k0:KFit line5 1 (List.range line5.length) linX0:=by
 unfold KFit;rw [keep_5];exact⟨lin_n0,fun c F=>(qie c F).1⟩
theorem qg1 (keep:Nat):Runs line5 1 keep 0 (List.range line5.length) linX0:=⟨rfl,lin_k0⟩
theorem qjb:∀i,i<5->sqq (mdX line5 1 linX0) line5 1 i=fv [64,64,1024,64,64] i:=fun i F=>by
 unfold mdX;rw [qmP qN];rcases (show i=0\/i=1\/i=2\/i=3\/i=4 by omega) with rfl | rfl | rfl | rfl | rfl <;> decide +kernel
theorem qlX:nextK line5 1 4 (mdX line5 1 linX0)=[0,1,3,4]:=by
 have h:=qle (s:=sqq (mdX line5 1 linX0) line5 1) (n:=5) (k:=2) (by decide) fun i F hne=>by
  rw [qjb i F,qjb 2 (by decide)];rcases (show i=0\/i=1\/i=3\/i=4 by omega) with rfl | rfl | rfl | rfl <;> decide +kernel
 exact h.trans (by decide)
theorem qlY:nextK line5 1 5 (mdX line5 1 linX0)=List.range line5.length:=qlc _ 5
theorem lin_k1:KFit line5 1 [0,1,3,4] linX1:=by
 unfold KFit;rw [show keepW [0,1,3,4] line5.length=[1,1,0,1,1] by decide];exact⟨lin_n1,fun c F=>(ql1 c F).1⟩
theorem lin_r1:Runs line5 1 4 1 [0,1,3,4] linX1:=⟨_,_,qg1 4,qlX.symm,lin_k1⟩
theorem lin_r5:Runs line5 1 5 1 (List.range line5.length) linX0:=(qg1 5).stay qlY 1
theorem qlZ:∀i,i<5->sqq (mdX line5 1 linX1) line5 1 i=fv [0,0,1600,0,0] i:=fun i F=>by
 unfold mdX;rw [qmP qN];rcases (show i=0\/i=1\/i=2\/i=3\/i=4 by omega) with rfl | rfl | rfl | rfl | rfl <;> decide +kernel
theorem qdM (w:World) :
  Calls prog 30 #[] w fun e w'=>∃v,e=.returned v/\PaOwn w' w.heap.size v line5/\Below w.heap.size w w':=by
 go_enter func30,ntmps30;go_wp2_with fail
 go_loopw [1,5,2,3] (fun x1 x5 x2 x3 W=>∃i:Nat,x5=.int .i64 (i:Int)/\i<=5/\Kn (fun W=>Below w.heap.size w W/\PaOwn W w.heap.size x1 (line5.take i)) W) (fun _ x5 _ _ _=>5-(intOf x5).toNat)
 case atStart=>exact⟨0,rfl,qam _,.of ⟨Below.refl _ _,PaOwn.nil _ _⟩⟩
 case round =>
  obtain⟨i,rfl,hi,V⟩:=hrel
  by_cases ah:i<5
  ·obtain⟨va,vc,ag⟩:=V.o.2.shape (m:=i) (by rw [qas];exact qaZ hi);subst ag;rcases (show i=0\/i=1\/i=2\/i=3\/i=4 by omega) with rfl | rfl | rfl | rfl | rfl
   ·have aa:∀W,(Instr.index 141 (.agg #[.int .i64 0,.int .i64 2500,.int .i64 9000,.int .i64 7500,.int .i64 10000]) (.int .i64 0)).run prog W=.ok (.int .i64 0) W:=fun W=>by kernel_rfl
    have Y:∀W,(convert 21 9 (.int .i32 97)).run prog W=.ok (.string ⟨#[97]⟩) W:=fun W=>by kernel_rfl
    have J:Kn (fun W=>(Below w.heap.size w W/\PaOwn W w.heap.size (.slice va 0 vc) (line5.take 0))/\IOwn W wr.heap.size (.slice (some ⟨wr.heap.size,0,none⟩) 1 1) [0]) (wr.alloc (.cells #[.int .i64 0] 3)):=V.on (qbN (Below.refl _ wr) qN) (qfr (cs:=#[.int .i64 0]) (heap_alloc_new wr _) qN rfl (by decide));have HQ:Hu (∀q,(Value.slice va 0 vc).ownBlock=some q->w.heap.size<=q):=qH fun q hq=>by obtain⟨vs,Y,_⟩:=V.o.2;exact (Y.lt q hq).1
    have H:w.heap.size<=(wr.alloc (.cells #[.int .i64 0] 3)).heap.size:=J.o.1.1.size;have Z:w.heap.size<=wr.heap.size:=V.o.1.size;have U:=qH (show wr.heap.size+1=(wr.alloc (.cells #[.int .i64 0] 3)).heap.size by simp only [qaa])
    go_wp2_with (first | (at_builtin;refine qcP rfl _ _ rfl (p:=⟨⟨#[97]⟩,[0],0,0,0⟩) (Bd:=wr.heap.size) J.o.1.2 J.o.2 H rfl rfl U.o (show 0<1000000 by decide) rfl rfl rfl rfl rfl ?_;intro v' w' G F;obtain⟨ae,af,I⟩:=(Hu.o G).shape (m:=1) rfl;subst I;have O:Hu (Below w.heap.size w w'):=qH (qc7 (B:=w.heap.size) (qbN J.o.1.1 qN) HQ.o (by simp only [qaa];omega) F.o);clear F) | fail)
    go_roundw
    case rel=>exact⟨1,by go_num,by decide,.of ⟨O.o,G.o⟩⟩
    case measure=>simp [intOf]
   ·have aa:∀W,(Instr.index 141 (.agg #[.int .i64 0,.int .i64 2500,.int .i64 9000,.int .i64 7500,.int .i64 10000]) (.int .i64 1)).run prog W=.ok (.int .i64 2500) W:=fun W=>by kernel_rfl
    have Y:∀W,(convert 21 9 (.int .i32 98)).run prog W=.ok (.string ⟨#[98]⟩) W:=fun W=>by kernel_rfl
    have J:Kn (fun W=>(Below w.heap.size w W/\PaOwn W w.heap.size (.slice va 1 vc) (line5.take 1))/\IOwn W wr.heap.size (.slice (some ⟨wr.heap.size,0,none⟩) 1 1) [2500]) (wr.alloc (.cells #[.int .i64 2500] 3)):=V.on (qbN (Below.refl _ wr) qN) (qfr (cs:=#[.int .i64 2500]) (heap_alloc_new wr _) qN rfl (by decide));have HQ:Hu (∀q,(Value.slice va 1 vc).ownBlock=some q->w.heap.size<=q):=qH fun q hq=>by obtain⟨vs,Y,_⟩:=V.o.2;exact (Y.lt q hq).1
    have H:w.heap.size<=(wr.alloc (.cells #[.int .i64 2500] 3)).heap.size:=J.o.1.1.size;have Z:w.heap.size<=wr.heap.size:=V.o.1.size;have U:=qH (show wr.heap.size+1=(wr.alloc (.cells #[.int .i64 2500] 3)).heap.size by simp only [qaa])
    go_wp2_with (first | (at_builtin;refine qcP rfl _ _ rfl (p:=⟨⟨#[98]⟩,[2500],2500,0,0⟩) (Bd:=wr.heap.size) J.o.1.2 J.o.2 H rfl rfl U.o (show 1<1000000 by decide) rfl rfl rfl rfl rfl ?_;intro v' w' G F;obtain⟨ae,af,I⟩:=(Hu.o G).shape (m:=2) rfl;subst I;have O:Hu (Below w.heap.size w w'):=qH (qc7 (B:=w.heap.size) (qbN J.o.1.1 qN) HQ.o (by simp only [qaa];omega) F.o);clear F) | fail)
    go_roundw
    case rel=>exact⟨2,by go_num,by decide,.of ⟨O.o,G.o⟩⟩
    case measure=>simp [intOf]
   ·have aa:∀W,(Instr.index 141 (.agg #[.int .i64 0,.int .i64 2500,.int .i64 9000,.int .i64 7500,.int .i64 10000]) (.int .i64 2)).run prog W=.ok (.int .i64 9000) W:=fun W=>by kernel_rfl
    have Y:∀W,(convert 21 9 (.int .i32 99)).run prog W=.ok (.string ⟨#[99]⟩) W:=fun W=>by kernel_rfl
    have J:Kn (fun W=>(Below w.heap.size w W/\PaOwn W w.heap.size (.slice va 2 vc) (line5.take 2))/\IOwn W wr.heap.size (.slice (some ⟨wr.heap.size,0,none⟩) 1 1) [5000]) (wr.alloc (.cells #[.int .i64 5000] 3)):=V.on (qbN (Below.refl _ wr) qN) (qfr (cs:=#[.int .i64 5000]) (heap_alloc_new wr _) qN rfl (by decide));have HQ:Hu (∀q,(Value.slice va 2 vc).ownBlock=some q->w.heap.size<=q):=qH fun q hq=>by obtain⟨vs,Y,_⟩:=V.o.2;exact (Y.lt q hq).1
    have H:w.heap.size<=(wr.alloc (.cells #[.int .i64 5000] 3)).heap.size:=J.o.1.1.size;have Z:w.heap.size<=wr.heap.size:=V.o.1.size;have U:=qH (show wr.heap.size+1=(wr.alloc (.cells #[.int .i64 5000] 3)).heap.size by simp only [qaa])
    go_wp2_with (first | (at_builtin;refine qcP rfl _ _ rfl (p:=⟨⟨#[99]⟩,[5000],9000,0,0⟩) (Bd:=wr.heap.size) J.o.1.2 J.o.2 H rfl rfl U.o (show 2<1000000 by decide) rfl rfl rfl rfl rfl ?_;intro v' w' G F;obtain⟨ae,af,I⟩:=(Hu.o G).shape (m:=3) rfl;subst I;have O:Hu (Below w.heap.size w w'):=qH (qc7 (B:=w.heap.size) (qbN J.o.1.1 qN) HQ.o (by simp only [qaa];omega) F.o);clear F) | fail)
    go_roundw
    case rel=>exact⟨3,by go_num,by decide,.of ⟨O.o,G.o⟩⟩
    case measure=>simp [intOf]
   ·have aa:∀W,(Instr.index 141 (.agg #[.int .i64 0,.int .i64 2500,.int .i64 9000,.int .i64 7500,.int .i64 10000]) (.int .i64 3)).run prog W=.ok (.int .i64 7500) W:=fun W=>by kernel_rfl
    have Y:∀W,(convert 21 9 (.int .i32 100)).run prog W=.ok (.string ⟨#[100]⟩) W:=fun W=>by kernel_rfl
    have J:Kn (fun W=>(Below w.heap.size w W/\PaOwn W w.heap.size (.slice va 3 vc) (line5.take 3))/\IOwn W wr.heap.size (.slice (some ⟨wr.heap.size,0,none⟩) 1 1) [7500]) (wr.alloc (.cells #[.int .i64 7500] 3)):=V.on (qbN (Below.refl _ wr) qN) (qfr (cs:=#[.int .i64 7500]) (heap_alloc_new wr _) qN rfl (by decide));have HQ:Hu (∀q,(Value.slice va 3 vc).ownBlock=some q->w.heap.size<=q):=qH fun q hq=>by obtain⟨vs,Y,_⟩:=V.o.2;exact (Y.lt q hq).1
    have H:w.heap.size<=(wr.alloc (.cells #[.int .i64 7500] 3)).heap.size:=J.o.1.1.size;have Z:w.heap.size<=wr.heap.size:=V.o.1.size;have U:=qH (show wr.heap.size+1=(wr.alloc (.cells #[.int .i64 7500] 3)).heap.size by simp only [qaa])
    go_wp2_with (first | (at_builtin;refine qcP rfl _ _ rfl (p:=⟨⟨#[100]⟩,[7500],7500,0,0⟩) (Bd:=wr.heap.size) J.o.1.2 J.o.2 H rfl rfl U.o (show 3<1000000 by decide) rfl rfl rfl rfl rfl ?_;intro v' w' G F;obtain⟨ae,af,I⟩:=(Hu.o G).shape (m:=4) rfl;subst I;have O:Hu (Below w.heap.size w w'):=qH (qc7 (B:=w.heap.size) (qbN J.o.1.1 qN) HQ.o (by simp only [qaa];omega) F.o);clear F) | fail)
    go_roundw
    case rel=>exact⟨4,by go_num,by decide,.of ⟨O.o,G.o⟩⟩
    case measure=>simp [intOf]
   ·have aa:∀W,(Instr.index 141 (.agg #[.int .i64 0,.int .i64 2500,.int .i64 9000,.int .i64 7500,.int .i64 10000]) (.int .i64 4)).run prog W=.ok (.int .i64 10000) W:=fun W=>by kernel_rfl
    have Y:∀W,(convert 21 9 (.int .i32 101)).run prog W=.ok (.string ⟨#[101]⟩) W:=fun W=>by kernel_rfl
    have J:Kn (fun W=>(Below w.heap.size w W/\PaOwn W w.heap.size (.slice va 4 vc) (line5.take 4))/\IOwn W wr.heap.size (.slice (some ⟨wr.heap.size,0,none⟩) 1 1) [10000]) (wr.alloc (.cells #[.int .i64 10000] 3)):=V.on (qbN (Below.refl _ wr) qN) (qfr (cs:=#[.int .i64 10000]) (heap_alloc_new wr _) qN rfl (by decide));have HQ:Hu (∀q,(Value.slice va 4 vc).ownBlock=some q->w.heap.size<=q):=qH fun q hq=>by obtain⟨vs,Y,_⟩:=V.o.2;exact (Y.lt q hq).1
    have H:w.heap.size<=(wr.alloc (.cells #[.int .i64 10000] 3)).heap.size:=J.o.1.1.size;have Z:w.heap.size<=wr.heap.size:=V.o.1.size;have U:=qH (show wr.heap.size+1=(wr.alloc (.cells #[.int .i64 10000] 3)).heap.size by simp only [qaa])
    go_wp2_with (first | (at_builtin;refine qcP rfl _ _ rfl (p:=⟨⟨#[101]⟩,[10000],10000,0,0⟩) (Bd:=wr.heap.size) J.o.1.2 J.o.2 H rfl rfl U.o (show 4<1000000 by decide) rfl rfl rfl rfl rfl ?_;intro v' w' G F;obtain⟨ae,af,I⟩:=(Hu.o G).shape (m:=5) rfl;subst I;have O:Hu (Below w.heap.size w w'):=qH (qc7 (B:=w.heap.size) (qbN J.o.1.1 qN) HQ.o (by simp only [qaa];omega) F.o);clear F) | fail)
    go_roundw
    case rel=>exact⟨5,by go_num,by decide,.of ⟨O.o,G.o⟩⟩
    case measure=>simp [intOf]
  ·obtain rfl:i=5:=by omega
   obtain⟨va,vc,ag⟩:=V.o.2.shape (m:=5) rfl;subst ag;go_wp2;go_ret;exact⟨_,rfl,V.o.2,V.o.1⟩
theorem readq {p:Rat} (O:Short p) (w:World):Calls prog 91 #[.agg #[.string (ftxt p).1,.string (ftxt p).2]] w fun e w'=>∃(a:Option Addr) (n c:Nat) (b:Bool) (d:Option Addr) (m f:Nat),e=.returned (.tuple #[.agg #[.slice a n c,.bool b,.slice d m f],.bool true])/\RatV w' (.agg #[.slice a n c,.bool b,.slice d m f]) p/\RFit p 67/\Below w.heap.size w w':=by
 refine (qdH _ _ w).mono ?_;rintro e w' ⟨v,ok,rfl,h | h,J⟩
 ·obtain⟨rfl,G,I⟩:=h;have F:=G.at I;have H:=G.fit;rw [qc9] at F H;obtain⟨a,n,c,b,d,m,f,rfl⟩:=qcU F;exact⟨a,n,c,b,d,m,f,rfl,F,H,J⟩
 ·exact absurd (qdZ O) h.2.1
