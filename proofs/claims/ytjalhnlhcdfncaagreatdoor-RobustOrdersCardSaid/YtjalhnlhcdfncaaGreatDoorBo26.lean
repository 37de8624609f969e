import Derived.Test.YtjalhnlhcdfncaaGreatDoorBo25
set_option maxRecDepth 100000
set_option maxHeartbeats 0
namespace Go.Proofs.YtjalhnlhcdfncaaGreatDoor
open Go.RowKit Go.Proofs.Tryz
def SqG (m:Md) (l:List Pt) (W:World) (v:Value):Prop:=PtsOk l/\∃E,MdOk m E (chans l)/\qb9 l.length (sqq m l E)/\SlF l.length (sqq m l E) v W
def SqF (m:Md) (l:List Pt) (e:Int):Prop :=
 (¬qeK m/\e=320)\/(qeK m/\¬PtsOk l/\e=310)\/(qeK m/\PtsOk l/\m.inn≠(chans l:Nat)/\e=5) \/
 (PtsOk l/\e=6/\∃E,MdOk m E (chans l)/\¬qb9 l.length (sqq m l E))
theorem sq1_any (m:Md) (R pb mb b off c:Nat) (ao:Option Addr) (l:List Pt) (a:Nat->Option Addr) (b' o d:Nat->Nat) (ty:TypeId) (w:World) (hR:l.length=R) (hl:R<=4611686018427387904) (hs:∀k,k<R->(l.getD k pt0).name.size<=4611686018427387904/\(l.getD k pt0).dev.length<=4611686018427387904) (az:∀q,q<3->(m.row q).length<=4611686018427387904)
  (af:w.heap[pb]? = some (.cells #[.slice ao R c] ty (0,0))) (F:w.heap[mb]? = some (.cells #[.int .i64 m.kind,.int .i64 m.inn,.slice (a 0) (m.row 0).length (d 0),.slice (a 1) (m.row 1).length (d 1),.slice (a 2) (m.row 2).length (d 2)] 46 (0,0))) (hF:∀q,q<3->FCells w (a q) (b' q) (o q) (m.row q))
  (hP:PCells w ao b off l) (hT:HasT w) :
  Calls prog 86 #[.pointer (some ⟨mb,0,none⟩),.pointer (some ⟨pb,0,none⟩)] w fun e w'=>Below w.heap.size w w' /\
   ((∃(p:Option Addr) (n c:Nat),e=.returned (.slice p n c)/\SqG m l w' (.slice p n c))\/∃c,e=thrown c/\SqF m l c):=by
 have hM:MdAt w (.agg #[.int .i64 m.kind,.int .i64 m.inn,.slice (a 0) (m.row 0).length (d 0),.slice (a 1) (m.row 1).length (d 1),.slice (a 2) (m.row 2).length (d 2)]) m :=
  ⟨_,_,_,_,_,_,_,_,_,_,_,_,rfl,hF 0 (by decide),hF 1 (by decide),hF 2 (by decide)⟩
 have aa:=qob m _ R b off c ao l w hM az hR hl hs hP;obtain⟨kind,I⟩:∃z,m.kind=z:=⟨_,rfl⟩;obtain⟨inn,V⟩:∃z,m.inn=z:=⟨_,rfl⟩;obtain⟨L,hL⟩:∃L:Nat->Nat,∀q,(m.row q).length=L q:=⟨_,fun _=>rfl⟩;rw [I,V,hL,hL,hL] at F aa;have ah:=qH aa;have c0:=qC _ _ 0 _ _ _ F;have c1:=qC _ _ 1 _ _ _ F;have c2:=qC _ _ 2 _ _ _ F;have c3:=qC _ _ 3 _ _ _ F;have c4:=qC _ _ 4 _ _ _ F;have p0:=qC _ _ 0 _ _ _ af;have K0:Kn (fun W=>Below w.heap.size w W/\W.heap[mb]? = some (.cells #[.int .i64 kind,.int .i64 inn,.slice (a 0) (L 0) (d 0),.slice (a 1) (L 1) (d 1),.slice (a 2) (L 2) (d 2)] 46 (0,0))/\W.heap[pb]? = some (.cells #[.slice ao R c] ty (0,0))/\PCells W ao b off l/\HasT W) w:=.of ⟨Below.refl _ _,F,af,hP,hT⟩;have O:=qH (qA hR (qA I (qA V (qA hL hF))));have aF:=@hmf_ prog;clear hM aa af F hF hP hT hR hl hs az I V hL;go_enter func86,ntmps86;go_wp2_with fail;refine ah.o.mono ?_;rintro e w2 ⟨ak,h⟩;have K2:=K0.below ak;clear ak ah c0 c1 c2 c3 c4 p0;rcases h with ⟨E,rfl⟩ | ⟨E,J,rfl⟩ | ⟨E,J,U,rfl⟩ | ⟨E,J,U,rfl⟩
 ·have H:=qH E;clear E;unfold thrown;go_wp2_with fail;exact⟨rfl,K2.o.1,qam ⟨320,rfl,qaw ⟨H.o,rfl⟩⟩⟩
 ·have H:=qH (qA E J);clear E J;unfold thrown;go_wp2_with fail;exact⟨rfl,K2.o.1,qam ⟨310,rfl,qam (qaw ⟨H.o.1,H.o.2,rfl⟩)⟩⟩
 ·have H:=qH (qA E (qA J U));clear E J U;unfold thrown;go_wp2_with fail;exact⟨rfl,K2.o.1,qam ⟨5,rfl,qam (qam (qaw ⟨H.o.1,H.o.2.1,H.o.2.2,rfl⟩))⟩⟩
 obtain⟨Y,ai⟩:∃Y,MdOk m Y (chans l):=by
  obtain⟨Y,n,h⟩:=E;have:=h.inn.1;obtain rfl:n=chans l:=by omega
  exact⟨Y,h⟩
 have H:=qH (qA J ai);clear E J U ai;go_wp2_with fail;have aA:((1:Int):Rat) / ((1:Int):Rat)=1:=by decide +kernel
 have ae:=of_int 1 1 (by decide) (by decide) (by decide) w2 K2.o.2.2.2.2;obtain⟨o1,o2,ho⟩:=qcW 1;rw [aA,ho] at ae;have Ho:=qH ho;clear ho aA;refine ae.mono ?_;rintro e w3 ⟨rfl,au⟩;have K3:=K2.below au;clear au K2 ae;go_wp2_with fail;refine (qdY o1 o2 w3).mono ?_;rintro e w4 ⟨rfl,av⟩;have K4:=K3.below av;clear av K3;obtain⟨W5,aj,N5⟩:=nw1 w4 #[.string o1,.string o2] 27;have Z:=(K4.below N5.o.1).also (q:=fun W=>W.heap[w4.heap.size]? = some (.cells #[.string o1,.string o2] 27 (0,0))) N5.o.2;have ay:MBox W5 mb m (many Y (chans l)):=by
  have E:=(Z.o.1).2.1;have aB:=(H.o.2.rows 0 (by decide)).1;have aC:=(H.o.2.rows 1 (by decide)).1;have aD:=(H.o.2.rows 2 (by decide)).1;rw [<-O.o.2.1,<-O.o.2.2.1,<-O.o.2.2.2.1,<-O.o.2.2.2.1,<-O.o.2.2.2.1,aB,aC,aD] at E;exact⟨a,b',o,d,E,fun q hq=>(O.o.2.2.2.2 q hq).below Z.o.1.1⟩
 have hg:qk3 88 #[.pointer (some ⟨pb,0,none⟩),.pointer (some ⟨w4.heap.size,0,none⟩),.pointer (some ⟨mb,0,none⟩)] W5 R (fun i x=>Short (sqq m l Y i)/\x=ftxt (sqq m l Y i)) (fun i c=>¬Short (sqq m l Y i)/\c=6):=by
  intro i hi W hb;refine (sq11_any i Y R pb w4.heap.size mb b off c ao l m o1 o2 ty 27 W O.o.1 hi H.o.1 H.o.2 Ho.o.symm (zkeep hb _ _ Z.o.1.2.2.1) (zkeep hb _ _ Z.o.2) (ay.below hb) (Z.o.1.2.2.2.1.below hb) (Z.o.1.2.2.2.2.below hb)).mono ?_;rintro e w' ⟨E,J⟩;refine⟨E,?_⟩;rcases J with ⟨x,y,rfl,U,h4⟩ | ⟨cc,rfl,U,h4⟩
  ·exact qaw ⟨x,y,rfl,U,h4⟩
  ·exact qam ⟨cc,rfl,U,h4⟩
 have HG:=qH (qeE 88 #[.pointer (some ⟨pb,0,none⟩),.pointer (some ⟨w4.heap.size,0,none⟩),.pointer (some ⟨mb,0,none⟩)] R (by have:=H.o.1.r2;have:=O.o.1;omega) _ _ W5 (fun a W=>enters func88 (by kernel_rfl) (by kernel_rfl) _ W) hg);have p5:=qC _ _ 0 _ _ _ Z.o.1.2.2.1;clear N5 ay hg K4;go_upto_region 3 with fail;rw [<-aj];clear aj;go_wp2_with fail;refine HG.o.mono ?_;rintro e w6 ⟨ax,h⟩;have ag:=qH (Z.o.1.1.trans (ax.mono Z.o.1.1.size));clear ax;rcases h with ⟨lq,g,E,J,rfl,h4,_⟩ | ⟨i,cc,hi,rfl,U,rfl⟩
 ·have HE:=qH (qA E (qA J h4));clear E J h4 HG;go_wp2;go_ret;refine⟨ag.o,qaw ⟨_,_,_,rfl,H.o.1,Y,H.o.2,fun i hi=>(HE.o.2.1 i (by have:=O.o.1;omega)).1,?_⟩⟩;have hr:=O.o.1;refine⟨g,by rw [hr],?_⟩;rw [hr,<-qiZ HE.o.1 (fun i hi=>(HE.o.2.1 i hi).2)];exact HE.o.2.2
 ·have HE:=qH (qA hi U);clear hi U HG;unfold thrown;go_wp2_with fail;exact⟨rfl,ag.o,qam ⟨6,rfl,qam (qam (qam ⟨H.o.1,rfl,Y,H.o.2,fun h=>HE.o.2 (h i (by have:=O.o.1;have:=HE.o.1;omega))⟩))⟩⟩
theorem SlF.kept {W W':World} {n:Nat} {f:Nat->Rat} {v:Value} (H:∀a s,W.cell? a=some (.string s)->W'.cell? a=some (.string s)) (h:SlF n f v W):SlF n f v W':=by
 obtain⟨g,E,F⟩:=h;exact⟨g,E,F.kept H⟩
theorem SqG.kept {m:Md} {l:List Pt} {W W':World} {v:Value} (J:∀a s,W.cell? a=some (.string s)->W'.cell? a=some (.string s)) (h:SqG m l W v):SqG m l W' v:=by
 obtain⟨E,kk,F,H,I⟩:=h;exact⟨E,kk,F,H,I.kept J⟩
def SqAs (w:World) (m:Md) (l:List Pt) (e:Ending) (w':World):Prop :=
 Below w.heap.size w w'/\((∃v,e=.returned (.tuple #[v,.int .i64 0])/\SqG m l w' v)\/∃c,e=.returned (.tuple #[.slice none 0 0,.int .i64 c])/\SqF m l c)
theorem qhL (m:Md) (v:Value) (R b off c:Nat) (U:Option Addr) (l:List Pt) (w:World) (hM:MdAt w v m) (hR:l.length=R) (hl:R<=4611686018427387904) (hs:∀k,k<R->(l.getD k pt0).name.size<=4611686018427387904/\(l.getD k pt0).dev.length<=4611686018427387904) (O:∀q,q<3->(m.row q).length<=4611686018427387904) (hP:PCells w U b off l) (hT:HasT w) :
  Calls prog 48 #[v,.slice U R c] w fun e w'=>SqAs w m l e w':=by
 obtain⟨a,b',o,d,rfl,hF⟩:=hM.parts;obtain⟨W2,H,E⟩:=nw2 w #[.int .i64 m.kind,.int .i64 m.inn,.slice (a 0) (m.row 0).length (d 0),.slice (a 1) (m.row 1).length (d 1),.slice (a 2) (m.row 2).length (d 2)] 46 #[.slice U R c] 48;have aa:=@hmf_ prog;have Z:=qH (qi5 86 #[.pointer (some ⟨w.heap.size,0,none⟩),.pointer (some ⟨w.heap.size+1,0,none⟩)] (SqG m l) (SqF m l) W2 (fun W=>enters func86 (by kernel_rfl) (by kernel_rfl) _ W)
  (fun W W' v hk h=>h.kept hk)
  (fun w1 I=>sq1_any m R (w.heap.size+1) w.heap.size b off c U l a b' o d _ w1 hR hl hs O (zkeep I _ _ E.o.2.2) (zkeep I _ _ E.o.2.1) (fun q hq=>(hF q hq).below (E.o.1.trans (I.mono E.o.1.size))) (hP.below (E.o.1.trans (I.mono E.o.1.size))) (hT.below (E.o.1.trans (I.mono E.o.1.size)))))
 have Y:=qH E.o.1;clear hM hR hl hs O hP hT hF E;go_enter func48,ntmps48;go_upto_region 1 with fail;rw [<-H];clear H;go_wp2_with fail;refine Z.o.mono ?_;rintro e w5 ⟨J,h⟩;have F:=qH (Y.o.trans (J.mono Y.o.size));clear J Z;rcases h with ⟨p,n,c',rfl,hg⟩ | ⟨cc,rfl,hf⟩
 ·have V:=qH hg;clear hg;go_wp2_with fail
  go_ret2
  exact⟨F.o,qaw ⟨_,rfl,V.o⟩⟩
 ·have V:=qH hf;clear hf;go_wp2_with fail
  go_ret2
  exact⟨F.o,qam ⟨cc,rfl,V.o⟩⟩
theorem qdy.uniq {z:Int} {k E:Nat} (h:qdy z k) (F:qdy z E):E=k:=by have:=h.1;have:=F.1;omega
theorem qjv {k n m:Nat} {x y:Nat->Nat->Rat} (h:∀c,c<3->told m (x c)=told m (y c)):mdq k n m x=mdq k n m y:=by
 unfold mdq;rw [h 0 (by decide),h 1 (by decide),h 2 (by decide)]
theorem mdq_ok {k n:Nat} {X:Nat->Nat->Rat} (O:1<=k/\k<=3) (F:1<=n) (I:n<=4) (H:¬(k=3/\n=4)) (J:∀c,c<3->qb9 (many k n) (X c)):MdOk (mdq k n (many k n) X) k n :=
 ⟨⟨rfl,O⟩,⟨rfl,F,I⟩,H,fun c E=>by rw [qhq E];exact⟨qcb _ _,qdp (J c E)⟩⟩
theorem MdOk.uniq {m:Md} {k n F H:Nat} (h:MdOk m k n) (E:MdOk m F H):F=k/\H=n:=⟨h.kind.uniq E.kind,by have:=h.inn.1;have:=E.inn.1;omega⟩
theorem qo3 {k n m:Nat} {X:Nat->Nat->Rat} {l:List Pt} {E i:Nat} (I:many E (chans l)<=m):sqq (mdq k n m X) l E i=msR 3 (many E (chans l)) X (fun q=>labq l q i) (fun _=>1) (tqf l E i):=by
 unfold sqq msR;refine qcc fun q F=>?_
 have:(sumQ (many E (chans l)) fun j=>lval ((mdq k n m X).row q) j*tqf l E i j)=sumQ (many E (chans l)) fun j=>X q j*tqf l E i j:=by
  rw [qhq F];exact qcc fun j H=>by rw [qdf (by omega)]
 have hr:resR (many E (chans l)) (fun q=>lval ((mdq k n m X).row q)) (fun q=>labq l q i) (tqf l E i) q=resR (many E (chans l)) X (fun q=>labq l q i) (tqf l E i) q:=by
  unfold resR;rw [this]
 rw [hr]
theorem name_one {c:UInt8} (h:qdP c=true):qk5 ⟨#[c]⟩:=⟨qad 1,show 1<=12 by decide,fun k E=>by
 have E:k<1:=E;obtain rfl:k=0:=by omega
 exact h⟩
theorem vals_one {z:Int} (h:0<=z/\z<=10000):qfo [z]:=fun k E=>by
 have E:k<1:=E;obtain rfl:k=0:=by omega
 exact h
def KFit (l:List Pt) (k:Nat) (K:List Nat) (X:Nat->Nat->Rat):Prop:=¬Sing (many k (chans l)) (nq l k (keepW K l.length) 0)/\∀c,c<3->FitX l k (keepW K l.length) c (X c)
def mdX (l:List Pt) (k:Nat) (X:Nat->Nat->Rat):Md:=mdq k (chans l) (many k (chans l)) X
def nextK (l:List Pt) (k keep:Nat) (m:Md):List Nat:=bestL (sqq m l k) l.length keep
def Runs (l:List Pt) (k keep:Nat):Nat->List Nat->(Nat->Nat->Rat)->Prop
 | 0,K,X=>K=List.range l.length/\KFit l k K X
 | p+1,K,X=>∃F E,Runs l k keep p F E/\K=nextK l k keep (mdX l k E)/\KFit l k K X
theorem KFit.same {l:List Pt} {k:Nat} {K:List Nat} {X Y:Nat->Nat->Rat} (h:KFit l k K X) (F:KFit l k K Y):mdX l k X=mdX l k Y :=
 qjv fun c E=>qd4 (qcZ.uniq (fun H=>h.1 (qgs H)) (h.2 c E) (F.2 c E))
theorem Runs.fit {l:List Pt} {k keep:Nat}:∀{p:Nat} {K:List Nat} {X:Nat->Nat->Rat},Runs l k keep p K X->KFit l k K X
 | 0,_,_,h=>h.2
 | _+1,_,_,⟨_,_,_,_,h⟩=>h
theorem Runs.uniq {l:List Pt} {k keep:Nat}:∀{p:Nat} {K H:List Nat} {X Y:Nat->Nat->Rat},Runs l k keep p K X->Runs l k keep p H Y->K=H/\mdX l k X=mdX l k Y
 | 0,_,_,_,_,⟨e,h⟩,⟨e',E⟩=>by
  subst e e';exact⟨rfl,h.same E⟩
 | _+1,_,_,_,_,⟨_,_,I,e,h⟩,⟨_,_,F,e',E⟩=>by
  obtain⟨_,e0⟩:=Runs.uniq I F;rw [e0,<-e'] at e;subst e;exact⟨rfl,h.same E⟩
theorem Runs.stay {l:List Pt} {k keep p:Nat} {K:List Nat} {X:Nat->Nat->Rat} (h:Runs l k keep p K X) (e:nextK l k keep (mdX l k X)=K):∀j,Runs l k keep (p+j) K X
 | 0=>h
 | j+1=>⟨K,X,Runs.stay h e j,e.symm,h.fit⟩
def RunF (l:List Pt) (k keep E:Nat) (c:Int):Prop :=
 FitF l (k:Int) (keepW (List.range l.length) l.length) c \/
 ∃p K X,p<E/\Runs l k keep p K X/\(SqF (mdX l k X) l c\/FitF l (k:Int) (keepW (nextK l k keep (mdX l k X)) l.length) c)
def RunG (l:List Pt) (k keep E:Nat) (K:List Nat) (m:Md):Prop:=∃X,Runs l k keep E K X/\m=mdX l k X/\∀c,c<3->qb9 (many k (chans l)) (X c)
def SameAs (w:World) (l l2:List FT) (e:Ending) (w':World):Prop:=∃ok,e=.returned (.bool ok)/\(ok=true↔l=l2)/\Below w.heap.size w w'
theorem qpa {l l2:List FT} {k:Nat} (E:k<l.length) (F:k<l2.length) (h:l.take k=l2.take k) (e:l.getD k fd0=l2.getD k fd0):l.take (k+1)=l2.take (k+1):=by
 rw [qbw,qbw,h]
 congr 1
 rw [qaa,qaa,qac E,qac F] at e;rw [qac E,qac F];exact congrArg (fun x=>(some x).toList) e
theorem qlw {a b:ByteArray} (h:a≠b):¬a.toList=b.toList:=by
 rw [ByteArray.toList_eq,ByteArray.toList_eq];intro e;apply h;obtain⟨⟨x⟩⟩:=a;obtain⟨⟨y⟩⟩:=b;cases e;rfl
theorem qnE {l l2:List FT} {k:Nat} (h:l.getD k fd0≠l2.getD k fd0):¬l=l2:=fun e=>h (by rw [e])
theorem qlJ (ao:Option Addr) (b off n c:Nat) (l:List FT) (Y:Option Addr) (b2 aa m c2:Nat) (l2:List FT) (w:World) (hn:l.length=n) (ai:n<=1000000) (hc:FCells w ao b off l) (hm:l2.length=m) (ag:m<=1000000) (Z:FCells w Y b2 aa l2) :
  Calls prog 35 #[.slice ao n c,.slice Y m c2] w fun e w'=>SameAs w l l2 e w':=by
 have E:=qH (qA hc (qA hn (qA Z hm)));clear hc Z
 by_cases hne:n=m
 ·subst hne;clear hn hm ag;go_enter func35,ntmps35;go_wp2_with fail
  go_loopw [5] (fun x5 W=>∃k:Nat,x5=.int .i64 k/\k<=n/\Hu (l.take k=l2.take k)/\Hu (Below w.heap.size w W)) (fun x5 _=>n-(intOf x5).toNat)
  case atStart=>exact⟨0,rfl,qaj _,qH rfl,qH qB⟩
  case round =>
   obtain⟨k,rfl,hk,hI,hB⟩:=hrel
   by_cases F:k<n
   ·have ah:(k:Int)<n:=by omega
    have af:=E.o.1.addr (by rw [E.o.2.1];omega);subst af;have ae:=E.o.2.2.1.addr (by rw [E.o.2.2.2];omega);subst ae;obtain⟨h1,h2⟩:=(E.o.1.below hB.o).cell k (by rw [E.o.2.1];exact F);obtain⟨h3,h4⟩:=(E.o.2.2.1.below hB.o).cell k (by rw [E.o.2.2.2];exact F);obtain⟨x1,H⟩:=qX ((l.getD k fd0).1);obtain⟨x2,I⟩:=qX ((l.getD k fd0).2);obtain⟨y1,J⟩:=qX ((l2.getD k fd0).1);obtain⟨y2,O⟩:=qX ((l2.getD k fd0).2);rw [H] at h1;rw [I] at h2;rw [J] at h3;rw [O] at h4;have U:Hu (l.getD k fd0=(x1,x2)/\l2.getD k fd0=(y1,y2)):=qH ⟨by rw [<-H,<-I],by rw [<-J,<-O]⟩;clear H I J O
    by_cases g1:x1=y1
    ·by_cases g2:x2=y2
     ·subst g1;subst g2;have HI:=qH (qpa (by rw [E.o.2.1];exact F) (by rw [E.o.2.2.2];exact F) hI.o (U.o.1.trans U.o.2.symm));go_wp2_with fail
      go_quiet (fail)
      go_wp2;go_roundw
      case rel=>exact⟨k+1,by go_num,F,HI,qH (below_drewN hB.o _)⟩
      case measure=>simp [intOf];omega
     ·subst g1;have V:=qH (qnE (l:=l) (l2:=l2) (k:=k) (by rw [U.o.1,U.o.2];exact fun h=>g2 (congrArg Prod.snd h)));have g3:=qlw g2;clear g2;go_wp2_with fail
      go_quiet (fail)
      go_wp2;go_ret;exact⟨false,rfl,qc5 V.o,below_drewN hB.o _⟩
    ·have V:=qH (qnE (l:=l) (l2:=l2) (k:=k) (by rw [U.o.1,U.o.2];exact fun h=>g1 (congrArg Prod.fst h)));have g3:=qlw g1;clear g1;go_wp2_with fail
     go_quiet (fail)
     go_wp2;go_ret;exact⟨false,rfl,qc5 V.o,below_drewN hB.o _⟩
   ·obtain rfl:k=n:=by omega
    have hE:l=l2:=by have h:=hI.o;rwa [qah (by rw [E.o.2.1];exact qad _),qah (by rw [E.o.2.2.2];exact qad _)] at h
    have HE:=qH hE;clear hE;go_wp2;go_ret;exact⟨true,rfl,qfF HE.o,hB.o⟩
 ·have hb:((n:Int) != (m:Int))=true:=by rw [bne_iff_ne];omega
  have V:Hu (¬l=l2):=qH (fun h=>hne (by rw [<-hn,<-hm,h]));go_enter func35,ntmps35;go_wp2;go_ret;exact⟨false,rfl,qc5 V.o,Below.refl _ _⟩
theorem qiA (H J c I O d:Nat) (E F:List Int) (n m:Nat) (w:World) (hn:E.length=n) (Y:F.length=m) (aa:n<=1000000) (Z:m<=1000000) (U:NCells w (some ⟨H,J,none⟩) H J E) (V:NCells w (some ⟨I,O,none⟩) I O F) :
  Calls prog 15 #[.slice (some ⟨H,J,none⟩) n c,.slice (some ⟨I,O,none⟩) m d] w fun e w'=>e=.returned (.bool (E == F))/\Below w.heap.size w w':=by
 subst hn Y;refine (Tryz.slices_Equal_int H J E.length c I O F.length d E F w qN qN (by omega) (by omega) U.cell V.cell).mono ?_;rintro e w' ⟨rfl,q,rfl⟩;rw [qbl,qbl];exact⟨rfl,below_drewN qB q⟩
theorem qcs {P:Program} {I:Func} {p q r:Tmp} {F:TypeId} (h:I.results=#[.cell p F,.tmp q,.tmp r]) (E:Array Value) (w:World) (g:Nat) (t:TypeId) (cs:Array Value) (d:TypeDesc)
  (J:E.getD p undef=.pointer (some ⟨g,0,none⟩)) (hg:w.heap[g]? = some (.cells cs t (0,0)))
  (Y:P.underlying F=some d) (U:(match d with | .struct _ | .array _ _=>true | _=>false)=true) (n:Nat) (V:(P.info? F).map (·.size)=some n) (H:cs.size=n) (v2 v3:Value) (O:E.getD q undef=v2) (hr:E.getD r undef=v3) :
  (results I E).run P w=.ok (.tuple #[.agg cs,v2,v3]) w:=by
 rw [Array.getD_eq_getD_getElem?] at J O hr;simp only [results,h];simp [J,O,hr,asAddr,run_loadVar_row w g t F cs (0,0) d hg Y U (by rw [H];exact V),Result.andThen]
theorem NatR.keep {W W':World} {B g n c F:Nat} {d:List Nat} (h:NatR W B g n c d) (I:W.grownBy W' (some F)) (hne:F<B):NatR W' B g n c d:=⟨h.len,by
 have E:=h.own;unfold IOwn at E ⊢;exact⟨E.1,E.2.imp id fun⟨g',cap,cur,e,H,hg,r⟩=>⟨g',cap,cur,e,H,(I.block g' (qG hg).1 fun e=>by have:=qag e;omega).trans hg,r⟩⟩⟩
theorem qkl {s E:Nat->Rat} {n m:Nat} (h:∀i,i<n->s i=E i):bestL s n m=bestL E n m:=by
 unfold bestL;have:qce s n=qce E n:=qhg fun a F b H=>by rw [h a (qaq.1 F),h b (qaq.1 H)]
 rw [this]
theorem qfH.only {w:World} {x:Nat->Rat} {R k:Nat} {e:Ending} {w':World} (h:qfH w (told R x) (k:Int) e w') (hx:qb9 R x) (O:R<=40) (V:k<=R):Below w.heap.size w w' /\
  ∃g,e=.returned (.tuple #[.slice (some ⟨g,0,none⟩) k k,.int .i64 0])/\NatR w' w.heap.size g k k (bestL x R k):=by
 refine⟨h.1,?_⟩;have F:=qdp hx;have E:∀{z},ExIs (told R x) z->z=0:=by
  rintro z (⟨h,_⟩ | ⟨_,h,_⟩ | ⟨_,_,h⟩)
  ·rw [qcb] at h;omega
  ·exact absurd F h
  ·exact h
 rcases h.2 with ⟨z,J,he,_⟩ | ⟨_,I,_⟩ | ⟨_,g,j,U,_,he,hN⟩
 ·exact absurd (E he) J
 ·exact absurd ⟨by omega,by rw [qcb];omega⟩ I
 ·obtain rfl:j=k:=by omega
  refine⟨g,he,?_⟩;rw [qcb] at hN;have:bestL (lval (told R x)) R j=bestL x R j:=qkl fun i H=>qdf H
  rwa [this] at hN
theorem FitF.ne {l:List Pt} {kind:Int} {E:List Int} {c:Int} (h:FitF l kind E c):c≠0:=by
 rcases h with ⟨_,rfl⟩ | ⟨_,_,rfl⟩ | ⟨_,_,_,k,_,⟨_,_,rfl⟩ | ⟨_,⟨_,rfl⟩ | ⟨_,c',x,_,_,_,rfl⟩⟩⟩ <;> decide
theorem SqF.ne {m:Md} {l:List Pt} {c:Int} (h:SqF m l c):c≠0:=by
 rcases h with ⟨_,rfl⟩ | ⟨_,_,rfl⟩ | ⟨_,_,_,rfl⟩ | ⟨_,rfl,_⟩ <;> decide
theorem FitG.kfit {l:List Pt} {k:Nat} {K:List Nat} {W:World} {v:Value} (h:FitG l (k:Int) (keepW K l.length) W v):many k (chans l)<=10/\∃X,KFit l k K X/\(∀c,c<3->qb9 (many k (chans l)) (X c))/\MdAt W v (mdX l k X):=by
 obtain⟨H,_,_,k',E,I,O,x,hx,J⟩:=h;obtain rfl:k'=k:=by have:=E.1;omega
 exact⟨(qgq E H.n1 H.n4 I).2,x,⟨O,fun c F=>(hx c F).1⟩,fun c F=>(hx c F).2,J⟩
theorem MdAt.five {W:World} {v:Value} {m:Md} (h:MdAt W v m):∃(Z i5:Int) (E F H:Option Addr) (U I V J Y O:Nat),v=.agg #[.int .i64 Z,.int .i64 i5,.slice E U I,.slice F V J,.slice H Y O]:=by
 obtain⟨a0,a1,a2,b0,o0,c0,b1,o1,c1,b2,o2,c2,rfl,_⟩:=h;exact⟨_,_,_,_,_,_,_,_,_,_,_,rfl⟩
def RunAs (w:World) (l:List Pt) (k keep E:Nat) (e:Ending) (w':World):Prop:=Below w.heap.size w w' /\
  ((∃c,c≠0/\e=.returned (.tuple #[mdv0,.slice none 0 0,.int .i64 c])/\RunF l k keep E c) \/
   ∃(v:Value) (g:Nat) (K:List Nat) (m:Md),e=.returned (.tuple #[v,.slice (some ⟨g,0,none⟩) K.length K.length,.int .i64 0])/\NatR w' w.heap.size g K.length K.length K/\MdAt w' v m/\RunG l k keep E K m)
abbrev RunK (w:World) (row:Array Value) (l:List Pt) (kk g n B:Nat) (K:List Nat) (X:Nat->Nat->Rat) (Z i5:Int) (E F H:Option Addr) (U I V J Y O:Nat) (W:World):Prop :=
 ((Below w.heap.size w W/\W.heap[w.heap.size]? = some (.cells row 116 (0,0)))/\W.heap[w.heap.size+1]? = some (.cells #[.int .i64 Z,.int .i64 i5,.slice E U I,.slice F V J,.slice H Y O] 46 (0,0)))/\NatR W B g n n K/\MdAt W (.agg #[.int .i64 Z,.int .i64 i5,.slice E U I,.slice F V J,.slice H Y O]) (mdX l kk X)
def RunL (w:World) (row:Array Value) (l:List Pt) (E keep p g n B:Nat) (W:World):Prop :=
 ∃K X k5 i5 F H I V J Y O Z U,(Runs l E keep p K X/\(∀c,c<3->qb9 (many E (chans l)) (X c))/\K.length=n)/\RunK w row l E g n B K X k5 i5 F H I V J Y O Z U W
instance stays_runk {w:World} {row:Array Value} {l:List Pt} {kk g n B:Nat} {K:List Nat} {X:Nat->Nat->Rat} {k5 i5:Int} {F H I:Option Addr} {V J Y O Z U:Nat}:Stays fun W=>RunK w row l kk g n B K X k5 i5 F H I V J Y O Z U W :=
 ⟨fun⟨⟨⟨E,h2⟩,h3⟩,h4,h5⟩ hb=>⟨⟨⟨E.trans (hb.mono E.size),zkeep hb _ _ h2⟩,zkeep hb _ _ h3⟩,h4.below hb,h5.below hb⟩⟩
theorem NatR.all {W:World} {B g n c:Nat} {d:List Nat} (h:NatR W B g n c d):NCells W (some ⟨g,0,none⟩) g 0 (natI d):=by
 have E:=h.cells (qad n)
 rwa [qah (by rw [h.len];exact qad _)] at E
theorem natI_inj {a b:List Nat} (h:natI a=natI b):a=b:=by
 have:=congrArg (List.map Int.toNat) h
 simpa [natI,List.map_map,Function.comp_def] using this
theorem RunK.store {w:World} {row:Array Value} {l:List Pt} {kk g n B:Nat} {K:List Nat} {X:Nat->Nat->Rat} {Z i5 j5 h5:Int} {E F H:Option Addr} {U I V J Y O:Nat} {D0 D1 D2:Option Addr} {M0 E0 M1 E1 M2 E2:Nat} {W:World}
  (hb:Below w.heap.size w W) (h0:W.heap[w.heap.size]? = some (.cells row 116 (0,0))) (h1:W.heap[w.heap.size+1]? = some (.cells #[.int .i64 j5,.int .i64 h5,.slice D0 M0 E0,.slice D1 M1 E1,.slice D2 M2 E2] 46 (0,0))) (hN:NatR W B g n n K) (hB:w.heap.size+1<B)
  (hM:MdAt W (.agg #[.int .i64 Z,.int .i64 i5,.slice E U I,.slice F V J,.slice H Y O]) (mdX l kk X)):RunK w row l kk g n B K X Z i5 E F H U I V J Y O (W.setRow (w.heap.size+1) #[.int .i64 Z,.int .i64 i5,.slice E U I,.slice F V J,.slice H Y O]) :=
 ⟨⟨⟨qS hb (qbf _) _,(setRow_other _ _ _ _ (by omega)).trans h0⟩,qT _ _ _ _ _ _ h1⟩,hN.keep (qcn _ _ _) hB,hM.keepB (qcn _ _ _) h1 (qlb _ _ _ _ _ _ _ _ _ _ _)⟩
theorem run_any (R b off c I keep E:Nat) (Z:Option Addr) (l:List Pt) (w:World) (hR:l.length=R) (bC:1<=R) (aO:R<20) (hk:1<=I/\I<=3) (af:1<=keep/\keep<=R) (bB:E<=100) (hs:∀k,k<R->(l.getD k pt0).name.size<=4611686018427387904/\(l.getD k pt0).dev.length<=4611686018427387904)
  (hP:PCells w Z b off l) (hT:HasT w) :
  Calls prog 56 #[.agg #[.slice Z R c,.int .i64 (I:Int),.int .i64 (keep:Int)],.int .i64 (E:Int)] w fun e w'=>RunAs w l I keep E e w':=by
 obtain⟨W1,aF,N1⟩:=nw2 w #[.slice Z R c,.int .i64 (I:Int),.int .i64 (keep:Int)] 116 #[.int .i64 0,.int .i64 0,.slice none 0 0,.slice none 0 0,.slice none 0 0] 46;have aZ:W1.heap.size=w.heap.size+1+1:=by rw [aF];simp
 have F:=qH (qA hP (qA hT (qA hR (qA hs (qA hk aZ)))));have bE:=@hmf_ prog;have bD:∀(a:Value) (W:World),(callFunc 104 #[.agg #[.slice Z R c,.int .i64 (I:Int)],a]).run prog W=.ok (.enter 104 #[.agg #[.slice Z R c,.int .i64 (I:Int)],a]) W:=fun a W=>enters func104 (by kernel_rfl) (by kernel_rfl) _ W
 have c0:=qC _ _ 0 _ _ _ N1.o.2.1;have c1:=qC _ _ 1 _ _ _ N1.o.2.1;clear hP hT hR hs hk aZ;go_enter func56,ntmps56;go_upto_region 1 with fail;rw [<-aF];clear aF;go_wp2_with fail
 go_step3
 go_wp2_with fail;refine (qi0 R W1 (by omega)).mono ?_;rintro e w2 ⟨g2,rfl,aD,aS⟩;have K2:=(N1.below aS).also (q:=fun W=>NatR W W1.heap.size g2 R R (List.range R)) aD;have HF:=qH (qlt R b off c g2 0 R R (I:Int) Z (some ⟨g2,0,none⟩) l (List.range R) w2 F.o.2.2.1 (by omega) F.o.2.2.2.1 qbo (by omega) (fun x hx=>by have:=qaq.1 hx;omega) (F.o.1.below K2.o.1.1) (by
  have h:=aD.cells (m:=R) qN
  rwa [qah (by simp)] at h) (F.o.2.1.below K2.o.1.1))
 clear aS aD c0 c1 N1;go_wp2_with fail;refine HF.o.mono ?_;intro e w3 hA;have K3:=K2.below hA.1;have hz:=K3.o.1.2.2;have HA:=qH hA;have aK:=qH (show w.heap.size<W1.heap.size by rw [F.o.2.2.2.2.2];omega);clear HF K2 hA;rcases HA.o.2 with ⟨v,rfl,hG⟩ | ⟨cc,rfl,hf⟩
 case inr =>
  have Y:(cc == (0:Int))=false:=beq_false_of_ne hf.ne;have bn:(cc != (0:Int))=true:=by rw [bne,Y];rfl
  have J:=qH hf;clear hf;unfold mdv0;have bg:=qT _ _ _ #[.int .i64 0,.int .i64 0,.slice none 0 0,.slice none 0 0,.slice none 0 0] _ _ hz
  go_wp2_with (first | (with_reducible refine sR_ rfl 46 _ _ rfl (w.heap.size+1) #[.int .i64 0,.int .i64 0,.slice none 0 0,.slice none 0 0,.slice none 0 0] hz 5 ?_) | (with_reducible refine sR_ rfl 46 _ _ rfl (w.heap.size+1) #[.int .i64 0,.int .i64 0,.slice none 0 0,.slice none 0 0,.slice none 0 0] bg 5 ?_) | fail)
  refine qR (v:=.tuple #[.agg #[.int .i64 0,.int .i64 0,.slice none 0 0,.slice none 0 0,.slice none 0 0],.slice none 0 0,.int .i64 cc]) (qcs rfl _ _ (w.heap.size+1) 46 _ _ rfl (qT _ _ _ _ _ _ bg) underlying46 rfl 5 (by kernel_rfl) rfl _ _ rfl rfl) rfl ?_;exact⟨qS (qS K3.o.1.1 (qbf _) _) (qbf _) _,.inl ⟨cc,J.o.ne,rfl,.inl (by rw [F.o.2.2.1];exact J.o)⟩⟩
 have ae:FitG l (I:Int) (keepW (List.range R) l.length) w3 v:=by rw [F.o.2.2.1];exact hG
 obtain⟨ax,X0,ag,ah,hM⟩:=ae.kfit;obtain⟨k5,i5,A0,A1,A2,L0,C0,L1,C1,L2,C2,rfl⟩:=hM.five;have KK:=qH (RunK.store K3.o.1.1 K3.o.1.2.1 hz K3.o.2 (by rw [F.o.2.2.2.2.2];omega) hM);have aj:Hu (Runs l I keep 0 (List.range R) X0/\(∀c,c<3->qb9 (many I (chans l)) (X0 c))/\many I (chans l)<=10):=qH ⟨⟨by rw [F.o.2.2.1],ag⟩,ah,ax⟩;have Y:((0:Int) != 0)=false:=rfl;clear hG ae ag ah hM ax
 go_wp2_with (first | (with_reducible refine sR_ rfl 46 _ _ rfl (w.heap.size+1) #[.int .i64 k5,.int .i64 i5,.slice A0 L0 C0,.slice A1 L1 C1,.slice A2 L2 C2] hz 5 ?_) | fail)
 have bv:Hu (RunL w #[.slice Z R c,.int .i64 (I:Int),.int .i64 (keep:Int)] l I keep 0 g2 R W1.heap.size (w3.setRow (w.heap.size+1) #[.int .i64 k5,.int .i64 i5,.slice A0 L0 C0,.slice A1 L1 C1,.slice A2 L2 C2])):=qH ⟨_,X0,_,_,_,_,_,_,_,_,_,_,_,⟨aj.o.1,aj.o.2.1,qbo⟩,KK.o⟩;have aM:=qH aj.o.2.2;clear hz KK aj HA K3
 go_step3
 go_wp2_with fail
 go_loopw [5,30] (fun x5 x30 W=>∃p:Nat,x30=.int .i64 (p:Int)/\p<=E/\∃g n:Nat,x5=.slice (some ⟨g,0,none⟩) n n/\n<=R/\Hu (RunL w #[.slice Z R c,.int .i64 (I:Int),.int .i64 (keep:Int)] l I keep p g n W1.heap.size W)) (fun _ x30 _=>E-(intOf x30).toNat)
 case atStart=>exact⟨0,rfl,qaj _,g2,R,rfl,qad _,qH bv.o⟩
 case round =>
  obtain⟨p,rfl,hp,g,n,rfl,bF,hI⟩:=hrel;obtain⟨K,X,k5,i5,A0,A1,A2,L0,C0,L1,C1,L2,C2,aP,aC⟩:=hI.o;have KW:Kn (RunK w #[.slice Z R c,.int .i64 (I:Int),.int .i64 (keep:Int)] l I g n W1.heap.size K X k5 i5 A0 A1 A2 L0 C0 L1 C1 L2 C2) wr:=.of aC;have H:=qH aP;have hz:=aC.1.2;clear hI aP aC
  by_cases aY:p<E
  case neg =>
   obtain rfl:p=E:=by omega
   have bA:¬(p:Int)<(p:Int):=by omega
   go_wp2_with (first | (with_reducible refine lW_ rfl 46 _ rfl (w.heap.size+1) #[.int .i64 k5,.int .i64 i5,.slice A0 L0 C0,.slice A1 L1 C1,.slice A2 L2 C2] hz underlying46 5 ?_) | (with_reducible refine sR_ rfl 46 _ _ rfl (w.heap.size+1) #[.int .i64 k5,.int .i64 i5,.slice A0 L0 C0,.slice A1 L1 C1,.slice A2 L2 C2] hz 5 ?_) | fail)
   refine qR (v:=.tuple #[.agg #[.int .i64 k5,.int .i64 i5,.slice A0 L0 C0,.slice A1 L1 C1,.slice A2 L2 C2],.slice (some ⟨g,0,none⟩) n n,.int .i64 0]) (qcs rfl _ _ (w.heap.size+1) 46 _ _ rfl (qT _ _ _ _ _ _ hz) underlying46 rfl 5 (by kernel_rfl) rfl _ _ rfl rfl) rfl ?_;refine⟨qS KW.o.1.1.1 (qbf _) _,.inr ⟨_,g,K,_,by rw [H.o.2.2],?_,KW.o.2.2.keepB (qcn _ _ _) hz (qlb _ _ _ _ _ _ _ _ _ _ _),⟨X,H.o.1,rfl,H.o.2.1⟩⟩⟩;rw [H.o.2.2];exact (KW.o.2.1.keep (qcn _ _ _) (by rw [F.o.2.2.2.2.2];omega)).mono (qan aK.o)
  have bA:(p:Int)<(E:Int):=by omega
  have c0:=qC _ _ 0 _ _ _ KW.o.1.1.2;have aW:∀q,q<3->((mdX l I X).row q).length<=4611686018427387904:=fun q hq=>by
   unfold mdX;rw [qhq hq,qcb];exact qak aM.o (by decide)
  have HQ:=qH (qhL (mdX l I X) _ R b off c Z l wr KW.o.2.2 F.o.2.2.1 (by omega) F.o.2.2.2.1 aW (F.o.1.below KW.o.1.1.1) (F.o.2.1.below KW.o.1.1.1));have aa:=qH aY;clear aW aY
  go_wp2_with (first | (with_reducible refine lW_ rfl 46 _ rfl (w.heap.size+1) #[.int .i64 k5,.int .i64 i5,.slice A0 L0 C0,.slice A1 L1 C1,.slice A2 L2 C2] hz underlying46 5 ?_) | fail)
  refine HQ.o.mono ?_;rintro e w4 ⟨aT,hq⟩;have K4:=KW.below aT;have au:=K4.o.1.2;clear aT hz c0 HQ;rcases hq with ⟨v4,rfl,hG⟩ | ⟨cc,rfl,hf⟩
  case inr =>
   have Y:(cc == (0:Int))=false:=beq_false_of_ne hf.ne;have bn:(cc != (0:Int))=true:=by rw [bne,Y];rfl
   have J:=qH hf;clear hf
   go_wp2_with (first | (with_reducible refine sR_ rfl 46 _ _ rfl (w.heap.size+1) #[.int .i64 0,.int .i64 0,.slice none 0 0,.slice none 0 0,.slice none 0 0] au 5 ?_) | fail)
   refine qR (v:=.tuple #[.agg #[.int .i64 0,.int .i64 0,.slice none 0 0,.slice none 0 0,.slice none 0 0],.slice none 0 0,.int .i64 cc]) (qcs rfl _ _ (w.heap.size+1) 46 _ _ rfl (qT _ _ _ _ _ _ au) underlying46 rfl 5 (by kernel_rfl) rfl _ _ rfl rfl) rfl ?_;exact⟨qS K4.o.1.1.1 (qbf _) _,.inl ⟨cc,J.o.ne,rfl,.inr ⟨p,K,X,aa.o,H.o.1,.inl J.o⟩⟩⟩
  obtain⟨_,k',aV,U,g4,rfl,ak⟩:=hG;obtain rfl:k'=I:=by have e:(I:Int)=(k':Int):=aV.kind.1;omega
  have bf:w.heap.size+1<w4.heap.size:=(qG au).1;obtain⟨sq,aI⟩:=qX (sqq (mdX l k' X) l k');rw [aI] at U ak;rw [F.o.2.2.1] at U ak ⊢;have aA:=qH (qA aI (qA U bf));have HB:=qH (qix R g4 0 R (keep:Int) (some ⟨g4,0,none⟩) (told R sq) w4 (qcb _ _) (by omega) (fun _=>aO) ak);have c2:=qC _ _ 2 _ _ _ K4.o.1.1.2;clear aI U bf ak aV au;go_wp2_with fail;refine HB.o.mono ?_;intro e w5 aN;obtain⟨aU,g5,rfl,O⟩:=aN.only aA.o.2.1 (by omega) af.2;have K5:=K4.below aU;obtain⟨T,hT⟩:=qX (bestL sq R keep);rw [hT] at O;have O:NatR w5 W1.heap.size g5 keep keep T:=O.mono (by rw [F.o.2.2.2.2.2];have:=aA.o.2.2;omega);obtain⟨bq,aH⟩:=qX (natI T == natI K);have ay:=qiA g5 0 keep g 0 n (natI T) (natI K) keep n w5 (by rw [qcB];exact O.len) (by rw [qcB];exact K5.o.2.1.len) (by omega) (by omega) O.all K5.o.2.1.all;rw [aH] at ay;have HE:=qH ay;have V:=qH (qA hT (qA aH O));clear aU aN O hT aH ay c2 HB;go_wp2_with fail;refine HE.o.mono ?_;rintro e w6 ⟨rfl,aG⟩;have K6:=(K5.below aG).also (q:=fun W=>NatR W W1.heap.size g5 keep keep T) (V.o.2.2.below aG);have ai:=K6.o.1.1.2;have aX:nextK l k' keep (mdX l k' X)=T:=by unfold nextK;rw [aA.o.1,F.o.2.2.1];exact V.o.1
  have az:=qH aX;clear aG HE aX;cases bq
  case true =>
   have aQ:T=K:=natI_inj (eq_of_beq V.o.2.1);have aJ:=Runs.stay H.o.1 (az.o.trans aQ) (E-p);rw [show p+(E-p)=E by have:=aa.o;omega] at aJ;have bz:=qH aJ;clear aQ aJ
   go_wp2_with (first | (with_reducible refine lW_ rfl 46 _ rfl (w.heap.size+1) #[.int .i64 k5,.int .i64 i5,.slice A0 L0 C0,.slice A1 L1 C1,.slice A2 L2 C2] ai underlying46 5 ?_) | (with_reducible refine sR_ rfl 46 _ _ rfl (w.heap.size+1) #[.int .i64 k5,.int .i64 i5,.slice A0 L0 C0,.slice A1 L1 C1,.slice A2 L2 C2] ai 5 ?_) | fail)
   refine qR (v:=.tuple #[.agg #[.int .i64 k5,.int .i64 i5,.slice A0 L0 C0,.slice A1 L1 C1,.slice A2 L2 C2],.slice (some ⟨g,0,none⟩) n n,.int .i64 0]) (qcs rfl _ _ (w.heap.size+1) 46 _ _ rfl (qT _ _ _ _ _ _ ai) underlying46 rfl 5 (by kernel_rfl) rfl _ _ rfl rfl) rfl ?_;refine⟨qS K6.o.1.1.1.1 (qbf _) _,.inr ⟨_,g,K,_,by rw [H.o.2.2],?_,K6.o.1.2.2.keepB (qcn _ _ _) ai (qlb _ _ _ _ _ _ _ _ _ _ _),⟨X,bz.o,rfl,H.o.2.1⟩⟩⟩;rw [H.o.2.2];exact (K6.o.1.2.1.keep (qcn _ _ _) (by rw [F.o.2.2.2.2.2];omega)).mono (qan aK.o)
  case false =>
   have aR:T.length=keep:=V.o.2.2.len;have aL:=qH (qlt R b off c g5 0 keep keep (k':Int) Z (some ⟨g5,0,none⟩) l T w6 F.o.2.2.1 (by omega) F.o.2.2.2.1 aR (by omega) (fun x hx=>by
    rw [<-V.o.1] at hx;have:=qk8 x hx;omega) (F.o.1.below K6.o.1.1.1.1) K6.o.2.all (F.o.2.1.below K6.o.1.1.1.1))
   clear aR ai;go_wp2_with fail;refine aL.o.mono ?_;intro e w7 aB;have K7:=K6.below aB.1;have av:=K7.o.1.1.2;have bu:=qH aB;clear aL aB;rcases bu.o.2 with ⟨v,rfl,hG⟩ | ⟨cc,rfl,hf⟩
   case inr =>
    have Y:(cc == (0:Int))=false:=beq_false_of_ne hf.ne;have bn:(cc != (0:Int))=true:=by rw [bne,Y];rfl
    have J:=qH hf;clear hf;unfold mdv0;have bi:=qT _ _ _ #[.int .i64 0,.int .i64 0,.slice none 0 0,.slice none 0 0,.slice none 0 0] _ _ av
    go_wp2_with (first | (with_reducible refine sR_ rfl 46 _ _ rfl (w.heap.size+1) #[.int .i64 0,.int .i64 0,.slice none 0 0,.slice none 0 0,.slice none 0 0] av 5 ?_) | (with_reducible refine sR_ rfl 46 _ _ rfl (w.heap.size+1) #[.int .i64 0,.int .i64 0,.slice none 0 0,.slice none 0 0,.slice none 0 0] bi 5 ?_) | fail)
    refine qR (v:=.tuple #[.agg #[.int .i64 0,.int .i64 0,.slice none 0 0,.slice none 0 0,.slice none 0 0],.slice none 0 0,.int .i64 cc]) (qcs rfl _ _ (w.heap.size+1) 46 _ _ rfl (qT _ _ _ _ _ _ bi) underlying46 rfl 5 (by kernel_rfl) rfl _ _ rfl rfl) rfl ?_;exact⟨qS (qS K7.o.1.1.1.1 (qbf _) _) (qbf _) _,.inl ⟨cc,J.o.ne,rfl,.inr ⟨p,K,X,aa.o,H.o.1,.inr (by rw [az.o,F.o.2.2.1];exact J.o)⟩⟩⟩
   have ae:FitG l (k':Int) (keepW T l.length) w7 v:=by rw [F.o.2.2.1];exact hG
   obtain⟨_,X0,ag,ah,hM⟩:=ae.kfit;obtain⟨j5,h5,D0,D1,D2,M0,E0,M1,E1,M2,E2,rfl⟩:=hM.five;have HL:Hu (RunL w #[.slice Z R c,.int .i64 (k':Int),.int .i64 (keep:Int)] l k' keep (p+1) g5 keep W1.heap.size (w7.setRow (w.heap.size+1) #[.int .i64 j5,.int .i64 h5,.slice D0 M0 E0,.slice D1 M1 E1,.slice D2 M2 E2])):=qH ⟨T,X0,_,_,_,_,_,_,_,_,_,_,_,⟨⟨K,X,H.o.1,az.o.symm,ag⟩,ah,V.o.2.2.len⟩,RunK.store K7.o.1.1.1.1 K7.o.1.1.1.2 av K7.o.2 (by rw [F.o.2.2.2.2.2];omega) hM⟩;clear hG ae ag ah hM
   go_wp2_with (first | (with_reducible refine sR_ rfl 46 _ _ rfl (w.heap.size+1) #[.int .i64 j5,.int .i64 h5,.slice D0 M0 E0,.slice D1 M1 E1,.slice D2 M2 E2] av 5 ?_) | fail)
   go_roundw
   case rel=>exact⟨p+1,by go_num,aa.o,g5,keep,rfl,af.2,HL⟩
   case measure=>have:=aa.o;simp [intOf];omega
def qdS (kind drop E:Int) (k d p:Nat):Prop:=kind=(k:Int)/\(1<=k/\k<=3)/\drop=(d:Int)/\d<=50/\E=(p:Int)/\p<=8
def keepN (n d:Nat):Nat:=n-n*d / 100
theorem keepN_le {n d:Nat} (I:1<=n) (F:d<=50):1<=keepN n d/\keepN n d<=n:=by
 unfold keepN;have E:n*d<=n*50:=qaK n F;obtain⟨m,H⟩:=qX (n*d);rw [H] at E ⊢;omega
def RFAs (w:World) (l:List Pt) (kind drop E:Int) (e:Ending) (w':World):Prop:=Below w.heap.size w w' /\
  ((¬PtsOk l/\e=.returned (.tuple #[mdv0,.slice none 0 0,.int .i64 310]))\/(PtsOk l/\(¬∃k d p,qdS kind drop E k d p)/\e=.returned (.tuple #[mdv0,.slice none 0 0,.int .i64 2])) \/
   (PtsOk l/\∃k d p,qdS kind drop E k d p/\RunAs w l k (keepN l.length d) p e w'))
theorem qjU (R b off c:Nat) (kind drop E:Int) (ao:Option Addr) (l:List Pt) (w:World) (hR:l.length=R) (hl:R<=4611686018427387904) (ah:PtsOk l->R<20) (hs:∀k,k<R->(l.getD k pt0).name.size<=4611686018427387904/\(l.getD k pt0).dev.length<=4611686018427387904)
  (hP:PCells w ao b off l) (hT:HasT w) :
  Calls prog 22 #[.slice ao R c,.int .i64 kind,.int .i64 drop,.int .i64 E] w fun e w'=>RFAs w l kind drop E e w':=by
 obtain⟨W1,aj,N1⟩:=nw1 w #[.int .i64 0,.int .i64 0,.slice none 0 0,.slice none 0 0,.slice none 0 0] 46;have HC:=qH (qgv ao b off R c l W1 hR hl hs (hP.below N1.o.1));have Z:=qH (qA hP (qA hT (qA hR (qA hs ah))));clear hP hT hR hs ah;go_enter func22,ntmps22;go_upto_region 1 with fail;rw [<-aj];clear aj;go_wp2_with fail;refine HC.o.mono ?_;rintro e w2 ⟨z,rfl,hz,ak⟩;have J:=N1.below ak;have F:=J.o.2;clear ak HC N1;rcases hz with ⟨rfl,Y⟩ | ⟨rfl,az⟩
 case inr =>
  have I:=qH az;clear az
  go_wp2_with (first | (with_reducible refine sR_ rfl 46 _ _ rfl (w.heap.size) #[.int .i64 0,.int .i64 0,.slice none 0 0,.slice none 0 0,.slice none 0 0] F 5 ?_) | fail)
  refine qR (v:=.tuple #[.agg #[.int .i64 0,.int .i64 0,.slice none 0 0,.slice none 0 0,.slice none 0 0],.slice none 0 0,.int .i64 310]) (qcs rfl _ _ w.heap.size 46 _ _ rfl (qT _ _ _ _ _ _ F) underlying46 rfl 5 (by kernel_rfl) rfl _ _ rfl rfl) rfl ?_;exact⟨qS J.o.1 qN _,.inl ⟨I.o,rfl⟩⟩
 have H:=qH Y;have hr:=Y.r1;rw [Z.o.2.2.1] at hr;have ai:=Z.o.2.2.2.2 Y;clear Y
 by_cases aG:kind<1
 ·have I:Hu (¬∃k d p,qdS kind drop E k d p):=qH fun⟨k,d,p,h⟩=>by have:=h.1;have:=h.2.1;omega
  go_wp2_with (first | (with_reducible refine sR_ rfl 46 _ _ rfl (w.heap.size) #[.int .i64 0,.int .i64 0,.slice none 0 0,.slice none 0 0,.slice none 0 0] F 5 ?_) | fail)
  refine qR (v:=.tuple #[.agg #[.int .i64 0,.int .i64 0,.slice none 0 0,.slice none 0 0,.slice none 0 0],.slice none 0 0,.int .i64 2]) (qcs rfl _ _ w.heap.size 46 _ _ rfl (qT _ _ _ _ _ _ F) underlying46 rfl 5 (by kernel_rfl) rfl _ _ rfl rfl) rfl ?_;exact⟨qS J.o.1 qN _,.inr (.inl ⟨H.o,I.o,rfl⟩)⟩
 by_cases aH:kind > 3
 ·have I:Hu (¬∃k d p,qdS kind drop E k d p):=qH fun⟨k,d,p,h⟩=>by have:=h.1;have:=h.2.1;omega
  go_wp2_with (first | (with_reducible refine sR_ rfl 46 _ _ rfl (w.heap.size) #[.int .i64 0,.int .i64 0,.slice none 0 0,.slice none 0 0,.slice none 0 0] F 5 ?_) | fail)
  refine qR (v:=.tuple #[.agg #[.int .i64 0,.int .i64 0,.slice none 0 0,.slice none 0 0,.slice none 0 0],.slice none 0 0,.int .i64 2]) (qcs rfl _ _ w.heap.size 46 _ _ rfl (qT _ _ _ _ _ _ F) underlying46 rfl 5 (by kernel_rfl) rfl _ _ rfl rfl) rfl ?_;exact⟨qS J.o.1 qN _,.inr (.inl ⟨H.o,I.o,rfl⟩)⟩
 by_cases aD:drop<0
 ·have I:Hu (¬∃k d p,qdS kind drop E k d p):=qH fun⟨k,d,p,h⟩=>by have:=h.2.2.1;omega
  go_wp2_with (first | (with_reducible refine sR_ rfl 46 _ _ rfl (w.heap.size) #[.int .i64 0,.int .i64 0,.slice none 0 0,.slice none 0 0,.slice none 0 0] F 5 ?_) | fail)
  refine qR (v:=.tuple #[.agg #[.int .i64 0,.int .i64 0,.slice none 0 0,.slice none 0 0,.slice none 0 0],.slice none 0 0,.int .i64 2]) (qcs rfl _ _ w.heap.size 46 _ _ rfl (qT _ _ _ _ _ _ F) underlying46 rfl 5 (by kernel_rfl) rfl _ _ rfl rfl) rfl ?_;exact⟨qS J.o.1 qN _,.inr (.inl ⟨H.o,I.o,rfl⟩)⟩
 by_cases aF:drop > 50
 ·have I:Hu (¬∃k d p,qdS kind drop E k d p):=qH fun⟨k,d,p,h⟩=>by have:=h.2.2.1;have:=h.2.2.2.1;omega
  go_wp2_with (first | (with_reducible refine sR_ rfl 46 _ _ rfl (w.heap.size) #[.int .i64 0,.int .i64 0,.slice none 0 0,.slice none 0 0,.slice none 0 0] F 5 ?_) | fail)
  refine qR (v:=.tuple #[.agg #[.int .i64 0,.int .i64 0,.slice none 0 0,.slice none 0 0,.slice none 0 0],.slice none 0 0,.int .i64 2]) (qcs rfl _ _ w.heap.size 46 _ _ rfl (qT _ _ _ _ _ _ F) underlying46 rfl 5 (by kernel_rfl) rfl _ _ rfl rfl) rfl ?_;exact⟨qS J.o.1 qN _,.inr (.inl ⟨H.o,I.o,rfl⟩)⟩
 by_cases aJ:E<0
 ·have I:Hu (¬∃k d p,qdS kind drop E k d p):=qH fun⟨k,d,p,h⟩=>by have:=h.2.2.2.2.1;omega
  go_wp2_with (first | (with_reducible refine sR_ rfl 46 _ _ rfl (w.heap.size) #[.int .i64 0,.int .i64 0,.slice none 0 0,.slice none 0 0,.slice none 0 0] F 5 ?_) | fail)
  refine qR (v:=.tuple #[.agg #[.int .i64 0,.int .i64 0,.slice none 0 0,.slice none 0 0,.slice none 0 0],.slice none 0 0,.int .i64 2]) (qcs rfl _ _ w.heap.size 46 _ _ rfl (qT _ _ _ _ _ _ F) underlying46 rfl 5 (by kernel_rfl) rfl _ _ rfl rfl) rfl ?_;exact⟨qS J.o.1 qN _,.inr (.inl ⟨H.o,I.o,rfl⟩)⟩
 by_cases aK:E > 8
 ·have I:Hu (¬∃k d p,qdS kind drop E k d p):=qH fun⟨k,d,p,h⟩=>by have:=h.2.2.2.2.1;have:=h.2.2.2.2.2;omega
  go_wp2_with (first | (with_reducible refine sR_ rfl 46 _ _ rfl (w.heap.size) #[.int .i64 0,.int .i64 0,.slice none 0 0,.slice none 0 0,.slice none 0 0] F 5 ?_) | fail)
  refine qR (v:=.tuple #[.agg #[.int .i64 0,.int .i64 0,.slice none 0 0,.slice none 0 0,.slice none 0 0],.slice none 0 0,.int .i64 2]) (qcs rfl _ _ w.heap.size 46 _ _ rfl (qT _ _ _ _ _ _ F) underlying46 rfl 5 (by kernel_rfl) rfl _ _ rfl rfl) rfl ?_;exact⟨qS J.o.1 qN _,.inr (.inl ⟨H.o,I.o,rfl⟩)⟩
 obtain⟨k,rfl⟩:∃k:Nat,kind=(k:Int):=⟨kind.toNat,by omega⟩;obtain⟨d,rfl⟩:∃d:Nat,drop=(d:Int):=⟨drop.toNat,by omega⟩;obtain⟨p,rfl⟩:∃p:Nat,E=(p:Int):=⟨E.toNat,by omega⟩;have HA:Hu (qdS (k:Int) (d:Int) (p:Int) k d p):=qH ⟨rfl,by omega,rfl,by omega,rfl,by omega⟩;have aC:R*d<=R*50:=qaK R (by omega);obtain⟨m,hm⟩:=qX (R*d);have aB:(R:Int)*(d:Int)=(m:Int):=by rw [<-hm];exact (Int.natCast_mul R d).symm
 have aI:m<=1000:=by omega
 have aL:IntKind.i64.wrap ((R:Int)*(d:Int))=(m:Int):=by rw [aB,IntKind.wrap_i64];omega
 have ax:keepN R d=R-m / 100:=by unfold keepN;rw [hm]
 have aA:(R:Int)-(m:Int) / 100=((keepN R d:Nat):Int):=by rw [ax];omega
 obtain⟨kp,V⟩:=qX (keepN R d);rw [V] at aA;have av:1<=kp/\kp<=R:=by rw [<-V];exact keepN_le hr (by omega)
 have ag:=qH (run_any R b off c k kp p ao l w2 Z.o.2.2.1 hr ai HA.o.2.1 av (by have:=HA.o.2.2.2.2.2;omega) Z.o.2.2.2.1 (Z.o.1.below J.o.1) (Z.o.2.1.below J.o.1));have af:=qH V;clear ax hm V av;go_wp2_with fail;refine ag.o.mono ?_;rintro e w3 ⟨aa,h⟩;have K3:=J.below aa;have U:=K3.o.2;have ay:w.heap.size<w2.heap.size:=(qG F).1;have ae:=qH (qA aa ay);clear F ag aa ay;rcases h with ⟨cc,au,rfl,hf⟩ | ⟨v,g,K,md,rfl,hN,hM,hG⟩
 ·have HF:=qH (qA au hf);clear hf au;unfold mdv0
  go_wp2_with (first | (with_reducible refine sR_ rfl 46 _ _ rfl (w.heap.size) #[.int .i64 0,.int .i64 0,.slice none 0 0,.slice none 0 0,.slice none 0 0] U 5 ?_) | fail)
  refine qR (v:=.tuple #[.agg #[.int .i64 0,.int .i64 0,.slice none 0 0,.slice none 0 0,.slice none 0 0],.slice none 0 0,.int .i64 cc]) (qcs rfl _ _ w.heap.size 46 _ _ rfl (qT _ _ _ _ _ _ U) underlying46 rfl 5 (by kernel_rfl) rfl _ _ rfl rfl) rfl ?_;have O:=qS K3.o.1 (qad w.heap.size) #[.int .i64 0,.int .i64 0,.slice none 0 0,.slice none 0 0,.slice none 0 0];exact⟨O,.inr (.inr ⟨H.o,k,d,p,HA.o,O,.inl ⟨cc,HF.o.1,rfl,by rw [Z.o.2.2.1,af.o];exact HF.o.2⟩⟩)⟩
 ·obtain⟨k5,i5,A0,A1,A2,L0,C0,L1,C1,L2,C2,rfl⟩:=hM.five;have HF:=qH (qA hN (qA hM hG));clear hN hM hG
  go_wp2_with (first | (with_reducible refine sR_ rfl 46 _ _ rfl (w.heap.size) #[.int .i64 k5,.int .i64 i5,.slice A0 L0 C0,.slice A1 L1 C1,.slice A2 L2 C2] U 5 ?_) | fail)
  refine qR (v:=.tuple #[.agg #[.int .i64 k5,.int .i64 i5,.slice A0 L0 C0,.slice A1 L1 C1,.slice A2 L2 C2],.slice (some ⟨g,0,none⟩) K.length K.length,.int .i64 0]) (qcs rfl _ _ w.heap.size 46 _ _ rfl (qT _ _ _ _ _ _ U) underlying46 rfl 5 (by kernel_rfl) rfl _ _ rfl rfl) rfl ?_;have O:=qS K3.o.1 (qad w.heap.size) #[.int .i64 k5,.int .i64 i5,.slice A0 L0 C0,.slice A1 L1 C1,.slice A2 L2 C2];exact⟨O,.inr (.inr ⟨H.o,k,d,p,HA.o,O,.inr ⟨_,g,K,md,rfl,(HF.o.1.keep (qcn _ _ _) ae.o.2).mono (qan ae.o.2),HF.o.2.1.keepB (qcn _ _ _) U (qlb _ _ _ _ _ _ _ _ _ _ _),by rw [Z.o.2.2.1,af.o];exact HF.o.2.2⟩⟩)⟩
def zq (E:List Int) (i:Nat):Rat:=((E.getD i 0:Int):Rat)
theorem lqn_any (b off n c:Nat) (E:List Int) (w:World) (hn:E.length=n) (ai:n<=1000) (hc:NCells w (some ⟨b,off,none⟩) b off E) (hz:∀z∈E,-9223372036854775808<=z/\z<=9223372036854775807) (hT:HasT w) :
  Calls prog 29 #[.slice (some ⟨b,off,none⟩) n c] w fun e w'=>∃v,e=.returned v/\Rws w' w.heap.size 27 2 v n (fflat (told n (zq E)))/\Below w.heap.size w w':=by
 have U:=qH (qA hc (qA hn (qA hz hT)));clear hc hn hz hT;go_enter func29,ntmps29;go_wp2_with fail
 go_loopw [3,5,6,7,10] (fun x3 x5 x6 x7 x10 W=>∃k:Nat,x10=.int .i64 (k:Int)/\k<=n/\Kn (fun W=>Below w.heap.size w W/\Rws W w.heap.size 27 2 x3 k (fflat (told k (zq E)))) W) (fun _ _ _ _ x10 _=>n-(intOf x10).toNat)
 case atStart=>exact⟨0,rfl,qaj _,.of ⟨Below.refl _ _,Rws.nil _ _ _ _⟩⟩
 case round =>
  obtain⟨k,rfl,hk,V⟩:=hrel
  by_cases H:k<n
  ·have ah:(k:Int)<n:=by omega
   have d0:=(U.o.1.below V.o.1).cell k (by rw [U.o.2.1];exact H);have F:k<E.length:=by rw [U.o.2.1];exact H
   have J:=U.o.2.2.1 (E.getD k 0) (by rw [qaa,qac F];exact qbz F);obtain⟨z,I⟩:=qX (E.getD k 0);rw [I] at d0 J;have hq:((z:Int):Rat) / (((1:Int):Int):Rat)=zq E k:=by unfold zq;rw [I,Rat.div_def,show (((1:Int):Rat))⁻¹=1 by decide +kernel,Rat.mul_one]
   obtain⟨x1,x2,hx⟩:=qcW (zq E k);have HO:Hu (∀W,Below w.heap.size w W->Calls prog 31 #[.int .i64 z,.int .i64 1] W fun e w'=>e=.returned (.tuple #[.agg #[.string x1,.string x2],.int .i64 0])/\Below W.heap.size W w'):=qH fun W Y=>by
    have h:=of_int z 1 (by decide) J (by decide) W (U.o.2.2.2.below Y);rw [hq,hx] at h;exact h
   have HX:=qH hx;have Z:=qH (HO.o wr V.o.1);clear hq hx I J F;go_wp2_with fail;refine Z.o.mono ?_;rintro e O ⟨rfl,Y⟩;have K2:=V.below Y;clear Y d0;have K4:=K2.on (q:=fun W=>W.heap[O.heap.size]? = some (.cells #[.string x1,.string x2] 27 (0,0))) (qb4 (Below.refl _ O) qN) (heap_alloc_new O (.cells #[.string x1,.string x2] 27));have aa:=qH (show O.heap.size+1=(O.alloc (.cells #[.string x1,.string x2] 27)).heap.size by simp only [qab])
   go_wp2_with (first | ((with_reducible refine qcC rfl 27 _ _ rfl #[.string ⟨#[]⟩,.string ⟨#[]⟩] #[.string x1,.string x2] ?_ ?_ 2 ?_ ?_ ?_ ?_ ?_);(next=>rfl);(next=>rfl);(next=>kernel_rfl);(next=>rfl);(next=>rfl);(next=>rfl)) | (with_reducible refine lW_ rfl 27 _ rfl (O.heap.size) #[.string x1,.string x2] K4.o.2 underlying27 2 ?_) | (at_builtin;refine qeI rfl _ _ rfl K4.o.1.1 rfl K4.o.1.2 rfl rfl aa.o (by omega) ?_;intro v' w' af ae) | fail)
   go_roundw
   case rel=>exact⟨k+1,by go_num,H,.of ⟨ae.o,by rw [qe3,HX.o];exact af.o⟩⟩
   case measure=>simp [intOf];omega
  ·obtain rfl:k=n:=by omega
   have ag:¬(k:Int)<(k:Int):=by omega
   go_wp2;go_ret;exact⟨_,rfl,V.o.2,V.o.1⟩
theorem lq_any (b off n c:Nat) (E:List Int) (w:World) (U:E.length=n) (H:n<=1000) (O:NCells w (some ⟨b,off,none⟩) b off E) (V:∀z∈E,-9223372036854775808<=z/\z<=9223372036854775807) (hT:HasT w) :
  Calls prog 29 #[.slice (some ⟨b,off,none⟩) n c] w fun e w'=>∃(F:Option Addr) (g cap:Nat),e=.returned (.slice F n cap)/\FCells w' F g 0 (told n (zq E))/\Below w.heap.size w w':=by
 refine (lqn_any b off n c E w U H O V hT).mono ?_;rintro e w' ⟨v,rfl,h,J⟩;obtain⟨F,g,cap,rfl,I,_⟩:=qdD h (qcb _ _);exact⟨F,g,cap,rfl,I,J⟩
theorem lis_any (E:Option Addr) (n c:Nat) (w:World) :
  Calls prog 27 #[.slice E n c] w fun e w'=>∃b,e=.returned (.func (.func 72) #[] #[.pointer (some ⟨b,0,none⟩)])/\Below w.heap.size w w'/\w'.heap[b]? = some (.cells #[.slice E n c] 30 (0,0)):=by
 have H:=qH (qA (qb4 (o:=.cells #[.slice E n c] 30) (Below.refl w.heap.size w) qN) (qM w (.cells #[.slice E n c] 30) _ rfl));have F:=@hmf_ prog;go_enter func27,ntmps27;go_wp2;go_ret;exact⟨_,rfl,H.o.1,H.o.2⟩
theorem qlv (I O n c J U m d b:Nat) (F H:List Int) (z:Int) (w:World) (hb:w.heap[b]? = some (.cells #[.slice (some ⟨J,U,none⟩) m d] 30 (0,0))) (hn:F.length=n) (hm:H.length=m) (Z:n<=1000000) (Y:m<=1000000) (h1:NCells w (some ⟨I,O,none⟩) I O F) (h2:NCells w (some ⟨J,U,none⟩) J U H) :
  Calls prog 72 #[.slice (some ⟨I,O,none⟩) n c,.int .i64 z,.pointer (some ⟨b,0,none⟩)] w fun e w'=>e=.returned (.bool ((F == H) && (z == (0:Int))))/\Below w.heap.size w w':=by
 have c0:=qC _ _ 0 _ _ _ hb;have V:=qH (qiA I O c J U d F H n m w hn hm Z Y h1 h2);clear h1 h2;obtain⟨q,hq⟩:=qX (F == H);rw [hq] at V ⊢;go_enter func72,ntmps72;go_wp2_with fail;refine V.o.mono ?_;rintro e w2 ⟨rfl,E⟩;have HB:=qH E;clear E c0 V;cases q
 ·go_wp2;go_ret;exact⟨rfl,HB.o⟩
 ·go_wp2;go_ret;exact⟨by simp,HB.o⟩
theorem qmh (n:Int) (w:World) :
  Calls prog 28 #[.int .i64 n] w fun e w'=>∃b,e=.returned (.func (.func 73) #[] #[.pointer (some ⟨b,0,none⟩)])/\Below w.heap.size w w'/\w'.heap[b]? = some (.cells #[.int .i64 n] 31 (0,0)):=by
 have H:=qH (qA (qb4 (o:=.cells #[.int .i64 n] 31) (Below.refl w.heap.size w) qN) (qM w (.cells #[.int .i64 n] 31) _ rfl));have E:=@hmf_ prog;go_enter func28,ntmps28;go_wp2;go_ret;exact⟨_,rfl,H.o.1,H.o.2⟩
theorem qkD (n:Int) (b c:Nat) (E:Option Addr) (w:World) (F:w.heap[b]? = some (.cells #[.int .i64 n] 31 (0,0))) :
  Calls prog 73 #[.slice E 0 c,.int .i64 n,.pointer (some ⟨b,0,none⟩)] w fun e w'=>e=.returned (.bool true)/\w'=w:=by
 have H:=qC _ _ 0 _ _ _ F;go_enter func73,ntmps73;go_wp2;go_ret;exact⟨by simp,rfl⟩
theorem qne {s:Nat->Rat} {n k:Nat} (hk:k<n) (h:∀i,i<n->i≠k->s i<s k):bestL s n (n-1)=(List.range n).filter fun i=>decide (i≠k):=by
 have hU:Up ((List.range n).filter fun i=>decide (i≠k)):=(qgj n).sublist List.filter_sublist;refine (qfK s n (n-1)).eq hU ((qdB s n (n-1)).trans ?_);have F:=qcr s n;obtain⟨A,z,e⟩:∃A z,qce s n=A++[z]:=by
  rcases List.eq_nil_or_concat (qce s n) with e | ⟨A,z,e⟩
  ·rw [e] at F;simp at F;omega
  ·exact⟨A,z,by rw [e];simp⟩
 have V:z<n:=qaq.1 ((qcF s n).mem_iff.1 (by rw [e];simp));have U:z=k:=by
  by_cases O:z=k
  ·exact O
  ·have J:k∈A:=by
    have:k∈qce s n:=(qcF s n).mem_iff.2 (qaq.2 hk);rw [e] at this;rcases qaL.1 this with h | h
    ·exact h
    ·exact absurd (qap.1 h).symm O
   have Y:=qmv s n;rw [e] at Y;have h1:=(List.pairwise_append.1 Y).2.2 k J z (by simp);have h2:=h z V O
   grind
 subst U;have aa:A.length=n-1:=by rw [e] at F;simp at F;omega
 have E:=qeh s n;rw [e] at E;have H:∀a∈A,a≠z:=fun a I he=>by
  subst he;exact (List.nodup_append.1 E).2.2 a I a (by simp) rfl
 rw [e,List.take_append_of_le_length (by omega),qah (by omega)];have Z:=((qcF s n).filter (fun i=>decide (i≠z)));rw [e,List.filter_append] at Z;have e1:A.filter (fun i=>decide (i≠z))=A:=List.filter_eq_self.2 fun a I=>qV (H a I)
 have e2:[z].filter (fun i=>decide (i≠z))=[]:=by simp
 rwa [e1,e2,qbj] at Z
def line5:List Pt:=[⟨⟨#[97]⟩,[0],0,0,0⟩,⟨⟨#[98]⟩,[2500],2500,0,0⟩,⟨⟨#[99]⟩,[5000],9000,0,0⟩,⟨⟨#[100]⟩,[7500],7500,0,0⟩,⟨⟨#[101]⟩,[10000],10000,0,0⟩]
theorem qeR:PtsOk line5 where
 r1:=by decide
 r2:=by decide
 rows:=fun k H=>by
  have H:k<5:=H;rcases (show k=0\/k=1\/k=2\/k=3\/k=4 by omega) with rfl | rfl | rfl | rfl | rfl <;> exact⟨⟨name_one (by decide),by decide,by decide,vals_one (by decide),by decide,by decide,by decide⟩,rfl⟩
 apart:=fun i k I E=>by
  have E:i<5:=E;have F:∀i,i<5->∀k,k<i->(line5.getD k pt0).name≠(line5.getD i pt0).name:=by decide
  exact F i E k I
def linX0 (c:Nat):Nat->Rat:=if c=0 then fv [8,100] else fv [0,0]
def linX1 (c:Nat):Nat->Rat:=if c=0 then fv [0,100] else fv [0,0]
theorem qjt:∀c,c<3->FitX line5 1 [1,1,1,1,1] c (linX0 c)/\qb9 2 (linX0 c):=fun c E=>by
 rcases (show c=0\/c=1\/c=2 by omega) with rfl | rfl | rfl
 ·exact⟨show ∀i,i<2->_ from by decide +kernel,qdm (by decide +kernel)⟩
 ·exact⟨show ∀i,i<2->_ from by decide +kernel,qdm (by decide +kernel)⟩
 ·exact⟨show ∀i,i<2->_ from by decide +kernel,qdm (by decide +kernel)⟩
theorem qn7:∀c,c<3->FitX line5 1 [1,1,0,1,1] c (linX1 c)/\qb9 2 (linX1 c):=fun c E=>by
 rcases (show c=0\/c=1\/c=2 by omega) with rfl | rfl | rfl
 ·exact⟨show ∀i,i<2->_ from by decide +kernel,qdm (by decide +kernel)⟩
 ·exact⟨show ∀i,i<2->_ from by decide +kernel,qdm (by decide +kernel)⟩
 ·exact⟨show ∀i,i<2->_ from by decide +kernel,qdm (by decide +kernel)⟩
theorem lin_n0:¬Sing 2 (nq line5 1 [1,1,1,1,1] 0):=qjG (fm [[3 / 5,-4 / 5],[-4 / 5,8 / 5]]) (by decide +kernel)
theorem lin_n1:¬Sing 2 (nq line5 1 [1,1,0,1,1] 0):=qjG (fm [[13 / 20,-4 / 5],[-4 / 5,8 / 5]]) (by decide +kernel)
theorem keep_5:keepW (List.range line5.length) line5.length=[1,1,1,1,1]:=by decide
theorem lin_k0:KFit line5 1 (List.range line5.length) linX0:=by
 unfold KFit;rw [keep_5];exact⟨lin_n0,fun c E=>(qjt c E).1⟩
theorem qid (keep:Nat):Runs line5 1 keep 0 (List.range line5.length) linX0:=⟨rfl,lin_k0⟩
theorem qkG:∀i,i<5->sqq (mdX line5 1 linX0) line5 1 i=fv [64,64,1024,64,64] i:=fun i E=>by
 unfold mdX;rw [qo3 qN];rcases (show i=0\/i=1\/i=2\/i=3\/i=4 by omega) with rfl | rfl | rfl | rfl | rfl <;> decide +kernel
theorem qn3:nextK line5 1 4 (mdX line5 1 linX0)=[0,1,3,4]:=by
 have h:=qne (s:=sqq (mdX line5 1 linX0) line5 1) (n:=5) (k:=2) (by decide) fun i E hne=>by
  rw [qkG i E,qkG 2 (by decide)];rcases (show i=0\/i=1\/i=3\/i=4 by omega) with rfl | rfl | rfl | rfl <;> decide +kernel
 exact h.trans (by decide)
theorem qn4:nextK line5 1 5 (mdX line5 1 linX0)=List.range line5.length:=qnc _ 5
theorem lin_k1:KFit line5 1 [0,1,3,4] linX1:=by
 unfold KFit;rw [show keepW [0,1,3,4] line5.length=[1,1,0,1,1] by decide];exact⟨lin_n1,fun c E=>(qn7 c E).1⟩
theorem lin_r1:Runs line5 1 4 1 [0,1,3,4] linX1:=⟨_,_,qid 4,qn3.symm,lin_k1⟩
theorem lin_r5:Runs line5 1 5 1 (List.range line5.length) linX0:=(qid 5).stay qn4 1
theorem qn5:∀i,i<5->sqq (mdX line5 1 linX1) line5 1 i=fv [0,0,1600,0,0] i:=fun i E=>by
 unfold mdX;rw [qo3 qN];rcases (show i=0\/i=1\/i=2\/i=3\/i=4 by omega) with rfl | rfl | rfl | rfl | rfl <;> decide +kernel
theorem qes (w:World) :
  Calls prog 30 #[] w fun e w'=>∃v,e=.returned v/\PaOwn w' w.heap.size v line5/\Below w.heap.size w w':=by
 go_enter func30,ntmps30;go_wp2_with fail
 go_loopw [1,5,2,3] (fun x1 x5 x2 x3 W=>∃i:Nat,x5=.int .i64 (i:Int)/\i<=5/\Kn (fun W=>Below w.heap.size w W/\PaOwn W w.heap.size x1 (line5.take i)) W) (fun _ x5 _ _ _=>5-(intOf x5).toNat)
 case atStart=>exact⟨0,rfl,qaj _,.of ⟨Below.refl _ _,PaOwn.nil _ _⟩⟩
 case round =>
  obtain⟨i,rfl,hi,V⟩:=hrel
  by_cases ah:i<5
  ·obtain⟨va,vc,ag⟩:=V.o.2.shape (m:=i) (by rw [qao];exact qaS hi);subst ag;rcases (show i=0\/i=1\/i=2\/i=3\/i=4 by omega) with rfl | rfl | rfl | rfl | rfl
   ·have aa:∀W,(Instr.index 141 (.agg #[.int .i64 0,.int .i64 2500,.int .i64 9000,.int .i64 7500,.int .i64 10000]) (.int .i64 0)).run prog W=.ok (.int .i64 0) W:=fun W=>by kernel_rfl
    have Y:∀W,(convert 21 9 (.int .i32 97)).run prog W=.ok (.string ⟨#[97]⟩) W:=fun W=>by kernel_rfl
    have J:Kn (fun W=>(Below w.heap.size w W/\PaOwn W w.heap.size (.slice va 0 vc) (line5.take 0))/\IOwn W wr.heap.size (.slice (some ⟨wr.heap.size,0,none⟩) 1 1) [0]) (wr.alloc (.cells #[.int .i64 0] 3)):=V.on (qb4 (Below.refl _ wr) qN) (qfB (cs:=#[.int .i64 0]) (heap_alloc_new wr _) qN rfl (by decide));have HQ:Hu (∀q,(Value.slice va 0 vc).ownBlock=some q->w.heap.size<=q):=qH fun q hq=>by obtain⟨vs,Y,_⟩:=V.o.2;exact (Y.lt q hq).1
    have H:w.heap.size<=(wr.alloc (.cells #[.int .i64 0] 3)).heap.size:=J.o.1.1.size;have Z:w.heap.size<=wr.heap.size:=V.o.1.size;have U:=qH (show wr.heap.size+1=(wr.alloc (.cells #[.int .i64 0] 3)).heap.size by simp only [qab])
    go_wp2_with (first | (at_builtin;refine qdR rfl _ _ rfl (p:=⟨⟨#[97]⟩,[0],0,0,0⟩) (Bd:=wr.heap.size) J.o.1.2 J.o.2 H rfl rfl U.o (show 0<1000000 by decide) rfl rfl rfl rfl rfl ?_;intro v' w' F E;obtain⟨ae,af,I⟩:=(Hu.o F).shape (m:=1) rfl;subst I;have O:Hu (Below w.heap.size w w'):=qH (qeg (B:=w.heap.size) (qb4 J.o.1.1 qN) HQ.o (by simp only [qab];omega) E.o);clear E) | fail)
    go_roundw
    case rel=>exact⟨1,by go_num,by decide,.of ⟨O.o,F.o⟩⟩
    case measure=>simp [intOf]
   ·have aa:∀W,(Instr.index 141 (.agg #[.int .i64 0,.int .i64 2500,.int .i64 9000,.int .i64 7500,.int .i64 10000]) (.int .i64 1)).run prog W=.ok (.int .i64 2500) W:=fun W=>by kernel_rfl
    have Y:∀W,(convert 21 9 (.int .i32 98)).run prog W=.ok (.string ⟨#[98]⟩) W:=fun W=>by kernel_rfl
    have J:Kn (fun W=>(Below w.heap.size w W/\PaOwn W w.heap.size (.slice va 1 vc) (line5.take 1))/\IOwn W wr.heap.size (.slice (some ⟨wr.heap.size,0,none⟩) 1 1) [2500]) (wr.alloc (.cells #[.int .i64 2500] 3)):=V.on (qb4 (Below.refl _ wr) qN) (qfB (cs:=#[.int .i64 2500]) (heap_alloc_new wr _) qN rfl (by decide));have HQ:Hu (∀q,(Value.slice va 1 vc).ownBlock=some q->w.heap.size<=q):=qH fun q hq=>by obtain⟨vs,Y,_⟩:=V.o.2;exact (Y.lt q hq).1
    have H:w.heap.size<=(wr.alloc (.cells #[.int .i64 2500] 3)).heap.size:=J.o.1.1.size;have Z:w.heap.size<=wr.heap.size:=V.o.1.size;have U:=qH (show wr.heap.size+1=(wr.alloc (.cells #[.int .i64 2500] 3)).heap.size by simp only [qab])
    go_wp2_with (first | (at_builtin;refine qdR rfl _ _ rfl (p:=⟨⟨#[98]⟩,[2500],2500,0,0⟩) (Bd:=wr.heap.size) J.o.1.2 J.o.2 H rfl rfl U.o (show 1<1000000 by decide) rfl rfl rfl rfl rfl ?_;intro v' w' F E;obtain⟨ae,af,I⟩:=(Hu.o F).shape (m:=2) rfl;subst I;have O:Hu (Below w.heap.size w w'):=qH (qeg (B:=w.heap.size) (qb4 J.o.1.1 qN) HQ.o (by simp only [qab];omega) E.o);clear E) | fail)
    go_roundw
    case rel=>exact⟨2,by go_num,by decide,.of ⟨O.o,F.o⟩⟩
    case measure=>simp [intOf]
   ·have aa:∀W,(Instr.index 141 (.agg #[.int .i64 0,.int .i64 2500,.int .i64 9000,.int .i64 7500,.int .i64 10000]) (.int .i64 2)).run prog W=.ok (.int .i64 9000) W:=fun W=>by kernel_rfl
    have Y:∀W,(convert 21 9 (.int .i32 99)).run prog W=.ok (.string ⟨#[99]⟩) W:=fun W=>by kernel_rfl
    have J:Kn (fun W=>(Below w.heap.size w W/\PaOwn W w.heap.size (.slice va 2 vc) (line5.take 2))/\IOwn W wr.heap.size (.slice (some ⟨wr.heap.size,0,none⟩) 1 1) [5000]) (wr.alloc (.cells #[.int .i64 5000] 3)):=V.on (qb4 (Below.refl _ wr) qN) (qfB (cs:=#[.int .i64 5000]) (heap_alloc_new wr _) qN rfl (by decide));have HQ:Hu (∀q,(Value.slice va 2 vc).ownBlock=some q->w.heap.size<=q):=qH fun q hq=>by obtain⟨vs,Y,_⟩:=V.o.2;exact (Y.lt q hq).1
    have H:w.heap.size<=(wr.alloc (.cells #[.int .i64 5000] 3)).heap.size:=J.o.1.1.size;have Z:w.heap.size<=wr.heap.size:=V.o.1.size;have U:=qH (show wr.heap.size+1=(wr.alloc (.cells #[.int .i64 5000] 3)).heap.size by simp only [qab])
    go_wp2_with (first | (at_builtin;refine qdR rfl _ _ rfl (p:=⟨⟨#[99]⟩,[5000],9000,0,0⟩) (Bd:=wr.heap.size) J.o.1.2 J.o.2 H rfl rfl U.o (show 2<1000000 by decide) rfl rfl rfl rfl rfl ?_;intro v' w' F E;obtain⟨ae,af,I⟩:=(Hu.o F).shape (m:=3) rfl;subst I;have O:Hu (Below w.heap.size w w'):=qH (qeg (B:=w.heap.size) (qb4 J.o.1.1 qN) HQ.o (by simp only [qab];omega) E.o);clear E) | fail)
    go_roundw
    case rel=>exact⟨3,by go_num,by decide,.of ⟨O.o,F.o⟩⟩
    case measure=>simp [intOf]
   ·have aa:∀W,(Instr.index 141 (.agg #[.int .i64 0,.int .i64 2500,.int .i64 9000,.int .i64 7500,.int .i64 10000]) (.int .i64 3)).run prog W=.ok (.int .i64 7500) W:=fun W=>by kernel_rfl
    have Y:∀W,(convert 21 9 (.int .i32 100)).run prog W=.ok (.string ⟨#[100]⟩) W:=fun W=>by kernel_rfl
    have J:Kn (fun W=>(Below w.heap.size w W/\PaOwn W w.heap.size (.slice va 3 vc) (line5.take 3))/\IOwn W wr.heap.size (.slice (some ⟨wr.heap.size,0,none⟩) 1 1) [7500]) (wr.alloc (.cells #[.int .i64 7500] 3)):=V.on (qb4 (Below.refl _ wr) qN) (qfB (cs:=#[.int .i64 7500]) (heap_alloc_new wr _) qN rfl (by decide));have HQ:Hu (∀q,(Value.slice va 3 vc).ownBlock=some q->w.heap.size<=q):=qH fun q hq=>by obtain⟨vs,Y,_⟩:=V.o.2;exact (Y.lt q hq).1
    have H:w.heap.size<=(wr.alloc (.cells #[.int .i64 7500] 3)).heap.size:=J.o.1.1.size;have Z:w.heap.size<=wr.heap.size:=V.o.1.size;have U:=qH (show wr.heap.size+1=(wr.alloc (.cells #[.int .i64 7500] 3)).heap.size by simp only [qab])
    go_wp2_with (first | (at_builtin;refine qdR rfl _ _ rfl (p:=⟨⟨#[100]⟩,[7500],7500,0,0⟩) (Bd:=wr.heap.size) J.o.1.2 J.o.2 H rfl rfl U.o (show 3<1000000 by decide) rfl rfl rfl rfl rfl ?_;intro v' w' F E;obtain⟨ae,af,I⟩:=(Hu.o F).shape (m:=4) rfl;subst I;have O:Hu (Below w.heap.size w w'):=qH (qeg (B:=w.heap.size) (qb4 J.o.1.1 qN) HQ.o (by simp only [qab];omega) E.o);clear E) | fail)
    go_roundw
    case rel=>exact⟨4,by go_num,by decide,.of ⟨O.o,F.o⟩⟩
    case measure=>simp [intOf]
   ·have aa:∀W,(Instr.index 141 (.agg #[.int .i64 0,.int .i64 2500,.int .i64 9000,.int .i64 7500,.int .i64 10000]) (.int .i64 4)).run prog W=.ok (.int .i64 10000) W:=fun W=>by kernel_rfl
    have Y:∀W,(convert 21 9 (.int .i32 101)).run prog W=.ok (.string ⟨#[101]⟩) W:=fun W=>by kernel_rfl
    have J:Kn (fun W=>(Below w.heap.size w W/\PaOwn W w.heap.size (.slice va 4 vc) (line5.take 4))/\IOwn W wr.heap.size (.slice (some ⟨wr.heap.size,0,none⟩) 1 1) [10000]) (wr.alloc (.cells #[.int .i64 10000] 3)):=V.on (qb4 (Below.refl _ wr) qN) (qfB (cs:=#[.int .i64 10000]) (heap_alloc_new wr _) qN rfl (by decide));have HQ:Hu (∀q,(Value.slice va 4 vc).ownBlock=some q->w.heap.size<=q):=qH fun q hq=>by obtain⟨vs,Y,_⟩:=V.o.2;exact (Y.lt q hq).1
    have H:w.heap.size<=(wr.alloc (.cells #[.int .i64 10000] 3)).heap.size:=J.o.1.1.size;have Z:w.heap.size<=wr.heap.size:=V.o.1.size;have U:=qH (show wr.heap.size+1=(wr.alloc (.cells #[.int .i64 10000] 3)).heap.size by simp only [qab])
    go_wp2_with (first | (at_builtin;refine qdR rfl _ _ rfl (p:=⟨⟨#[101]⟩,[10000],10000,0,0⟩) (Bd:=wr.heap.size) J.o.1.2 J.o.2 H rfl rfl U.o (show 4<1000000 by decide) rfl rfl rfl rfl rfl ?_;intro v' w' F E;obtain⟨ae,af,I⟩:=(Hu.o F).shape (m:=5) rfl;subst I;have O:Hu (Below w.heap.size w w'):=qH (qeg (B:=w.heap.size) (qb4 J.o.1.1 qN) HQ.o (by simp only [qab];omega) E.o);clear E) | fail)
    go_roundw
    case rel=>exact⟨5,by go_num,by decide,.of ⟨O.o,F.o⟩⟩
    case measure=>simp [intOf]
  ·obtain rfl:i=5:=by omega
   obtain⟨va,vc,ag⟩:=V.o.2.shape (m:=5) rfl;subst ag;go_wp2;go_ret;exact⟨_,rfl,V.o.2,V.o.1⟩
theorem readq {p:Rat} (O:Short p) (w:World):Calls prog 91 #[.agg #[.string (ftxt p).1,.string (ftxt p).2]] w fun e w'=>∃(a:Option Addr) (n c:Nat) (b:Bool) (d:Option Addr) (m f:Nat),e=.returned (.tuple #[.agg #[.slice a n c,.bool b,.slice d m f],.bool true])/\RatV w' (.agg #[.slice a n c,.bool b,.slice d m f]) p/\RFit p 67/\Below w.heap.size w w':=by
 refine (qen _ _ w).mono ?_;rintro e w' ⟨v,ok,rfl,h | h,J⟩
 ·obtain⟨rfl,F,I⟩:=h;have E:=F.at I;have H:=F.fit;rw [qeo] at E H;obtain⟨a,n,c,b,d,m,f,rfl⟩:=qdu E;exact⟨a,n,c,b,d,m,f,rfl,E,H,J⟩
 ·exact absurd (qfU O) h.2.1
def RBlk (W:World) (g:Nat) (q:Rat):Prop:=∃(a:Option Addr) (n c:Nat) (b:Bool) (d:Option Addr) (m f:Nat),W.heap[g]? = some (.cells #[.slice a n c,.bool b,.slice d m f] 127 (0,0))/\RatV W (.agg #[.slice a n c,.bool b,.slice d m f]) q
theorem RBlk.below {W W':World} {g:Nat} {q:Rat} (h:RBlk W g q) (E:Below W.heap.size W W'):RBlk W' g q:=by
 obtain⟨a,n,c,b,d,m,f,F,H⟩:=h;exact⟨a,n,c,b,d,m,f,zkeep E _ _ F,H.below E⟩
theorem qjR {a:Option Addr} {n c:Nat} {b:Bool} {d:Option Addr} {m f:Nat}:∀x∈(#[.slice a n c,.bool b,.slice d m f]:Array Value).toList,∀z,x≠.int .u32 z:=by
 intro x hx z;simp at hx;rcases hx with rfl | rfl | rfl <;> intro h <;> cases h
theorem RatV.keep {W W':World} {v:Value} {q:Rat} {g:Nat} {cs:Array Value} {t:TypeId} (h:RatV W v q) (E:W.grownBy W' (some g)) (hg:W.heap[g]? = some (.cells cs t (0,0))) (F:∀x∈cs.toList,∀z,x≠.int .u32 z):RatV W' v q:=by
 obtain⟨m,o,H,I,J⟩:=h;exact⟨m,o,H,qcA I E hg F,qcA J E hg F⟩
theorem qmY (S P:Rat) (K:Nat) (U:K<=34359738368) (F:Nat) (v:Value) (w:World) (hs:RBlk w F S) (Y:RatV w v P) (hS:RFit S K) (hP:RFit P K) :
  Calls prog 164 #[v,.pointer (some ⟨F,0,none⟩)] w fun e w'=>e=.returned (.tuple #[])/\RBlk w' F (S+P)/\w.grownBy w' (some F):=by
 obtain⟨a,n,c,b,d,m,f,h1,h2⟩:=hs;obtain⟨a0,n0,c0,b0,d0,m0,f0,rfl⟩:=qdu Y;obtain⟨W1,J,H⟩:=nw1 w #[.slice a0 n0 c0,.bool b0,.slice d0 m0 f0] 127;have hr:=zkeep H.o.1 _ _ h1;have x0:=qC _ _ 0 _ _ _ hr;have x1:=qC _ _ 1 _ _ _ hr;have x2:=qC _ _ 2 _ _ _ hr;have y0:=qC _ _ 0 _ _ _ H.o.2;have y1:=qC _ _ 1 _ _ _ H.o.2;have y2:=qC _ _ 2 _ _ _ H.o.2;have Z:=qH (radd_any S P K U _ _ W1 (h2.below H.o.1) (Y.below H.o.1) hS hP);have HX:=qH hr;clear h1 h2 Y hr hS hP;go_enter func164,ntmps164;go_upto_region 1 with fail;rw [<-J];clear J;go_wp2_with fail;refine Z.o.mono ?_;rintro e w2 ⟨r,rfl,V,hr⟩;obtain⟨e0,e1,e2,e3,e4,e5,e6,rfl⟩:=qdu hr;have E:=zkeep V _ _ HX.o;have O:=qH (qA (qT _ _ _ #[.slice e0 e1 e2,.bool e3,.slice e4 e5 e6] _ _ E) (qA (qb5 (qcl (keepB (g:=F) H.o.1) V) (qcn w2 F #[.slice e0 e1 e2,.bool e3,.slice e4 e5 e6])) (hr.keep (qcn w2 F #[.slice e0 e1 e2,.bool e3,.slice e4 e5 e6]) E qjR)));have I:=qH E;clear V hr E Z;rename_i U;dsimp only;refine U _ _ ?_
 go_wp2_with ((with_reducible refine sR_ rfl 127 _ _ rfl (F) #[.slice e0 e1 e2,.bool e3,.slice e4 e5 e6] I.o 3 ?_))
 go_end0
 exact⟨rfl,⟨e0,e1,e2,e3,e4,e5,e6,O.o.1,O.o.2.2⟩,O.o.2.1⟩
theorem RFit.plus {p q:Rat} {K J:Nat} (E:RFit p K) (F:RFit q J):RFit (p+q) (K+J+1):=by
 have H:Fit (p.num*q.den+q.num*p.den).natAbs (K+J+1):=by
  refine (Fit.add (x:=(p.num*q.den).natAbs) (y:=(q.num*p.den).natAbs) (K:=K+J) ?_ ?_).le (Int.natAbs_add_le _ _)
  ·rw [qaE,qas];exact E.1.mul F.2
  ·rw [qaE,qas,Nat.add_comm K J];exact F.1.mul E.2
 have I:Fit (p.den*q.den) (K+J+1):=(E.2.mul F.2).mono (by omega);rw [Rat.add_def'];have hne:=qb0 p.den_nz q.den_nz
 constructor
 ·rw [Rat.num_mkRat,if_neg hne];refine H.le ?_;rw [Int.natAbs_ediv_of_dvd (Int.ofNat_dvd_left.2 (qa4 _ _))];exact qa2 _ _
 ·rw [Rat.den_mkRat,if_neg hne];exact I.le (qa2 _ _)
theorem RFit.up {q:Rat} {K J:Nat} (h:RFit q K) (E:K<=J):RFit q J:=⟨h.1.mono E,h.2.mono E⟩
structure RCells (W:World) (b n:Nat) (x:Nat->Rat):Prop where
 cell:∀k,k<n->∃(a:Option Addr) (m c:Nat) (bb:Bool) (d:Option Addr) (e f:Nat),W.cell? ⟨b,k*3,none⟩=some (.slice a m c)/\W.cell? ⟨b,k*3+1,none⟩=some (.bool bb)/\W.cell? ⟨b,k*3+2,none⟩=some (.slice d e f)/\RatV W (.agg #[.slice a m c,.bool bb,.slice d e f]) (x k)
theorem RCells.below {W W':World} {b n:Nat} {x:Nat->Rat} (h:RCells W b n x) (E:Below W.heap.size W W'):RCells W' b n x:=⟨fun k O=>by
 obtain⟨a,m,c,bb,d,e,f,F,H,I,J⟩:=h.cell k O;exact⟨a,m,c,bb,d,e,f,(E.cell (qae W _ F)).trans F,(E.cell (qae W _ H)).trans H,(E.cell (qae W _ I)).trans I,J.below E⟩⟩
theorem one_mag (W:World) (g:Nat) (h:W.heap[g]? = some (.cells #[.int .u32 1] 201 (0,0))):MagAt W (.slice (some ⟨g,0,none⟩) 1 1) 1:=by
 refine⟨some ⟨g,0,none⟩,g,0,1,1,[1],rfl,⟨rfl,qad _,⟨fun _=>rfl,fun k E=>?_⟩,fun k=>?_,qam (by decide)⟩,by decide⟩
 ·obtain rfl:k=0:=by simp at E;omega
  exact qC _ _ 0 _ _ _ h
 ·rcases k with _ | k
  ·decide
  ·simp
theorem qpf (b n c:Nat) (ao:Option Addr) (x:Nat->Rat) (w:World) (aa:0<n->ao=some ⟨b,0,none⟩) (hn:n<=300) (hx:∀k,k<n->RFit (x k) 67) (hC:RCells w b n x) :
  Calls prog 92 #[.slice ao n c] w fun e w'=>∃r,e=.returned r/\Below w.heap.size w w'/\RatV w' r (sumQ n x)/\RFit (sumQ n x) (68*n+1):=by
 obtain⟨W1,J,N1⟩:=nw1 w #[.slice none 0 0,.bool false,.slice none 0 0] 127;obtain⟨W2,O,N2⟩:=nw1 W1 #[.int .u32 1] 201;have V:W1.heap.size=w.heap.size+1:=by rw [J];simp
 have ah:W2.heap.size=w.heap.size+1+1:=by rw [O];simp [V]
 obtain⟨W3,Z,N3⟩:=nw1 W2 #[.slice none 0 0,.bool false,.slice (some ⟨w.heap.size+1,0,none⟩) 1 1] 127;have I:W1.heap[w.heap.size]? = some (.cells #[.slice none 0 0,.bool false,.slice none 0 0] 127 (0,0)):=N1.o.2;have Y:=N2.o.2;rw [V] at Y;have H:=N3.o.2;rw [ah] at H;have af:Below w.heap.size w W3:=N1.o.1.trans ((N2.o.1.trans (N3.o.1.mono N2.o.1.size)).mono N1.o.1.size);have hz:RBlk W3 (w.heap.size+1+1) 0:=by
  refine⟨none,0,0,false,_,1,1,H,.slice none 0 0,.slice (some ⟨w.heap.size+1,0,none⟩) 1 1,rfl,MagAt.nil _,?_⟩;exact (one_mag _ _ Y).below N3.o.1
 have ag:=zkeep N3.o.1 _ _ (zkeep N2.o.1 _ _ I);have ak:=@hmf_ prog;have H0:=qH (qA af (qA hz ag));have HX:=qH (qA aa (qA hx (hC)));clear I Y H af hz ag V ah N1 N2 N3 aa hx hC;go_enter func92,ntmps92;go_upto_region 2 with fail;rw [<-J,<-O,<-Z];clear J O Z;go_wp2_with fail
 go_loopw [12] (fun x12 W=>∃i:Nat,x12=.int .i64 i/\i<=n/\Hu (Below w.heap.size w W/\RBlk W (w.heap.size+1+1) (sumQ i x)/\W.heap[w.heap.size]? = some (.cells #[.slice none 0 0,.bool false,.slice none 0 0] 127 (0,0))/\RFit (sumQ i x) (68*i+1))) (fun x12 _=>n-(intOf x12).toNat)
 case atStart =>
  exact⟨0,rfl,qaj _,qH ⟨H0.o.1,H0.o.2.1,H0.o.2.2,⟨(by show (0:Nat)<1000000000 ^ 1;decide),(by show (1:Nat)<1000000000 ^ 1;decide)⟩⟩⟩
 case round =>
  obtain⟨i,rfl,aj,E⟩:=hrel
  by_cases hi:i<n
  ·have ai:(i:Int)<n:=by omega
   have ha:=HX.o.1 (by omega);subst ha;obtain⟨a0,m0,c0,b0,d0,e0,f0,y0,y1,y2,hv⟩:=(HX.o.2.2.below E.o.1).cell i hi;have au:i*3<n*3:=by omega
   have HV:=qH hv;clear hv;go_wp2_with fail;have F:Below wr.heap.size wr (wr.alloc (.cells #[.slice a0 m0 c0,.bool b0,.slice d0 e0 f0] 127)):=qB.alloc qN _;refine (qmY (sumQ i x) (x i) (68*n+68) (by omega) (w.heap.size+1+1) _ _ (E.o.2.1.below F) (HV.o.below F) (E.o.2.2.2.up (by omega)) ((HX.o.2.1 i hi).up (by omega))).mono ?_;rintro e w5 ⟨rfl,hr,U⟩;have HN:Hu (Below w.heap.size w w5/\RBlk w5 (w.heap.size+1+1) (sumQ i x+x i)/\w5.heap[w.heap.size]? = some (.cells #[.slice none 0 0,.bool false,.slice none 0 0] 127 (0,0))):=qH (by
    have ae:=E.o.1.trans (F.mono E.o.1.size);refine⟨ae.trans ⟨U.os,U.tape,U.output,U.size,fun j hj=>U.block j (by have:=ae.size;omega) (fun e=>by have:=qag e;omega)⟩,hr,?_⟩;have hg:=zkeep F _ _ E.o.2.2.1;exact (U.block _ (qG hg).1 (fun e=>by have:=qag e;omega)).trans hg)
   clear hr U;go_wp2;go_roundw
   case rel=>exact⟨i+1,by go_num,hi,qH ⟨HN.o.1,HN.o.2.1,HN.o.2.2,(E.o.2.2.2.plus (HX.o.2.1 i hi)).up (by omega)⟩⟩
   case measure=>simp [intOf];omega
  ·obtain rfl:i=n:=by omega
   obtain⟨hb,⟨a,m,c',bb,d,e',f,h1,Y⟩,H,h4⟩:=E.o;have x0:=qC _ _ 0 _ _ _ h1;have x1:=qC _ _ 1 _ _ _ h1;have x2:=qC _ _ 2 _ _ _ h1;have HE:=qH (qA (qT _ _ _ #[.slice a m c',.bool bb,.slice d e' f] _ _ H) (qA (qS hb qN #[.slice a m c',.bool bb,.slice d e' f]) (qA (Y.keep (qcn _ w.heap.size #[.slice a m c',.bool bb,.slice d e' f]) H qjR) h4)));have Hr:=qH H;clear E hb h1 Y H h4
   go_wp2_with ((with_reducible refine sR_ rfl 127 _ _ rfl (w.heap.size) #[.slice a m c',.bool bb,.slice d e' f] Hr.o 3 ?_))
   exact qR (v:=.agg #[.slice a m c',.bool bb,.slice d e' f]) (rA_ rfl (w.heap.size) HE.o.1 underlying127 3) rfl ⟨_,rfl,HE.o.2.1,HE.o.2.2.1,HE.o.2.2.2⟩
