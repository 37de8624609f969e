import Derived.Test.YtjalhnlhcdfncaaGreatDoorBg21
set_option maxRecDepth 100000
set_option maxHeartbeats 0
namespace Go.Proofs.YtjalhnlhcdfncaaGreatDoor
open Go.RowKit
theorem qcX.uniq {z:Int} {k E:Nat} (h:qcX z k) (F:qcX z E):E=k:=by have:=h.1;have:=F.1;omega
theorem qh5 {k n m:Nat} {x y:Nat->Nat->Rat} (h:∀c,c<3->told m (x c)=told m (y c)):mdq k n m x=mdq k n m y:=by
 unfold mdq;rw [h 0 (by decide),h 1 (by decide),h 2 (by decide)]
theorem mdq_ok {k n:Nat} {X:Nat->Nat->Rat} (J:1<=k/\k<=3) (F:1<=n) (H:n<=4) (G:¬(k=3/\n=4)) (I:∀c,c<3->qbQ (many k n) (X c)):MdOk (mdq k n (many k n) X) k n :=
 ⟨⟨rfl,J⟩,⟨rfl,F,H⟩,G,fun c E=>by rw [qfi E];exact⟨qbP _ _,qcQ (I c E)⟩⟩
theorem MdOk.uniq {m:Md} {k n F G:Nat} (h:MdOk m k n) (E:MdOk m F G):F=k/\G=n:=⟨h.kind.uniq E.kind,by have:=h.inn.1;have:=E.inn.1;omega⟩
theorem qmf {k n m:Nat} {X:Nat->Nat->Rat} {l:List Pt} {E i:Nat} (I:many E (chans l)<=m):sqq (mdq k n m X) l E i=msR 3 (many E (chans l)) X (fun q=>labq l q i) (fun _=>1) (tqf l E i):=by
 unfold sqq msR;refine qbS fun q F=>?_
 have:(sumQ (many E (chans l)) fun j=>lval ((mdq k n m X).row q) j*tqf l E i j)=sumQ (many E (chans l)) fun j=>X q j*tqf l E i j:=by
  rw [qfi F];exact qbS fun j H=>by rw [qcG (by omega)]
 have G:resR (many E (chans l)) (fun q=>lval ((mdq k n m X).row q)) (fun q=>labq l q i) (tqf l E i) q=resR (many E (chans l)) X (fun q=>labq l q i) (tqf l E i) q:=by
  unfold resR;rw [this]
 rw [G]
theorem name_one {c:UInt8} (h:qcZ c=true):qjl ⟨#[c]⟩:=⟨qaf 1,show 1<=12 by decide,fun k E=>by
 have E:k<1:=E;obtain rfl:k=0:=by omega
 exact h⟩
theorem vals_one {z:Int} (h:0<=z/\z<=10000):qet [z]:=fun k E=>by
 have E:k<1:=E;obtain rfl:k=0:=by omega
 exact h
def KFit (l:List Pt) (k:Nat) (K:List Nat) (X:Nat->Nat->Rat):Prop:=¬Sing (many k (chans l)) (nq l k (keepW K l.length) 0)/\∀c,c<3->FitX l k (keepW K l.length) c (X c)
def mdX (l:List Pt) (k:Nat) (X:Nat->Nat->Rat):Md:=mdq k (chans l) (many k (chans l)) X
def nextK (l:List Pt) (k keep:Nat) (m:Md):List Nat:=bestL (sqq m l k) l.length keep
def Runs (l:List Pt) (k keep:Nat):Nat->List Nat->(Nat->Nat->Rat)->Prop
 | 0,K,X=>K=List.range l.length/\KFit l k K X
 | p+1,K,X=>∃F E,Runs l k keep p F E/\K=nextK l k keep (mdX l k E)/\KFit l k K X
theorem KFit.same {l:List Pt} {k:Nat} {K:List Nat} {X Y:Nat->Nat->Rat} (h:KFit l k K X) (F:KFit l k K Y):mdX l k X=mdX l k Y :=
 qh5 fun c E=>qdm (qcv.uniq (fun G=>h.1 (qfj G)) (h.2 c E) (F.2 c E))
theorem Runs.fit {l:List Pt} {k keep:Nat}:∀{p:Nat} {K:List Nat} {X:Nat->Nat->Rat},Runs l k keep p K X->KFit l k K X
 | 0,_,_,h=>h.2
 | _+1,_,_,⟨_,_,_,_,h⟩=>h
theorem Runs.uniq {l:List Pt} {k keep:Nat}:∀{p:Nat} {K G:List Nat} {X Y:Nat->Nat->Rat},Runs l k keep p K X->Runs l k keep p G Y->K=G/\mdX l k X=mdX l k Y
 | 0,_,_,_,_,⟨e,h⟩,⟨e',E⟩=>by
  subst e e';exact⟨rfl,h.same E⟩
 | _+1,_,_,_,_,⟨_,_,H,e,h⟩,⟨_,_,F,e',E⟩=>by
  obtain⟨_,e0⟩:=Runs.uniq H F;rw [e0,<-e'] at e;subst e;exact⟨rfl,h.same E⟩
theorem Runs.stay {l:List Pt} {k keep p:Nat} {K:List Nat} {X:Nat->Nat->Rat} (h:Runs l k keep p K X) (e:nextK l k keep (mdX l k X)=K):∀j,Runs l k keep (p+j) K X
 | 0=>h
 | j+1=>⟨K,X,Runs.stay h e j,e.symm,h.fit⟩
def RunF (l:List Pt) (k keep E:Nat) (c:Int):Prop :=
 FitF l (k:Int) (keepW (List.range l.length) l.length) c \/
 ∃p K X,p<E/\Runs l k keep p K X/\(SqF (mdX l k X) l c\/FitF l (k:Int) (keepW (nextK l k keep (mdX l k X)) l.length) c)
def RunG (l:List Pt) (k keep E:Nat) (K:List Nat) (m:Md):Prop:=∃X,Runs l k keep E K X/\m=mdX l k X/\∀c,c<3->qbQ (many k (chans l)) (X c)
open Go.Proofs.Tryz
def SameAs (w:World) (l l2:List FT) (e:Ending) (E:World):Prop:=∃ok,e=.returned (.bool ok)/\(ok=true↔l=l2)/\Below w.heap.size w E
theorem qml {l l2:List FT} {k:Nat} (E:k<l.length) (F:k<l2.length) (h:l.take k=l2.take k) (e:l.getD k fd0=l2.getD k fd0):l.take (k+1)=l2.take (k+1):=by
 rw [List.take_add_one,List.take_add_one,h]
 congr 1
 rw [qab,qab,qad E,qad F] at e;rw [qad E,qad F];exact congrArg (fun x=>(some x).toList) e
theorem qjG {a b:ByteArray} (h:a≠b):¬a.toList=b.toList:=by
 rw [ByteArray.toList_eq,ByteArray.toList_eq];intro e;apply h;obtain⟨⟨x⟩⟩:=a;obtain⟨⟨y⟩⟩:=b;cases e;rfl
theorem qld {l l2:List FT} {k:Nat} (h:l.getD k fd0≠l2.getD k fd0):¬l=l2:=fun e=>h (by rw [e])
theorem qjR (ao:Option Addr) (b off n c:Nat) (l:List FT) (Y:Option Addr) (b2 ae m c2:Nat) (l2:List FT) (w:World) (hn:l.length=n) (aj:n<=1000000) (hc:FCells w ao b off l) (hm:l2.length=m) (ah:m<=1000000) (aa:FCells w Y b2 ae l2) :
  Calls prog 35 #[.slice ao n c,.slice Y m c2] w fun e w'=>SameAs w l l2 e w':=by
 have E:=qH (qA hc (qA hn (qA aa hm)));clear hc aa
 by_cases hne:n=m
 ·subst hne;clear hn hm ah;go_enter func35,ntmps35;go_wp2_with fail
  go_loopw [5] (fun x5 W=>∃k:Nat,x5=.int .i64 k/\k<=n/\Hu (l.take k=l2.take k)/\Hu (Below w.heap.size w W)) (fun x5 _=>n-(intOf x5).toNat)
  case atStart=>exact⟨0,rfl,qan _,qH rfl,qH qB⟩
  case round =>
   obtain⟨k,rfl,hk,hI,U⟩:=hrel
   by_cases F:k<n
   ·have ai:(k:Int)<n:=by omega
    have ag:=E.o.1.addr (by rw [E.o.2.1];omega);subst ag;have af:=E.o.2.2.1.addr (by rw [E.o.2.2.2];omega);subst af;obtain⟨h1,h2⟩:=(E.o.1.below U.o).cell k (by rw [E.o.2.1];exact F);obtain⟨h3,h4⟩:=(E.o.2.2.1.below U.o).cell k (by rw [E.o.2.2.2];exact F);obtain⟨x1,G⟩:=qX ((l.getD k fd0).1);obtain⟨x2,H⟩:=qX ((l.getD k fd0).2);obtain⟨y1,I⟩:=qX ((l2.getD k fd0).1);obtain⟨y2,J⟩:=qX ((l2.getD k fd0).2);rw [G] at h1;rw [H] at h2;rw [I] at h3;rw [J] at h4;have O:Hu (l.getD k fd0=(x1,x2)/\l2.getD k fd0=(y1,y2)):=qH ⟨by rw [<-G,<-H],by rw [<-I,<-J]⟩;clear G H I J
    by_cases Z:x1=y1
    ·by_cases g2:x2=y2
     ·subst Z;subst g2;have HI:=qH (qml (by rw [E.o.2.1];exact F) (by rw [E.o.2.2.2];exact F) hI.o (O.o.1.trans O.o.2.symm));go_wp2_with fail
      go_quiet (fail)
      go_wp2;go_roundw
      case rel=>exact⟨k+1,by go_num,F,HI,qH (below_drewN U.o _)⟩
      case measure=>simp [intOf];omega
     ·subst Z;have V:=qH (qld (l:=l) (l2:=l2) (k:=k) (by rw [O.o.1,O.o.2];exact fun h=>g2 (congrArg Prod.snd h)));have g3:=qjG g2;clear g2;go_wp2_with fail
      go_quiet (fail)
      go_wp2;go_ret;exact⟨false,rfl,qe6 V.o,below_drewN U.o _⟩
    ·have V:=qH (qld (l:=l) (l2:=l2) (k:=k) (by rw [O.o.1,O.o.2];exact fun h=>Z (congrArg Prod.fst h)));have g3:=qjG Z;clear Z;go_wp2_with fail
     go_quiet (fail)
     go_wp2;go_ret;exact⟨false,rfl,qe6 V.o,below_drewN U.o _⟩
   ·obtain rfl:k=n:=by omega
    have hE:l=l2:=by have h:=hI.o;rwa [qal (by rw [E.o.2.1];exact qaf _),qal (by rw [E.o.2.2.2];exact qaf _)] at h
    have HE:=qH hE;clear hE;go_wp2;go_ret;exact⟨true,rfl,qji HE.o,U.o⟩
 ·have hb:((n:Int) != (m:Int))=true:=by rw [bne_iff_ne];omega
  have V:Hu (¬l=l2):=qH (fun h=>hne (by rw [<-hn,<-hm,h]));go_enter func35,ntmps35;go_wp2;go_ret;exact⟨false,rfl,qe6 V.o,Below.refl _ _⟩
theorem qiP (b1 G c b2 H d:Nat) (E F:List Int) (n m:Nat) (w:World) (Y:E.length=n) (U:F.length=m) (Z:n<=1000000) (V:m<=1000000) (J:NCells w (some ⟨b1,G,none⟩) b1 G E) (O:NCells w (some ⟨b2,H,none⟩) b2 H F) :
  Calls prog 15 #[.slice (some ⟨b1,G,none⟩) n c,.slice (some ⟨b2,H,none⟩) m d] w fun e I=>e=.returned (.bool (E == F))/\Below w.heap.size w I:=by
 subst Y U;refine (Tryz.slices_Equal_int b1 G E.length c b2 H F.length d E F w qN qN (by omega) (by omega) J.cell O.cell).mono ?_;rintro e I ⟨rfl,q,rfl⟩;rw [qba,qba];exact⟨rfl,below_drewN qB q⟩
theorem qb2 {P:Program} {H:Func} {p q r:Tmp} {F:TypeId} (h:H.results=#[.cell p F,.tmp q,.tmp r]) (E:Array Value) (w:World) (g:Nat) (t:TypeId) (cs:Array Value) (d:TypeDesc)
  (I:E.getD p undef=.pointer (some ⟨g,0,none⟩)) (hg:w.heap[g]? = some (.cells cs t (0,0)))
  (Y:P.underlying F=some d) (U:(match d with | .struct _ | .array _ _=>true | _=>false)=true) (n:Nat) (V:(P.info? F).map (·.size)=some n) (G:cs.size=n) (v2 v3:Value) (J:E.getD q undef=v2) (O:E.getD r undef=v3) :
  (results H E).run P w=.ok (.tuple #[.agg cs,v2,v3]) w:=by
 rw [Array.getD_eq_getD_getElem?] at I J O;simp only [results,h];simp [I,J,O,asAddr,run_loadVar_row w g t F cs (0,0) d hg Y U (by rw [G];exact V),Result.andThen]
theorem NatR.keep {W W':World} {B g n c F:Nat} {d:List Nat} (h:NatR W B g n c d) (H:W.grownBy W' (some F)) (hne:F<B):NatR W' B g n c d:=⟨h.len,by
 have E:=h.own;unfold IOwn at E ⊢;exact⟨E.1,E.2.imp id fun⟨g',cap,cur,e,G,hg,r⟩=>⟨g',cap,cur,e,G,(H.block g' (qG hg).1 fun e=>by have:=qag e;omega).trans hg,r⟩⟩⟩
theorem qiH {s E:Nat->Rat} {n m:Nat} (h:∀i,i<n->s i=E i):bestL s n m=bestL E n m:=by
 unfold bestL;have:qcJ s n=qcJ E n:=qfQ fun a F b G=>by rw [h a (qar.1 F),h b (qar.1 G)]
 rw [this]
theorem qgC.only {w:World} {x:Nat->Rat} {R k:Nat} {e:Ending} {F:World} (h:qgC w (told R x) (k:Int) e F) (J:qbQ R x) (U:R<=40) (Y:k<=R):Below w.heap.size w F /\
  ∃g,e=.returned (.tuple #[.slice (some ⟨g,0,none⟩) k k,.int .i64 0])/\NatR F w.heap.size g k k (bestL x R k):=by
 refine⟨h.1,?_⟩;have G:=qcQ J;have E:∀{z},ExIs (told R x) z->z=0:=by
  rintro z (⟨h,_⟩ | ⟨_,h,_⟩ | ⟨_,_,h⟩)
  ·rw [qbP] at h;omega
  ·exact absurd G h
  ·exact h
 rcases h.2 with ⟨z,O,he,_⟩ | ⟨_,I,_⟩ | ⟨_,g,j,V,_,he,hN⟩
 ·exact absurd (E he) O
 ·exact absurd ⟨by omega,by rw [qbP];omega⟩ I
 ·obtain rfl:j=k:=by omega
  refine⟨g,he,?_⟩;rw [qbP] at hN;have:bestL (lval (told R x)) R j=bestL x R j:=qiH fun i H=>qcG H
  rwa [this] at hN
theorem FitF.ne {l:List Pt} {kind:Int} {E:List Int} {c:Int} (h:FitF l kind E c):c≠0:=by
 rcases h with ⟨_,rfl⟩ | ⟨_,_,rfl⟩ | ⟨_,_,_,k,_,⟨_,_,rfl⟩ | ⟨_,⟨_,rfl⟩ | ⟨_,c',x,_,_,_,rfl⟩⟩⟩ <;> decide
theorem SqF.ne {m:Md} {l:List Pt} {c:Int} (h:SqF m l c):c≠0:=by
 rcases h with ⟨_,rfl⟩ | ⟨_,_,rfl⟩ | ⟨_,_,_,rfl⟩ | ⟨_,rfl,_⟩ <;> decide
theorem FitG.kfit {l:List Pt} {k:Nat} {K:List Nat} {W:World} {v:Value} (h:FitG l (k:Int) (keepW K l.length) W v):many k (chans l)<=10/\∃X,KFit l k K X/\(∀c,c<3->qbQ (many k (chans l)) (X c))/\MdAt W v (mdX l k X):=by
 obtain⟨G,_,_,k',E,I,O,x,H,J⟩:=h;obtain rfl:k'=k:=by have:=E.1;omega
 exact⟨(qi0 E G.n1 G.n4 I).2,x,⟨O,fun c F=>(H c F).1⟩,fun c F=>(H c F).2,J⟩
theorem MdAt.five {W:World} {v:Value} {m:Md} (h:MdAt W v m):∃(Y i5:Int) (E F G:Option Addr) (O H U I V J:Nat),v=.agg #[.int .i64 Y,.int .i64 i5,.slice E O H,.slice F U I,.slice G V J]:=by
 obtain⟨a0,a1,a2,b0,o0,c0,b1,o1,c1,b2,o2,c2,rfl,_⟩:=h;exact⟨_,_,_,_,_,_,_,_,_,_,_,rfl⟩
def RunAs (w:World) (l:List Pt) (k keep E:Nat) (e:Ending) (F:World):Prop:=Below w.heap.size w F /\
  ((∃c,c≠0/\e=.returned (.tuple #[mdv0,.slice none 0 0,.int .i64 c])/\RunF l k keep E c) \/
   ∃(v:Value) (g:Nat) (K:List Nat) (m:Md),e=.returned (.tuple #[v,.slice (some ⟨g,0,none⟩) K.length K.length,.int .i64 0])/\NatR F w.heap.size g K.length K.length K/\MdAt F v m/\RunG l k keep E K m)
abbrev RunK (w:World) (row:Array Value) (l:List Pt) (Z g n B:Nat) (K:List Nat) (X:Nat->Nat->Rat) (Y i5:Int) (E F G:Option Addr) (O H U I V J:Nat) (W:World):Prop :=
 ((Below w.heap.size w W/\W.heap[w.heap.size]? = some (.cells row 116 (0,0)))/\W.heap[w.heap.size+1]? = some (.cells #[.int .i64 Y,.int .i64 i5,.slice E O H,.slice F U I,.slice G V J] 46 (0,0)))/\NatR W B g n n K/\MdAt W (.agg #[.int .i64 Y,.int .i64 i5,.slice E O H,.slice F U I,.slice G V J]) (mdX l Z X)
def RunL (w:World) (row:Array Value) (l:List Pt) (E keep p g n B:Nat) (W:World):Prop :=
 ∃K X Z i5 F G H U I V J Y O,(Runs l E keep p K X/\(∀c,c<3->qbQ (many E (chans l)) (X c))/\K.length=n)/\RunK w row l E g n B K X Z i5 F G H U I V J Y O W
instance stays_runk {w:World} {row:Array Value} {l:List Pt} {kk g n B:Nat} {K:List Nat} {X:Nat->Nat->Rat} {k5 i5:Int} {F G H:Option Addr} {U I V J Y O:Nat}:Stays fun W=>RunK w row l kk g n B K X k5 i5 F G H U I V J Y O W :=
 ⟨fun⟨⟨⟨E,Z⟩,h3⟩,h4,h5⟩ hb=>⟨⟨⟨E.trans (hb.mono E.size),zkeep hb _ _ Z⟩,zkeep hb _ _ h3⟩,h4.below hb,h5.below hb⟩⟩
theorem NatR.all {W:World} {B g n c:Nat} {d:List Nat} (h:NatR W B g n c d):NCells W (some ⟨g,0,none⟩) g 0 (natI d):=by
 have E:=h.cells (qaf n)
 rwa [qal (by rw [h.len];exact qaf _)] at E
theorem natI_inj {a b:List Nat} (h:natI a=natI b):a=b:=by
 have:=congrArg (List.map Int.toNat) h
 simpa [natI,List.map_map,Function.comp_def] using this
theorem RunK.store {w:World} {row:Array Value} {l:List Pt} {kk g n B:Nat} {K:List Nat} {X:Nat->Nat->Rat} {Y i5 j5 h5:Int} {E F G:Option Addr} {O H U I V J:Nat} {D0 D1 D2:Option Addr} {M0 E0 M1 E1 M2 E2:Nat} {W:World}
  (hb:Below w.heap.size w W) (h0:W.heap[w.heap.size]? = some (.cells row 116 (0,0))) (Z:W.heap[w.heap.size+1]? = some (.cells #[.int .i64 j5,.int .i64 h5,.slice D0 M0 E0,.slice D1 M1 E1,.slice D2 M2 E2] 46 (0,0))) (hN:NatR W B g n n K) (hB:w.heap.size+1<B)
  (hM:MdAt W (.agg #[.int .i64 Y,.int .i64 i5,.slice E O H,.slice F U I,.slice G V J]) (mdX l kk X)):RunK w row l kk g n B K X Y i5 E F G O H U I V J (W.setRow (w.heap.size+1) #[.int .i64 Y,.int .i64 i5,.slice E O H,.slice F U I,.slice G V J]) :=
 ⟨⟨⟨qS hb (qa7 _) _,(setRow_other _ _ _ _ (by omega)).trans h0⟩,qT _ _ _ _ _ _ Z⟩,hN.keep (qb1 _ _ _) hB,hM.keepB (qb1 _ _ _) Z (qjq _ _ _ _ _ _ _ _ _ _ _)⟩
theorem run_any (R b off c H keep E:Nat) (Y:Option Addr) (l:List Pt) (w:World) (hR:l.length=R) (bC:1<=R) (aO:R<20) (hk:1<=H/\H<=3) (af:1<=keep/\keep<=R) (bB:E<=100) (hs:∀k,k<R->(l.getD k pt0).name.size<=4611686018427387904/\(l.getD k pt0).dev.length<=4611686018427387904)
  (hP:PCells w Y b off l) (hT:HasT w) :
  Calls prog 56 #[.agg #[.slice Y R c,.int .i64 (H:Int),.int .i64 (keep:Int)],.int .i64 (E:Int)] w fun e w'=>RunAs w l H keep E e w':=by
 obtain⟨W1,aF,N1⟩:=nw2 w #[.slice Y R c,.int .i64 (H:Int),.int .i64 (keep:Int)] 116 #[.int .i64 0,.int .i64 0,.slice none 0 0,.slice none 0 0,.slice none 0 0] 46;have aZ:W1.heap.size=w.heap.size+1+1:=by rw [aF];simp
 have F:=qH (qA hP (qA hT (qA hR (qA hs (qA hk aZ)))));have bE:=@hmf_ prog;have bD:∀(a:Value) (W:World),(callFunc 104 #[.agg #[.slice Y R c,.int .i64 (H:Int)],a]).run prog W=.ok (.enter 104 #[.agg #[.slice Y R c,.int .i64 (H:Int)],a]) W:=fun a W=>enters func104 (by kernel_rfl) (by kernel_rfl) _ W
 have c0:=qC _ _ 0 _ _ _ N1.o.2.1;have c1:=qC _ _ 1 _ _ _ N1.o.2.1;clear hP hT hR hs hk aZ;go_enter func56,ntmps56;go_upto_region 1 with fail;rw [<-aF];clear aF;go_wp2_with fail
 go_step3
 go_wp2_with fail;refine (qjX R W1 (by omega)).mono ?_;rintro e w2 ⟨g2,rfl,aD,aS⟩;have K2:=(N1.below aS).also (q:=fun W=>NatR W W1.heap.size g2 R R (List.range R)) aD;have HF:=qH (qjD R b off c g2 0 R R (H:Int) Y (some ⟨g2,0,none⟩) l (List.range R) w2 F.o.2.2.1 (by omega) F.o.2.2.2.1 qbo (by omega) (fun x hx=>by have:=qar.1 hx;omega) (F.o.1.below K2.o.1.1) (by
  have h:=aD.cells (m:=R) qN
  rwa [qal (by simp)] at h) (F.o.2.1.below K2.o.1.1))
 clear aS aD c0 c1 N1;go_wp2_with fail;refine HF.o.mono ?_;intro e w3 hA;have K3:=K2.below hA.1;have Z:=K3.o.1.2.2;have HA:=qH hA;have aK:=qH (show w.heap.size<W1.heap.size by rw [F.o.2.2.2.2.2];omega);clear HF K2 hA;rcases HA.o.2 with ⟨v,rfl,hG⟩ | ⟨cc,rfl,hf⟩
 case inr =>
  have V:(cc == (0:Int))=false:=beq_false_of_ne hf.ne;have bn:(cc != (0:Int))=true:=by rw [bne,V];rfl
  have I:=qH hf;clear hf;unfold mdv0;have bg:=qT _ _ _ #[.int .i64 0,.int .i64 0,.slice none 0 0,.slice none 0 0,.slice none 0 0] _ _ Z
  go_wp2_with (first | (with_reducible refine sR_ rfl 46 _ _ rfl (w.heap.size+1) #[.int .i64 0,.int .i64 0,.slice none 0 0,.slice none 0 0,.slice none 0 0] Z 5 ?_) | (with_reducible refine sR_ rfl 46 _ _ rfl (w.heap.size+1) #[.int .i64 0,.int .i64 0,.slice none 0 0,.slice none 0 0,.slice none 0 0] bg 5 ?_) | fail)
  refine qR (v:=.tuple #[.agg #[.int .i64 0,.int .i64 0,.slice none 0 0,.slice none 0 0,.slice none 0 0],.slice none 0 0,.int .i64 cc]) (qb2 rfl _ _ (w.heap.size+1) 46 _ _ rfl (qT _ _ _ _ _ _ bg) underlying46 rfl 5 (by kernel_rfl) rfl _ _ rfl rfl) rfl ?_;exact⟨qS (qS K3.o.1.1 (qa7 _) _) (qa7 _) _,.inl ⟨cc,I.o.ne,rfl,.inl (by rw [F.o.2.2.1];exact I.o)⟩⟩
 have ae:FitG l (H:Int) (keepW (List.range R) l.length) w3 v:=by rw [F.o.2.2.1];exact hG
 obtain⟨ax,X0,ag,ah,hM⟩:=ae.kfit;obtain⟨k5,i5,A0,A1,A2,L0,C0,L1,C1,L2,C2,rfl⟩:=hM.five;have KK:=qH (RunK.store K3.o.1.1 K3.o.1.2.1 Z K3.o.2 (by rw [F.o.2.2.2.2.2];omega) hM);have aj:Hu (Runs l H keep 0 (List.range R) X0/\(∀c,c<3->qbQ (many H (chans l)) (X0 c))/\many H (chans l)<=10):=qH ⟨⟨by rw [F.o.2.2.1],ag⟩,ah,ax⟩;have V:((0:Int) != 0)=false:=rfl;clear hG ae ag ah hM ax
 go_wp2_with (first | (with_reducible refine sR_ rfl 46 _ _ rfl (w.heap.size+1) #[.int .i64 k5,.int .i64 i5,.slice A0 L0 C0,.slice A1 L1 C1,.slice A2 L2 C2] Z 5 ?_) | fail)
 have bv:Hu (RunL w #[.slice Y R c,.int .i64 (H:Int),.int .i64 (keep:Int)] l H keep 0 g2 R W1.heap.size (w3.setRow (w.heap.size+1) #[.int .i64 k5,.int .i64 i5,.slice A0 L0 C0,.slice A1 L1 C1,.slice A2 L2 C2])):=qH ⟨_,X0,_,_,_,_,_,_,_,_,_,_,_,⟨aj.o.1,aj.o.2.1,qbo⟩,KK.o⟩;have aM:=qH aj.o.2.2;clear Z KK aj HA K3
 go_step3
 go_wp2_with fail
 go_loopw [5,30] (fun x5 x30 W=>∃p:Nat,x30=.int .i64 (p:Int)/\p<=E/\∃g n:Nat,x5=.slice (some ⟨g,0,none⟩) n n/\n<=R/\Hu (RunL w #[.slice Y R c,.int .i64 (H:Int),.int .i64 (keep:Int)] l H keep p g n W1.heap.size W)) (fun _ x30 _=>E-(intOf x30).toNat)
 case atStart=>exact⟨0,rfl,qan _,g2,R,rfl,qaf _,qH bv.o⟩
 case round =>
  obtain⟨p,rfl,hp,g,n,rfl,bF,hI⟩:=hrel;obtain⟨K,X,k5,i5,A0,A1,A2,L0,C0,L1,C1,L2,C2,aP,aC⟩:=hI.o;have KW:Kn (RunK w #[.slice Y R c,.int .i64 (H:Int),.int .i64 (keep:Int)] l H g n W1.heap.size K X k5 i5 A0 A1 A2 L0 C0 L1 C1 L2 C2) wr:=.of aC;have G:=qH aP;have Z:=aC.1.2;clear hI aP aC
  by_cases aY:p<E
  case neg =>
   obtain rfl:p=E:=by omega
   have bA:¬(p:Int)<(p:Int):=by omega
   go_wp2_with (first | (with_reducible refine lW_ rfl 46 _ rfl (w.heap.size+1) #[.int .i64 k5,.int .i64 i5,.slice A0 L0 C0,.slice A1 L1 C1,.slice A2 L2 C2] Z underlying46 5 ?_) | (with_reducible refine sR_ rfl 46 _ _ rfl (w.heap.size+1) #[.int .i64 k5,.int .i64 i5,.slice A0 L0 C0,.slice A1 L1 C1,.slice A2 L2 C2] Z 5 ?_) | fail)
   refine qR (v:=.tuple #[.agg #[.int .i64 k5,.int .i64 i5,.slice A0 L0 C0,.slice A1 L1 C1,.slice A2 L2 C2],.slice (some ⟨g,0,none⟩) n n,.int .i64 0]) (qb2 rfl _ _ (w.heap.size+1) 46 _ _ rfl (qT _ _ _ _ _ _ Z) underlying46 rfl 5 (by kernel_rfl) rfl _ _ rfl rfl) rfl ?_;refine⟨qS KW.o.1.1.1 (qa7 _) _,.inr ⟨_,g,K,_,by rw [G.o.2.2],?_,KW.o.2.2.keepB (qb1 _ _ _) Z (qjq _ _ _ _ _ _ _ _ _ _ _),⟨X,G.o.1,rfl,G.o.2.1⟩⟩⟩;rw [G.o.2.2];exact (KW.o.2.1.keep (qb1 _ _ _) (by rw [F.o.2.2.2.2.2];omega)).mono (qap aK.o)
  have bA:(p:Int)<(E:Int):=by omega
  have c0:=qC _ _ 0 _ _ _ KW.o.1.1.2;have aW:∀q,q<3->((mdX l H X).row q).length<=4611686018427387904:=fun q hq=>by
   unfold mdX;rw [qfi hq,qbP];exact qak aM.o (by decide)
  have HQ:=qH (qgl (mdX l H X) _ R b off c Y l wr KW.o.2.2 F.o.2.2.1 (by omega) F.o.2.2.2.1 aW (F.o.1.below KW.o.1.1.1) (F.o.2.1.below KW.o.1.1.1));have aa:=qH aY;clear aW aY
  go_wp2_with (first | (with_reducible refine lW_ rfl 46 _ rfl (w.heap.size+1) #[.int .i64 k5,.int .i64 i5,.slice A0 L0 C0,.slice A1 L1 C1,.slice A2 L2 C2] Z underlying46 5 ?_) | fail)
  refine HQ.o.mono ?_;rintro e w4 ⟨aT,hq⟩;have K4:=KW.below aT;have au:=K4.o.1.2;clear aT Z c0 HQ;rcases hq with ⟨v4,rfl,hG⟩ | ⟨cc,rfl,hf⟩
  case inr =>
   have V:(cc == (0:Int))=false:=beq_false_of_ne hf.ne;have bn:(cc != (0:Int))=true:=by rw [bne,V];rfl
   have I:=qH hf;clear hf
   go_wp2_with (first | (with_reducible refine sR_ rfl 46 _ _ rfl (w.heap.size+1) #[.int .i64 0,.int .i64 0,.slice none 0 0,.slice none 0 0,.slice none 0 0] au 5 ?_) | fail)
   refine qR (v:=.tuple #[.agg #[.int .i64 0,.int .i64 0,.slice none 0 0,.slice none 0 0,.slice none 0 0],.slice none 0 0,.int .i64 cc]) (qb2 rfl _ _ (w.heap.size+1) 46 _ _ rfl (qT _ _ _ _ _ _ au) underlying46 rfl 5 (by kernel_rfl) rfl _ _ rfl rfl) rfl ?_;exact⟨qS K4.o.1.1.1 (qa7 _) _,.inl ⟨cc,I.o.ne,rfl,.inr ⟨p,K,X,aa.o,G.o.1,.inl I.o⟩⟩⟩
  obtain⟨_,k',aV,O,g4,rfl,ak⟩:=hG;obtain rfl:k'=H:=by have e:(H:Int)=(k':Int):=aV.kind.1;omega
  have bf:w.heap.size+1<w4.heap.size:=(qG au).1;obtain⟨sq,aI⟩:=qX (sqq (mdX l k' X) l k');rw [aI] at O ak;rw [F.o.2.2.1] at O ak ⊢;have aA:=qH (qA aI (qA O bf));have HB:=qH (qhd R g4 0 R (keep:Int) (some ⟨g4,0,none⟩) (told R sq) w4 (qbP _ _) (by omega) (fun _=>aO) ak);have c2:=qC _ _ 2 _ _ _ K4.o.1.1.2;clear aI O bf ak aV au;go_wp2_with fail;refine HB.o.mono ?_;intro e w5 aN;obtain⟨aU,g5,rfl,J⟩:=aN.only aA.o.2.1 (by omega) af.2;have K5:=K4.below aU;obtain⟨T,hT⟩:=qX (bestL sq R keep);rw [hT] at J;have J:NatR w5 W1.heap.size g5 keep keep T:=J.mono (by rw [F.o.2.2.2.2.2];have:=aA.o.2.2;omega);obtain⟨bq,aH⟩:=qX (natI T == natI K);have ay:=qiP g5 0 keep g 0 n (natI T) (natI K) keep n w5 (by rw [qcT];exact J.len) (by rw [qcT];exact K5.o.2.1.len) (by omega) (by omega) J.all K5.o.2.1.all;rw [aH] at ay;have HE:=qH ay;have U:=qH (qA hT (qA aH J));clear aU aN J hT aH ay c2 HB;go_wp2_with fail;refine HE.o.mono ?_;rintro e w6 ⟨rfl,aG⟩;have K6:=(K5.below aG).also (q:=fun W=>NatR W W1.heap.size g5 keep keep T) (U.o.2.2.below aG);have ai:=K6.o.1.1.2;have aX:nextK l k' keep (mdX l k' X)=T:=by unfold nextK;rw [aA.o.1,F.o.2.2.1];exact U.o.1
  have az:=qH aX;clear aG HE aX;cases bq
  case true =>
   have aQ:T=K:=natI_inj (eq_of_beq U.o.2.1);have aJ:=Runs.stay G.o.1 (az.o.trans aQ) (E-p);rw [show p+(E-p)=E by have:=aa.o;omega] at aJ;have bz:=qH aJ;clear aQ aJ
   go_wp2_with (first | (with_reducible refine lW_ rfl 46 _ rfl (w.heap.size+1) #[.int .i64 k5,.int .i64 i5,.slice A0 L0 C0,.slice A1 L1 C1,.slice A2 L2 C2] ai underlying46 5 ?_) | (with_reducible refine sR_ rfl 46 _ _ rfl (w.heap.size+1) #[.int .i64 k5,.int .i64 i5,.slice A0 L0 C0,.slice A1 L1 C1,.slice A2 L2 C2] ai 5 ?_) | fail)
   refine qR (v:=.tuple #[.agg #[.int .i64 k5,.int .i64 i5,.slice A0 L0 C0,.slice A1 L1 C1,.slice A2 L2 C2],.slice (some ⟨g,0,none⟩) n n,.int .i64 0]) (qb2 rfl _ _ (w.heap.size+1) 46 _ _ rfl (qT _ _ _ _ _ _ ai) underlying46 rfl 5 (by kernel_rfl) rfl _ _ rfl rfl) rfl ?_;refine⟨qS K6.o.1.1.1.1 (qa7 _) _,.inr ⟨_,g,K,_,by rw [G.o.2.2],?_,K6.o.1.2.2.keepB (qb1 _ _ _) ai (qjq _ _ _ _ _ _ _ _ _ _ _),⟨X,bz.o,rfl,G.o.2.1⟩⟩⟩;rw [G.o.2.2];exact (K6.o.1.2.1.keep (qb1 _ _ _) (by rw [F.o.2.2.2.2.2];omega)).mono (qap aK.o)
  case false =>
   have aR:T.length=keep:=U.o.2.2.len;have aL:=qH (qjD R b off c g5 0 keep keep (k':Int) Y (some ⟨g5,0,none⟩) l T w6 F.o.2.2.1 (by omega) F.o.2.2.2.1 aR (by omega) (fun x hx=>by
    rw [<-U.o.1] at hx;have:=qjo x hx;omega) (F.o.1.below K6.o.1.1.1.1) K6.o.2.all (F.o.2.1.below K6.o.1.1.1.1))
   clear aR ai;go_wp2_with fail;refine aL.o.mono ?_;intro e w7 aB;have K7:=K6.below aB.1;have av:=K7.o.1.1.2;have bu:=qH aB;clear aL aB;rcases bu.o.2 with ⟨v,rfl,hG⟩ | ⟨cc,rfl,hf⟩
   case inr =>
    have V:(cc == (0:Int))=false:=beq_false_of_ne hf.ne;have bn:(cc != (0:Int))=true:=by rw [bne,V];rfl
    have I:=qH hf;clear hf;unfold mdv0;have bi:=qT _ _ _ #[.int .i64 0,.int .i64 0,.slice none 0 0,.slice none 0 0,.slice none 0 0] _ _ av
    go_wp2_with (first | (with_reducible refine sR_ rfl 46 _ _ rfl (w.heap.size+1) #[.int .i64 0,.int .i64 0,.slice none 0 0,.slice none 0 0,.slice none 0 0] av 5 ?_) | (with_reducible refine sR_ rfl 46 _ _ rfl (w.heap.size+1) #[.int .i64 0,.int .i64 0,.slice none 0 0,.slice none 0 0,.slice none 0 0] bi 5 ?_) | fail)
    refine qR (v:=.tuple #[.agg #[.int .i64 0,.int .i64 0,.slice none 0 0,.slice none 0 0,.slice none 0 0],.slice none 0 0,.int .i64 cc]) (qb2 rfl _ _ (w.heap.size+1) 46 _ _ rfl (qT _ _ _ _ _ _ bi) underlying46 rfl 5 (by kernel_rfl) rfl _ _ rfl rfl) rfl ?_;exact⟨qS (qS K7.o.1.1.1.1 (qa7 _) _) (qa7 _) _,.inl ⟨cc,I.o.ne,rfl,.inr ⟨p,K,X,aa.o,G.o.1,.inr (by rw [az.o,F.o.2.2.1];exact I.o)⟩⟩⟩
   have ae:FitG l (k':Int) (keepW T l.length) w7 v:=by rw [F.o.2.2.1];exact hG
   obtain⟨_,X0,ag,ah,hM⟩:=ae.kfit;obtain⟨j5,h5,D0,D1,D2,M0,E0,M1,E1,M2,E2,rfl⟩:=hM.five;have HL:Hu (RunL w #[.slice Y R c,.int .i64 (k':Int),.int .i64 (keep:Int)] l k' keep (p+1) g5 keep W1.heap.size (w7.setRow (w.heap.size+1) #[.int .i64 j5,.int .i64 h5,.slice D0 M0 E0,.slice D1 M1 E1,.slice D2 M2 E2])):=qH ⟨T,X0,_,_,_,_,_,_,_,_,_,_,_,⟨⟨K,X,G.o.1,az.o.symm,ag⟩,ah,U.o.2.2.len⟩,RunK.store K7.o.1.1.1.1 K7.o.1.1.1.2 av K7.o.2 (by rw [F.o.2.2.2.2.2];omega) hM⟩;clear hG ae ag ah hM
   go_wp2_with (first | (with_reducible refine sR_ rfl 46 _ _ rfl (w.heap.size+1) #[.int .i64 j5,.int .i64 h5,.slice D0 M0 E0,.slice D1 M1 E1,.slice D2 M2 E2] av 5 ?_) | fail)
   go_roundw
   case rel=>exact⟨p+1,by go_num,aa.o,g5,keep,rfl,af.2,HL⟩
   case measure=>have:=aa.o;simp [intOf];omega
def qc9 (kind drop E:Int) (k d p:Nat):Prop:=kind=(k:Int)/\(1<=k/\k<=3)/\drop=(d:Int)/\d<=50/\E=(p:Int)/\p<=8
def keepN (n d:Nat):Nat:=n-n*d / 100
theorem keepN_le {n d:Nat} (H:1<=n) (F:d<=50):1<=keepN n d/\keepN n d<=n:=by
 unfold keepN;have E:n*d<=n*50:=qaM n F;obtain⟨m,G⟩:=qX (n*d);rw [G] at E ⊢;omega
def RFAs (w:World) (l:List Pt) (kind drop E:Int) (e:Ending) (F:World):Prop:=Below w.heap.size w F /\
  ((¬PtsOk l/\e=.returned (.tuple #[mdv0,.slice none 0 0,.int .i64 310]))\/(PtsOk l/\(¬∃k d p,qc9 kind drop E k d p)/\e=.returned (.tuple #[mdv0,.slice none 0 0,.int .i64 2])) \/
   (PtsOk l/\∃k d p,qc9 kind drop E k d p/\RunAs w l k (keepN l.length d) p e F))
theorem qge (R b off c:Nat) (kind drop E:Int) (ao:Option Addr) (l:List Pt) (w:World) (hR:l.length=R) (hl:R<=4611686018427387904) (ag:PtsOk l->R<20) (hs:∀k,k<R->(l.getD k pt0).name.size<=4611686018427387904/\(l.getD k pt0).dev.length<=4611686018427387904)
  (hP:PCells w ao b off l) (hT:HasT w) :
  Calls prog 22 #[.slice ao R c,.int .i64 kind,.int .i64 drop,.int .i64 E] w fun e w'=>RFAs w l kind drop E e w':=by
 obtain⟨W1,ai,N1⟩:=nw1 w #[.int .i64 0,.int .i64 0,.slice none 0 0,.slice none 0 0,.slice none 0 0] 46;have HC:=qH (qfk ao b off R c l W1 hR hl hs (hP.below N1.o.1));have Y:=qH (qA hP (qA hT (qA hR (qA hs ag))));clear hP hT hR hs ag;go_enter func22,ntmps22;go_upto_region 1 with fail;rw [<-ai];clear ai;go_wp2_with fail;refine HC.o.mono ?_;rintro e w2 ⟨z,rfl,hz,aj⟩;have I:=N1.below aj;have F:=I.o.2;clear aj HC N1;rcases hz with ⟨rfl,V⟩ | ⟨rfl,ay⟩
 case inr =>
  have H:=qH ay;clear ay
  go_wp2_with (first | (with_reducible refine sR_ rfl 46 _ _ rfl (w.heap.size) #[.int .i64 0,.int .i64 0,.slice none 0 0,.slice none 0 0,.slice none 0 0] F 5 ?_) | fail)
  refine qR (v:=.tuple #[.agg #[.int .i64 0,.int .i64 0,.slice none 0 0,.slice none 0 0,.slice none 0 0],.slice none 0 0,.int .i64 310]) (qb2 rfl _ _ w.heap.size 46 _ _ rfl (qT _ _ _ _ _ _ F) underlying46 rfl 5 (by kernel_rfl) rfl _ _ rfl rfl) rfl ?_;exact⟨qS I.o.1 qN _,.inl ⟨H.o,rfl⟩⟩
 have G:=qH V;have hr:=V.r1;rw [Y.o.2.2.1] at hr;have ah:=Y.o.2.2.2.2 V;clear V
 by_cases aF:kind<1
 ·have H:Hu (¬∃k d p,qc9 kind drop E k d p):=qH fun⟨k,d,p,h⟩=>by have:=h.1;have:=h.2.1;omega
  go_wp2_with (first | (with_reducible refine sR_ rfl 46 _ _ rfl (w.heap.size) #[.int .i64 0,.int .i64 0,.slice none 0 0,.slice none 0 0,.slice none 0 0] F 5 ?_) | fail)
  refine qR (v:=.tuple #[.agg #[.int .i64 0,.int .i64 0,.slice none 0 0,.slice none 0 0,.slice none 0 0],.slice none 0 0,.int .i64 2]) (qb2 rfl _ _ w.heap.size 46 _ _ rfl (qT _ _ _ _ _ _ F) underlying46 rfl 5 (by kernel_rfl) rfl _ _ rfl rfl) rfl ?_;exact⟨qS I.o.1 qN _,.inr (.inl ⟨G.o,H.o,rfl⟩)⟩
 by_cases aG:kind > 3
 ·have H:Hu (¬∃k d p,qc9 kind drop E k d p):=qH fun⟨k,d,p,h⟩=>by have:=h.1;have:=h.2.1;omega
  go_wp2_with (first | (with_reducible refine sR_ rfl 46 _ _ rfl (w.heap.size) #[.int .i64 0,.int .i64 0,.slice none 0 0,.slice none 0 0,.slice none 0 0] F 5 ?_) | fail)
  refine qR (v:=.tuple #[.agg #[.int .i64 0,.int .i64 0,.slice none 0 0,.slice none 0 0,.slice none 0 0],.slice none 0 0,.int .i64 2]) (qb2 rfl _ _ w.heap.size 46 _ _ rfl (qT _ _ _ _ _ _ F) underlying46 rfl 5 (by kernel_rfl) rfl _ _ rfl rfl) rfl ?_;exact⟨qS I.o.1 qN _,.inr (.inl ⟨G.o,H.o,rfl⟩)⟩
 by_cases aC:drop<0
 ·have H:Hu (¬∃k d p,qc9 kind drop E k d p):=qH fun⟨k,d,p,h⟩=>by have:=h.2.2.1;omega
  go_wp2_with (first | (with_reducible refine sR_ rfl 46 _ _ rfl (w.heap.size) #[.int .i64 0,.int .i64 0,.slice none 0 0,.slice none 0 0,.slice none 0 0] F 5 ?_) | fail)
  refine qR (v:=.tuple #[.agg #[.int .i64 0,.int .i64 0,.slice none 0 0,.slice none 0 0,.slice none 0 0],.slice none 0 0,.int .i64 2]) (qb2 rfl _ _ w.heap.size 46 _ _ rfl (qT _ _ _ _ _ _ F) underlying46 rfl 5 (by kernel_rfl) rfl _ _ rfl rfl) rfl ?_;exact⟨qS I.o.1 qN _,.inr (.inl ⟨G.o,H.o,rfl⟩)⟩
 by_cases aD:drop > 50
 ·have H:Hu (¬∃k d p,qc9 kind drop E k d p):=qH fun⟨k,d,p,h⟩=>by have:=h.2.2.1;have:=h.2.2.2.1;omega
  go_wp2_with (first | (with_reducible refine sR_ rfl 46 _ _ rfl (w.heap.size) #[.int .i64 0,.int .i64 0,.slice none 0 0,.slice none 0 0,.slice none 0 0] F 5 ?_) | fail)
  refine qR (v:=.tuple #[.agg #[.int .i64 0,.int .i64 0,.slice none 0 0,.slice none 0 0,.slice none 0 0],.slice none 0 0,.int .i64 2]) (qb2 rfl _ _ w.heap.size 46 _ _ rfl (qT _ _ _ _ _ _ F) underlying46 rfl 5 (by kernel_rfl) rfl _ _ rfl rfl) rfl ?_;exact⟨qS I.o.1 qN _,.inr (.inl ⟨G.o,H.o,rfl⟩)⟩
 by_cases aI:E<0
 ·have H:Hu (¬∃k d p,qc9 kind drop E k d p):=qH fun⟨k,d,p,h⟩=>by have:=h.2.2.2.2.1;omega
  go_wp2_with (first | (with_reducible refine sR_ rfl 46 _ _ rfl (w.heap.size) #[.int .i64 0,.int .i64 0,.slice none 0 0,.slice none 0 0,.slice none 0 0] F 5 ?_) | fail)
  refine qR (v:=.tuple #[.agg #[.int .i64 0,.int .i64 0,.slice none 0 0,.slice none 0 0,.slice none 0 0],.slice none 0 0,.int .i64 2]) (qb2 rfl _ _ w.heap.size 46 _ _ rfl (qT _ _ _ _ _ _ F) underlying46 rfl 5 (by kernel_rfl) rfl _ _ rfl rfl) rfl ?_;exact⟨qS I.o.1 qN _,.inr (.inl ⟨G.o,H.o,rfl⟩)⟩
 by_cases aJ:E > 8
 ·have H:Hu (¬∃k d p,qc9 kind drop E k d p):=qH fun⟨k,d,p,h⟩=>by have:=h.2.2.2.2.1;have:=h.2.2.2.2.2;omega
  go_wp2_with (first | (with_reducible refine sR_ rfl 46 _ _ rfl (w.heap.size) #[.int .i64 0,.int .i64 0,.slice none 0 0,.slice none 0 0,.slice none 0 0] F 5 ?_) | fail)
  refine qR (v:=.tuple #[.agg #[.int .i64 0,.int .i64 0,.slice none 0 0,.slice none 0 0,.slice none 0 0],.slice none 0 0,.int .i64 2]) (qb2 rfl _ _ w.heap.size 46 _ _ rfl (qT _ _ _ _ _ _ F) underlying46 rfl 5 (by kernel_rfl) rfl _ _ rfl rfl) rfl ?_;exact⟨qS I.o.1 qN _,.inr (.inl ⟨G.o,H.o,rfl⟩)⟩
 obtain⟨k,rfl⟩:∃k:Nat,kind=(k:Int):=⟨kind.toNat,by omega⟩;obtain⟨d,rfl⟩:∃d:Nat,drop=(d:Int):=⟨drop.toNat,by omega⟩;obtain⟨p,rfl⟩:∃p:Nat,E=(p:Int):=⟨E.toNat,by omega⟩;have HA:Hu (qc9 (k:Int) (d:Int) (p:Int) k d p):=qH ⟨rfl,by omega,rfl,by omega,rfl,by omega⟩;have aB:R*d<=R*50:=qaM R (by omega);obtain⟨m,hm⟩:=qX (R*d);have aA:(R:Int)*(d:Int)=(m:Int):=by rw [<-hm];exact (Int.natCast_mul R d).symm
 have aH:m<=1000:=by omega
 have aK:IntKind.i64.wrap ((R:Int)*(d:Int))=(m:Int):=by rw [aA,IntKind.wrap_i64];omega
 have av:keepN R d=R-m / 100:=by unfold keepN;rw [hm]
 have az:(R:Int)-(m:Int) / 100=((keepN R d:Nat):Int):=by rw [av];omega
 obtain⟨kp,U⟩:=qX (keepN R d);rw [U] at az;have au:1<=kp/\kp<=R:=by rw [<-U];exact keepN_le hr (by omega)
 have af:=qH (run_any R b off c k kp p ao l w2 Y.o.2.2.1 hr ah HA.o.2.1 au (by have:=HA.o.2.2.2.2.2;omega) Y.o.2.2.2.1 (Y.o.1.below I.o.1) (Y.o.2.1.below I.o.1));have ae:=qH U;clear av hm U au;go_wp2_with fail;refine af.o.mono ?_;rintro e w3 ⟨Z,h⟩;have K3:=I.below Z;have O:=K3.o.2;have ax:w.heap.size<w2.heap.size:=(qG F).1;have aa:=qH (qA Z ax);clear F af Z ax;rcases h with ⟨cc,ak,rfl,hf⟩ | ⟨v,g,K,md,rfl,hN,hM,hG⟩
 ·have HF:=qH (qA ak hf);clear hf ak;unfold mdv0
  go_wp2_with (first | (with_reducible refine sR_ rfl 46 _ _ rfl (w.heap.size) #[.int .i64 0,.int .i64 0,.slice none 0 0,.slice none 0 0,.slice none 0 0] O 5 ?_) | fail)
  refine qR (v:=.tuple #[.agg #[.int .i64 0,.int .i64 0,.slice none 0 0,.slice none 0 0,.slice none 0 0],.slice none 0 0,.int .i64 cc]) (qb2 rfl _ _ w.heap.size 46 _ _ rfl (qT _ _ _ _ _ _ O) underlying46 rfl 5 (by kernel_rfl) rfl _ _ rfl rfl) rfl ?_;have J:=qS K3.o.1 (qaf w.heap.size) #[.int .i64 0,.int .i64 0,.slice none 0 0,.slice none 0 0,.slice none 0 0];exact⟨J,.inr (.inr ⟨G.o,k,d,p,HA.o,J,.inl ⟨cc,HF.o.1,rfl,by rw [Y.o.2.2.1,ae.o];exact HF.o.2⟩⟩)⟩
 ·obtain⟨k5,i5,A0,A1,A2,L0,C0,L1,C1,L2,C2,rfl⟩:=hM.five;have HF:=qH (qA hN (qA hM hG));clear hN hM hG
  go_wp2_with (first | (with_reducible refine sR_ rfl 46 _ _ rfl (w.heap.size) #[.int .i64 k5,.int .i64 i5,.slice A0 L0 C0,.slice A1 L1 C1,.slice A2 L2 C2] O 5 ?_) | fail)
  refine qR (v:=.tuple #[.agg #[.int .i64 k5,.int .i64 i5,.slice A0 L0 C0,.slice A1 L1 C1,.slice A2 L2 C2],.slice (some ⟨g,0,none⟩) K.length K.length,.int .i64 0]) (qb2 rfl _ _ w.heap.size 46 _ _ rfl (qT _ _ _ _ _ _ O) underlying46 rfl 5 (by kernel_rfl) rfl _ _ rfl rfl) rfl ?_;have J:=qS K3.o.1 (qaf w.heap.size) #[.int .i64 k5,.int .i64 i5,.slice A0 L0 C0,.slice A1 L1 C1,.slice A2 L2 C2];exact⟨J,.inr (.inr ⟨G.o,k,d,p,HA.o,J,.inr ⟨_,g,K,md,rfl,(HF.o.1.keep (qb1 _ _ _) aa.o.2).mono (qap aa.o.2),HF.o.2.1.keepB (qb1 _ _ _) O (qjq _ _ _ _ _ _ _ _ _ _ _),by rw [Y.o.2.2.1,ae.o];exact HF.o.2.2⟩⟩)⟩
def zq (E:List Int) (i:Nat):Rat:=((E.getD i 0:Int):Rat)
theorem lqn_any (b off n c:Nat) (E:List Int) (w:World) (hn:E.length=n) (ai:n<=1000) (hc:NCells w (some ⟨b,off,none⟩) b off E) (hz:∀z∈E,-9223372036854775808<=z/\z<=9223372036854775807) (hT:HasT w) :
  Calls prog 29 #[.slice (some ⟨b,off,none⟩) n c] w fun e V=>∃v,e=.returned v/\Rws V w.heap.size 27 2 v n (fflat (told n (zq E)))/\Below w.heap.size w V:=by
 have O:=qH (qA hc (qA hn (qA hz hT)));clear hc hn hz hT;go_enter func29,ntmps29;go_wp2_with fail
 go_loopw [3,5,6,7,10] (fun x3 x5 x6 x7 x10 W=>∃k:Nat,x10=.int .i64 (k:Int)/\k<=n/\Kn (fun W=>Below w.heap.size w W/\Rws W w.heap.size 27 2 x3 k (fflat (told k (zq E)))) W) (fun _ _ _ _ x10 _=>n-(intOf x10).toNat)
 case atStart=>exact⟨0,rfl,qan _,.of ⟨Below.refl _ _,Rws.nil _ _ _ _⟩⟩
 case round =>
  obtain⟨k,rfl,hk,U⟩:=hrel
  by_cases G:k<n
  ·have ah:(k:Int)<n:=by omega
   have d0:=(O.o.1.below U.o.1).cell k (by rw [O.o.2.1];exact G);have F:k<E.length:=by rw [O.o.2.1];exact G
   have I:=O.o.2.2.1 (E.getD k 0) (by rw [qab,qad F];exact qbB F);obtain⟨z,H⟩:=qX (E.getD k 0);rw [H] at d0 I;have hq:((z:Int):Rat) / (((1:Int):Int):Rat)=zq E k:=by unfold zq;rw [H,Rat.div_def,show (((1:Int):Rat))⁻¹=1 by decide +kernel,Rat.mul_one]
   obtain⟨x1,x2,hx⟩:=qcp (zq E k);have HO:Hu (∀W,Below w.heap.size w W->Calls prog 31 #[.int .i64 z,.int .i64 1] W fun e V=>e=.returned (.tuple #[.agg #[.string x1,.string x2],.int .i64 0])/\Below W.heap.size W V):=qH fun W Y=>by
    have h:=of_int z 1 (by decide) I (by decide) W (O.o.2.2.2.below Y);rw [hq,hx] at h;exact h
   have HX:=qH hx;have Z:=qH (HO.o wr U.o.1);clear hq hx H I F;go_wp2_with fail;refine Z.o.mono ?_;rintro e J ⟨rfl,Y⟩;have K2:=U.below Y;clear Y d0;have K4:=K2.on (q:=fun W=>W.heap[J.heap.size]? = some (.cells #[.string x1,.string x2] 27 (0,0))) (qbM (Below.refl _ J) qN) (heap_alloc_new J (.cells #[.string x1,.string x2] 27));have aa:=qH (show J.heap.size+1=(J.alloc (.cells #[.string x1,.string x2] 27)).heap.size by simp only [qaa])
   go_wp2_with (first | ((with_reducible refine qb8 rfl 27 _ _ rfl #[.string ⟨#[]⟩,.string ⟨#[]⟩] #[.string x1,.string x2] ?_ ?_ 2 ?_ ?_ ?_ ?_ ?_);(next=>rfl);(next=>rfl);(next=>kernel_rfl);(next=>rfl);(next=>rfl);(next=>rfl)) | (with_reducible refine lW_ rfl 27 _ rfl (J.heap.size) #[.string x1,.string x2] K4.o.2 underlying27 2 ?_) | (at_builtin;refine qeF rfl _ _ rfl K4.o.1.1 rfl K4.o.1.2 rfl rfl aa.o (by omega) ?_;intro v' V af ae) | fail)
   go_roundw
   case rel=>exact⟨k+1,by go_num,G,.of ⟨ae.o,by rw [qfc,HX.o];exact af.o⟩⟩
   case measure=>simp [intOf];omega
  ·obtain rfl:k=n:=by omega
   have ag:¬(k:Int)<(k:Int):=by omega
   go_wp2;go_ret;exact⟨_,rfl,U.o.2,U.o.1⟩
theorem lq_any (b off n c:Nat) (E:List Int) (w:World) (U:E.length=n) (G:n<=1000) (O:NCells w (some ⟨b,off,none⟩) b off E) (V:∀z∈E,-9223372036854775808<=z/\z<=9223372036854775807) (hT:HasT w) :
  Calls prog 29 #[.slice (some ⟨b,off,none⟩) n c] w fun e H=>∃(F:Option Addr) (g cap:Nat),e=.returned (.slice F n cap)/\FCells H F g 0 (told n (zq E))/\Below w.heap.size w H:=by
 refine (lqn_any b off n c E w U G O V hT).mono ?_;rintro e H ⟨v,rfl,h,J⟩;obtain⟨F,g,cap,rfl,I,_⟩:=qdC h (qbP _ _);exact⟨F,g,cap,rfl,I,J⟩
theorem lis_any (E:Option Addr) (n c:Nat) (w:World) :
  Calls prog 27 #[.slice E n c] w fun e F=>∃b,e=.returned (.func (.func 72) #[] #[.pointer (some ⟨b,0,none⟩)])/\Below w.heap.size w F/\F.heap[b]? = some (.cells #[.slice E n c] 30 (0,0)):=by
 have H:=qH (qA (qbM (o:=.cells #[.slice E n c] 30) (Below.refl w.heap.size w) qN) (qM w (.cells #[.slice E n c] 30) _ rfl));have G:=@hmf_ prog;go_enter func27,ntmps27;go_wp2;go_ret;exact⟨_,rfl,H.o.1,H.o.2⟩
theorem qjF (b1 H n c b2 I m d b:Nat) (F G:List Int) (z:Int) (w:World) (hb:w.heap[b]? = some (.cells #[.slice (some ⟨b2,I,none⟩) m d] 30 (0,0))) (hn:F.length=n) (hm:G.length=m) (U:n<=1000000) (O:m<=1000000) (Y:NCells w (some ⟨b1,H,none⟩) b1 H F) (Z:NCells w (some ⟨b2,I,none⟩) b2 I G) :
  Calls prog 72 #[.slice (some ⟨b1,H,none⟩) n c,.int .i64 z,.pointer (some ⟨b,0,none⟩)] w fun e w'=>e=.returned (.bool ((F == G) && (z == (0:Int))))/\Below w.heap.size w w':=by
 have c0:=qC _ _ 0 _ _ _ hb;have J:=qH (qiP b1 H c b2 I d F G n m w hn hm U O Y Z);clear Y Z;obtain⟨q,hq⟩:=qX (F == G);rw [hq] at J ⊢;go_enter func72,ntmps72;go_wp2_with fail;refine J.o.mono ?_;rintro e w2 ⟨rfl,E⟩;have V:=qH E;clear E c0 J;cases q
 ·go_wp2;go_ret;exact⟨rfl,V.o⟩
 ·go_wp2;go_ret;exact⟨by simp,V.o⟩
theorem qkk (n:Int) (w:World) :
  Calls prog 28 #[.int .i64 n] w fun e E=>∃b,e=.returned (.func (.func 73) #[] #[.pointer (some ⟨b,0,none⟩)])/\Below w.heap.size w E/\E.heap[b]? = some (.cells #[.int .i64 n] 31 (0,0)):=by
 have H:=qH (qA (qbM (o:=.cells #[.int .i64 n] 31) (Below.refl w.heap.size w) qN) (qM w (.cells #[.int .i64 n] 31) _ rfl));have F:=@hmf_ prog;go_enter func28,ntmps28;go_wp2;go_ret;exact⟨_,rfl,H.o.1,H.o.2⟩
theorem qiU (n:Int) (b c:Nat) (E:Option Addr) (w:World) (F:w.heap[b]? = some (.cells #[.int .i64 n] 31 (0,0))) :
  Calls prog 73 #[.slice E 0 c,.int .i64 n,.pointer (some ⟨b,0,none⟩)] w fun e G=>e=.returned (.bool true)/\G=w:=by
 have H:=qC _ _ 0 _ _ _ F;go_enter func73,ntmps73;go_wp2;go_ret;exact⟨by simp,rfl⟩
theorem res_norm {R n:Nat} {f:Nat->Nat->Rat} {b w x:Nat->Rat} {r:Nat} (E:r<n):sumQ R (fun i=>w i*(f i r*resR n f b x i))=sumQ n (fun c=>normR R n f b w r c*x c)-normR R n f b w r n:=by
 have F:sumQ n (fun c=>normR R n f b w r c*x c)=sumQ R fun i=>w i*(f i r*sumQ n fun c=>f i c*x c):=by
  have G:sumQ n (fun c=>normR R n f b w r c*x c)=sumQ n fun c=>sumQ R fun i=>x c*(w i*(f i r*f i c)):=qbS fun c H=>by
   rw [qb3,qi8 E H];grind
  rw [G,qdO];refine qbS fun i _=>?_
  rw [show w i*(f i r*sumQ n fun c=>f i c*x c)=(w i*f i r)*sumQ n fun c=>f i c*x c by grind,<-qb3];exact qbS fun c _=>by grind
 rw [F,norm_out E,<-sumQ_sub];refine qbS fun i _=>?_
 unfold resR;grind
theorem qg5 {R n:Nat} {f:Nat->Nat->Rat} {b w x:Nat->Rat} (h:∀r,r<n->sumQ R (fun i=>w i*(f i r*resR n f b x i))=0):qcv n (normR R n f b w) (fun r=>normR R n f b w r n) x:=fun r E=>by
 have:=h r E;rw [res_norm E] at this
 show _=normR R n f b w r n
 grind
theorem qhi {R n:Nat} {f:Nat->Nat->Rat} {b w z:Nat->Rat} (F:∀i,i<R->w i=0\/resR n f b z i=0):qcv n (normR R n f b w) (fun r=>normR R n f b w r n) z :=
 qg5 fun r _=>qcC _ _ fun i E=>by
  rcases F i E with e | e
  ·rw [e];grind
  ·rw [e];grind
theorem qlQ {R i i':Nat} {f:Nat->Nat->Rat} {b w:Nat->Rat} (hw:∀i,i<R->0<=w i) (E:i<R) (H:i'<R) (h0:w i≠0) (G:w i'≠0) (h1:∀i,i<R->f i 0=1) (hd:f i 1≠f i' 1):¬Sing 2 (normR R 2 f b w):=by
 rintro ⟨y,⟨j,hj,V⟩,h⟩;have Y:=h 0 (by decide);have Z:=h 1 (by decide);have s2:∀f:Nat->Rat,sumQ 2 f=0+f 0+f 1:=fun f=>rfl
 rw [s2,qi8 (by decide) (by decide),qi8 (by decide) (by decide)] at Y Z;have O:sumQ R (fun i=>w i*((f i 0*y 0+f i 1*y 1)*(f i 0*y 0+f i 1*y 1)))=0:=by
  rw [qbS (g:=fun i=>(y 0*y 0)*(w i*(f i 0*f i 0))+((y 0*y 1)*(w i*(f i 0*f i 1))+((y 1*y 0)*(w i*(f i 1*f i 0))+(y 1*y 1)*(w i*(f i 1*f i 1))))) fun i _=>by grind,
   qc7,qc7,qc7,qb3,qb3,qb3,qb3]
  grind
 have hz:=qd3 (fun i E=>Rat.mul_nonneg (hw i E) (by
  generalize f i 0*y 0+f i 1*y 1=t
  by_cases U:0<=t
  ·exact Rat.mul_nonneg U U
  ·have:0<=(-t)*(-t):=Rat.mul_nonneg (by grind) (by grind)
   grind)) O
 have z:∀i,i<R->w i≠0->y 0+f i 1*y 1=0:=fun i E I=>by
  have:=hz i E;rcases Rat.mul_eq_zero.1 this with e | e
  ·exact absurd e I
  ·rcases Rat.mul_eq_zero.1 e with e | e <;> (rw [h1 i E] at e;grind)
 have z1:=z i E h0;have z2:=z i' H G;have F:y 1=0:=by
  have:(f i 1-f i' 1)*y 1=0:=by grind
  rcases Rat.mul_eq_zero.1 this with e | e
  ·exact absurd (by grind) hd
  ·exact e
 rw [F] at z1;have J:y 0=0:=by grind
 rcases (show j=0\/j=1 by omega) with rfl | rfl
 ·exact V J
 ·exact V F
theorem qeJ {s:Nat->Rat} {n k:Nat} (hk:k<n) (h:∀i,i<n->i≠k->s i<s k):bestL s n (n-1)=(List.range n).filter fun i=>decide (i≠k):=by
 have hU:Up ((List.range n).filter fun i=>decide (i≠k)):=(qer n).sublist List.filter_sublist;refine (qfA s n (n-1)).eq hU ((qdh s n (n-1)).trans ?_);have F:=qen s n;obtain⟨A,z,e⟩:∃A z,qcJ s n=A++[z]:=by
  rcases List.eq_nil_or_concat (qcJ s n) with e | ⟨A,z,e⟩
  ·rw [e] at F;simp at F;omega
  ·exact⟨A,z,by rw [e];simp⟩
 have U:z<n:=qar.1 ((qcj s n).mem_iff.1 (by rw [e];simp));have O:z=k:=by
  by_cases J:z=k
  ·exact J
  ·have I:k∈A:=by
    have:k∈qcJ s n:=(qcj s n).mem_iff.2 (qar.2 hk);rw [e] at this;rcases qaI.1 this with h | h
    ·exact h
    ·exact absurd (qao.1 h).symm J
   have V:=qkt s n;rw [e] at V;have h1:=(List.pairwise_append.1 V).2.2 k I z (by simp);have h2:=h z U J
   grind
 subst O;have aa:A.length=n-1:=by rw [e] at F;simp at F;omega
 have E:=qfx s n;rw [e] at E;have G:∀a∈A,a≠z:=fun a H he=>by
  subst he;exact (List.nodup_append.1 E).2.2 a H a (by simp) rfl
 rw [e,List.take_append_of_le_length (by omega),qal (by omega)];have Y:=((qcj s n).filter (fun i=>decide (i≠z)));rw [e,List.filter_append] at Y;have Z:A.filter (fun i=>decide (i≠z))=A:=List.filter_eq_self.2 fun a H=>qV (G a H)
 have e2:[z].filter (fun i=>decide (i≠z))=[]:=by simp
 rwa [Z,e2,qbz] at Y
theorem qhK {s:Nat->Rat} {n:Nat} (m:Nat) (H:m<=n) (h:∀i,i<n->s i=0):bestL s n m=List.range m:=by
 have I:qcJ s n=List.range n:=by
  refine Up.eq ?_ (qer n) (qcj s n);refine List.Pairwise.imp_of_mem ?_ (qfg s n);intro a b F G E;have J:=h a (qar.1 ((qcj s n).mem_iff.1 F));have O:=h b (qar.1 ((qcj s n).mem_iff.1 G));rcases E with e | e
  ·grind
  ·exact e.2
 refine (qfA s n m).eq (qer m) ((qdh s n m).trans ?_);rw [I,List.take_range,qaU H]
def line5:List Pt:=[⟨⟨#[97]⟩,[0],0,0,0⟩,⟨⟨#[98]⟩,[2500],2500,0,0⟩,⟨⟨#[99]⟩,[5000],9000,0,0⟩,⟨⟨#[100]⟩,[7500],7500,0,0⟩,⟨⟨#[101]⟩,[10000],10000,0,0⟩]
theorem qeb:PtsOk line5 where
 r1:=by decide
 r2:=by decide
 rows:=fun k G=>by
  have G:k<5:=G;rcases (show k=0\/k=1\/k=2\/k=3\/k=4 by omega) with rfl | rfl | rfl | rfl | rfl <;> exact⟨⟨name_one (by decide),by decide,by decide,vals_one (by decide),by decide,by decide,by decide⟩,rfl⟩
 apart:=fun i k H E=>by
  have E:i<5:=E;have F:∀i,i<5->∀k,k<i->(line5.getD k pt0).name≠(line5.getD i pt0).name:=by decide
  exact F i E k H
def linX0 (c:Nat):Nat->Rat:=if c=0 then fv [8,100] else fv [0,0]
def linX1 (c:Nat):Nat->Rat:=if c=0 then fv [0,100] else fv [0,0]
theorem qh3:∀c,c<3->FitX line5 1 [1,1,1,1,1] c (linX0 c)/\qbQ 2 (linX0 c):=fun c E=>by
 rcases (show c=0\/c=1\/c=2 by omega) with rfl | rfl | rfl
 ·exact⟨show ∀i,i<2->_ from by decide +kernel,qcN (by decide +kernel)⟩
 ·exact⟨show ∀i,i<2->_ from by decide +kernel,qcN (by decide +kernel)⟩
 ·exact⟨show ∀i,i<2->_ from by decide +kernel,qcN (by decide +kernel)⟩
theorem qlC:∀c,c<3->FitX line5 1 [1,1,0,1,1] c (linX1 c)/\qbQ 2 (linX1 c):=fun c E=>by
 rcases (show c=0\/c=1\/c=2 by omega) with rfl | rfl | rfl
 ·exact⟨show ∀i,i<2->_ from by decide +kernel,qcN (by decide +kernel)⟩
 ·exact⟨show ∀i,i<2->_ from by decide +kernel,qcN (by decide +kernel)⟩
 ·exact⟨show ∀i,i<2->_ from by decide +kernel,qcN (by decide +kernel)⟩
theorem lin_n0:¬Sing 2 (nq line5 1 [1,1,1,1,1] 0):=qig (fm [[3 / 5,-4 / 5],[-4 / 5,8 / 5]]) (by decide +kernel)
theorem lin_n1:¬Sing 2 (nq line5 1 [1,1,0,1,1] 0):=qig (fm [[13 / 20,-4 / 5],[-4 / 5,8 / 5]]) (by decide +kernel)
theorem keep_5:keepW (List.range line5.length) line5.length=[1,1,1,1,1]:=by decide
theorem lin_k0:KFit line5 1 (List.range line5.length) linX0:=by
 unfold KFit;rw [keep_5];exact⟨lin_n0,fun c E=>(qh3 c E).1⟩
theorem qgP (keep:Nat):Runs line5 1 keep 0 (List.range line5.length) linX0:=⟨rfl,lin_k0⟩
theorem qiX:∀i,i<5->sqq (mdX line5 1 linX0) line5 1 i=fv [64,64,1024,64,64] i:=fun i E=>by
 unfold mdX;rw [qmf qN];rcases (show i=0\/i=1\/i=2\/i=3\/i=4 by omega) with rfl | rfl | rfl | rfl | rfl <;> decide +kernel
theorem qly:nextK line5 1 4 (mdX line5 1 linX0)=[0,1,3,4]:=by
 have h:=qeJ (s:=sqq (mdX line5 1 linX0) line5 1) (n:=5) (k:=2) (by decide) fun i E hne=>by
  rw [qiX i E,qiX 2 (by decide)];rcases (show i=0\/i=1\/i=3\/i=4 by omega) with rfl | rfl | rfl | rfl <;> decide +kernel
 exact h.trans (by decide)
theorem qlz:nextK line5 1 5 (mdX line5 1 linX0)=List.range line5.length:=qkP _ 5
theorem lin_k1:KFit line5 1 [0,1,3,4] linX1:=by
 unfold KFit;rw [show keepW [0,1,3,4] line5.length=[1,1,0,1,1] by decide];exact⟨lin_n1,fun c E=>(qlC c E).1⟩
theorem lin_r1:Runs line5 1 4 1 [0,1,3,4] linX1:=⟨_,_,qgP 4,qly.symm,lin_k1⟩
theorem lin_r5:Runs line5 1 5 1 (List.range line5.length) linX0:=(qgP 5).stay qlz 1
theorem qlA:∀i,i<5->sqq (mdX line5 1 linX1) line5 1 i=fv [0,0,1600,0,0] i:=fun i E=>by
 unfold mdX;rw [qmf qN];rcases (show i=0\/i=1\/i=2\/i=3\/i=4 by omega) with rfl | rfl | rfl | rfl | rfl <;> decide +kernel
theorem infoPt:(Tryz.prog.info? 72).map (fun i=>(i.zero,i.size,i.bytes))=some (some (.agg #[.string ⟨#[]⟩,.slice none 0 0,.int .i64 0,.int .i64 0,.int .i64 0]),5,64):=by kernel_rfl
theorem qiq {w:World} {B:Nat} {v:Value} {n:Nat} {U:List Value} {u0 u1 u2 u3 u4:Value} {g c:Nat} {t:TypeId} (V:TypeId) (F:w.ownsRow B 72 5 v n U) (Y:B<=w.heap.size) (hg:w.heap[g]? = some (.cells #[u0,u1,u2,u3,u4] t (0,0))) (hu:∀u∈[u0,u1,u2,u3,u4],u.oneCell'=true) (hn:n<1000000) :
  ∃G H,(Builtin.append_ #[48,48] V #[v,.slice (some ⟨g,0,none⟩) 1 c]).run prog w=.ok G H/\H.ownsRow B 72 5 G (n+1) (U++[u0,u1,u2,u3,u4])/\(G.ownBlock=v.ownBlock/\w.grownBy H v.ownBlock\/G.ownBlock=some w.heap.size/\w.grownBy H none):=by
 obtain⟨i0,Z,I,J,O⟩:=info_parts infoPt;exact qgh (P:=prog) w B 48 V 72 i0 _ 5 64 underlying48 Z I J O rfl (by decide) v n U F ⟨g,0,none⟩ 1 c [u0,u1,u2,u3,u4] rfl (fun j x E=>by
   rw [Addr.add_mid]
   match j,E with
   | 0,E=>exact (qC _ _ _ _ _ _ hg).trans E
   | 1,E=>exact (qC _ _ _ _ _ _ hg).trans E
   | 2,E=>exact (qC _ _ _ _ _ _ hg).trans E
   | 3,E=>exact (qC _ _ _ _ _ _ hg).trans E
   | 4,E=>exact (qC _ _ _ _ _ _ hg).trans E
   | j+5,E=>cases E) hu (by decide) (by unfold maxLen;omega) (by omega) Y
def PaAt (W:World) (E:List Value) (j:Nat) (p:Pt):Prop:=∃(B:Nat) (F:Option Addr) (G:Nat),(E[j*5]? = some (.string p.name)/\E[j*5+1]? = some (.slice F p.dev.length G)/\E[j*5+2]? = some (.int .i64 p.l0)/\E[j*5+3]? = some (.int .i64 p.l1)/\E[j*5+4]? = some (.int .i64 p.l2))/\IOwn W B (.slice F p.dev.length G) p.dev
def PaOwn (W:World) (B:Nat) (v:Value) (l:List Pt):Prop:=∃E,W.ownsRow B 72 5 v l.length E/\∀j,j<l.length->PaAt W E j (l.getD j pt0)
theorem PaOwn.below {W W':World} {B:Nat} {v:Value} {l:List Pt} (h:PaOwn W B v l) (E:Below W.heap.size W W'):PaOwn W' B v l:=by
 obtain⟨O,F,G⟩:=h;refine⟨O,own_below F E,fun j J=>?_⟩;obtain⟨B',da,dc,H,I⟩:=G j J;exact⟨B',da,dc,H,I.below E⟩
instance stays_paown {B:Nat} {v:Value} {l:List Pt}:Stays fun W=>PaOwn W B v l:=⟨fun h E=>h.below E⟩
theorem PaOwn.nil (W:World) (B:Nat):PaOwn W B (.slice none 0 0) []:=⟨[],⟨rfl,.inl ⟨rfl,rfl⟩⟩,fun j E=>absurd E (by simp)⟩
theorem PaOwn.shape {W:World} {B m:Nat} {v:Value} {l:List Pt} (h:PaOwn W B v l) (G:l.length=m):∃(E:Option Addr) (cap:Nat),v=.slice E m cap:=by
 obtain⟨H,F,_⟩:=h;subst G;exact qlW F
theorem PaOwn.cells {W:World} {B:Nat} {v:Value} {l:List Pt} (h:PaOwn W B v l) (V:0<l.length) (I:∀j,j<l.length->0<(l.getD j pt0).dev.length):∃g c,v=.slice (some ⟨g,0,none⟩) l.length c/\PCells W (some ⟨g,0,none⟩) g 0 l:=by
 obtain⟨U,F,H⟩:=h;have E:=F;rcases F.2 with ⟨_,h⟩ | ⟨g,cap,cur,rfl,_,_,_⟩
 ·omega
 ·refine⟨g,cap,rfl,fun _=>rfl,fun k G=>?_⟩;obtain⟨B',da,dc,⟨e0,e1,e2,e3,e4⟩,O⟩:=H k G;obtain⟨ga,ca,e,hN⟩:=IOwn.cells O (I k G);have c:∀j u,U[j]? = some u->W.cell? ⟨g,0+j,none⟩=some u:=fun j u J=>by
   have:=E.cells (g:=g) rfl j u J
   rwa [Addr.add_mid] at this
  exact⟨c _ _ e0,⟨_,ga,0,ca,by rw [<-e];exact c _ _ e1,hN⟩,c _ _ e2,c _ _ e3,c _ _ e4⟩
theorem PaOwn.push {W E I:World} {B:Nat} {v H:Value} {l:List Pt} {p:Pt} {J:Option Addr} {O Bd:Nat} (h:PaOwn W B v l) (hb:Below W.heap.size W E) (hp:IOwn E Bd (.slice J p.dev.length O) p.dev)
  (ho:∀F,E.ownsRow B 72 5 v l.length F->I.ownsRow B 72 5 H (l.length+1) (F++[.string p.name,.slice J p.dev.length O,.int .i64 p.l0,.int .i64 p.l1,.int .i64 p.l2])) (Z:H.ownBlock=v.ownBlock/\E.grownBy I v.ownBlock\/H.ownBlock=some E.heap.size/\E.grownBy I none):PaOwn I B H (l++[p]):=by
 obtain⟨F,G,h2⟩:=h.below hb;refine⟨_,by rw [qae];exact ho F G,fun j Y=>?_⟩;have U:F.length=l.length*5:=G.1;rcases qaV j l.length with hjl | hjl
 ·obtain⟨B',d',c',⟨e0,e1,e2,e3,e4⟩,V⟩:=h2 j hjl;have e:(l++[p]).getD j pt0=l.getD j pt0:=by rw [qab,qax hjl,<-qab]
  rw [e];refine⟨B',d',c',⟨?_,?_,?_,?_,?_⟩,(qjM V (own_ne V G (by decide)) Z).1⟩
  ·rw [qax (by omega)];exact e0
  ·rw [qax (by omega)];exact e1
  ·rw [qax (by omega)];exact e2
  ·rw [qax (by omega)];exact e3
  ·rw [qax (by omega)];exact e4
 ·obtain rfl:j=l.length:=by rw [qae] at Y;have:j<l.length+1:=Y;omega
  have e:(l++[p]).getD l.length pt0=p:=by rw [qab,qas qN,qaK];rfl
  rw [e];refine⟨Bd,J,O,⟨?_,?_,?_,?_,?_⟩,(qjM hp (own_ne hp G (by decide)) Z).1⟩
  all_goals
   rw [qas (by omega)];simp only [U,qaK,Nat.add_sub_cancel_left]
   rfl
theorem qcO {Y:Array Oper} {rest:List Oper} {o:Oper} {a:Act} {w:World} {Q:Exit->Act->World->Prop} (aa:o.guard=none) (s x:Operand)
  (ho:o.op=.call { callee:=.builtin .append,args:=#[s,x],argTypes:=#[48,48] }) {B:Nat} {v:Value} {l:List Pt} {p:Pt} {E:Option Addr} {F Bd:Nat} (H:PaOwn w B v l) (hp:IOwn w Bd (.slice E p.dev.length F) p.dev) (hB:B<=w.heap.size) (hs:a.eval s=v) {g:Nat} (hx:a.eval x=.slice (some ⟨g,0,none⟩) 1 1) (hg:g=w.heap.size) (hn:l.length<1000000)
  {V:ByteArray} {k:Nat} {z0 Z z2:Int} (e0:V=p.name) (e1:k=p.dev.length) (e2:z0=p.l0) (e3:Z=p.l1) (e4:z2=p.l2)
  (h:∀J O,Hu (PaOwn O B J (l++[p]))->Hu (J.ownBlock=v.ownBlock/\(w.alloc (.cells #[.string V,.slice E k F,.int .i64 z0,.int .i64 Z,.int .i64 z2] 72)).grownBy O v.ownBlock\/J.ownBlock=some (w.alloc (.cells #[.string V,.slice E k F,.int .i64 z0,.int .i64 Z,.int .i64 z2] 72)).heap.size/\(w.alloc (.cells #[.string V,.slice E k F,.int .i64 z0,.int .i64 Z,.int .i64 z2] 72)).grownBy O none)->wpList prog Y Q rest (a.put o.dst J) O) :
  wpList prog Y Q (o :: rest) a (w.alloc (.cells #[.string V,.slice E k F,.int .i64 z0,.int .i64 Z,.int .i64 z2] 72)):=by
 subst hg e0 e1 e2 e3 e4;have I:Below w.heap.size w (w.alloc (.cells #[.string p.name,.slice E p.dev.length F,.int .i64 p.l0,.int .i64 p.l1,.int .i64 p.l2] 72)):=qbM qB qN;obtain⟨ah,af,_⟩:=H.below I;have hg:=qM w (.cells #[.string p.name,.slice E p.dev.length F,.int .i64 p.l0,.int .i64 p.l1,.int .i64 p.l2] 72) _ rfl;have G:∀u∈[Value.string p.name,.slice E p.dev.length F,.int .i64 p.l0,.int .i64 p.l1,.int .i64 p.l2],u.oneCell'=true:=fun u hu=>by
  simp only [qaD,List.not_mem_nil,or_false] at hu;rcases hu with rfl | rfl | rfl | rfl | rfl <;> rfl
 have U:B<=(w.alloc (.cells #[.string p.name,.slice E p.dev.length F,.int .i64 p.l0,.int .i64 p.l1,.int .i64 p.l2] 72)).heap.size:=by simp only [qaa];omega
 obtain⟨J,O,hr,h1,h2⟩:=qiq o.type af U hg G hn (c:=1);refine qdP aa s x _ ho hs hx hr (h J O (qH (PaOwn.push H I (hp.below I) (fun vs ag=>?_) h2)) (qH h2));obtain⟨v2,w2,ae,h3,_⟩:=qiq o.type ag U hg G hn (c:=1);rw [ae] at hr;cases hr;exact h3
theorem qdI (w:World) :
  Calls prog 30 #[] w fun e Z=>∃v,e=.returned v/\PaOwn Z w.heap.size v line5/\Below w.heap.size w Z:=by
 go_enter func30,ntmps30;go_wp2_with fail
 go_loopw [1,5,2,3] (fun x1 x5 x2 x3 W=>∃i:Nat,x5=.int .i64 (i:Int)/\i<=5/\Kn (fun W=>Below w.heap.size w W/\PaOwn W w.heap.size x1 (line5.take i)) W) (fun _ x5 _ _ _=>5-(intOf x5).toNat)
 case atStart=>exact⟨0,rfl,qan _,.of ⟨Below.refl _ _,PaOwn.nil _ _⟩⟩
 case round =>
  obtain⟨i,rfl,hi,U⟩:=hrel
  by_cases ah:i<5
  ·obtain⟨va,vc,ag⟩:=U.o.2.shape (m:=i) (by rw [qat];exact qaU hi);subst ag;rcases (show i=0\/i=1\/i=2\/i=3\/i=4 by omega) with rfl | rfl | rfl | rfl | rfl
   ·have aa:∀W,(Instr.index 141 (.agg #[.int .i64 0,.int .i64 2500,.int .i64 9000,.int .i64 7500,.int .i64 10000]) (.int .i64 0)).run prog W=.ok (.int .i64 0) W:=fun W=>by kernel_rfl
    have V:∀W,(convert 21 9 (.int .i32 97)).run prog W=.ok (.string ⟨#[97]⟩) W:=fun W=>by kernel_rfl
    have I:Kn (fun W=>(Below w.heap.size w W/\PaOwn W w.heap.size (.slice va 0 vc) (line5.take 0))/\IOwn W wr.heap.size (.slice (some ⟨wr.heap.size,0,none⟩) 1 1) [0]) (wr.alloc (.cells #[.int .i64 0] 3)):=U.on (qbM (Below.refl _ wr) qN) (qeE (cs:=#[.int .i64 0]) (heap_alloc_new wr _) qN rfl (by decide));have HQ:Hu (∀q,(Value.slice va 0 vc).ownBlock=some q->w.heap.size<=q):=qH fun q hq=>by obtain⟨vs,V,_⟩:=U.o.2;exact (V.lt q hq).1
    have G:w.heap.size<=(wr.alloc (.cells #[.int .i64 0] 3)).heap.size:=I.o.1.1.size;have Y:w.heap.size<=wr.heap.size:=U.o.1.size;have O:=qH (show wr.heap.size+1=(wr.alloc (.cells #[.int .i64 0] 3)).heap.size by simp only [qaa])
    go_wp2_with (first | (at_builtin;refine qcO rfl _ _ rfl (p:=⟨⟨#[97]⟩,[0],0,0,0⟩) (Bd:=wr.heap.size) I.o.1.2 I.o.2 G rfl rfl O.o (show 0<1000000 by decide) rfl rfl rfl rfl rfl ?_;intro v' Z F E;obtain⟨ae,af,H⟩:=(Hu.o F).shape (m:=1) rfl;subst H;have J:Hu (Below w.heap.size w Z):=qH (qdf (B:=w.heap.size) (qbM I.o.1.1 qN) HQ.o (by simp only [qaa];omega) E.o);clear E) | fail)
    go_roundw
    case rel=>exact⟨1,by go_num,by decide,.of ⟨J.o,F.o⟩⟩
    case measure=>simp [intOf]
   ·have aa:∀W,(Instr.index 141 (.agg #[.int .i64 0,.int .i64 2500,.int .i64 9000,.int .i64 7500,.int .i64 10000]) (.int .i64 1)).run prog W=.ok (.int .i64 2500) W:=fun W=>by kernel_rfl
    have V:∀W,(convert 21 9 (.int .i32 98)).run prog W=.ok (.string ⟨#[98]⟩) W:=fun W=>by kernel_rfl
    have I:Kn (fun W=>(Below w.heap.size w W/\PaOwn W w.heap.size (.slice va 1 vc) (line5.take 1))/\IOwn W wr.heap.size (.slice (some ⟨wr.heap.size,0,none⟩) 1 1) [2500]) (wr.alloc (.cells #[.int .i64 2500] 3)):=U.on (qbM (Below.refl _ wr) qN) (qeE (cs:=#[.int .i64 2500]) (heap_alloc_new wr _) qN rfl (by decide));have HQ:Hu (∀q,(Value.slice va 1 vc).ownBlock=some q->w.heap.size<=q):=qH fun q hq=>by obtain⟨vs,V,_⟩:=U.o.2;exact (V.lt q hq).1
    have G:w.heap.size<=(wr.alloc (.cells #[.int .i64 2500] 3)).heap.size:=I.o.1.1.size;have Y:w.heap.size<=wr.heap.size:=U.o.1.size;have O:=qH (show wr.heap.size+1=(wr.alloc (.cells #[.int .i64 2500] 3)).heap.size by simp only [qaa])
    go_wp2_with (first | (at_builtin;refine qcO rfl _ _ rfl (p:=⟨⟨#[98]⟩,[2500],2500,0,0⟩) (Bd:=wr.heap.size) I.o.1.2 I.o.2 G rfl rfl O.o (show 1<1000000 by decide) rfl rfl rfl rfl rfl ?_;intro v' Z F E;obtain⟨ae,af,H⟩:=(Hu.o F).shape (m:=2) rfl;subst H;have J:Hu (Below w.heap.size w Z):=qH (qdf (B:=w.heap.size) (qbM I.o.1.1 qN) HQ.o (by simp only [qaa];omega) E.o);clear E) | fail)
    go_roundw
    case rel=>exact⟨2,by go_num,by decide,.of ⟨J.o,F.o⟩⟩
    case measure=>simp [intOf]
   ·have aa:∀W,(Instr.index 141 (.agg #[.int .i64 0,.int .i64 2500,.int .i64 9000,.int .i64 7500,.int .i64 10000]) (.int .i64 2)).run prog W=.ok (.int .i64 9000) W:=fun W=>by kernel_rfl
    have V:∀W,(convert 21 9 (.int .i32 99)).run prog W=.ok (.string ⟨#[99]⟩) W:=fun W=>by kernel_rfl
    have I:Kn (fun W=>(Below w.heap.size w W/\PaOwn W w.heap.size (.slice va 2 vc) (line5.take 2))/\IOwn W wr.heap.size (.slice (some ⟨wr.heap.size,0,none⟩) 1 1) [5000]) (wr.alloc (.cells #[.int .i64 5000] 3)):=U.on (qbM (Below.refl _ wr) qN) (qeE (cs:=#[.int .i64 5000]) (heap_alloc_new wr _) qN rfl (by decide));have HQ:Hu (∀q,(Value.slice va 2 vc).ownBlock=some q->w.heap.size<=q):=qH fun q hq=>by obtain⟨vs,V,_⟩:=U.o.2;exact (V.lt q hq).1
    have G:w.heap.size<=(wr.alloc (.cells #[.int .i64 5000] 3)).heap.size:=I.o.1.1.size;have Y:w.heap.size<=wr.heap.size:=U.o.1.size;have O:=qH (show wr.heap.size+1=(wr.alloc (.cells #[.int .i64 5000] 3)).heap.size by simp only [qaa])
    go_wp2_with (first | (at_builtin;refine qcO rfl _ _ rfl (p:=⟨⟨#[99]⟩,[5000],9000,0,0⟩) (Bd:=wr.heap.size) I.o.1.2 I.o.2 G rfl rfl O.o (show 2<1000000 by decide) rfl rfl rfl rfl rfl ?_;intro v' Z F E;obtain⟨ae,af,H⟩:=(Hu.o F).shape (m:=3) rfl;subst H;have J:Hu (Below w.heap.size w Z):=qH (qdf (B:=w.heap.size) (qbM I.o.1.1 qN) HQ.o (by simp only [qaa];omega) E.o);clear E) | fail)
    go_roundw
    case rel=>exact⟨3,by go_num,by decide,.of ⟨J.o,F.o⟩⟩
    case measure=>simp [intOf]
   ·have aa:∀W,(Instr.index 141 (.agg #[.int .i64 0,.int .i64 2500,.int .i64 9000,.int .i64 7500,.int .i64 10000]) (.int .i64 3)).run prog W=.ok (.int .i64 7500) W:=fun W=>by kernel_rfl
    have V:∀W,(convert 21 9 (.int .i32 100)).run prog W=.ok (.string ⟨#[100]⟩) W:=fun W=>by kernel_rfl
    have I:Kn (fun W=>(Below w.heap.size w W/\PaOwn W w.heap.size (.slice va 3 vc) (line5.take 3))/\IOwn W wr.heap.size (.slice (some ⟨wr.heap.size,0,none⟩) 1 1) [7500]) (wr.alloc (.cells #[.int .i64 7500] 3)):=U.on (qbM (Below.refl _ wr) qN) (qeE (cs:=#[.int .i64 7500]) (heap_alloc_new wr _) qN rfl (by decide));have HQ:Hu (∀q,(Value.slice va 3 vc).ownBlock=some q->w.heap.size<=q):=qH fun q hq=>by obtain⟨vs,V,_⟩:=U.o.2;exact (V.lt q hq).1
    have G:w.heap.size<=(wr.alloc (.cells #[.int .i64 7500] 3)).heap.size:=I.o.1.1.size;have Y:w.heap.size<=wr.heap.size:=U.o.1.size;have O:=qH (show wr.heap.size+1=(wr.alloc (.cells #[.int .i64 7500] 3)).heap.size by simp only [qaa])
    go_wp2_with (first | (at_builtin;refine qcO rfl _ _ rfl (p:=⟨⟨#[100]⟩,[7500],7500,0,0⟩) (Bd:=wr.heap.size) I.o.1.2 I.o.2 G rfl rfl O.o (show 3<1000000 by decide) rfl rfl rfl rfl rfl ?_;intro v' Z F E;obtain⟨ae,af,H⟩:=(Hu.o F).shape (m:=4) rfl;subst H;have J:Hu (Below w.heap.size w Z):=qH (qdf (B:=w.heap.size) (qbM I.o.1.1 qN) HQ.o (by simp only [qaa];omega) E.o);clear E) | fail)
    go_roundw
    case rel=>exact⟨4,by go_num,by decide,.of ⟨J.o,F.o⟩⟩
    case measure=>simp [intOf]
   ·have aa:∀W,(Instr.index 141 (.agg #[.int .i64 0,.int .i64 2500,.int .i64 9000,.int .i64 7500,.int .i64 10000]) (.int .i64 4)).run prog W=.ok (.int .i64 10000) W:=fun W=>by kernel_rfl
    have V:∀W,(convert 21 9 (.int .i32 101)).run prog W=.ok (.string ⟨#[101]⟩) W:=fun W=>by kernel_rfl
    have I:Kn (fun W=>(Below w.heap.size w W/\PaOwn W w.heap.size (.slice va 4 vc) (line5.take 4))/\IOwn W wr.heap.size (.slice (some ⟨wr.heap.size,0,none⟩) 1 1) [10000]) (wr.alloc (.cells #[.int .i64 10000] 3)):=U.on (qbM (Below.refl _ wr) qN) (qeE (cs:=#[.int .i64 10000]) (heap_alloc_new wr _) qN rfl (by decide));have HQ:Hu (∀q,(Value.slice va 4 vc).ownBlock=some q->w.heap.size<=q):=qH fun q hq=>by obtain⟨vs,V,_⟩:=U.o.2;exact (V.lt q hq).1
    have G:w.heap.size<=(wr.alloc (.cells #[.int .i64 10000] 3)).heap.size:=I.o.1.1.size;have Y:w.heap.size<=wr.heap.size:=U.o.1.size;have O:=qH (show wr.heap.size+1=(wr.alloc (.cells #[.int .i64 10000] 3)).heap.size by simp only [qaa])
    go_wp2_with (first | (at_builtin;refine qcO rfl _ _ rfl (p:=⟨⟨#[101]⟩,[10000],10000,0,0⟩) (Bd:=wr.heap.size) I.o.1.2 I.o.2 G rfl rfl O.o (show 4<1000000 by decide) rfl rfl rfl rfl rfl ?_;intro v' Z F E;obtain⟨ae,af,H⟩:=(Hu.o F).shape (m:=5) rfl;subst H;have J:Hu (Below w.heap.size w Z):=qH (qdf (B:=w.heap.size) (qbM I.o.1.1 qN) HQ.o (by simp only [qaa];omega) E.o);clear E) | fail)
    go_roundw
    case rel=>exact⟨5,by go_num,by decide,.of ⟨J.o,F.o⟩⟩
    case measure=>simp [intOf]
  ·obtain rfl:i=5:=by omega
   obtain⟨va,vc,ag⟩:=U.o.2.shape (m:=5) rfl;subst ag;go_wp2;go_ret;exact⟨_,rfl,U.o.2,U.o.1⟩
theorem readq {p:Rat} (O:Short p) (w:World):Calls prog 91 #[.agg #[.string (ftxt p).1,.string (ftxt p).2]] w fun e F=>∃(a:Option Addr) (n c:Nat) (b:Bool) (d:Option Addr) (m f:Nat),e=.returned (.tuple #[.agg #[.slice a n c,.bool b,.slice d m f],.bool true])/\RatV F (.agg #[.slice a n c,.bool b,.slice d m f]) p/\RFit p 67/\Below w.heap.size w F:=by
 refine (qdD _ _ w).mono ?_;rintro e F ⟨v,ok,rfl,h | h,J⟩
 ·obtain⟨rfl,G,I⟩:=h;have E:=G.at I;have H:=G.fit;rw [qdE] at E H;obtain⟨a,n,c,b,d,m,f,rfl⟩:=qcU E;exact⟨a,n,c,b,d,m,f,rfl,E,H,J⟩
 ·exact absurd (qeS O) h.2.1
theorem IOwn.aside {W:World} {B g:Nat} {v:Value} {l:List Int} {cs:Array Value} {t:TypeId} (h:IOwn W B v l) (hg:W.heap[g]? = some (.cells cs t (0,0))) (H:t≠3) (i:Nat) (z:Value):IOwn (W.setCell ⟨g,i,none⟩ z) B v l:=by
 refine⟨h.1,?_⟩;rcases h.2 with h1 | ⟨g',cap,cur,rfl,F,E,G⟩
 ·exact .inl h1
 ·refine .inr ⟨g',cap,cur,rfl,F,(qW _ _ _ _ fun e=>?_).trans E,G⟩;have e:g'=g:=e;subst e;rw [hg] at E;simp only [Option.some.injEq,Obj.cells.injEq] at E;exact H E.2.1
theorem PaOwn.set0 {W:World} {B:Nat} {v:Value} {l:List Pt} (h:PaOwn W B v l) {k:Nat} (hk:k<l.length) (z:Int):∃g c,v=.slice (some ⟨g,0,none⟩) l.length c/\B<=g/\(W.cell? ⟨g,k*5+2,none⟩=some (.int .i64 (l.getD k pt0).l0)/\W.frozen? ⟨g,k*5+2,none⟩=false) /\
  PaOwn (W.setCell ⟨g,k*5+2,none⟩ (.int .i64 z)) B v (l.set k ⟨(l.getD k pt0).name,(l.getD k pt0).dev,z,(l.getD k pt0).l1,(l.getD k pt0).l2⟩):=by
 obtain⟨Z,E,I⟩:=h;have H:=E;have hv:=E.1;rcases E.2 with ⟨_,h0⟩ | ⟨g,cap,cur,rfl,hB,hg,hn,hm,V,Y⟩
 ·omega
 obtain⟨_,_,_,⟨_,_,e2,_,_⟩,_⟩:=I k hk;have hc:=World.ownsRow.cells (g:=g) H rfl (k*5+2) _ e2;rw [Addr.add_mid,qaL] at hc;refine⟨g,cap,rfl,hB,⟨hc,qF _ _ _ _ _ hg⟩,Z.set (k*5+2) (.int .i64 z),⟨by rw [qaQ,qaQ];exact hv,.inr ⟨g,cap,_,by rw [qaQ],hB,heap_setCell_same _ g _ _ _ (.int .i64 z) hg,by rw [qaQ];exact hn,hm,by rw [Array.size_setIfInBounds];exact V,?_⟩⟩,fun j U=>?_⟩
 ·rw [qaQ,Array.toList_setIfInBounds,List.take_set,Y]
 ·rw [qaQ] at U;obtain⟨Bd,da,dc,⟨e0,e1,e2',e3,e4⟩,ho⟩:=I j U;have J:=ho.aside hg (by decide) (k*5+2) (.int .i64 z);have F:∀r,r<5->(r=2->j≠k)->(Z.set (k*5+2) (.int .i64 z))[j*5+r]? = Z[j*5+r]?:=fun r hr h2=>by
   rw [List.getElem?_set_ne];intro e;have:j=k:=by omega
   subst this;exact h2 (by omega) rfl
  by_cases G:j=k
  ·subst G;have O:(l.set j ⟨(l.getD j pt0).name,(l.getD j pt0).dev,z,(l.getD j pt0).l1,(l.getD j pt0).l2⟩).getD j pt0=⟨(l.getD j pt0).name,(l.getD j pt0).dev,z,(l.getD j pt0).l1,(l.getD j pt0).l2⟩:=by
    rw [qab,List.getElem?_set_self U];rfl
   rw [O];refine⟨Bd,da,dc,⟨?_,?_,?_,?_,?_⟩,J⟩
   ·exact (F 0 (by decide) (fun h=>absurd h (by decide))).trans e0
   ·rw [F 1 (by decide) (fun h=>absurd h (by decide))];exact e1
   ·rw [List.getElem?_set_self (by have:=(List.getElem?_eq_some_iff.1 e2').1;omega)]
   ·rw [F 3 (by decide) (fun h=>absurd h (by decide))];exact e3
   ·rw [F 4 (by decide) (fun h=>absurd h (by decide))];exact e4
  ·have O:(l.set k ⟨(l.getD k pt0).name,(l.getD k pt0).dev,z,(l.getD k pt0).l1,(l.getD k pt0).l2⟩).getD j pt0=l.getD j pt0:=by
    rw [qab,List.getElem?_set_ne (fun e=>G e.symm),<-qab]
   rw [O];refine⟨Bd,da,dc,⟨?_,?_,?_,?_,?_⟩,J⟩
   ·exact (F 0 (by decide) (fun h=>absurd h (by decide))).trans e0
   ·rw [F 1 (by decide) (fun h=>absurd h (by decide))];exact e1
   ·rw [F 2 (by decide) fun _=>G];exact e2'
   ·rw [F 3 (by decide) (fun h=>absurd h (by decide))];exact e3
   ·rw [F 4 (by decide) (fun h=>absurd h (by decide))];exact e4
