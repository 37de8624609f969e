import Derived.Test.YtplkdeknjghobaaGreatDoorBb15
set_option maxRecDepth 100000
set_option maxHeartbeats 0
namespace Go.Proofs.YtplkdeknjghobaaGreatDoor
open Go.RowKit Go.Proofs.Tryz
def qgt (w:World) (t:Tbl) (bl wl:List FT) (e:Ending) (F:World):Prop :=
  ((¬TOk t/\e=.returned (.tuple #[.slice none 0 0,.int .i64 60])) \/
   (TOk t/\¬(FAll bl/\FAll wl)/\e=.returned (.tuple #[.slice none 0 0,.int .i64 20])) \/
   (TOk t/\FAll bl/\FAll wl/\¬(bl.length=t.length/\wl.length=t.length/\¬Neg wl)/\e=.returned (.tuple #[.slice none 0 0,.int .i64 2])) \/
   (TOk t/\FAll bl/\FAll wl/\bl.length=t.length/\wl.length=t.length/\¬Neg wl /\
     ((Sing (wid t) (normQ t bl wl t.length)/\e=.returned (.tuple #[.slice none 0 0,.int .i64 7])) \/
      (¬Sing (wid t) (normQ t bl wl t.length)/\∃x,qcL (wid t) (normQ t bl wl t.length) (fun r=>normQ t bl wl t.length r (wid t)) x/\Tells (wid t) x e F))))/\Below w.heap.size w F
theorem qnZ {W:World} {I:Option Addr} {b off n c:Nat} {l:List FT} {H:Option Addr} {O F n2 c2:Nat} {l2:List FT} {g:Nat} {Z:TypeId} (hg:W.heap[g]? = some (.cells #[.slice I n c,.slice H n2 c2] Z (0,0))) (Y:l.length=n) (h:FCells W I b off l) (J:l2.length=n2) (U:FCells W H O F l2):TCells W (some ⟨g,0,none⟩) g 0 [l,l2]:=by
 refine⟨fun _=>rfl,fun k V=>?_⟩;rcases (show k=0\/k=1 by simp at V;omega) with rfl | rfl
 ·exact⟨I,b,off,c,by rw [show ([l,l2]:Tbl).getD 0 []=l from rfl,Y];exact qC _ _ 0 _ _ _ hg,h⟩
 ·exact⟨H,O,F,c2,by rw [show ([l,l2]:Tbl).getD 1 []=l2 from rfl,J];exact qC _ _ 1 _ _ _ hg,U⟩
theorem qlP {l l2:List FT}:(∀k,k<([l,l2]:Tbl).length->FAll (([l,l2]:Tbl).getD k []))↔FAll l/\FAll l2 :=
 ⟨fun h=>⟨h 0 (by simp),h 1 (by simp)⟩,fun h k F=>by
  rcases (show k=0\/k=1 by simp at F;omega) with rfl | rfl
  ·exact h.1
  ·exact h.2⟩
theorem qhy (ao:Option Addr) (b off R c:Nat) (t:Tbl) (Y:Option Addr) (b2 ah m c2:Nat) (bl:List FT) (aa:Option Addr) (b3 I q c3:Nat) (wl:List FT) (w:World) (hR:t.length=R) (hl:R<=4611686018427387904) (hw:∀k,k<R->(t.getD k []).length<=4611686018427387904) (hc:TCells w ao b off t)
  (hm:bl.length=m) (bu:m<=4611686018427387904) (au:FCells w Y b2 ah bl) (hq:wl.length=q) (bv:q<=4611686018427387904) (av:FCells w aa b3 I wl) (hT:HasT w) :
  Calls prog 129 #[.slice ao R c,.slice Y m c2,.slice aa q c3] w fun e w'=>qgt w t bl wl e w':=by
 obtain⟨W1,ae⟩:=qY (w.alloc (.cells #[.slice Y m c2,.slice aa q c3] 35));have O:Below w.heap.size w W1:=ae▸qbU qB qN;have aQ:W1.heap[w.heap.size]? = some (.cells #[.slice Y m c2,.slice aa q c3] 35 (0,0)):=by rw [ae];exact qM _ _ _ rfl
 have HK:=qH (qeY ao b off R c t (some ⟨w.heap.size,0,none⟩) w.heap.size 0 2 2 [bl,wl] W1 hR hl hw (hc.below O) rfl (by omega) (fun k hk=>by
  rcases (show k=0\/k=1 by omega) with rfl | rfl
  ·show bl.length<=_;omega
  ·show wl.length<=_;omega) (qnZ aQ hm (au.below O) hq (av.below O)))
 have F:=qH (qA hc (qA hR (qA au (qA hm (qA av (qA hq hT))))));have az:=qH O;clear hR hw hc hm au O aQ hT hq av;go_enter func129,ntmps129;go_wp2_with fail;rw [<-ae];clear ae;refine HK.o.mono ?_;rintro e w2 ⟨cc,rfl,aZ,aH⟩;have HB:=qH (az.o.trans (aH.mono az.o.size));clear aH;rcases aZ with ⟨rfl,hT⟩ | ⟨rfl,hT,hL⟩ | ⟨rfl,hT,hL⟩
 ·have HT:=qH hT;clear hT;go_wp2_with fail
  go_ret2
  exact⟨qan ⟨HT.o,rfl⟩,HB.o⟩
 ·have HT:=qH (qA hT hL);clear hT hL;go_wp2_with fail
  go_ret2
  exact⟨qag (qan ⟨HT.o.1,fun h=>HT.o.2 (qlP.2 h),rfl⟩),HB.o⟩
 obtain⟨aC,aD⟩:=qlP.1 hL;have bn:R<=40:=by have:=hT.r2;have:=F.o.2.1;omega
 have bq:1<=R:=by have:=hT.r1;have:=F.o.2.1;omega
 have aY:=F.o.1.addr (by have:=F.o.2.1;omega);subst aY;obtain⟨n,hn⟩:=qX (wid t);have aM:n<=10:=by have:=hT.c2;omega
 have bg:1<=n:=by have:=hT.c1;omega
 have J:=qH (qA hT (qA aC (qA aD hn)));clear hT hL aC aD hn;have aA:∀(W:World),Below w.heap.size w W->¬(bl.length=t.length/\wl.length=t.length/\¬Neg wl)->qgt w t bl wl (.returned (.tuple #[.slice none 0 0,.int .i64 2])) W:=fun W h hn=>⟨qag (qag (qan ⟨J.o.1,J.o.2.1,J.o.2.2.1,hn,rfl⟩)),h⟩
 have ai:=qH aA;clear aA
 by_cases e1:m=R
 case neg =>
  have aW:((m:Int) != (R:Int))=true:=by rw [bne_iff_ne];omega
  have HE:=qH (ai.o _ HB.o (fun h=>e1 (by rw [<-F.o.2.2.2.1,h.1,F.o.2.1])));clear e1;go_wp2_with fail
  go_ret2
  exact HE.o
 have aW:((m:Int) != (R:Int))=false:=by simp [e1]
 by_cases e2:q=R
 case neg =>
  have aX:((q:Int) != (R:Int))=true:=by rw [bne_iff_ne];omega
  have HE:=qH (ai.o _ HB.o (fun h=>e2 (by rw [<-F.o.2.2.2.2.2.1,h.2.1,F.o.2.1])));clear e2 e1;go_wp2_with fail
  go_ret2
  exact HE.o
 have aX:((q:Int) != (R:Int))=false:=by simp [e2]
 have He:=qH (qA e1 e2);have aF:=F.o.2.2.1.addr (by have:=F.o.2.2.2.1;omega);subst aF;have aG:=F.o.2.2.2.2.1.addr (by have:=F.o.2.2.2.2.2.1;omega);subst aG;have aN:=qgc (some ⟨b3,I,none⟩) b3 I q c3 wl w2 F.o.2.2.2.2.2.1 (by omega) (F.o.2.2.2.2.1.below HB.o) J.o.2.2.1;have HN:=qH aN;have bi:(q:Int)<=R:=by omega
 clear e1 e2 aN;go_wp2_with fail;refine HN.o.mono ?_;rintro e w3 ⟨x,rfl,hx,aI⟩;have H:=qH (HB.o.trans (aI.mono HB.o.size));clear aI;cases x with
 | true =>
  have HE:=qH (ai.o _ H.o (fun h=>h.2.2 (hx.1 rfl)));clear hx;go_wp2_with fail
  go_ret2
  exact HE.o
 | false =>
  have ax:¬Neg wl:=fun h=>by have:=hx.2 h;cases this
  have aO:=qlm b off c t b2 ah c2 bl b3 I c3 wl R n w3 J.o.1 F.o.2.1 J.o.2.2.2 (F.o.1.below H.o) J.o.2.1 (by rw [F.o.2.2.2.1];exact He.o.1) (F.o.2.2.1.below H.o) J.o.2.2.1 (by rw [F.o.2.2.2.2.2.1];exact He.o.2) (F.o.2.2.2.2.1.below H.o) ax;have bf:(m:Int)=R:=by have:=He.o.1;omega
  have aP:(q:Int)=R:=by have:=He.o.2;omega
  obtain rfl:m=R:=He.o.1;obtain rfl:q=m:=He.o.2;have aU:=qH aO;have aV:=qH ax;clear hx aO ax bf aP bi;go_wp2_with fail;refine aU.o.mono ?_;rintro e w4 ⟨tb,gs,M,Z,rfl,aJ,aT,hZ,aj,V,af⟩;have U:=H.o.trans (aJ.mono H.o.size);have aS:=qnF tb n 63440 gs M w4 bg aM (by omega) (by omega) aj (fun i hi=>by
   obtain⟨ps,_,h,_⟩:=aj.rows i hi;exact (qG h.1).1) (fun i hi j hj=>af i hi j hj) (F.o.2.2.2.2.2.2.below U)
  have HS:=qH aS;have ak:(Z:Rat)≠0:=by have:=qbl hZ;exact_mod_cast this
  have hA:∀i,i<n->∀j,j<n->castM M i j=(Z:Rat)*normQ t bl wl q i j:=fun i hi j hj=>V i hi j (by omega)
  have aB:∀i,i<n->castM M i n=(Z:Rat)*normQ t bl wl q i n:=fun i hi=>V i hi n (by omega)
  have aR:=Sing.scale (fun _=>(Z:Rat)) (fun _ _=>ak) hA;have ag:∀x,qcL n (castM M) (fun i=>castM M i n) x->qcL n (normQ t bl wl q) (fun r=>normQ t bl wl q r n) x:=fun x hx=>qcL.scale (fun _=>(Z:Rat)) (fun _ _=>ak) hA aB hx
  have HZ:=qH (qA aR (qA ag (qA U (qaj H.o.size aT))));clear aS aJ aT hZ aj V af ak hA aB aR ag U;go_wp2_with fail;refine HS.o.mono ?_;rintro e w5 ⟨aL,h5⟩;have aK:=qeh HZ.o.2.2.1 aL HZ.o.2.2.2;have ay:qgt w t bl wl e w5:=by
   refine⟨qag (qag (qag ⟨J.o.1,J.o.2.1,J.o.2.2.1,by rw [F.o.2.2.2.1,F.o.2.1],by rw [F.o.2.2.2.2.2.1,F.o.2.1],aV.o,?_⟩)),aK⟩;rw [F.o.2.1,J.o.2.2.2];rcases h5 with ⟨h,e⟩ | ⟨h,x,hx,ht⟩
   ·exact qan ⟨HZ.o.1.1 h,e⟩
   ·exact qag ⟨fun hs=>h (HZ.o.1.2 hs),x,HZ.o.2.1 x hx,ht⟩
  have HF:=qH ay;clear ay aK aL;rcases h5 with ⟨_,rfl⟩ | ⟨_,x,_,⟨_,g,rfl,_⟩ | ⟨_,rfl⟩⟩
  all_goals
   go_wp2_with fail
   go_ret2
   exact HF.o
theorem qmY (p1 p2 g1 g2 n1 n2 j:Nat) (m1 m2:Nat->Int) (K J:Nat) (ak:K+J<=274877906944) (w:World)
  (h1:w.cell? ⟨p1,0,none⟩=some (rowv g1 n1)) (h2:w.cell? ⟨p2,0,none⟩=some (rowv g2 n2)) (h3:qco w g1 n1 m1) (h4:qco w g2 n2 m2) (au:j<n1) (av:j<n2) (_hn1:n1<=1048576) (_hn2:n2<=1048576) (af:Fit (m1 j).natAbs K) (ag:Fit (m2 j).natAbs J) :
  Calls prog 171 #[.int .i64 j,.pointer (some ⟨p1,0,none⟩),.pointer (some ⟨p2,0,none⟩)] w fun e w'=>∃u,e=.returned u/\Below w.heap.size w w'/\IntAt w' u (m1 j*m2 j):=by
 obtain⟨I,Y⟩:=qY (w.alloc (.cells #[.slice none 0 0,.bool false] 242));have H:Below w.heap.size w I:=Y▸qbU qB qN;have ai:I.heap[w.heap.size]? = some (.cells #[.slice none 0 0,.bool false] 242 (0,0)):=by rw [Y];exact qM _ _ _ rfl
 have ah:qcm I w.heap.size 0:=⟨_,_,_,_,ai,_,rfl,MagAt.nil _⟩;obtain⟨a2,l2,c2,b2,q0,q1,i2⟩:=h3.pair au;obtain⟨a3,l3,c3,b3,q2,q3,i3⟩:=h4.pair av;have F:∀(p:Addr) (v:Value),w.cell? p=some v->∀W,I.grownBy W (some w.heap.size)->W.cell? p=some v:=fun p v h W hg=>by
  have Z:=qac w _ h;exact (qea hg (qai Z H.size) (Nat.ne_of_lt Z)).trans ((H.cell Z).trans h)
 have C1:=F _ _ h1;have C2:=F _ _ h2;have C3:=F _ _ q0;have C4:=F _ _ q1;have C5:=F _ _ q2;have C6:=F _ _ q3;have ay:(j:Int)<n1:=by omega
 have az:(j:Int)<n2:=by omega
 have aj:=qH (fun W (h:Below I.heap.size I W)=>qcC (m1 j) (m2 j) K J ak _ _ W (i2.below (H.trans (h.mono H.size))) (i3.below (H.trans (h.mono H.size))) af ag);have V:=qH (qA H ah);have ax:Below I.heap.size I I:=Below.refl _ _;have U:Below I.heap.size I I.drew:=ax.drew;clear F h1 h2 h3 h4 q0 q1 q2 q3 i2 i3 af ag H ai ah;go_enter func171,ntmps171;go_wp2_with fail;rw [<-Y];clear Y
 go_region_held3 (fun W=>I.grownBy W (some w.heap.size)) (first | with_reducible exact qc5 _ _ | with_reducible exact qb5 _ U | with_reducible exact qb5 _ O | exact qbZ (qbZ (qb5 _ O) (qbW _ _ _ _)) (qbW _ _ _ _)) (first | (go_at_call 172;refine (aj.o _ U).mono ?_;rintro e w6 ⟨u6,rfl,ae,aa⟩;have O:Below I.heap.size I w6:=bjoin U ae;obtain⟨a6,n6,c6,b6,rfl⟩:=qbV aa;obtain⟨_,_,_,_,⟨z0,z1⟩,⟨f0,f1⟩,_⟩:=(V.o.2.below O).cells;have HX:=qH ((V.o.2.below O).row2 aa);clear ae aa))
 all_goals go_wp2_with fail
 all_goals exact qR (v:=.agg #[.slice a6 n6 c6,.bool b6]) (rA_ rfl w.heap.size HX.o.1 underlying242 2) rfl ⟨_,rfl,((V.o.1.trans (O.mono V.o.1.size)).setCell (p:=⟨w.heap.size,0,none⟩) qN _).setCell (p:=⟨w.heap.size,1,none⟩) qN _,HX.o.2⟩
def resQ (t:Tbl) (bl F:List FT) (n i:Nat):Rat:=sumQ n (fun j=>tval t i j*lval F j)-lval bl i
def measQ (t:Tbl) (bl wl F:List FT) (n R:Nat):Rat:=sumQ R fun i=>lval wl i*(resQ t bl F n i*resQ t bl F n i)
def mval2 (t:Tbl) (bl F:List FT) (n i:Nat):Int:=isum (fun j=>ftop (besides t bl i) j*ftop F j) n + -(ftop (besides t bl i) n*((flcd F:Nat):Int))
theorem qmZ {t:Tbl} {bl F:List FT} {n i:Nat} (H:FAll (besides t bl i)) (Y:(besides t bl i).length=n+1) (O:(t.getD i []).length=n) (hx:FAll F) (U:F.length=n) :
  ((mval2 t bl F n i:Int):Rat)=(flcd (besides t bl i):Rat)*(flcd F:Rat)*resQ t bl F n i:=by
 unfold mval2 resQ
 push_cast
 rw [qgE,qfk H (by omega)];have I:sumQ n (fun p=>(((ftop (besides t bl i) p*ftop F p:Int)):Rat))=(flcd (besides t bl i):Rat)*(flcd F:Rat)*sumQ n (fun j=>tval t i j*lval F j):=by
  rw [<-qcb];refine qbX fun j V=>?_
  push_cast
  rw [qfk H (by omega),qfk hx (by omega)];have:lval (besides t bl i) j=tval t i j:=qgI (by omega);rw [this];grind
 have J:lval (besides t bl i) n=lval bl i:=by
  have:=qgH (l:=t.getD i []) (x:=bl.getD i fd0);rw [O] at this;exact this
 rw [I,J];grind
theorem qfw {t:Tbl} {bl F:List FT} {n i:Nat} (O:FAll (besides t bl i)) (Y:(besides t bl i).length=n+1) (Z:n<=10) (hx:FAll F) (U:F.length=n) :
  Fit (isum (fun j=>ftop (besides t bl i) j*ftop F j) n).natAbs 1621/\Fit (ftop (besides t bl i) n*((flcd F:Nat):Int)).natAbs 1543/\Fit (mval2 t bl F n i).natAbs 1622:=by
 have H:Fit (isum (fun j=>ftop (besides t bl i) j*ftop F j) n).natAbs 1621:=(qfq _ 1610 n (fun j V=>by
  rw [qaF];exact ((qdi O (m:=11) (by omega) (by omega)).mul (qdi hx (m:=11) (by omega) (by omega))).mono (by omega))).mono (by omega)
 have I:Fit (ftop (besides t bl i) n*((flcd F:Nat):Int)).natAbs 1543:=by
  rw [qaF,qam];exact ((qdi O (m:=11) (by omega) (by omega)).mul (qfj hx (m:=11) (by omega))).mono (by omega)
 refine⟨H,I,?_⟩;unfold mval2;have J:=I.mono (show 1543<=1621 by omega);rw [<-qbj] at J;exact (H.add J).le (qbF _ _)
theorem qiF {a b:Nat} (J:0<a) (O:0<b):a*(a.lcm b / a)=a.lcm b/\b*(a.lcm b / b)=a.lcm b/\a.lcm b / a<=b/\a.lcm b / b<=a:=by
 have H:=Nat.mul_div_cancel' (Nat.dvd_lcm_left a b);have I:=Nat.mul_div_cancel' (Nat.dvd_lcm_right a b);have F:a.lcm b<=a*b:=qbP (qbT J O) (Nat.lcm_dvd_mul _ _);refine⟨H,I,?_,?_⟩
 ·exact Nat.div_le_of_le_mul F
 ·exact Nat.div_le_of_le_mul (by rw [qat];exact F)
theorem Fit.zero (K:Nat):Fit 0 K:=Nat.pow_pos (by decide)
structure MSt (t:Tbl) (bl wl xl:List FT) (n i:Nat) (T:Int) (D:Nat):Prop where
 pos:0<D
 val:(T:Rat)=(D:Rat)*((flcd xl:Rat)*(flcd xl:Rat))*measQ t bl wl xl n i
 fitD:Fit D (1543*i+1)
 fitT:Fit T.natAbs (3400+1545*i)
theorem MSt.start (t:Tbl) (bl wl F:List FT) (n:Nat):MSt t bl wl F n 0 0 1:=⟨by decide,by simp [measQ,sumQ],by show 1<1000000000 ^ (1543*0+1);decide,Fit.zero _⟩
theorem MSt.skip {t:Tbl} {bl wl F:List FT} {n i:Nat} {T:Int} {D:Nat} (h:MSt t bl wl F n i T D) (H:wnum wl i=0):MSt t bl wl F n (i+1) T D:=by
 refine⟨h.pos,?_,h.fitD.mono (by omega),h.fitT.mono (by omega)⟩;rw [h.val]
 congr 1
 show measQ t bl wl F n i=measQ t bl wl F n i+lval wl i*_
 rw [qiI H];grind
theorem MSt.next {t:Tbl} {bl wl H:List FT} {n i:Nat} {T:Int} {D:Nat} (h:MSt t bl wl H n i T D) (I:NRow t bl wl i) (Y:(besides t bl i).length=n+1) (ht:(t.getD i []).length=n) (hx:FAll H) (O:H.length=n) (hn:n<=10) :
  MSt t bl wl H n (i+1) (T*((D.lcm (wdn t bl wl i) / D:Nat):Int)+((wnum wl i:Nat):Int)*mval2 t bl H n i*mval2 t bl H n i*((D.lcm (wdn t bl wl i) / wdn t bl wl i:Nat):Int)) (D.lcm (wdn t bl wl i)):=by
 obtain⟨p1,p2,p3,p4⟩:=qiF h.pos I.d.1;have hv:=qmZ I.fa Y ht hx O;have J:=(qfw I.fa Y hn hx O).2.2;refine⟨Nat.lcm_pos h.pos I.d.1,?_,?_,?_⟩
 ·have q1:(D:Rat)*((D.lcm (wdn t bl wl i) / D:Nat):Rat)=(D.lcm (wdn t bl wl i):Rat):=by exact_mod_cast p1
  have Z:((wdn t bl wl i:Nat):Rat)*((D.lcm (wdn t bl wl i) / wdn t bl wl i:Nat):Rat)=(D.lcm (wdn t bl wl i):Rat):=by exact_mod_cast p2
  have hd:((wdn t bl wl i:Nat):Rat)=(fden (wl.getD i fd0):Rat)*(flcd (besides t bl i):Rat)*(flcd (besides t bl i):Rat):=by unfold wdn;push_cast;rfl
  have V:(wnum wl i:Rat)=lval wl i*(fden (wl.getD i fd0):Rat):=by
   unfold lval;rw [qhR];have:(ival (wl.getD i fd0).1.data.toList:Int)=(wnum wl i:Int):=by have:=I.nn;unfold wnum;omega
   have hne:((fden (wl.getD i fd0):Nat):Rat)≠0:=by have:=qbl I.wd.1;exact_mod_cast this
   rw [this]
   show (wnum wl i:Rat)=(wnum wl i:Rat) / ((fden (wl.getD i fd0):Nat):Rat)*_
   grind
  show _=_*(measQ t bl wl H n i+lval wl i*(resQ t bl H n i*resQ t bl H n i))
  rw [hd] at Z;clear p1 p2 p3 p4;generalize D.lcm (wdn t bl wl i) / D=A at *;generalize D.lcm (wdn t bl wl i) / wdn t bl wl i=B at *
  push_cast
  rw [h.val,hv];generalize ((D.lcm (wdn t bl wl i):Nat):Rat)=L at *;generalize ((flcd (besides t bl i):Nat):Rat)=F at *;generalize ((flcd H:Nat):Rat)=U at *;generalize ((fden (wl.getD i fd0):Nat):Rat)=E at *;generalize resQ t bl H n i=r at *;generalize measQ t bl wl H n i=M at *;generalize lval wl i=l at *;rw [V];have e1:(D:Rat)*(U*U)*M*A=L*(U*U)*M:=by rw [<-q1];grind
  have e2:l*E*(F*U*r)*(F*U*r)*B=L*(U*U)*(l*(r*r)):=by rw [<-Z];grind
  rw [e1,e2];grind
 ·exact ((h.fitD.mul I.d.2).le (qbP (qbT h.pos I.d.1) (Nat.lcm_dvd_mul _ _))).mono (by omega)
 ·have f1:Fit (T*((D.lcm (wdn t bl wl i) / D:Nat):Int)).natAbs (3400+1545*i+1543):=by
   rw [qaF,qam];exact h.fitT.mul (I.d.2.le p3)
  have f2:Fit (((wnum wl i:Nat):Int)*mval2 t bl H n i*mval2 t bl H n i*((D.lcm (wdn t bl wl i) / wdn t bl wl i:Nat):Int)).natAbs (67+1622+1622+(1543*i+1)):=by
   rw [qaF,qaF,qaF,qam,qam];exact ((I.wn.mul J).mul J).mul (h.fitD.le p4)
  exact (((f1.mono (show _<=3400+1545*i+1544 by omega)).add (f2.mono (show _<=3400+1545*i+1544 by omega))).le (qbF _ _)).mono (by omega)
open Go.Lib
theorem qhT (x:Nat):itxt (x:Int)=decDigits x:=by
 unfold itxt;rw [if_neg (by omega),qam]
theorem qdh {q:Rat} (h:Short q):FOk (ftxt q).1.data.toList (ftxt q).2.data.toList:=by
 obtain⟨F,H⟩:=h;rw [qdF] at F H;have J:(ftxt q).2.data.toList=itxt (q.den:Int):=(qhT q.den).symm;have I:(ftxt q).1.data.toList=itxt q.num:=rfl;have O:=q.den_pos;rw [I,J];refine⟨qfW F,qfW (by rw [qam];exact H),?_,?_⟩
 ·rw [qdP];omega
 ·rw [qdP,qdP,qam];exact q.reduced
theorem qcN (q:Rat):fval (ftxt q).1.data.toList (ftxt q).2.data.toList=q:=by
 have H:(ftxt q).2.data.toList=itxt (q.den:Int):=(qhT q.den).symm;have F:(ftxt q).1.data.toList=itxt q.num:=rfl;rw [F,H];unfold fval;rw [qdP,qdP,qam];exact Rat.mkRat_self q
theorem qdr {n:Nat} {x:Nat->Rat} {i:Nat} (F:i<n):(told n x).getD i fd0=ftxt (x i):=by
 unfold told;rw [qaa,qay,qbb F];rfl
theorem qcU {n:Nat} {x:Nat->Rat} {i:Nat} (F:i<n):lval (told n x) i=x i:=by
 unfold lval;rw [qdr F,qcN]
theorem qdN {n:Nat} {x:Nat->Rat} (h:qb2 n x):FAll (told n x):=fun k F=>by
 rw [qb0] at F;rw [qdr F];exact qdh (h k F)
theorem qeV {n:Nat} {x y:Nat->Rat} (h:∀i,i<n->x i=y i):told n x=told n y:=by
 unfold told;exact List.map_congr_left fun i F=>by rw [h i (qbg.1 F)]
theorem qb2.congr {n:Nat} {x y:Nat->Rat} (h:qb2 n x) (e:∀i,i<n->x i=y i):qb2 n y:=fun i F=>by rw [<-e i F];exact h i F
def ttab (n m:Nat) (f:Nat->Nat->Rat):Tbl:=(List.range n).map fun i=>told m (f i)
theorem qcK (n m:Nat) (f:Nat->Nat->Rat):(ttab n m f).length=n:=by unfold ttab;rw [qav,qbx]
theorem qeK {n m:Nat} {f:Nat->Nat->Rat} {i:Nat} (F:i<n):(ttab n m f).getD i []=told m (f i):=by
 unfold ttab;rw [qaa,qay,qbb F];rfl
theorem qeW {n m:Nat} {f:Nat->Nat->Rat} (h:0<n):wid (ttab n m f)=m:=by unfold wid;rw [qeK h,qb0]
theorem qnY {n m:Nat} {f:Nat->Nat->Rat} (F:1<=n) (I:n<=40) (J:1<=m) (O:m<=10) (h:∀i,i<n->qb2 m (f i)):TOk (ttab n m f):=by
 refine⟨by rw [qcK];exact F,by rw [qcK];exact I,by rw [qeW F];exact J,by rw [qeW F];exact O,fun k H=>?_⟩;rw [qcK] at H;rw [qeW F,qeK H,qb0];exact⟨rfl,qdN (h k H)⟩
theorem ttab_val {n m:Nat} {f:Nat->Nat->Rat} {i j:Nat} (F:i<n) (H:j<m):tval (ttab n m f) i j=f i j:=by
 unfold tval;rw [qeK F,qcU H]
def Rb (q:Rat) (N:Nat):Prop:=q.num.natAbs<=N/\q.den<=N
theorem qgX {q:Rat} {p z:Int} {N:Nat} (U:z≠0) (O:p.natAbs<=N) (F:z.natAbs<=N) (h:q=(p:Rat) / z):Rb q N:=by
 have e:q=Rat.divInt p z:=by rw [h,Rat.divInt_eq_div]
 have hg:0<p.natAbs.gcd z.natAbs:=qba _ (by omega);obtain⟨H,I⟩:=qjV p z U;rw [<-e] at H I;have J:q.num.natAbs=p.natAbs / p.natAbs.gcd z.natAbs:=by
  rw [H];generalize p.natAbs / p.natAbs.gcd z.natAbs=A;split <;> omega
 exact⟨by rw [J];exact qaj (qaR _ _) O,by rw [I];exact qaj (qaR _ _) F⟩
theorem qeC {x k:Nat} (F:0<k) (h:x<10 ^ k):(num x).size<=k:=by rw [qdF];exact qcq k x F h
theorem qdk {q:Rat} {N:Nat} (h:Rb q N) (hN:N<10 ^ 600):Short q :=
 ⟨qeC (by decide) (qaL h.1 hN),qeC (by decide) (qaL h.2 hN)⟩
theorem itoa_int (z:Int) (H:-9223372036854775808<=z) (I:z<=9223372036854775807) (w:World) (hT:HasT w) :
  Calls prog 150 #[.int .i64 z] w fun e F=>e=.returned (.string (qb7 z))/\Below w.heap.size w F:=by
 refine (Tryz.strconv_Itoa z H I w hT).mono ?_;rintro e F ⟨rfl,k,os,rfl⟩;refine⟨?_,Lib.below_grow _ _ qN _ _⟩;have:Lib.itoa z=itxt z:=by
  unfold Lib.itoa itxt
  by_cases h:z<0
  ·rw [if_pos h,if_pos h]
   try (first | rfl | (congr 2;omega) | (congr 1;omega))
  ·rw [if_neg h,if_neg h]
   try (first | rfl | (congr 1;omega))
 rw [this];rfl
theorem qn2 (z:Int) (F:-9223372036854775808<=z) (H:z<=9223372036854775807) (w:World) (hT:HasT w) :
  Calls prog 80 #[.int .i64 z] w fun e U=>e=.returned (.string (qb7 z))/\Below w.heap.size w U:=by
 have O:=qH (itoa_int z F H w hT);clear F H hT;go_enter func80,ntmps80;go_wp2_with fail;refine O.o.mono ?_;rintro e V ⟨rfl,I⟩;have J:=qH I;clear I;go_wp2;go_ret;exact⟨rfl,J.o⟩
theorem red_val {z:Int} {d:Nat} (F:0<d) {q:Rat} (Y:q=mkRat z d):q.num=(if decide (z<0)=true then -((z.natAbs / z.natAbs.gcd d:Nat):Int) else ((z.natAbs / z.natAbs.gcd d:Nat):Int))/\q.den=d / z.natAbs.gcd d:=by
 have hg:0<z.natAbs.gcd d:=qba _ F;have V:d / z.natAbs.gcd d≠0:=qbl (Nat.div_pos (qbP F (qaW _ _)) hg);have O:(z.natAbs / z.natAbs.gcd d)*z.natAbs.gcd d=z.natAbs:=Nat.div_mul_cancel (qbN _ _);have U:(d / z.natAbs.gcd d)*z.natAbs.gcd d=d:=Nat.div_mul_cancel (qaW _ _);have H:(z.natAbs / z.natAbs.gcd d).Coprime (d / z.natAbs.gcd d):=Nat.coprime_div_gcd_div_gcd hg;generalize z.natAbs.gcd d=g at *;generalize Z:z.natAbs / g=A at *;generalize hD:d / g=D at *;have I:((A:Nat):Int)*(d:Int)=((z.natAbs:Nat):Int)*(D:Int):=by
  rw [<-O,<-U];push_cast;rw [qbC,qbi (D:Int)]
 refine qi5 V ?_ (qbl F) ?_ Y
 ·split
  ·rw [qbj,qam];exact H
  ·rw [qam];exact H
 ·by_cases J:z<0
  ·rw [if_pos (by simpa using J),qbz,I,show ((z.natAbs:Nat):Int) = -z by omega,qbz,Int.neg_neg]
  ·rw [if_neg (by simpa using J),I,show ((z.natAbs:Nat):Int)=z by omega]
theorem qdQ {W:World} {v:Value} {x:Nat} (h:MagAt W v x):∃(a:Option Addr) (n c:Nat),v=.slice a n c:=by
 obtain⟨a,b,o,c,n,L,rfl,_⟩:=h;exact⟨a,n,c,rfl⟩
theorem qjW (z:Int) (d K:Nat) (hK:K<=137438953472) (v vm:Value) (w:World) (hv:IntAt w v z) (hm:MagAt w vm d) (hz:Fit z.natAbs K) (hd:Fit d K) (h0:0<d) :
  Calls prog 149 #[v,vm] w fun e w'=>∃u,e=.returned u/\Below w.heap.size w w'/\RatV w' u (mkRat z d):=by
 obtain⟨m,rfl,ai⟩:=hv;obtain⟨am,nm,cm,rfl⟩:=qdQ ai;obtain⟨ad,nd,cd,rfl⟩:=qdQ hm;have Z:=red_val h0 (q:=mkRat z d) rfl;have hg:0<z.natAbs.gcd d:=qba _ h0;have aA:Fit (z.natAbs.gcd d) K:=hd.le (qbP h0 (qaW _ _));obtain⟨b0,aa⟩:=qX (decide (z<0));rw [aa] at Z;have HV:=qH (qA Z aa);rw [aa];obtain⟨W1,J⟩:=qY ((w.alloc (.cells #[.slice am nm cm,.bool b0] 136)).alloc (.cells #[.slice none 0 0,.bool false,.slice none 0 0] 138));have ae:Below w.heap.size w W1:=J▸qbU (qbU qB qN) qN;have aB:W1.heap[w.heap.size]? = some (.cells #[.slice am nm cm,.bool b0] 136 (0,0)):=by rw [J,qL _ _ _ (by simp only [qab];omega)];exact qM _ _ _ rfl
 have aC:W1.heap[w.heap.size+1]? = some (.cells #[.slice none 0 0,.bool false,.slice none 0 0] 138 (0,0)):=by rw [J];exact qM _ _ _ (by simp)
 have H1:=qH (qA ae (qA aB aC));have HM:=qH (qA ai hm);have HF:=qH (qA hz (qA hd (qA hg aA)));have HK:=qH hK;have HG:=qH ((qcZ .f) z.natAbs d K hK _ _ W1 (ai.below ae) (hm.below ae) hz hd);clear Z aa ai hm hz hd hg aA hK ae aB aC h0;go_enter func149,ntmps149;go_wp2_with fail;rw [<-J];clear J;refine HG.o.mono ?_;rintro e w2 ⟨vg,rfl,af,aj⟩;obtain⟨ag,ng,cg,rfl⟩:=qdQ aj;have O:=H1.o.1.trans (af.mono H1.o.1.size);have H2:=qH (qA O (qA (zkeep af _ _ H1.o.2.1) (zkeep af _ _ H1.o.2.2)));have HD:=qH ((qb3 .f) z.natAbs (z.natAbs.gcd d) K HK.o _ _ w2 (HM.o.1.below O) aj HF.o.1 HF.o.2.2.2 HF.o.2.2.1);have aG:=qH aj;have k0:=qC w2 _ 0 _ _ _ H2.o.2.1;clear af aj O;go_wp2_with fail;refine HD.o.mono ?_;rintro e w3 ⟨q,r,rfl,V,hq,hr⟩;obtain⟨aq,nq,cq,rfl⟩:=qdQ hq;obtain⟨ar,nr,cr,rfl⟩:=qdQ hr;have U:=H2.o.1.trans (V.mono H2.o.1.size);have H3:=qH (qA U (qA (zkeep V _ _ H2.o.2.1) (zkeep V _ _ H2.o.2.2)));have HQ:=qH hq;have HE:=qH ((qb3 .f) d (z.natAbs.gcd d) K HK.o _ _ w3 (HM.o.2.below U) (aG.o.below V) HF.o.2.1 HF.o.2.2.2 HF.o.2.2.1);clear V hq hr U k0;go_wp2_with fail;refine HE.o.mono ?_;rintro e w4 ⟨q2,r2,rfl,Y,ay,aD⟩;obtain⟨F,I,H,rfl⟩:=qdQ ay;obtain⟨aH,aJ,aI,rfl⟩:=qdQ aD;have ak:=H3.o.1.trans (Y.mono H3.o.1.size);have H4:=qH (qA ak (qA (zkeep Y _ _ H3.o.2.1) (zkeep Y _ _ H3.o.2.2)));have aF:=qH ay;have HS:=qH ((qb6 .f) _ b0 _ w4 (HQ.o.below Y));have k1:=qC w4 _ 1 _ _ _ H4.o.2.1;clear Y ay aD ak;go_wp2_with fail;refine HS.o.mono ?_;rintro e w5 ⟨u,rfl,ah,hu⟩;obtain⟨au,nu,cu,bu,rfl⟩:=qbV hu;have az:=zkeep ah _ _ H4.o.2.2;have av:=H4.o.1.trans (ah.mono H4.o.1.size);have ax:RatV (w5.setRow (w.heap.size+1) #[.slice au nu cu,.bool bu,.slice F I H]) (.agg #[.slice au nu cu,.bool bu,.slice F I H]) (mkRat z d):=by
  refine qeT (W:=w5) (cs':=#[.slice au nu cu,.bool bu,.slice F I H]) ?_ az;unfold RatV;rw [HV.o.1.1,HV.o.1.2];obtain⟨m',e1,e2⟩:=hu;simp only [qaP,qaV,qaN] at e1;obtain⟨rfl,e3,_⟩:=e1;rw [e3];exact⟨_,_,rfl,e2,aF.o.below ah⟩
 have H5:=qH (qA az (qA (qS av (show w.heap.size<=w.heap.size+1 by omega) #[.slice au nu cu,.bool bu,.slice F I H]) ax));clear ah az av ax hu k1
 go_wp2_with ((with_reducible refine sR_ rfl 138 _ _ rfl (w.heap.size+1) #[.slice au nu cu,.bool bu,.slice F I H] H5.o.1 3 ?_))
 exact qR (v:=.agg #[.slice au nu cu,.bool bu,.slice F I H]) (rA_ rfl (w.heap.size+1) (qT _ _ _ _ _ _ H5.o.1) underlying138 3) rfl ⟨_,rfl,H5.o.2.1,H5.o.2.2⟩
theorem qfY {z:Int} (h:z.natAbs<10 ^ 600):Valid (qb7 z).data.toList:=qfW (by have:=qeC (x:=z.natAbs) (k:=600) (by decide) h;rw [qdF] at this;exact this)
theorem qjn (z:Int):ival (qb7 z).data.toList=z:=qdP z
theorem qeA {x:Nat} (h:x<1000000000000000000000000000):Fit x 3:=by unfold Fit;exact h
theorem infoFs:(Tryz.prog.info? 35).map (fun i=>(i.zero,i.size,i.bytes))=some (some (.slice none 0 0),1,24):=by kernel_rfl
theorem qd7 {W:World} {B:Nat} {v:Value} {n:Nat} {l:List FT} (h:Rws W B 44 2 v n (fflat l)) (hl:l.length=n):∃(J:Option Addr) (g cap:Nat),v=.slice J n cap/\FCells W J g 0 l/\n<=cap:=by
 have F:=h.own;rcases h.2 with ⟨rfl,rfl⟩ | ⟨g,cap,cur,rfl,_,_,Z,_⟩
 ·exact⟨none,0,0,rfl,⟨fun U=>absurd U (by omega),fun k I=>absurd I (by omega)⟩,qae _⟩
 ·refine⟨some ⟨g,0,none⟩,g,cap,rfl,⟨fun _=>rfl,fun k I=>?_⟩,Z⟩;have hx:l[k]? = some (l.getD k fd0):=by rw [qaa,qad I];rfl
  obtain⟨V,Y⟩:=qd5 l k _ hx;have O:=F.cells (g:=g) rfl _ _ V;have H:=F.cells (g:=g) rfl _ _ Y;rw [Addr.add_mid] at O H;refine⟨O,?_⟩;rw [<-Nat.add_assoc] at H;exact H
theorem qd4 (x:ByteArray):qcD (.string x):=fun k d h=>by cases h
theorem qhh {V:Array Oper} {rest:List Oper} {o:Oper} {a:Act} {w:World} {Q:Exit->Act->World->Prop} (ae:o.guard=none) (s x:Operand)
  (ho:o.op=.call { callee:=.builtin .append,args:=#[s,x],argTypes:=#[35,35] }) {W0:World} {B:Nat} {v:Value} {n:Nat} {l:List FT} {x1 x2:ByteArray}
  (hB:Below B W0 w) (aj:B=W0.heap.size) (U:Rws w B 44 2 v n (fflat l)) (hs:a.eval s=v) {g:Nat} (hx:a.eval x=.slice (some ⟨g,0,none⟩) 1 1) (af:g=w.heap.size) (hn:n<1000000)
  (h:∀Z Y,Hu (Rws Y B 44 2 Z (n+1) (fflat (l++[(x1,x2)])))->Hu (Below B W0 Y)->wpList prog V Q rest (a.put o.dst Z) Y) :
  wpList prog V Q (o :: rest) a (w.alloc (.cells #[.string x1,.string x2] 44)):=by
 subst af;obtain⟨i0,hi,ag,ah,ai⟩:=info_parts infoF;have ak:=hB.size;have aa:Below w.heap.size w (w.alloc (.cells #[.string x1,.string x2] 44)):=qbU qB qN;have F:=U.below aa;have hg:=heap_alloc_new w (.cells #[.string x1,.string x2] 44);refine qds ae s x 35 ho B 44 i0 _ 2 32 underlying35 hi ag ah ai rfl (by decide) ?nz v n (fflat l) hs F ⟨w.heap.size,0,none⟩ 1 1 [.string x1,.string x2] hx rfl ?c1 ?c2 ?c3 (by decide) (by unfold maxLen;omega) (by omega) (by simp only [qab];omega) ?_
 case nz =>
  intro y hy;rcases qaJ.1 (show y∈[Value.string ⟨#[]⟩,Value.string ⟨#[]⟩] from hy) with rfl | hy
  ·exact qd4 _
  ·rw [qap.1 hy];exact qd4 _
 case c1 =>
  intro j u O;rw [Addr.add_mid]
  match j,O with
  | 0,O=>exact (qC _ _ _ _ _ _ hg).trans O
  | 1,O=>exact (qC _ _ _ _ _ _ hg).trans O
 case c2 =>
  intro u J;rcases qaJ.1 J with rfl | J
  ·rfl
  ·rw [qap.1 J];rfl
 case c3 =>
  intro u J;rcases qaJ.1 J with rfl | J
  ·exact qd4 _
  ·rw [qap.1 J];exact qd4 _
 intro Z Y I H _;refine h Z Y (qH ?_) (qH ?_)
 ·rw [qcM];exact I
 ·exact F.old H (hB.alloc (by omega) _) qN (by simp only [qab];omega)
section
variable {P:Program} {ops:Array Oper} {Q:Exit->Act->World->Prop} {md:Region.Mode} {S:World->Prop}
def nthOp:List Oper->Nat->Option Oper
 | [],_=>none
 | o :: _,0=>some o
 | _ :: l,n+1=>nthOp l n
theorem qhC:∀{l:List Oper} {i:Nat} {o:Oper},nthOp l i=some o->l.toArray[i]? = some o
 | [],_,_,h=>by cases h
 | _ :: _,0,_,h=>by rw [qau];exact h
 | _ :: l,n+1,_,h=>by
  have:=qhC (l:=l) h;rw [qau] at this ⊢;exact this
theorem qh4 {F:Array Oper} {i:Nat} {o:Oper} (h:nthOp F.toList i=some o):F[i]? = some o:=qhC (l:=F.toList) h
theorem qmv {T:World->Prop} (hT:∀W,T W->S W):∀(F:Nat) (H:Array Bool) (a:Act) (w:World),wpAnyH P md ops Q T F H a w->wpAnyH P md ops Q S F H a w
 | 0,_,_,_,h=>h
 | F+1,_,_,_,h=>⟨h.1,fun i J=>wpOp_mono (fun _ _ I=>⟨hT _ I.1,qmv hT F _ _ _ I.2⟩) (h.2 i J)⟩
theorem hd_take (i:Nat) {o:Oper} {v:Value} {H:Nat} {F:Array Bool} {a:Act} {w:World} (J:nthOp ops.toList i=some o)
  (I:(Region.noSelect ops && (Region.free md ops F i && (Region.ready md ops F).contains i))=true) (O:∀c a w,Q (.panic c) (a.put o.dst v) w->Q (.panic c) a w) (hS:S w)
  (V:Region.wanted o (yielded ops a.tmps)=true) (hy:∀w,S w->(execOp a.eval o).run P w=.ok (.value v) w)
  (h:wpAnyH P md ops Q S H (F.setIfInBounds i true) (a.put o.dst v) w):wpAnyH P md ops Q S (H+1) F a w:=by
 have U:=qh4 J;rw [qa5,qa5] at I;exact wpAnyH_take U I.1 I.2.1 I.2.2 O (qan ⟨V,hy⟩) hS h
def Way (P:Program) (J:Region.Mode) (I:Array Oper) (Q:Exit->Act->World->Prop) (S:World->Prop) (H:Nat) (F:Array Bool) (K:Act->World->Prop):Prop :=
 Shut (∀(T:World->Prop) (a:Act) (w:World),(∀W,T W->S W)->T w->wpAnyH P J I Q T H F a w->K a w)
theorem hd_step {i:Nat} {o:Oper} {H:Nat} {F:Array Bool} {a:Act} {w:World} (Y:ops[i]? = some o)
  (h:∀K:Act->World->Prop,Way P md ops Q S H (F.setIfInBounds i true) K->if Region.wanted o (yielded ops a.tmps)=true then Oper.wp P o a w K Q else K (a.put o.dst undef) w) :
  wpOp P ops Q i (fun O I=>S I/\wpAnyH P md ops Q S H (F.setIfInBounds i true) O I) a w :=
 wpOp_step Y fun J U=>h J fun _T a w hT Z V=>U a w ⟨hT w Z,qmv hT _ _ _ _ V⟩
theorem qhv (i:Nat) {o:Oper} {H:Nat} {F:Array Bool} {a:Act} {w:World} (I:nthOp ops.toList i=some o) (O:decide (Region.ready md ops F=[i])=true)
  (h:∀K:Act->World->Prop,Way P md ops Q S H (F.setIfInBounds i true) K->if Region.wanted o (yielded ops a.tmps)=true then Oper.wp P o a w K Q else K (a.put o.dst undef) w) :
  wpAnyH P md ops Q S (H+1) F a w:=by
 refine wpAnyH_all (of_decide_eq_true O) (by simp) fun j J=>?_
 rw [qap] at J;subst J;exact hd_step (qh4 I) h
theorem Way.on {H:Nat} {F:Array Bool} {K:Act->World->Prop} (h:Way P md ops Q S H F K) (T:World->Prop) (a:Act) (w:World) (hT:∀W,T W->S W) (I:T w) (k:T w->wpAnyH P md ops Q T H F a w):K a w :=
 h.out T a w hT I (k I)
end
def pf (a:Act) (v:Nat->Value):List (Nat×Tmp)->Act
 | []=>a
 | p :: D=>(pf a v D).put (some p.2) (v p.1)
def upd {α:Type} (v:Nat->α) (i:Nat) (x:α):Nat->α:=fun k=>if k=i then x else v k
theorem upd_same {α:Type} (v:Nat->α) (i:Nat) (x:α):upd v i x i=x:=if_pos rfl
theorem qcc {α:Type} (v:Nat->α) {i k:Nat} (x:α) (h:k≠i):upd v i x k=v k:=if_neg h
theorem put_put (a:Act) (d:Tmp) (x y:Value):(a.put (some d) x).put (some d) y=a.put (some d) y:=by
 simp [Act.put]
theorem qfR (a:Act) (v:Nat->Value) (i:Nat) (x:Value):∀D:List (Nat×Tmp),(∀p∈D,p.1≠i)->pf a (upd v i x) D=pf a v D
 | [],_=>rfl
 | p :: D,h=>by
  show (pf a (upd v i x) D).put _ (upd v i x p.1)=(pf a v D).put _ (v p.1)
  rw [qfR a v i x D fun q F=>h q (qbK _ F),qcc _ _ (h p (qbS ..))]
theorem pf_put (a:Act) (v:Nat->Value) {i:Nat} {d:Tmp} (x:Value):∀D:List (Nat×Tmp),(D.map (·.1)).Nodup->(D.map (·.2)).Nodup->(i,d)∈D->(pf a v D).put (some d) x=pf a (upd v i x) D
 | [],_,_,h=>by cases h
 | p :: D,F,H,h=>by
  rw [qbv,List.nodup_cons] at F H;rcases qaJ.1 h with e | h
  ·subst e
   show ((pf a v D).put (some d) (v i)).put (some d) x=(pf a (upd v i x) D).put (some d) (upd v i x i)
   rw [put_put,upd_same,qfR a v i x D fun q O e=>F.1 (qbp.2 ⟨q,O,e⟩)]
  ·have hne:p.1≠i:=fun e=>F.1 (qbp.2 ⟨_,h,e.symm⟩)
   have I:p.2≠d:=fun e=>H.1 (qbp.2 ⟨_,h,e.symm⟩)
   show ((pf a v D).put (some p.2) (v p.1)).put (some d) x=(pf a (upd v i x) D).put (some p.2) (upd v i x p.1)
   rw [qcc _ _ hne,<-pf_put a v x D F.2 H.2 h];exact Act.put_comm _ _ _ fun e he J=>I (by cases he;cases J;rfl)
theorem qnm (a:Act) (v:Nat->Value):∀D:List (Nat×Tmp),(∀p∈D,v p.1=a.tmps.getD p.2 undef/\p.2<a.tmps.size)->pf a v D=a
 | [],_=>rfl
 | p :: D,h=>by
  show (pf a v D).put (some p.2) (v p.1)=a
  obtain⟨F,H⟩:=h p (qbS ..);rw [qnm a v D fun q I=>h q (qbK _ I),F]
  show { a with tmps:=a.tmps.setIfInBounds p.2 _ }=a
  congr 1
  apply Array.ext_getElem?;intro j;rw [Array.getElem?_setIfInBounds];split
  ·next e=>subst e;simp [H]
  ·rfl
def arr (n:Nat) (L:Nat->Bool):Array Bool:=((List.range n).map L).toArray
theorem qhL (n:Nat) (L:Nat->Bool) (i:Nat) (b:Bool):(arr n L).getD i b=if i<n then L i else b:=by
 unfold arr;rw [Array.getD_eq_getD_getElem?,qau,qay]
 by_cases h:i<n
 ·rw [qbb h,if_pos h];rfl
 ·rw [qaS (by rw [qbx];omega),if_neg h];rfl
theorem arr_set (n:Nat) (L:Nat->Bool) (i:Nat):(arr n L).setIfInBounds i true=arr n (upd L i true):=by
 unfold arr;rw [qaA]
 congr 1
 apply List.ext_getElem?;intro k
 by_cases e:k=i
 ·subst e
  by_cases h:k<n
  ·rw [List.getElem?_set_self (by simpa using h),qay,qbb h]
   show some true=some (upd L k true k)
   rw [upd_same]
  ·rw [qaS (by simp;omega),qaS (by simp;omega)]
 ·rw [List.getElem?_set_ne (by omega),qay,qay];cases hk:(List.range n)[k]? with
  | none=>rfl
  | some j =>
   have:j=k:=by
    obtain⟨h,e2⟩:=List.getElem?_eq_some_iff.1 hk;rw [List.getElem_range] at e2;exact e2.symm
   subst this
   show some (L j)=some (upd L i true j)
   rw [qcc _ _ e]
section
variable {P:Program} {ops:Array Oper} {Q:Exit->Act->World->Prop} {md:Region.Mode} {S:World->Prop}
theorem qi7 (n:Nat) (L:Nat->Bool) (U:n=ops.size) (i:Nat):i∈Region.ready md ops (arr n L)↔i<n/\L i=false/\∃o,ops[i]? = some o/\(o.after.all fun e=>!Region.binds md e || (decide (e.on<n) && L e.on))=true:=by
 have J:∀o:Oper,(o.after.all fun e=>!Region.binds md e || (arr n L).getD e.on false)=(o.after.all fun e=>!Region.binds md e || (decide (e.on<n) && L e.on)):=fun o=>congrArg (fun f=>o.after.all f) (funext fun e=>by
  rw [qhL]
  by_cases h:e.on<n
  ·rw [if_pos h,qV h,Bool.true_and]
  ·rw [if_neg h,qU h,Bool.false_and])
 unfold Region.ready;rw [List.mem_filter,qbg,<-U]
 constructor
 ·rintro ⟨H,I⟩;rw [qa5] at I;refine⟨H,?_,?_⟩
  ·have:=I.1;rw [qhL,if_pos H] at this;simpa using this
  ·have F:=I.2;cases e:ops[i]? with
   | none=>rw [e] at F;exact absurd F (by simp)
   | some o =>
    rw [e] at F;exact⟨o,rfl,(J o).symm.trans F⟩
 ·rintro ⟨H,I,o,F,O⟩;refine⟨H,?_⟩;rw [qa5];refine⟨by rw [qhL,if_pos H,I];rfl,?_⟩;rw [F];exact (J o).trans O
def waits (F:Region.Mode) (o:Oper):List Nat:=(o.after.toList.filter fun e=>Region.binds F e).map (·.on)
theorem qn0 {o:Oper} {n:Nat} {L:Nat->Bool} (h:(o.after.all fun e=>!Region.binds md e || (decide (e.on<n) && L e.on))=true):∀k∈waits md o,k<n/\L k=true:=by
 intro k I;obtain⟨e,he,rfl⟩:=qbp.1 I;obtain⟨he,F⟩:=List.mem_filter.1 he;obtain⟨j,H,rfl⟩:=Array.getElem_of_mem (Array.mem_toList_iff.1 he);have:=(Array.all_eq_true.1 h) j H;rw [F] at this
 simpa using this
def dagB (H:Region.Mode) (F:Array Oper):Bool:=(List.range F.size).all fun i=>((nthOp F.toList i).map fun o=>(waits H o).all fun k=>decide (k<i)).getD true
theorem qkz:∀{l:List Oper} {i:Nat} {o:Oper},l[i]? = some o->nthOp l i=some o
 | [],_,_,h=>by simp at h
 | _ :: _,0,_,h=>by simpa [nthOp] using h
 | _ :: l,n+1,_,h=>by
  show nthOp l n=_
  exact qkz (by simpa using h)
theorem qdT {i:Nat} {o:Oper} (h:ops[i]? = some o):nthOp ops.toList i=some o:=qkz (by rw [<-qau];exact h)
theorem qll {L:Nat->Bool} (V:dagB md ops=true) (h:Region.ready md ops (arr ops.size L)=[]):∀i,i<ops.size->L i=true:=by
 intro i
 induction i using Nat.strongRecOn with
 | ind i ih =>
  intro H;apply Classical.byContradiction;intro O;have J:ops[i]? = some ops[i]:=Array.getElem?_eq_getElem H;have F:=(qa7.1 V) i (qbg.2 H);rw [qdT J] at F;have F:(waits md ops[i]).all (fun k=>decide (k<i))=true:=F;have:i∈Region.ready md ops (arr ops.size L):=(qi7 _ L rfl i).2 ⟨H,by simpa using O,_,J,Array.all_eq_true.2 fun j Y=>by
   cases U:Region.binds md ops[i].after[j] with
   | false=>rfl
   | true =>
    have Z:ops[i].after[j].on∈waits md ops[i]:=qbp.2 ⟨_,List.mem_filter.2 ⟨Array.mem_toList_iff.2 (Array.getElem_mem Y),U⟩,rfl⟩;have I:=of_decide_eq_true ((qa7.1 F) _ Z);rw [ih _ I (by omega)];simp;omega⟩
  rw [h] at this;cases this
def leftN (n:Nat) (L:Nat->Bool):Nat:=((List.range n).filter fun k=>!L k).length
theorem qmJ {n:Nat} {L:Nat->Bool} {i:Nat} (H:i<n) (J:L i=false):leftN n (upd L i true)<leftN n L:=by
 have F:∀l:List Nat,(∀x∈l,x=i->False)\/i∈l->((l.filter fun k=>!upd L i true k).length<=(l.filter fun k=>!L k).length)/\(i∈l->(l.filter fun k=>!upd L i true k).length<(l.filter fun k=>!L k).length):=by
  intro l _
  induction l with
  | nil=>exact⟨qae _,fun h=>by cases h⟩
  | cons x l ih =>
   have ih:=ih (by by_cases h:i∈l;exact qag h;exact qan fun y hy e=>h (e▸hy))
   by_cases e:x=i
   ·subst e;rw [List.filter_cons_of_neg (by rw [upd_same];simp),List.filter_cons_of_pos (by rw [J];rfl),qbM];exact⟨by omega,fun _=>by omega⟩
   ·have I:upd L i true x=L x:=qcc _ _ e;cases hx:L x with
    | true =>
     rw [List.filter_cons_of_neg (by rw [I,hx];simp),List.filter_cons_of_neg (by rw [hx];simp)];exact⟨ih.1,fun h=>ih.2 (by rcases qaJ.1 h with h | h;exact absurd h.symm e;exact h)⟩
    | false =>
     rw [List.filter_cons_of_pos (by rw [I,hx];rfl),List.filter_cons_of_pos (by rw [hx];rfl),qbM,qbM];exact⟨by omega,fun h=>by
      have:=ih.2 (by rcases qaJ.1 h with h | h;exact absurd h.symm e;exact h);omega⟩
 exact (F _ (qag (qbg.2 H))).2 (qbg.2 H)
theorem qlc {n:Nat} {L:Nat->Bool} (h:leftN n L=0):∀i,i<n->L i=true:=fun i H=>by
 have:=List.eq_nil_of_length_eq_zero h;cases hL:L i with
 | true=>rfl
 | false =>
  have F:i∈(List.range n).filter fun k=>!L k:=List.mem_filter.2 ⟨qbg.2 H,by rw [hL];rfl⟩
  rw [this] at F;cases F
def dstB (F:Array Oper) (D:List (Nat×Tmp)) (T:List Nat):Bool:=(List.range F.size).all fun i=>T.contains i || ((nthOp F.toList i).map fun o=>match o.dst with | none=>!(D.map (·.1)).contains i | some d=>D.contains (i,d)).getD true
end
section
variable {P:Program} {ops:Array Oper} {Q:Exit->Act->World->Prop} {md:Region.Mode} {S:World->Prop}
def dep (F:List (Nat×List Nat)) (i:Nat):List Nat:=(F.lookup i).getD []
theorem qjK {n:Nat} {L M:Nat->Bool} (h:∀i,i<n->L i=M i):leftN n L=leftN n M:=by
 unfold leftN
 congr 1
 exact List.filter_congr fun i F=>by rw [h i (qbg.1 F)]
section
variable {dl:List (Nat×List Nat)} {F:Nat->Value->List Nat->World->Prop} {w0:World} {i:Nat} {gs:Nat->List Nat} {w:World} {A:Act} {d:Option Tmp} {K:Act->World->Prop}
end
end
class Stays (p:World->Prop):Prop where
 go:∀{W W':World},p W->Below W.heap.size W W'->p W'
instance stays_and {p q:World->Prop} [hp:Stays p] [hq:Stays q]:Stays fun W=>p W/\q W:=⟨fun h F=>⟨hp.go h.1 F,hq.go h.2 F⟩⟩
instance stays_const {p:Prop}:Stays fun _=>p:=⟨fun h _=>h⟩
instance stays_old {w:World}:Stays fun W=>Below w.heap.size w W:=⟨fun h F=>h.trans (F.mono h.size)⟩
instance stays_row {g:Nat} {o:Obj}:Stays fun W=>W.heap[g]? = some o:=⟨fun h F=>(F.block g (qG h).1).trans h⟩
instance stays_ex {α:Type} {p:α->World->Prop} [hp:∀x,Stays (p x)]:Stays fun W=>∃x,p x W:=⟨fun⟨x,h⟩ hb=>⟨x,(hp x).go h hb⟩⟩
def Kn (p:World->Prop) (W:World):Prop:=Hu (p W)
theorem Kn.o {p:World->Prop} {W:World} (k:Kn p W):p W:=Hu.o k
theorem Kn.of {p:World->Prop} {W:World} (h:p W):Kn p W:=qH h
theorem Kn.below {p:World->Prop} [hp:Stays p] {W W':World} (k:Kn p W) (F:Below W.heap.size W W'):Kn p W':=.of (hp.go k.o F)
theorem Kn.on {p q:World->Prop} [hp:Stays p] {W W':World} (k:Kn p W) (F:Below W.heap.size W W') (h:q W'):Kn (fun W=>p W/\q W) W':=.of ⟨hp.go k.o F,h⟩
theorem Kn.also {p q:World->Prop} {W:World} (k:Kn p W) (h:q W):Kn (fun W=>p W/\q W) W:=.of ⟨k.o,h⟩
section
variable {P:Program} {ops:Array Oper} {Q:Exit->Act->World->Prop} {md:Region.Mode} {S:World->Prop}
def growB (H:Region.Mode) (F:Array Oper) (rl:List (Nat×List Nat)) (T:List Nat) (n0:Nat):Bool :=
 ((List.range n0).all fun i=>T.contains i || (((nthOp F.toList i).map fun o=>(dep rl i).all fun k=>(waits H o).contains k && (!T.contains k && decide (k<n0))).getD false)) &&
 ((decide (F.size<=n0) || (List.range n0).all fun k=>T.contains k || (List.range (n0+1)).any fun j=>decide (k<j) && ((nthOp F.toList j).map fun o=>(waits H o).contains k).getD false) &&
 (!T.contains n0 && (List.range F.size).all fun i=>decide (i<=n0) || (T.contains i || ((nthOp F.toList i).map fun o=>(waits H o).any fun k=>decide (n0<=k) && !T.contains k).getD false)))
section
variable {ops:Array Oper} {md:Region.Mode}
theorem qk8 {rl:List (Nat×List Nat)} {T:List Nat} {n0:Nat} (h:growB md ops rl T n0=true) {i:Nat} {o:Oper} (I:i<n0) (hT:i∉T) (O:nthOp ops.toList i=some o):∀k∈dep rl i,k∈waits md o/\k∉T/\k<n0:=by
 intro k J;unfold growB at h;rw [qa5] at h;have F:=(qa7.1 h.1) i (qbg.2 I);rw [Bool.or_eq_true,O] at F;rcases F with F | F
 ·exact absurd (qaD.1 F) hT
 ·have H:=(qa7.1 (show ((dep rl i).all fun k=>(waits md o).contains k && (!T.contains k && decide (k<n0)))=true from F)) k J;simp only [qa5,decide_eq_true_eq,Bool.not_eq_true'] at H;refine⟨qaD.1 H.1,fun e=>?_,H.2.2⟩;rw [qaD.2 e] at H;exact absurd H.2.1 (by decide)
theorem qk9 {rl:List (Nat×List Nat)} {T:List Nat} {n0:Nat} (h:growB md ops rl T n0=true) (O:n0<ops.size) {k:Nat} (J:k<n0) (hT:k∉T):∃j o,k<j/\j<=n0/\nthOp ops.toList j=some o/\k∈waits md o:=by
 unfold growB at h;rw [qa5,qa5,Bool.or_eq_true,decide_eq_true_eq] at h;have H:=(qa7.1 (h.2.1.resolve_left (by omega))) k (qbg.2 J);rw [Bool.or_eq_true] at H;rcases H with H | H
 ·exact absurd (qaD.1 H) hT
 obtain⟨j,I,F⟩:=List.any_eq_true.1 H;rw [qa5,decide_eq_true_eq] at F;have I:=qbg.1 I;cases e:nthOp ops.toList j with
 | none=>rw [e] at F;exact absurd F.2 (by simp)
 | some o=>rw [e] at F;exact⟨j,o,F.1,by omega,e,qaD.1 F.2⟩
theorem qk7 {rl:List (Nat×List Nat)} {T:List Nat} {n0:Nat} (h:growB md ops rl T n0=true) {i:Nat} {o:Oper} (U:n0<i) (hT:i∉T) (O:i<ops.size) (J:nthOp ops.toList i=some o):∃k∈waits md o,n0<=k/\k∉T:=by
 unfold growB at h;rw [qa5,qa5,qa5] at h;have H:=(qa7.1 h.2.2.2) i (qbg.2 O);rw [Bool.or_eq_true,decide_eq_true_eq,Bool.or_eq_true,J] at H;rcases H with H | H | H
 ·omega
 ·exact absurd (qaD.1 H) hT
 ·obtain⟨k,I,F⟩:=List.any_eq_true.1 (show ((waits md o).any fun k=>decide (n0<=k) && !T.contains k)=true from H);rw [qa5,decide_eq_true_eq,Bool.not_eq_true'] at F;exact⟨k,I,F.1,fun e=>by rw [qaD.2 e] at F;cases F.2⟩
theorem growB_own {rl:List (Nat×List Nat)} {T:List Nat} {n0:Nat} (h:growB md ops rl T n0=true):n0∉T:=fun e=>by
 unfold growB at h;rw [qa5,qa5,qa5,Bool.not_eq_true'] at h;have:=h.2.2.1;rw [qaD.2 e] at this;cases this
end
def pv:Value->Nat
 | .pointer (some a)=>a.block
 | .slice (some a) _ _=>a.block
 | _=>0
structure Grown (md:Region.Mode) (ops:Array Oper) (T E:List Nat) (n0:Nat) (F:Nat->Value->World->Prop) (w0:World) (L:Nat->Bool) (v:Nat->Value) (w:World):Prop where
 old:Below w0.heap.size w0 w
 top:∀i,n0<=i->i∉T->L i=false
 took:∀k∈T,L k=true
 shut:∀j o,nthOp ops.toList j=some o->L j=true->∀k∈waits md o,L k=true
 fact:∀i,i<n0->i∉T->L i=true->F i (v i) w
 lt:∀i∈E,L i=true->pv (v i)<w.heap.size
 apart:∀i∈E,∀j∈E,L i=true->L j=true->i≠j->pv (v i)≠pv (v j)
def Grows (F:Nat->Value->World->Prop) (E:List Nat) (i:Nat) (w:World) (A:Act) (d:Option Tmp) (K:Act->World->Prop):Prop :=
 Shut (∀(x:Value) (I:Act) (H:World),I=A.put d x->F i x H->(E.contains i=true->w.heap.size<=pv x/\pv x<H.heap.size)->Below w.heap.size w H->K I H)
theorem Grows.to {F:Nat->Value->World->Prop} {E:List Nat} {i:Nat} {w:World} {A:Act} {d:Option Tmp} {K:Act->World->Prop} (h:Grows F E i w A d K) (x:Value) (I:Act) (H:World) (J:I=A.put d x) (O:F i x H) (hE:E.contains i=true->w.heap.size<=pv x/\pv x<H.heap.size) (U:Below w.heap.size w H):K I H:=h.out x I H J O hE U
theorem qj4 (a:Act) (D:List (Nat×Tmp)) (rl:List (Nat×List Nat)) (T E:List Nat) (n0:Nat) (F:Nat->Value->World->Prop) (w0:World) (T2:List Nat)
  (ay:∀i x w w',F i x w->Below w.heap.size w w'->F i x w')
  (ak:dagB md ops=true) (h1:(D.map (·.1)).Nodup) (h2:(D.map (·.2)).Nodup) (au:dstB ops D T2=true) (aA:∀k,k<n0->k∈T2->k∈T) (hB:growB md ops rl T n0=true) (hn:n0<=ops.size) (kl:Nat) (aD:leftN ops.size (fun i=>decide (i<n0) || T.contains i)=kl)
  (hS:∀w,Below w0.heap.size w0 w->S w)
  (hstep:∀i o,nthOp ops.toList i=some o->i<n0->i∉T->∀(v:Nat->Value) (w:World),Below w0.heap.size w0 w->(∀k∈dep rl i,F k (v k) w) ->
   ∀A,A=pf a v D->∀K,Grows F E i w A o.dst K->if Region.wanted o (yielded ops A.tmps)=true then Oper.wp P o A w K Q else K (A.put o.dst undef) w)
  (hend:∀v w,Grown md ops T E n0 F w0 (fun i=>decide (i<n0) || T.contains i) v w->∀A,A=pf a v D->∀f,wpAnyH P md ops Q S (f+kl) (arr ops.size fun i=>decide (i<n0) || T.contains i) A w) :
  ∀(H:Nat) (L:Nat->Bool) (v:Nat->Value) (w:World),leftN ops.size L<=H->Grown md ops T E n0 F w0 L v w->wpAnyH P md ops Q S H (arr ops.size L) (pf a v D) w:=by
 have ai:∀(H:Nat) (L:Nat->Bool) (v:Nat->Value) (w:World),leftN ops.size L<=H->Grown md ops T E n0 F w0 L v w->(∀i,i<n0->L i=true)->wpAnyH P md ops Q S H (arr ops.size L) (pf a v D) w:=by
  intro H L v w hf I O;have az:L=fun i=>decide (i<n0) || T.contains i:=funext fun i=>by
   by_cases h:i<n0
   ·rw [O i h,qV h];rfl
   ·by_cases h2:i∈T
    ·rw [I.took i h2,qaD.2 h2,Bool.or_true]
    ·rw [I.top i (by omega) h2,qU h,Bool.false_or];exact (Bool.not_eq_true _▸fun e=>h2 (qaD.1 e):T.contains i=false).symm
  subst az;rw [aD] at hf;obtain⟨f,rfl⟩:∃f,H=f+kl:=⟨H-kl,by omega⟩;exact hend v w I _ rfl f
 intro H
 induction H with
 | zero =>
  intro L v w hf I;exact ai 0 L v w hf I fun i hi=>qlc (Nat.le_zero.1 hf) i (by omega)
 | succ H ih =>
  intro L v w hf I
  by_cases O:∀i,i<n0->L i=true
  ·exact ai (H+1) L v w hf I O
  refine⟨fun h0=>absurd (fun i hi=>qll ak h0 i (by omega)) O,fun i hi=>?_⟩;obtain⟨af,hL,o,ho,hd⟩:=(qi7 _ L rfl i).1 hi;have hw:∀k∈waits md o,L k=true:=fun k V=>(qn0 hd k V).2
  have Z:i<n0:=by
   apply Classical.byContradiction;intro aG;rcases qaQ n0 i with hgt | hle
   ·obtain⟨k,V,aB,aC⟩:=qk7 hB hgt (fun h=>by have:=I.took i h;rw [hL] at this;cases this) af (qdT ho);have:=hw k V;rw [I.top k aB aC] at this;cases this
   ·obtain rfl:i=n0:=by omega
    refine O fun k V=>?_
    have aF:∀m k,k<i->i-k=m->L k=true:=by
     intro m
     induction m using Nat.strongRecOn with
     | ind m ihm =>
      intro k V hm
      by_cases av:k∈T
      ·exact I.took k av
      obtain⟨j,p,h1,h2,h3,h4⟩:=qk9 hB af V av;rcases qaQ j i with h | h
      ·exact I.shut j p h3 (ihm (i-j) (by omega) j h rfl) k h4
      ·obtain rfl:j=i:=by omega
       rw [qdT ho] at h3;cases h3;exact hw k h4
    exact aF _ k V rfl
  have ae:i∉T:=fun h=>by have:=I.took i h;rw [hL] at this;cases this
  refine wpOp_step ho fun K' hK=>hstep i o (qdT ho) Z ae v w I.old (fun k V=>by obtain⟨a1,a2,a3⟩:=qk8 hB Z ae (qdT ho) k V;exact I.fact k a3 a2 (hw k a1)) _ rfl K' fun x A' w' hA hF ag U=>?_
  have aj:Below w0.heap.size w0 w':=I.old.trans (U.mono I.old.size);refine hK _ _ ⟨hS _ aj,?_⟩;rw [arr_set];have ax:A'=pf a (upd v i x) D:=by
   rw [hA];have U:=(qa7.1 au) i (qbg.2 af);rw [Bool.or_eq_true,qdT ho] at U;rcases U with U | U
   ·exact absurd (aA i Z (qaD.1 U)) ae
   ·cases e:o.dst with
    | none =>
     show pf a v D=_
     refine (qfR a v i x D fun p hp e2=>?_).symm;have U:(!(D.map (·.1)).contains i)=true:=by
      have:(match o.dst with | none=>!(D.map (·.1)).contains i | some d=>D.contains (i,d))=true:=U;rw [e] at this;exact this
     rw [Bool.not_eq_true',<-Bool.not_eq_true] at U;exact U (qaD.2 (qbp.2 ⟨p,hp,e2⟩))
    | some d =>
     have U:D.contains (i,d)=true:=by
      have:(match o.dst with | none=>!(D.map (·.1)).contains i | some d=>D.contains (i,d))=true:=U;rw [e] at this;exact this
     exact pf_put a v x D h1 h2 (qaD.1 U)
  rw [ax];refine ih _ _ _ (by have:=qmJ af hL;omega) ⟨aj,fun j Y ah=>?_,fun k V=>?_,fun j p hp Y k V=>?_,fun j Y ah J=>?_,fun j Y J=>?_,fun j Y m hm J aa hne=>?_⟩
  ·rw [qcc _ _ (by omega)];exact I.top j Y ah
  ·rw [qcc _ _ (by rintro rfl;exact ae V)];exact I.took k V
  ·by_cases e:k=i
   ·rw [e,upd_same]
   ·rw [qcc _ _ e]
    by_cases e2:j=i
    ·subst e2;rw [qdT ho] at hp;cases hp;exact hw k V
    ·rw [qcc _ _ e2] at Y;exact I.shut j p hp Y k V
  ·by_cases e:j=i
   ·subst e;rw [upd_same];exact hF
   ·rw [qcc _ _ e] at J ⊢;exact ay _ _ _ _ (I.fact j Y ah J) U
  ·by_cases e:j=i
   ·subst e;rw [upd_same];exact (ag (qaD.2 Y)).2
   ·rw [qcc _ _ e] at J ⊢;exact qai (I.lt j Y J) U.size
  ·by_cases e:j=i
   ·subst e;have e2:m≠j:=fun e=>hne e.symm
    rw [qcc _ _ e2] at aa;rw [upd_same,qcc _ _ e2];have h1:=I.lt m hm aa;have h2:=(ag (qaD.2 Y)).1;omega
   ·rw [qcc _ _ e] at J ⊢
    by_cases e2:m=i
    ·subst e2;rw [upd_same];have h1:=I.lt j Y J;have h2:=(ag (qaD.2 hm)).1;omega
    ·rw [qcc _ _ e2] at aa ⊢;exact I.apart j Y m hm J aa hne
theorem qla {J:Nat} {H:Array Bool} {a:Act} {U:World} (D:List (Nat×Tmp)) (rl:List (Nat×List Nat)) (T C E:List Nat) (n0:Nat) (F:Nat->Value->World->Prop) (kl m:Nat) (Lz:Array Bool) (hm:a.tmps.size=m)
  (av:∀i x,Stays (F i x))
  (hB:(dagB md ops && (decide ((D.map (·.1)).Nodup) && (decide ((D.map (·.2)).Nodup) && (dstB ops D (T++(List.range ops.size).filter fun k=>decide (n0<=k)) && ((D.all fun p=>decide (D.lookup p.1=some p.2) && decide (p.2<m)) && (decide (H.size=ops.size) && (decide (leftN ops.size (fun k=>H.getD k false)<=J) &&
   (growB md ops rl T n0 && (decide (n0<=ops.size) && (decide (leftN ops.size (fun i=>decide (i<n0) || T.contains i)=kl) && (decide (H=arr ops.size fun k=>T.contains k) && ((T.all fun k=>((nthOp ops.toList k).map fun o=>(waits md o).all fun j=>T.contains j).getD false) && (decide (Lz=arr ops.size fun i=>decide (i<n0) || T.contains i) && ((List.range n0).all (fun i=>T.contains i || C.contains i) && E.all fun i=>decide (i<n0) && !T.contains i))))))))))))))=true)
  (hS:∀w,Below U.heap.size U w->S w)
  (hstep:∀i∈C,∀o,nthOp ops.toList i=some o->∀(v:Nat->Value) (w:World),Below U.heap.size U w->(∀k∈dep rl i,F k (v k) w) ->
   ∀A,A=pf a v D->∀K,Grows F E i w A o.dst K->if Region.wanted o (yielded ops A.tmps)=true then Oper.wp P o A w K Q else K (A.put o.dst undef) w)
  (hend:∀(v:Nat->Value) (w:World),Below U.heap.size U w->(∀i,i<n0->i∉T->F i (v i) w)->(∀i∈E,∀j∈E,i≠j->pv (v i)≠pv (v j))->∀A,A=pf a v D->∀f,wpAnyH P md ops Q S (f+kl) Lz A w):wpAnyH P md ops Q S J H a U:=by
 simp only [qa5,decide_eq_true_eq] at hB;obtain⟨aa,h1,h2,ae,hD,ax,hf,af,hn,au,O,ai,ah,hC,hE⟩:=hB;have Y:pf a (fun i=>a.tmps.getD ((D.lookup i).getD 0) undef) D=a:=qnm a _ D fun p hp=>by
  have:=(qa7.1 hD) p hp;simp only [qa5,decide_eq_true_eq] at this;exact⟨by rw [this.1];rfl,by rw [hm];exact this.2⟩
 have V:∀i∈E,i<n0/\¬T.contains i=true:=fun i I=>by
  have:=(qa7.1 hE) i I;rw [qa5,decide_eq_true_eq] at this;exact⟨this.1,by simpa using this.2⟩
 have h0:Grown md ops T E n0 F U (fun k=>T.contains k) (fun i=>a.tmps.getD ((D.lookup i).getD 0) undef) U :=
  ⟨Below.refl _ _,fun i _ I=>by
   rw [<-Bool.not_eq_true];intro h;exact I (qaD.1 h),fun k hk=>qaD.2 hk,fun j o ho hj k hk=>by
   have:=(qa7.1 ai) j (qaD.1 hj);rw [ho] at this;exact (qa7.1 (show ((waits md o).all fun j=>T.contains j)=true from this)) k hk,fun i _ h Z=>absurd (qaD.1 Z) h,fun i I Z=>absurd Z (V i I).2,fun i I _ _ Z=>absurd Z (V i I).2⟩
 have ag:=qj4 (P:=P) (Q:=Q) (S:=S) a D rl T E n0 F U (T++(List.range ops.size).filter fun k=>decide (n0<=k)) (fun i x w w' h hb=>(av i x).go h hb) aa h1 h2 ae (fun k hk ak=>by
  rcases qaK.1 ak with h | h
  ·exact h
  ·have:=of_decide_eq_true (List.mem_filter.1 h).2;omega) af hn kl au hS (fun i o ho I aj=>hstep i (by
   have:=(qa7.1 hC) i (qbg.2 I);rw [Bool.or_eq_true] at this;rcases this with h | h
   ·exact absurd (qaD.1 h) aj
   ·exact qaD.1 h) o ho) (fun v w h A hA f=>by
   rw [<-ah];exact hend v w h.old (fun i I hT=>h.fact i I hT (by rw [qV I];rfl)) (fun i I j hj=>h.apart i I j hj (by rw [qV (V i I).1];rfl) (by rw [qV (V j hj).1];rfl)) A hA f) J _ _ _ (by rw [qjK (M:=fun k=>H.getD k false)];exact hf;intro i I;rw [O,qhL,if_pos I]) h0
 rw [Y,<-O] at ag;exact ag
end
theorem qn4 {P:Program} {o:Oper} {a:Act} {w:World} {next:Act->World->Prop} {Q:Exit->Act->World->Prop} {f:FuncId} {H:Array Value} {R:Ending->World->Prop} (he:(execOp a.eval o).run P w=.ok (.enter f H) w) (hC:Calls P f H w R)
  (h:∀e F,R e F->∃v,e=.returned v/\next (a.put o.dst v) F):o.wp P a w next Q:=by
 unfold Oper.wp;rw [he,Oper.upon_enter];exact hC.mono fun e F r=>by obtain⟨v,rfl,h⟩:=h e F r;exact h
theorem rowC {B:Nat} {F:World} {g:Nat} {cs:Array Value} {t:TypeId} (h:F.heap[g]? = some (.cells cs t (0,0))) (i:Nat) {x:Value} (hx:cs[i]? = some x:=by rfl) (hg:g<B:=by omega):∀W,Below B F W->W.cell? ⟨g,i,none⟩=some x :=
 fun _ H=>(H.cell (p:=⟨g,i,none⟩) hg).trans ((qC _ _ i _ _ _ h).trans hx)
def fl2:List (Nat×(Value->World->Prop))->Nat->Value->World->Prop
 | [],_=>fun _ _=>True
 | (j,p) :: l,i=>if i=j then p else fl2 l i
instance stays_nil {i:Nat} {x:Value}:Stays (fl2 [] i x):=⟨fun _ _=>trivial⟩
instance stays_cons {i j:Nat} {x:Value} {p:Value->World->Prop} {l:List (Nat×(Value->World->Prop))} [hp:∀x,Stays (p x)] [hl:Stays (fl2 l i x)]:Stays (fl2 ((j,p) :: l) i x):=⟨fun {_ _} h hb=>by
 have F:fl2 ((j,p) :: l) i=if i=j then p else fl2 l i:=rfl
 rw [F] at h ⊢
 by_cases e:i=j
 ·rw [if_pos e] at h ⊢;exact (hp x).go h hb
 ·rw [if_neg e] at h ⊢;exact hl.go h hb⟩
theorem rowG {F:World} {g0 g:Nat} {cs:Array Value} {t:TypeId} (h:F.heap[g]? = some (.cells cs t (0,0))) (i:Nat) {x:Value} (hx:cs[i]? = some x:=by rfl) (hne:g≠g0:=by omega):∀W,F.grownBy W (some g0)->W.cell? ⟨g,i,none⟩=some x :=
 fun _ H=>H.cell ((qC _ _ i _ _ _ h).trans hx) (fun e=>hne (qah e))
def ZC (B:Nat) (cs:Array Value) (t:TypeId) (x:Value) (W:World):Prop:=∃g,W.heap[g]? = some (.cells cs t (0,0))/\x=.pointer (some ⟨g,0,none⟩)/\B<=g
instance stays_zc {B:Nat} {cs:Array Value} {t:TypeId} {x:Value}:Stays (ZC B cs t x):=⟨fun⟨g,F,H,I⟩ hb=>⟨g,(hb.block g (qG F).1).trans F,H,I⟩⟩
theorem ZC.new {B:Nat} {cs:Array Value} {t:TypeId} {w:World} (h:B<=w.heap.size):ZC B cs t (.pointer (some ⟨w.heap.size,0,none⟩)) (w.alloc (.cells cs t))/\Below w.heap.size w (w.alloc (.cells cs t)) :=
 ⟨⟨w.heap.size,qM _ _ _ rfl,rfl,h⟩,qB.alloc qN _⟩
section
variable {P:Program} {ops:Array Oper} {Q:Exit->Act->World->Prop} {md:Region.Mode} {S:World->Prop} {fuel:Nat} {listed:Array Bool} {a a':Act} {w:World} {o:Oper}
theorem hT (i:Nat) {v:Value} (H:nthOp ops.toList i=some o:=by rfl)
  (I:(Region.noSelect ops && (Region.free md ops listed i && (Region.ready md ops listed).contains i))=true:=by kernel_rfl) (J:∀c a w,Q (.panic c) (a.put o.dst v) w->Q (.panic c) a w:=by exact fun _ _ _ h=>h) (hS:S w:=by assumption)
  (U:Region.wanted o (yielded ops a.tmps)=true:=by rfl) (hy:∀w,S w->(execOp a.eval o).run P w=.ok (.value v) w:=by (intro w F;(try dsimp only at F);go_simp <;> with_reducible rfl))
  (O:a.put o.dst v=a':=by (simp only [Act.put,qaA,qbk,List.set_cons_succ];with_reducible rfl))
  (h:wpAnyH P md ops Q S fuel (listed.setIfInBounds i true) a' w):wpAnyH P md ops Q S (fuel+1) listed a w :=
 hd_take i H I J hS U hy (by rw [O];exact h)
theorem hU (i:Nat) (H:nthOp ops.toList i=some o:=by rfl)
  (F:(Region.noSelect ops && (Region.free md ops listed i && (Region.ready md ops listed).contains i))=true:=by kernel_rfl) (I:∀c a w,Q (.panic c) (a.put o.dst undef) w->Q (.panic c) a w:=by exact fun _ _ _ h=>h) (hS:S w:=by assumption)
  (O:Region.wanted o (yielded ops a.tmps)=false:=by rfl)
  (J:a.put o.dst undef=a':=by (simp only [Act.put,qaA,qbk,List.set_cons_succ];with_reducible rfl))
  (h:wpAnyH P md ops Q S fuel (listed.setIfInBounds i true) a' w):wpAnyH P md ops Q S (fuel+1) listed a w:=by
 rw [qa5,qa5] at F;exact wpAnyH_take (qh4 H) F.1 F.2.1 F.2.2 I (qag ⟨O,rfl⟩) hS (by rw [J];exact h)
theorem hC (i:Nat) {f:FuncId} {I:Array Value} {R:Ending->World->Prop} (V:Calls P f I w R) (H:nthOp ops.toList i=some o:=by rfl) (Y:decide (Region.ready md ops listed=[i])=true:=by kernel_rfl)
  (Z:Region.wanted o (yielded ops a.tmps)=true:=by rfl) (he:(execOp a.eval o).run P w=.ok (.enter f I) w:=by (go_simp <;> with_reducible rfl))
  (h:∀e F,R e F->∃v,e=.returned v/\S F/\wpAnyH P md ops Q S fuel (listed.setIfInBounds i true) (a.put o.dst v) F):wpAnyH P md ops Q S (fuel+1) listed a w :=
 qhv i H Y fun K U=>by
  rw [if_pos Z];refine qn4 he V fun e F r=>?_
  obtain⟨v,rfl,J,O⟩:=h e F r;exact⟨v,rfl,U.on S _ _ (fun _ h=>h) J fun _=>O⟩
theorem hN {d:Option Tmp} {v:Value} (F:a.put d v=a':=by (simp only [Act.put,qaA,qbk,List.set_cons_succ];with_reducible rfl)) (h:wpAnyH P md ops Q S fuel listed a' w):wpAnyH P md ops Q S fuel listed (a.put d v) w:=by rw [F];exact h
theorem qn5 {P:Program} {o:Oper} {a:Act} {w F:World} {next:Act->World->Prop} {Q:Exit->Act->World->Prop} {v:Value} (he:(execOp a.eval o).run P w=.ok (.value v) F) (h:next (a.put o.dst v) F):o.wp P a w next Q:=by
 unfold Oper.wp;rw [he,Oper.upon_value];exact h
theorem hSg (i:Nat) {H:World} (F:nthOp ops.toList i=some o:=by rfl) (O:decide (Region.ready md ops listed=[i])=true:=by kernel_rfl) (U:Region.wanted o (yielded ops a.tmps)=true:=by rfl) (J:o.dst=none:=by rfl)
  (he:(execOp a.eval o).run P w=.ok .skip H:=by (go_simp <;> with_reducible rfl)) (h:S H/\wpAnyH P md ops Q S fuel (listed.setIfInBounds i true) a H):wpAnyH P md ops Q S (fuel+1) listed a w :=
 qhv i F O fun K I=>by
  rw [if_pos U];unfold Oper.wp;rw [he,Oper.upon_skip,J];exact I.on S _ _ (fun _ h=>h) h.1 fun _=>h.2
theorem hE (i:Nat) {H:World} {v:Value} (F:nthOp ops.toList i=some o:=by rfl) (J:decide (Region.ready md ops listed=[i])=true:=by kernel_rfl) (O:Region.wanted o (yielded ops a.tmps)=true:=by rfl)
  (he:(execOp a.eval o).run P w=.ok (.value v) H:=by (go_simp <;> first | with_reducible rfl | exact⟨rfl,rfl⟩ | rfl)) (h:S H/\wpAnyH P md ops Q S fuel (listed.setIfInBounds i true) (a.put o.dst v) H):wpAnyH P md ops Q S (fuel+1) listed a w :=
 qhv i F J fun K I=>by
  rw [if_pos O];exact qn5 he (I.on S _ _ (fun _ h=>h) h.1 fun _=>h.2)
theorem qfT {P:Program} {o:Oper} {F:Operand->Value} {w O:World} {s x:Operand} {t I:TypeId} {v u J:Value} (U:o.op=.call { callee:=.builtin .append,args:=#[s,x],argTypes:=#[t,t] }) (H:o.type=I) (Y:F s=v) (hx:F x=u)
  (V:(Builtin.append_ #[t,t] I #[v,u]).run P w=.ok J O):(execOp F o).run P w=.ok (.value J) O:=by
 subst H;unfold execOp;simp only [U,resolve,invoke,builtin,Sem.run_bind,Sem.run_pure,Result.andThen_ok,List.map_toArray,qbv,qbQ,Y,hx,V]
theorem hSn (i:Nat) (n:Nat) {J:TypeId} {x y:Operand} {g:Nat} {cells old:Array Value} {t:TypeId} (hg:w.heap[g]? = some (.cells old t (0,0))) (I:nthOp ops.toList i=some o:=by rfl) (hr:decide (Region.ready md ops listed=[i])=true:=by kernel_rfl)
  (hw:Region.wanted o (yielded ops a.tmps)=true:=by rfl) (Z:o.op=.store J x y:=by rfl) (V:o.dst=none:=by rfl) (hx:a.eval x=.pointer (some ⟨g,0,none⟩):=by rfl) (hy:a.eval y=.agg cells:=by rfl)
  (Y:(P.info? J).map (·.size)=some n:=by kernel_rfl) (H:old.size=n:=by rfl) (F:cells.size=n:=by rfl) (O:cells.toList.all (·.oneCell')=true:=by rfl)
  (h:S (w.setRow g cells)/\wpAnyH P md ops Q S fuel (listed.setIfInBounds i true) a (w.setRow g cells)):wpAnyH P md ops Q S (fuel+1) listed a w :=
 qhv i I hr fun K U=>by
  rw [if_pos hw];refine wp_store_row J x y Z g cells hx hy t old hg (by rw [F];exact Y) (by rw [H,F]) (Array.all_eq_true_iff_forall_mem.2 (fun v hv=>qa7.1 O v (by simpa using hv))) ?_;refine U.on S _ _ (fun _ h=>h) h.1 fun _=>?_
  rw [V];exact h.2
theorem hSt (i:Nat) (n:Nat) {J:TypeId} {x y:Operand} {g:Nat} {cells old:Array Value} {t:TypeId} (hg:w.heap[g]? = some (.cells old t (0,0))) (I:nthOp ops.toList i=some o:=by rfl) (hr:decide (Region.ready md ops listed=[i])=true:=by kernel_rfl)
  (hw:Region.wanted o (yielded ops a.tmps)=true:=by rfl) (ho:o.op=.store J x y:=by rfl) (V:o.dst=none:=by rfl) (hx:a.eval x=.pointer (some ⟨g,0,none⟩):=by rfl) (hy:a.eval y=.agg cells:=by rfl)
  (Y:(P.info? J).map (·.size)=some n:=by kernel_rfl) (H:old.size=n:=by rfl) (F:cells.size=n:=by rfl) (O:cells.toList.all (·.oneCell')=true:=by rfl) (Z:decide (Region.ready md ops (listed.setIfInBounds i true)=[])=true:=by kernel_rfl)
  (h:S (w.setRow g cells)/\Q .normal a (w.setRow g cells)):wpAnyH P md ops Q S (fuel+1) listed a w :=
 qhv i I hr fun K U=>by
  rw [if_pos hw];refine wp_store_row J x y ho g cells hx hy t old hg (by rw [F];exact Y) (by rw [H,F]) (Array.all_eq_true_iff_forall_mem.2 (fun v hv=>qa7.1 O v (by simpa using hv))) ?_;refine U.on S _ _ (fun _ h=>h) h.1 fun _=>?_
  rw [V];exact wpAnyH_done (of_decide_eq_true Z) h.2 _
def AllC (p:Nat->Prop):List Nat->Prop
 | []=>True
 | i :: l=>p i/\AllC p l
theorem AllC.get {p:Nat->Prop}:∀{l:List Nat},AllC p l->∀i∈l,p i
 | i :: _,h,j,hj=>by
  rcases qaJ.1 hj with rfl | hj
  ·exact h.1
  ·exact AllC.get h.2 j hj
theorem gr (D:List (Nat×Tmp)) (rl:List (Nat×List Nat)) (T C E:List Nat) (n0 N:Nat) (F:Nat->Value->World->Prop) (A:(Nat->Value)->Act) (V:Nat) {m:Nat} (hm:a.tmps.size=m:=by rfl) (Y:∀v,pf a v D=A v:=by (intro v;simp only [pf,Act.put,qaA,qbk,List.set_cons_succ];with_reducible rfl))
  (U:∀i x,Stays (F i x):=by intro i x;infer_instance)
  (I:(dagB md ops && (decide ((D.map (·.1)).Nodup) && (decide ((D.map (·.2)).Nodup) && (dstB ops D (T++(List.range ops.size).filter fun k=>decide (n0<=k)) && ((D.all fun p=>decide (D.lookup p.1=some p.2) && decide (p.2<m)) && (decide (listed.size=ops.size) && (decide (leftN ops.size (fun k=>listed.getD k false)<=fuel) &&
   (growB md ops rl T n0 && (decide (n0<=ops.size) && (decide (leftN ops.size (fun i=>decide (i<n0) || T.contains i)=V) && (decide (listed=arr ops.size fun k=>T.contains k) && ((T.all fun k=>((nthOp ops.toList k).map fun o=>(waits md o).all fun j=>T.contains j).getD false) && (decide (arr N (fun i=>decide (i<n0) || T.contains i)=arr ops.size fun i=>decide (i<n0) || T.contains i) && ((List.range n0).all (fun i=>T.contains i || C.contains i) && E.all fun i=>decide (i<n0) && !T.contains i))))))))))))))=true:=by kernel_rfl)
  (hS:∀H,Below w.heap.size w H->S H)
  (hstep:AllC (fun i=>∃o,nthOp ops.toList i=some o/\∀(v:Nat->Value) (H:World),Below w.heap.size w H->AllC (fun k=>F k (v k) H) (dep rl i)->∀K,Grows F E i H (A v) o.dst K->if Region.wanted o (yielded ops (A v).tmps)=true then Oper.wp P o (A v) H K Q else K ((A v).put o.dst undef) H) C)
  (hend:∀(v:Nat->Value) (H:World),Below w.heap.size w H->(∀i,i<n0->i∉T->F i (v i) H)->(∀i∈E,∀j∈E,i≠j->pv (v i)≠pv (v j))->∀f,wpAnyH P md ops Q S (f+V) (arr N fun i=>decide (i<n0) || T.contains i) (A v) H):wpAnyH P md ops Q S fuel listed a w:=by
 refine qla D rl T C E n0 F V m (arr N fun i=>decide (i<n0) || T.contains i) hm U I hS (fun i hi o ho v H O J B I K Z=>?_) fun v H O J hE B I f=>?_
 ·obtain⟨p,hp,h⟩:=hstep.get i hi;rw [hp] at ho;cases ho;rw [Y] at I;subst I;refine h v H O ?_ K Z;generalize dep rl i=l at J;clear h hp Z
  induction l with
  | nil=>exact trivial
  | cons k l ih=>exact⟨J k (qbS ..),ih fun j hj=>J j (qbK _ hj)⟩
 ·rw [Y] at I;subst I;exact hend v H O J hE f
theorem gC {F:Nat->Value->World->Prop} {E:List Nat} {i:Nat} {K:Act->World->Prop} (U:Grows F E i w a o.dst K) {f:FuncId} {I:Array Value} {R:Ending->World->Prop} (V:Calls P f I w R) (Y:Region.wanted o (yielded ops a.tmps)=true:=by rfl) (he:(execOp a.eval o).run P w=.ok (.enter f I) w:=by (go_simp <;> with_reducible rfl))
  (hE:E.contains i=false:=by rfl) (h:∀e H,R e H->∃v,e=.returned v/\F i v H/\Below w.heap.size w H):if Region.wanted o (yielded ops a.tmps)=true then Oper.wp P o a w K Q else K (a.put o.dst undef) w:=by
 rw [if_pos Y];exact qn4 he V fun e H r=>by obtain⟨v,rfl,J,O⟩:=h e H r;exact⟨v,rfl,U.to _ _ _ rfl J (fun h=>by rw [hE] at h;cases h) O⟩
theorem gW {F:Nat->Value->World->Prop} {E:List Nat} {i:Nat} {K:Act->World->Prop} (I:Grows F E i w a o.dst K) {v:Value} {H:World} (J:Region.wanted o (yielded ops a.tmps)=true:=by rfl) (he:(execOp a.eval o).run P w=.ok (.value v) H:=by (go_simp <;> first | with_reducible rfl | exact⟨rfl,rfl⟩ | rfl))
  (hE:E.contains i=true->w.heap.size<=pv v/\pv v<H.heap.size:=by exact fun _=>⟨qae _,by rw [qab];exact Nat.lt_succ_self _⟩) (h:F i v H/\Below w.heap.size w H):if Region.wanted o (yielded ops a.tmps)=true then Oper.wp P o a w K Q else K (a.put o.dst undef) w:=by
 rw [if_pos J];unfold Oper.wp;rw [he,Oper.upon_value];exact I.to _ _ _ rfl h.1 hE h.2
theorem gV {F:Nat->Value->World->Prop} {E:List Nat} {i:Nat} {K:Act->World->Prop} (I:Grows F E i w a o.dst K) {v:Value} (H:F i v w) (J:Region.wanted o (yielded ops a.tmps)=true:=by rfl) (he:(execOp a.eval o).run P w=.ok (.value v) w:=by (go_simp <;> with_reducible rfl)) (hE:E.contains i=false:=by rfl) :
  if Region.wanted o (yielded ops a.tmps)=true then Oper.wp P o a w K Q else K (a.put o.dst undef) w:=by
 rw [if_pos J];exact qn5 he (I.to _ _ _ rfl H (fun h=>by rw [hE] at h;cases h) qB)
