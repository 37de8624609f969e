import Derived.Defers
import Derived.Recover
import Derived.Test.YtjalhnlhcdfncaaGreatDoorBk14
set_option maxRecDepth 100000
set_option maxHeartbeats 0
namespace Go.Proofs.YtjalhnlhcdfncaaGreatDoor
open Go.RowKit Go.Proofs.Tryz
def qf4 (w:World) (t:Tbl) (bl wl:List FT) (e:Ending) (w':World):Prop :=
  ((¬TOk t/\e=.returned (.tuple #[.slice none 0 0,.int .i64 60])) \/
   (TOk t/\¬(FAll bl/\FAll wl)/\e=.returned (.tuple #[.slice none 0 0,.int .i64 20])) \/
   (TOk t/\FAll bl/\FAll wl/\¬(bl.length=t.length/\wl.length=t.length/\¬Neg wl)/\e=.returned (.tuple #[.slice none 0 0,.int .i64 2])) \/
   (TOk t/\FAll bl/\FAll wl/\bl.length=t.length/\wl.length=t.length/\¬Neg wl /\
     ((Sing (wid t) (normQ t bl wl t.length)/\e=.returned (.tuple #[.slice none 0 0,.int .i64 7])) \/
      (¬Sing (wid t) (normQ t bl wl t.length)/\∃x,qcv (wid t) (normQ t bl wl t.length) (fun r=>normQ t bl wl t.length r (wid t)) x/\Tells (wid t) x e w'))))/\Below w.heap.size w w'
theorem qmT {W:World} {I:Option Addr} {b H n c:Nat} {l:List FT} {G:Option Addr} {O F U c2:Nat} {l2:List FT} {g:Nat} {ty:TypeId} (hg:W.heap[g]? = some (.cells #[.slice I n c,.slice G U c2] ty (0,0))) (Z:l.length=n) (h:FCells W I b H l) (J:l2.length=U) (V:FCells W G O F l2):TCells W (some ⟨g,0,none⟩) g 0 [l,l2]:=by
 refine⟨fun _=>rfl,fun k Y=>?_⟩;rcases (show k=0\/k=1 by simp at Y;omega) with rfl | rfl
 ·exact⟨I,b,H,c,by rw [show ([l,l2]:Tbl).getD 0 []=l from rfl,Z];exact qC _ _ 0 _ _ _ hg,h⟩
 ·exact⟨G,O,F,c2,by rw [show ([l,l2]:Tbl).getD 1 []=l2 from rfl,J];exact qC _ _ 1 _ _ _ hg,V⟩
theorem qk6 {l l2:List FT}:(∀k,k<([l,l2]:Tbl).length->FAll (([l,l2]:Tbl).getD k []))↔FAll l/\FAll l2 :=
 ⟨fun h=>⟨h 0 (by simp),h 1 (by simp)⟩,fun h k F=>by
  rcases (show k=0\/k=1 by simp at F;omega) with rfl | rfl
  ·exact h.1
  ·exact h.2⟩
theorem qkF (ao:Option Addr) (b ax R c:Nat) (t:Tbl) (V:Option Addr) (b2 ag m c2:Nat) (bl:List FT) (Y:Option Addr) (b3 H q c3:Nat) (wl:List FT) (w:World) (hR:t.length=R) (hl:R<=4611686018427387904) (hw:∀k,k<R->(t.getD k []).length<=4611686018427387904) (hc:TCells w ao b ax t)
  (hm:bl.length=m) (bq:m<=4611686018427387904) (ak:FCells w V b2 ag bl) (hq:wl.length=q) (bu:q<=4611686018427387904) (au:FCells w Y b3 H wl) (hT:HasT w) :
  Calls prog 117 #[.slice ao R c,.slice V m c2,.slice Y q c3] w fun e w'=>qf4 w t bl wl e w':=by
 obtain⟨W1,aa⟩:=qY (w.alloc (.cells #[.slice V m c2,.slice Y q c3] 22));have J:Below w.heap.size w W1:=aa▸qbM qB qN;have aP:W1.heap[w.heap.size]? = some (.cells #[.slice V m c2,.slice Y q c3] 22 (0,0)):=by rw [aa];exact qM _ _ _ rfl
 have HK:=qH (qeD ao b ax R c t (some ⟨w.heap.size,0,none⟩) w.heap.size 0 2 2 [bl,wl] W1 hR hl hw (hc.below J) rfl (by omega) (fun k hk=>by
  rcases (show k=0\/k=1 by omega) with rfl | rfl
  ·show bl.length<=_;omega
  ·show wl.length<=_;omega) (qmT aP hm (ak.below J) hq (au.below J)))
 have F:=qH (qA hc (qA hR (qA ak (qA hm (qA au (qA hq hT))))));have az:=qH J;clear hR hw hc hm ak J aP hT hq au;go_enter func117,ntmps117;go_wp2_with fail;rw [<-aa];clear aa;refine HK.o.mono ?_;rintro e w2 ⟨cc,rfl,aY,aG⟩;have HB:=qH (az.o.trans (aG.mono az.o.size));clear aG;rcases aY with ⟨rfl,hT⟩ | ⟨rfl,hT,hL⟩ | ⟨rfl,hT,hL⟩
 ·have HT:=qH hT;clear hT;go_wp2_with fail
  go_ret2
  exact⟨qav ⟨HT.o,rfl⟩,HB.o⟩
 ·have HT:=qH (qA hT hL);clear hT hL;go_wp2_with fail
  go_ret2
  exact⟨qaj (qav ⟨HT.o.1,fun h=>HT.o.2 (qk6.2 h),rfl⟩),HB.o⟩
 obtain⟨aB,aC⟩:=qk6.1 hL;have bi:R<=40:=by have:=hT.r2;have:=F.o.2.1;omega
 have bn:1<=R:=by have:=hT.r1;have:=F.o.2.1;omega
 have aX:=F.o.1.addr (by have:=F.o.2.1;omega);subst aX;obtain⟨n,hn⟩:=qX (wid t);have aL:n<=10:=by have:=hT.c2;omega
 have bf:1<=n:=by have:=hT.c1;omega
 have I:=qH (qA hT (qA aB (qA aC hn)));clear hT hL aB aC hn;have bad:∀(W:World),Below w.heap.size w W->¬(bl.length=t.length/\wl.length=t.length/\¬Neg wl)->qf4 w t bl wl (.returned (.tuple #[.slice none 0 0,.int .i64 2])) W:=fun W h hn=>⟨qaj (qaj (qav ⟨I.o.1,I.o.2.1,I.o.2.2.1,hn,rfl⟩)),h⟩
 have ah:=qH bad;clear bad
 by_cases e1:m=R
 case neg =>
  have aV:((m:Int) != (R:Int))=true:=by rw [bne_iff_ne];omega
  have HE:=qH (ah.o _ HB.o (fun h=>e1 (by rw [<-F.o.2.2.2.1,h.1,F.o.2.1])));clear e1;go_wp2_with fail
  go_ret2
  exact HE.o
 have aV:((m:Int) != (R:Int))=false:=by simp [e1]
 by_cases e2:q=R
 case neg =>
  have aW:((q:Int) != (R:Int))=true:=by rw [bne_iff_ne];omega
  have HE:=qH (ah.o _ HB.o (fun h=>e2 (by rw [<-F.o.2.2.2.2.2.1,h.2.1,F.o.2.1])));clear e2 e1;go_wp2_with fail
  go_ret2
  exact HE.o
 have aW:((q:Int) != (R:Int))=false:=by simp [e2]
 have He:=qH (qA e1 e2);have aD:=F.o.2.2.1.addr (by have:=F.o.2.2.2.1;omega);subst aD;have aF:=F.o.2.2.2.2.1.addr (by have:=F.o.2.2.2.2.2.1;omega);subst aF;have aM:=qfN (some ⟨b3,H,none⟩) b3 H q c3 wl w2 F.o.2.2.2.2.2.1 (by omega) (F.o.2.2.2.2.1.below HB.o) I.o.2.2.1;have HN:=qH aM;have bg:(q:Int)<=R:=by omega
 clear e1 e2 aM;go_wp2_with fail;refine HN.o.mono ?_;rintro e w3 ⟨x,rfl,hx,aH⟩;have G:=qH (HB.o.trans (aH.mono HB.o.size));clear aH;cases x with
 | true =>
  have HE:=qH (ah.o _ G.o (fun h=>h.2.2 (hx.1 rfl)));clear hx;go_wp2_with fail
  go_ret2
  exact HE.o
 | false =>
  have av:¬Neg wl:=fun h=>by have:=hx.2 h;cases this
  have aN:=qkL b ax c t b2 ag c2 bl b3 H c3 wl R n w3 I.o.1 F.o.2.1 I.o.2.2.2 (F.o.1.below G.o) I.o.2.1 (by rw [F.o.2.2.2.1];exact He.o.1) (F.o.2.2.1.below G.o) I.o.2.2.1 (by rw [F.o.2.2.2.2.2.1];exact He.o.2) (F.o.2.2.2.2.1.below G.o) av;have aZ:(m:Int)=R:=by have:=He.o.1;omega
  have aO:(q:Int)=R:=by have:=He.o.2;omega
  obtain rfl:m=R:=He.o.1;obtain rfl:q=m:=He.o.2;have aT:=qH aN;have aU:=qH av;clear hx aN av aZ aO bg;go_wp2_with fail;refine aT.o.mono ?_;rintro e w4 ⟨tb,gs,M,Z,rfl,aI,aS,hZ,ai,U,ae⟩;have O:=G.o.trans (aI.mono G.o.size);have aR:=qmC tb n 63440 gs M w4 bf aL (by omega) (by omega) ai (fun i hi=>by
   obtain⟨ps,_,h,_⟩:=ai.rows i hi;exact (qG h.1).1) (fun i hi j hj=>ae i hi j hj) (F.o.2.2.2.2.2.2.below O)
  have HS:=qH aR;have aj:(Z:Rat)≠0:=by have:=qbf hZ;exact_mod_cast this
  have hA:∀i,i<n->∀j,j<n->castM M i j=(Z:Rat)*normQ t bl wl q i j:=fun i hi j hj=>U i hi j (by omega)
  have aA:∀i,i<n->castM M i n=(Z:Rat)*normQ t bl wl q i n:=fun i hi=>U i hi n (by omega)
  have aQ:=Sing.scale (fun _=>(Z:Rat)) (fun _ _=>aj) hA;have af:∀x,qcv n (castM M) (fun i=>castM M i n) x->qcv n (normQ t bl wl q) (fun r=>normQ t bl wl q r n) x:=fun x hx=>qcv.scale (fun _=>(Z:Rat)) (fun _ _=>aj) hA aA hx
  have HZ:=qH (qA aQ (qA af (qA O (qak G.o.size aS))));clear aR aI aS hZ ai U ae aj hA aA aQ af O;go_wp2_with fail;refine HS.o.mono ?_;rintro e w5 ⟨aK,h5⟩;have aJ:=qd1 HZ.o.2.2.1 aK HZ.o.2.2.2;have ay:qf4 w t bl wl e w5:=by
   refine⟨qaj (qaj (qaj ⟨I.o.1,I.o.2.1,I.o.2.2.1,by rw [F.o.2.2.2.1,F.o.2.1],by rw [F.o.2.2.2.2.2.1,F.o.2.1],aU.o,?_⟩)),aJ⟩;rw [F.o.2.1,I.o.2.2.2];rcases h5 with ⟨h,e⟩ | ⟨h,x,hx,ht⟩
   ·exact qav ⟨HZ.o.1.1 h,e⟩
   ·exact qaj ⟨fun hs=>h (HZ.o.1.2 hs),x,HZ.o.2.1 x hx,ht⟩
  have HF:=qH ay;clear ay aJ aK;rcases h5 with ⟨_,rfl⟩ | ⟨_,x,_,⟨_,g,rfl,_⟩ | ⟨_,rfl⟩⟩
  all_goals
   go_wp2_with fail
   go_ret2
   exact HF.o
theorem ql9 (p1 p2 g1 g2 n1 n2 j:Nat) (m1 m2:Nat->Int) (K J:Nat) (aj:K+J<=274877906944) (w:World)
  (h1:w.cell? ⟨p1,0,none⟩=some (rowv g1 n1)) (h2:w.cell? ⟨p2,0,none⟩=some (rowv g2 n2)) (h3:qb8 w g1 n1 m1) (h4:qb8 w g2 n2 m2) (ak:j<n1) (au:j<n2) (_hn1:n1<=1048576) (_hn2:n2<=1048576) (ae:Fit (m1 j).natAbs K) (af:Fit (m2 j).natAbs J) :
  Calls prog 152 #[.int .i64 j,.pointer (some ⟨p1,0,none⟩),.pointer (some ⟨p2,0,none⟩)] w fun e w'=>∃u,e=.returned u/\Below w.heap.size w w'/\IntAt w' u (m1 j*m2 j):=by
 obtain⟨H,V⟩:=qY (w.alloc (.cells #[.slice none 0 0,.bool false] 217));have G:Below w.heap.size w H:=V▸qbM qB qN;have ah:H.heap[w.heap.size]? = some (.cells #[.slice none 0 0,.bool false] 217 (0,0)):=by rw [V];exact qM _ _ _ rfl
 have ag:qb6 H w.heap.size 0:=⟨_,_,_,_,ah,_,rfl,MagAt.nil _⟩;obtain⟨a2,l2,c2,b2,q0,q1,i2⟩:=h3.pair ak;obtain⟨a3,l3,c3,b3,q2,q3,i3⟩:=h4.pair au;have F:∀(p:Addr) (v:Value),w.cell? p=some v->∀W,H.grownBy W (some w.heap.size)->W.cell? p=some v:=fun p v h W hg=>by
  have Y:=qac w _ h;exact (qdQ hg (qai Y G.size) (Nat.ne_of_lt Y)).trans ((G.cell Y).trans h)
 have C1:=F _ _ h1;have C2:=F _ _ h2;have C3:=F _ _ q0;have C4:=F _ _ q1;have C5:=F _ _ q2;have C6:=F _ _ q3;have ax:(j:Int)<n1:=by omega
 have ay:(j:Int)<n2:=by omega
 have ai:=qH (fun W (h:Below H.heap.size H W)=>qcp (m1 j) (m2 j) K J aj _ _ W (i2.below (G.trans (h.mono G.size))) (i3.below (G.trans (h.mono G.size))) ae af);have U:=qH (qA G ag);have av:Below H.heap.size H H:=Below.refl _ _;have O:Below H.heap.size H H.drew:=av.drew;clear F h1 h2 h3 h4 q0 q1 q2 q3 i2 i3 ae af G ah ag;go_enter func152,ntmps152;go_wp2_with fail;rw [<-V];clear V
 go_region_held3 (fun W=>H.grownBy W (some w.heap.size)) (first | with_reducible exact qcy _ _ | with_reducible exact qbW _ O | with_reducible exact qbW _ I | exact qbR (qbR (qbW _ I) (qbO _ _ _ _)) (qbO _ _ _ _)) (first | (go_at_call 153;refine (ai.o _ O).mono ?_;rintro e w6 ⟨u6,rfl,aa,Z⟩;have I:Below H.heap.size H w6:=bjoin O aa;obtain⟨a6,n6,c6,b6,rfl⟩:=qbN Z;obtain⟨_,_,_,_,⟨z0,z1⟩,⟨f0,f1⟩,_⟩:=(U.o.2.below I).cells;have HX:=qH ((U.o.2.below I).row2 Z);clear aa Z))
 all_goals go_wp2_with fail
 all_goals exact qR (v:=.agg #[.slice a6 n6 c6,.bool b6]) (rA_ rfl w.heap.size HX.o.1 underlying217 2) rfl ⟨_,rfl,((U.o.1.trans (I.mono U.o.1.size)).setCell (p:=⟨w.heap.size,0,none⟩) qN _).setCell (p:=⟨w.heap.size,1,none⟩) qN _,HX.o.2⟩
def resQ (t:Tbl) (bl F:List FT) (n i:Nat):Rat:=sumQ n (fun j=>tval t i j*lval F j)-lval bl i
def measQ (t:Tbl) (bl wl F:List FT) (n R:Nat):Rat:=sumQ R fun i=>lval wl i*(resQ t bl F n i*resQ t bl F n i)
def mval2 (t:Tbl) (bl F:List FT) (n i:Nat):Int:=isum (fun j=>ftop (besides t bl i) j*ftop F j) n + -(ftop (besides t bl i) n*((flcd F:Nat):Int))
theorem qma {t:Tbl} {bl F:List FT} {n i:Nat} (G:FAll (besides t bl i)) (Y:(besides t bl i).length=n+1) (J:(t.getD i []).length=n) (O:FAll F) (U:F.length=n) :
  ((mval2 t bl F n i:Int):Rat)=(flcd (besides t bl i):Rat)*(flcd F:Rat)*resQ t bl F n i:=by
 unfold mval2 resQ
 push_cast
 rw [qge,qe4 G (by omega)];have H:sumQ n (fun p=>(((ftop (besides t bl i) p*ftop F p:Int)):Rat))=(flcd (besides t bl i):Rat)*(flcd F:Rat)*sumQ n (fun j=>tval t i j*lval F j):=by
  rw [<-qcc];refine qbS fun j V=>?_
  push_cast
  rw [qe4 G (by omega),qe4 O (by omega)];have:lval (besides t bl i) j=tval t i j:=qgm (by omega);rw [this];grind
 have I:lval (besides t bl i) n=lval bl i:=by
  have:=qgl (l:=t.getD i []) (x:=bl.getD i fd0);rw [J] at this;exact this
 rw [H,I];grind
theorem qfe {t:Tbl} {bl F:List FT} {n i:Nat} (J:FAll (besides t bl i)) (Y:(besides t bl i).length=n+1) (Z:n<=10) (O:FAll F) (U:F.length=n) :
  Fit (isum (fun j=>ftop (besides t bl i) j*ftop F j) n).natAbs 1621/\Fit (ftop (besides t bl i) n*((flcd F:Nat):Int)).natAbs 1543/\Fit (mval2 t bl F n i).natAbs 1622:=by
 have G:Fit (isum (fun j=>ftop (besides t bl i) j*ftop F j) n).natAbs 1621:=(qe9 _ 1610 n (fun j V=>by
  rw [qaD];exact ((qcT J (m:=11) (by omega) (by omega)).mul (qcT O (m:=11) (by omega) (by omega))).mono (by omega))).mono (by omega)
 have H:Fit (ftop (besides t bl i) n*((flcd F:Nat):Int)).natAbs 1543:=by
  rw [qaD,qaq];exact ((qcT J (m:=11) (by omega) (by omega)).mul (qe1 O (m:=11) (by omega))).mono (by omega)
 refine⟨G,H,?_⟩;unfold mval2;have I:=H.mono (show 1543<=1621 by omega);rw [<-qbu] at I;exact (G.add I).le (Int.natAbs_add_le _ _)
theorem qif {a b:Nat} (I:0<a) (J:0<b):a*(a.lcm b / a)=a.lcm b/\b*(a.lcm b / b)=a.lcm b/\a.lcm b / a<=b/\a.lcm b / b<=a:=by
 have G:=Nat.mul_div_cancel' (Nat.dvd_lcm_left a b);have H:=Nat.mul_div_cancel' (Nat.dvd_lcm_right a b);have F:a.lcm b<=a*b:=qbD (qbL I J) (Nat.lcm_dvd_mul _ _);refine⟨G,H,?_,?_⟩
 ·exact Nat.div_le_of_le_mul F
 ·exact Nat.div_le_of_le_mul (by rw [qaC];exact F)
theorem Fit.zero (K:Nat):Fit 0 K:=Nat.pow_pos (by decide)
structure MSt (t:Tbl) (bl wl xl:List FT) (n i:Nat) (T:Int) (D:Nat):Prop where
 pos:0<D
 val:(T:Rat)=(D:Rat)*((flcd xl:Rat)*(flcd xl:Rat))*measQ t bl wl xl n i
 fitD:Fit D (1543*i+1)
 fitT:Fit T.natAbs (3400+1545*i)
theorem MSt.start (t:Tbl) (bl wl F:List FT) (n:Nat):MSt t bl wl F n 0 0 1:=⟨by decide,by simp [measQ,sumQ],by show 1<1000000000 ^ (1543*0+1);decide,Fit.zero _⟩
theorem MSt.skip {t:Tbl} {bl wl F:List FT} {n i:Nat} {T:Int} {D:Nat} (h:MSt t bl wl F n i T D) (G:wnum wl i=0):MSt t bl wl F n (i+1) T D:=by
 refine⟨h.pos,?_,h.fitD.mono (by omega),h.fitT.mono (by omega)⟩;rw [h.val]
 congr 1
 show measQ t bl wl F n i=measQ t bl wl F n i+lval wl i*_
 rw [qik G];grind
theorem MSt.next {t:Tbl} {bl wl G:List FT} {n i:Nat} {T:Int} {D:Nat} (h:MSt t bl wl G n i T D) (hr:NRow t bl wl i) (O:(besides t bl i).length=n+1) (ht:(t.getD i []).length=n) (V:FAll G) (I:G.length=n) (hn:n<=10) :
  MSt t bl wl G n (i+1) (T*((D.lcm (wdn t bl wl i) / D:Nat):Int)+((wnum wl i:Nat):Int)*mval2 t bl G n i*mval2 t bl G n i*((D.lcm (wdn t bl wl i) / wdn t bl wl i:Nat):Int)) (D.lcm (wdn t bl wl i)):=by
 obtain⟨p1,p2,p3,p4⟩:=qif h.pos hr.d.1;have hv:=qma hr.fa O ht V I;have H:=(qfe hr.fa O hn V I).2.2;refine⟨Nat.lcm_pos h.pos hr.d.1,?_,?_,?_⟩
 ·have q1:(D:Rat)*((D.lcm (wdn t bl wl i) / D:Nat):Rat)=(D.lcm (wdn t bl wl i):Rat):=by exact_mod_cast p1
  have Y:((wdn t bl wl i:Nat):Rat)*((D.lcm (wdn t bl wl i) / wdn t bl wl i:Nat):Rat)=(D.lcm (wdn t bl wl i):Rat):=by exact_mod_cast p2
  have hd:((wdn t bl wl i:Nat):Rat)=(fden (wl.getD i fd0):Rat)*(flcd (besides t bl i):Rat)*(flcd (besides t bl i):Rat):=by unfold wdn;push_cast;rfl
  have J:(wnum wl i:Rat)=lval wl i*(fden (wl.getD i fd0):Rat):=by
   unfold lval;rw [qhx];have:(ival (wl.getD i fd0).1.data.toList:Int)=(wnum wl i:Int):=by have:=hr.nn;unfold wnum;omega
   have hne:((fden (wl.getD i fd0):Nat):Rat)≠0:=by have:=qbf hr.wd.1;exact_mod_cast this
   rw [this]
   show (wnum wl i:Rat)=(wnum wl i:Rat) / ((fden (wl.getD i fd0):Nat):Rat)*_
   grind
  show _=_*(measQ t bl wl G n i+lval wl i*(resQ t bl G n i*resQ t bl G n i))
  rw [hd] at Y;clear p1 p2 p3 p4;generalize D.lcm (wdn t bl wl i) / D=A at *;generalize D.lcm (wdn t bl wl i) / wdn t bl wl i=B at *
  push_cast
  rw [h.val,hv];generalize ((D.lcm (wdn t bl wl i):Nat):Rat)=L at *;generalize ((flcd (besides t bl i):Nat):Rat)=F at *;generalize ((flcd G:Nat):Rat)=U at *;generalize ((fden (wl.getD i fd0):Nat):Rat)=E at *;generalize resQ t bl G n i=r at *;generalize measQ t bl wl G n i=M at *;generalize lval wl i=l at *;rw [J];have Z:(D:Rat)*(U*U)*M*A=L*(U*U)*M:=by rw [<-q1];grind
  have e2:l*E*(F*U*r)*(F*U*r)*B=L*(U*U)*(l*(r*r)):=by rw [<-Y];grind
  rw [Z,e2];grind
 ·exact ((h.fitD.mul hr.d.2).le (qbD (qbL h.pos hr.d.1) (Nat.lcm_dvd_mul _ _))).mono (by omega)
 ·have f1:Fit (T*((D.lcm (wdn t bl wl i) / D:Nat):Int)).natAbs (3400+1545*i+1543):=by
   rw [qaD,qaq];exact h.fitT.mul (hr.d.2.le p3)
  have f2:Fit (((wnum wl i:Nat):Int)*mval2 t bl G n i*mval2 t bl G n i*((D.lcm (wdn t bl wl i) / wdn t bl wl i:Nat):Int)).natAbs (67+1622+1622+(1543*i+1)):=by
   rw [qaD,qaD,qaD,qaq,qaq];exact ((hr.wn.mul H).mul H).mul (h.fitD.le p4)
  exact (((f1.mono (show _<=3400+1545*i+1544 by omega)).add (f2.mono (show _<=3400+1545*i+1544 by omega))).le (Int.natAbs_add_le _ _)).mono (by omega)
open Go.Lib
theorem qhz (x:Nat):itxt (x:Int)=decDigits x:=by
 unfold itxt;rw [if_neg (by omega),qaq]
theorem qe2 {q:Rat} (h:Short q):FOk (ftxt q).1.data.toList (ftxt q).2.data.toList:=by
 obtain⟨F,G⟩:=h;rw [qdD] at F G;have I:(ftxt q).2.data.toList=itxt (q.den:Int):=(qhz q.den).symm;have H:(ftxt q).1.data.toList=itxt q.num:=rfl;have J:=q.den_pos;rw [H,I];refine⟨qfE F,qfE (by rw [qaq];exact G),?_,?_⟩
 ·rw [qdu];omega
 ·rw [qdu,qdu,qaq];exact q.reduced
theorem qdN (q:Rat):fval (ftxt q).1.data.toList (ftxt q).2.data.toList=q:=by
 have G:(ftxt q).2.data.toList=itxt (q.den:Int):=(qhz q.den).symm;have F:(ftxt q).1.data.toList=itxt q.num:=rfl;rw [F,G];unfold fval;rw [qdu,qdu,qaq];exact Rat.mkRat_self q
theorem qdB {n:Nat} {x:Nat->Rat} {i:Nat} (F:i<n):(told n x).getD i fd0=ftxt (x i):=by
 unfold told;rw [qab,qaS,List.getElem?_range F];rfl
theorem qcI {n:Nat} {x:Nat->Rat} {i:Nat} (F:i<n):lval (told n x) i=x i:=by
 unfold lval;rw [qdB F,qdN]
theorem qcS {n:Nat} {x:Nat->Rat} (h:qbP n x):FAll (told n x):=fun k F=>by
 rw [qbQ] at F;rw [qdB F];exact qe2 (h k F)
theorem qdq {n:Nat} {x y:Nat->Rat} (h:∀i,i<n->x i=y i):told n x=told n y:=by
 unfold told;exact List.map_congr_left fun i F=>by rw [h i (qau.1 F)]
theorem qbP.congr {n:Nat} {x y:Nat->Rat} (h:qbP n x) (e:∀i,i<n->x i=y i):qbP n y:=fun i F=>by rw [<-e i F];exact h i F
def ttab (n m:Nat) (f:Nat->Nat->Rat):Tbl:=(List.range n).map fun i=>told m (f i)
theorem qcx (n m:Nat) (f:Nat->Nat->Rat):(ttab n m f).length=n:=by unfold ttab;rw [qaF,qbC]
theorem qem {n m:Nat} {f:Nat->Nat->Rat} {i:Nat} (F:i<n):(ttab n m f).getD i []=told m (f i):=by
 unfold ttab;rw [qab,qaS,List.getElem?_range F];rfl
theorem qeA {n m:Nat} {f:Nat->Nat->Rat} (h:0<n):wid (ttab n m f)=m:=by unfold wid;rw [qem h,qbQ]
theorem qmS {n m:Nat} {f:Nat->Nat->Rat} (F:1<=n) (H:n<=40) (I:1<=m) (J:m<=10) (h:∀i,i<n->qbP m (f i)):TOk (ttab n m f):=by
 refine⟨by rw [qcx];exact F,by rw [qcx];exact H,by rw [qeA F];exact I,by rw [qeA F];exact J,fun k G=>?_⟩;rw [qcx] at G;rw [qeA F,qem G,qbQ];exact⟨rfl,qcS (h k G)⟩
theorem ttab_val {n m:Nat} {f:Nat->Nat->Rat} {i j:Nat} (F:i<n) (G:j<m):tval (ttab n m f) i j=f i j:=by
 unfold tval;rw [qem F,qcI G]
def Rb (q:Rat) (N:Nat):Prop:=q.num.natAbs<=N/\q.den<=N
theorem qiE {q:Rat} {p z:Int} {N:Nat} (O:z≠0) (J:p.natAbs<=N) (F:z.natAbs<=N) (h:q=(p:Rat) / z):Rb q N:=by
 have e:q=Rat.divInt p z:=by rw [h,Rat.divInt_eq_div]
 have hg:0<p.natAbs.gcd z.natAbs:=qa5 _ (by omega);obtain⟨G,H⟩:=qmr p z O;rw [<-e] at G H;have I:q.num.natAbs=p.natAbs / p.natAbs.gcd z.natAbs:=by
  rw [G];generalize p.natAbs / p.natAbs.gcd z.natAbs=A;split <;> omega
 exact⟨by rw [I];exact qak (qaM _ _) J,by rw [H];exact qak (qaM _ _) F⟩
theorem qeg {x k:Nat} (F:0<k) (h:x<10 ^ k):(num x).size<=k:=by rw [qdD];exact qck k x F h
theorem qc9 {q:Rat} {N:Nat} (h:Rb q N) (hN:N<10 ^ 600):Short q :=
 ⟨qeg (by decide) (qaX h.1 hN),qeg (by decide) (qaX h.2 hN)⟩
def fct:Nat->Nat
 | 0=>1
 | n+1=>(n+1)*fct n
theorem qkd (C:Nat):∀(m:Nat) (f:Nat->Int),(∀j,j<m->(f j).natAbs<=C)->(sumN m f).natAbs<=m*C
 | 0,_,_=>by show (0:Int).natAbs<=_;simp
 | m+1,f,h=>by
  have ih:=qkd C m f fun j G=>h j (by omega)
  have F:=h m (by omega)
  show (sumN m f+f m).natAbs<=_
  have:=Int.natAbs_add_le (sumN m f) (f m);rw [qaE,qbo];omega
theorem sg_abs (j:Nat):(sg j).natAbs=1:=by unfold sg;split <;> rfl
theorem qi0 {B:Nat}:∀(n:Nat) (M:Nat->Nat->Int),(∀r c,r<n->c<n->(M r c).natAbs<=B)->(det n M).natAbs<=fct n*B ^ n
 | 0,_,_=>by show (1:Int).natAbs<=1*1;decide
 | n+1,M,h=>by
  have H:=qkd (B*(fct n*B ^ n)) (n+1) (fun j=>sg j*M 0 j*det n fun r c=>M (r+1) (skip j c)) fun j G=>by
   rw [qaD,qaD,sg_abs,qbo];exact Nat.mul_le_mul (h 0 j (by omega) G) (qi0 n _ fun r c hr F=>h (r+1) (skip j c) (by omega) (qdH F))
  refine qak H (Nat.le_of_eq ?_)
  show _=(n+1)*fct n*(B ^ n*B)
  rw [qbr B,qaC B,qaI]
structure ElimN (R n k:Nat) (D:Int) (M A:Nat->Nat->Int):Prop where
 st:ElimSt R n k D M A
 dets:∃(P:Nat->Nat->Int) (σ:Nat->Nat) (a:Nat->Nat->Int),DR k P σ=D/\(∀s,s<k->σ s<k)/\(∀i,k<=i->i<R->∀j,j<n->M i j=BR k P σ (a i) j) /\
  (∀i,i<k->∀j,j<n->M i j=D*(if j=i then 1 else 0)-BR k P σ (fun x=>if x=i then 1 else 0) j) /\
  (∀s,s<k->∃r,r<R/\P s=A r)/\∀i,k<=i->i<R->∃r,r<R/\a i=A r
theorem ElimN.start (R n:Nat) (A:Nat->Nat->Int):ElimN R n 0 1 A A :=
 ⟨ElimSt.start R n A,fun _ _=>0,fun _=>0,A,rfl,fun s G=>absurd G (by omega),fun i _ _ j _=>(qiT _ _ _ _).symm,fun i F=>absurd F (by omega),fun s G=>absurd G (by omega),fun i _ F=>⟨i,F,rfl⟩⟩
theorem ElimN.swap {R n k a:Nat} {D:Int} {M A:Nat->Nat->Int} (h:ElimN R n k D M A) (I:k<=a) (U:a<R):ElimN R n k D (qb1 M k a) A:=by
 have Y:k<R:=by omega
 refine⟨h.st.swap I U,?_⟩;obtain⟨P,σ,b,Z,hσ,V,hl,hP,J⟩:=h.dets;refine⟨P,σ,qb1 b k a,Z,hσ,fun i G O j H=>?_,fun i G j H=>by rw [qjt G I];exact hl i G j H,hP,fun i G O=>?_⟩
 ·unfold qb1
  by_cases e:i=k
  ·rw [if_pos e,if_pos e];exact V a I U j H
  ·by_cases F:i=a
   ·rw [if_neg e,if_neg e,if_pos F,if_pos F];exact V k qN Y j H
   ·rw [if_neg e,if_neg e,if_neg F,if_neg F];exact V i G O j H
 ·unfold qb1
  by_cases e:i=k
  ·rw [if_pos e];exact J a I U
  ·by_cases F:i=a
   ·rw [if_neg e,if_pos F];exact J k qN Y
   ·rw [if_neg e,if_neg F];exact J i G O
theorem ElimN.next {R n k:Nat} {D:Int} {M A:Nat->Nat->Int} (h:ElimN R n k D M A) (hk:k<R) (I:k<n) (h0:M k k≠0):ElimN R n (k+1) (M k k) (qbZ (fun _=>true) M k k D) A:=by
 refine⟨h.st.next hk I h0,?_⟩;obtain⟨P,σ,b,Z,hσ,hb,hl,hP,hA⟩:=h.dets;have J:DR k P σ≠0:=by rw [Z];exact h.st.nz
 have O:∀j,j<n->M k j=BR k P σ (b k) j:=hb k qN hk;have H:∀i,i≠k->∀j,qbZ (fun _=>true) M k k D i j=(M k k*M i j-M i k*M k j).tdiv D:=fun i G j=>by
  unfold qbZ;rw [if_pos ⟨rfl,G⟩]
 have U:qbZ (fun _=>true) M k k D k=M k:=by unfold qbZ;rw [if_neg (fun h=>h.2 rfl)]
 have aa:∀i,k<i->i<R->∀j,j<n->M k k*M i j-M i k*M k j=D*BR (k+1) (sel (b k) P) (sel k σ) (b i) j:=fun i G V j F=>by
  have:=qd0 J (b i) (b k) k j;rw [Z,<-hb i (by omega) V j F,<-O k I,<-hb i (by omega) V k I,<-O j F] at this;rw [<-this,qbd (M i j)]
 have af:∀i,i<k->∀j,j<n->M k k*M i j-M i k*M k j=D*(M k k*(if j=i then 1 else 0)-BR (k+1) (sel (b k) P) (sel k σ) (fun x=>if x=i then 1 else 0) j):=fun i G j F=>by
  have:=qd0 J (fun x=>if x=i then 1 else 0) (b k) k j;rw [Z,<-O k I,<-O j F] at this;rw [hl i G j F,hl i G k I,if_neg (by omega:¬k=i),Int.mul_sub D,<-this];generalize BR k P σ (fun x=>if x=i then 1 else 0) j=X;generalize BR k P σ (fun x=>if x=i then 1 else 0) k=Y;generalize (if j=i then (1:Int) else 0)=E;rw [qbz,Int.zero_sub,qbx,Int.sub_neg,Int.mul_sub,qbd X,Int.mul_left_comm (M k k) D];omega
 have ae:∀j,j<n->M k j=M k k*(if j=k then 1 else 0)-BR (k+1) (sel (b k) P) (sel k σ) (fun x=>if x=k then 1 else 0) j:=fun j F=>by
  have:=qd0 J (fun x=>if x=k then 1 else 0) (b k) k j;rw [Z,<-O k I,<-O j F,qhq k P σ _ j (fun s hs=>if_neg (by have:=hσ s hs;omega)),qhq k P σ _ k (fun s hs=>if_neg (by have:=hσ s hs;omega)),Z,if_pos rfl] at this;have e:D*(M k k*(if j=k then 1 else 0)-M k j)=D*BR (k+1) (sel (b k) P) (sel k σ) (fun x=>if x=k then 1 else 0) j:=by
   rw [<-this,Int.mul_sub,Int.mul_one];generalize (if j=k then (1:Int) else 0)=E;rw [qbv,qbd E]
  have:=Int.eq_of_mul_eq_mul_left h.st.nz e;omega
 refine⟨sel (b k) P,sel k σ,b,by rw [qiU];exact (O k I).symm,?_,fun i G V j F=>?_,fun i G j F=>?_,?_,fun i G V=>hA i (by omega) V⟩
 ·intro s hs;cases s with
  | zero=>show k<k+1;omega
  | succ s=>show σ s<k+1;have:=hσ s (by omega);omega
 ·rw [H i (by omega) j,aa i (by omega) V j F,Int.mul_tdiv_cancel_left _ h.st.nz]
 ·by_cases e:i=k
  ·subst e;rw [U];exact ae j F
  ·rw [H i e j,af i (by omega) j F,Int.mul_tdiv_cancel_left _ h.st.nz]
 ·intro s hs;cases s with
  | zero=>exact hA k qN hk
  | succ s=>exact hP s (by omega)
theorem qjJ {R n:Nat} (V:R<=n) (A:Nat->Nat->Int) (G:¬Sing R (castM A)):∀k,k<=R->∃D M,ElimN R n k D M A
 | 0,_=>⟨1,A,ElimN.start R n A⟩
 | k+1,hk=>by
  obtain⟨D,M,h⟩:=qjJ V A G k (by omega)
  by_cases F:∃a,k<=a/\a<R/\M a k≠0
  ·obtain⟨a,ka,H,I⟩:=F;have J:=h.swap ka H;have e:qb1 M k a k=M a:=by unfold qb1;rw [if_pos rfl]
   exact⟨_,_,J.next (by omega) (by omega) (by rw [e];exact I)⟩
  ·refine absurd (qh5 h.st (by omega) (by omega) fun i U O=>?_) G
   by_cases e:M i k=0
   ·exact e
   ·exact absurd ⟨i,U,O,e⟩ F
theorem qmI {R n c:Nat} (f x:Nat->Rat) (a:Rat) (G:R<=c) (I:c<n):sumQ n (fun j=>f j*(if j<R then x j else if j=c then a else 0))=sumQ R (fun j=>f j*x j)+f c*a:=by
 obtain⟨m,rfl⟩:∃m,n=R+m:=⟨n-R,by omega⟩;rw [qel]
 congr 1
 ·exact qbS fun j F=>by rw [if_pos F]
 ·rw [qda m (c-R) _ (by omega) fun i H hne=>by rw [if_neg (by omega),if_neg (by omega)];grind];rw [show R+(c-R)=c by omega,if_neg (by omega),if_pos rfl]
theorem elim_at {R n c:Nat} {z:Int} {M A:Nat->Nat->Int} (h:ElimSt R n R z M A) (H:R<=c) (I:c<n):qcv R (castM A) (fun i=>castM A i c) (fun i=>(M i c:Rat) / z):=by
 have O:(z:Rat)≠0:=by exact_mod_cast h.nz
 intro i F;have:=(h.span.2 i F).kill (y:=fun j=>if j<R then (M j c:Rat) / z else if j=c then -1 else 0) fun i F=>by
  rw [qmI _ _ _ H I,qda R i _ F fun j J G=>by show (M i j:Rat)*_=0;rw [h.diag i F j J,if_neg (fun h=>G h.symm)];simp]
  show (M i i:Rat)*_+(M i c:Rat)*_=0
  rw [h.diag i F i F,if_pos rfl];grind
 rw [qmI _ _ _ H I] at this
 show sumQ R _=castM A i c
 grind
theorem qiH {R m B:Nat} {A:Nat->Nat->Int} {x:Nat->Nat->Rat} (hB:1<=B) (H:∀i j,i<R->j<R+m->(A i j).natAbs<=B) (O:¬Sing R (castM A)) (U:∀c,c<m->qcv R (castM A) (fun i=>castM A i (R+c)) (x c)) :
  ∃(q:Int) (p:Nat->Nat->Int),q≠0/\q.natAbs<=fct R*B ^ R/\∀c,c<m->∀i,i<R->x c i=(p c i:Rat) / (q:Rat)/\(p c i).natAbs<=fct (R+1)*B ^ (R+1):=by
 obtain⟨D,M,h⟩:=qjJ (n:=R+m) (by omega) A O R qN;obtain⟨P,σ,b,V,hσ,_,Y,I,_⟩:=h.dets;refine⟨D,fun c i=>M i (R+c),h.st.nz,?_,fun c G i J=>⟨(U c G).uniq O (elim_at h.st (by omega) (by omega)) i J,?_⟩⟩
 ·rw [<-V];refine qi0 R _ fun r c hr G=>?_
  obtain⟨r',F,e⟩:=I r hr;rw [e];exact H _ _ F (by have:=hσ c G;omega)
 ·have e:=Y i J (R+c) (by omega);rw [if_neg (by omega),qbz,Int.zero_sub] at e
  show (M i (R+c)).natAbs<=_
  rw [e,qbu];refine qi0 (R+1) _ fun r x hr U=>?_
  cases r with
  | zero =>
   show (if _=i then (1:Int) else 0).natAbs<=B
   split
   ·exact hB
   ·exact qan _
  | succ r =>
   obtain⟨r',F,e⟩:=I r (by omega)
   show (P r _).natAbs<=B
   rw [e];refine H _ _ F ?_;cases x with
   | zero=>show R+c<R+m;omega
   | succ x=>show σ x<R+m;have:=hσ x (by omega);omega
def Cd (q:Rat) (D N:Nat):Prop:=∃p:Int,q=(p:Rat) / (D:Rat)/\p.natAbs<=N
theorem Cd.rb {q:Rat} {D N M:Nat} (h:Cd q D N) (F:D≠0) (hN:N<=M) (G:D<=M):Rb q M:=by
 obtain⟨p,e,H⟩:=h;refine qiE (p:=p) (z:=(D:Int)) (by omega) (by omega) (by omega) ?_;rw [e];rfl
theorem Cd.short {q:Rat} {D N:Nat} (h:Cd q D N) (F:D≠0) (hN:N<10 ^ 600) (G:D<10 ^ 600):Short q :=
 qc9 (h.rb F (Nat.le_max_left N D) (Nat.le_max_right N D)) (by omega)
theorem Cd.mono {q:Rat} {D N M:Nat} (h:Cd q D N) (F:N<=M):Cd q D M:=by
 obtain⟨p,e,G⟩:=h;exact⟨p,e,by omega⟩
theorem Cd.int (z:Int):Cd (z:Rat) 1 z.natAbs:=⟨z,by rw [show ((1:Nat):Rat)=1 from rfl];grind,qae _⟩
theorem Cd.frac (z:Int) (D:Nat):Cd ((z:Rat) / (D:Rat)) D z.natAbs:=⟨z,rfl,qae _⟩
theorem qfx {D:Nat} (F:D≠0):(D:Rat)≠0:=by exact_mod_cast F
theorem Cd.mul {p q:Rat} {D E N M:Nat} (h:Cd p D N) (k:Cd q E M) (F:D≠0) (hE:E≠0):Cd (p*q) (D*E) (N*M):=by
 obtain⟨a,e,G⟩:=h;obtain⟨b,e2,H⟩:=k;refine⟨a*b,?_,by rw [qaD];exact Nat.mul_le_mul G H⟩;have I:=qfx F;have J:=qfx hE;rw [e,e2];push_cast;grind
theorem Cd.add {p q:Rat} {D N M:Nat} (h:Cd p D N) (k:Cd q D M):Cd (p+q) D (N+M):=by
 obtain⟨a,e,F⟩:=h;obtain⟨b,e2,G⟩:=k;refine⟨a+b,?_,by have:=Int.natAbs_add_le a b;omega⟩;rw [e,e2];push_cast;grind
theorem Cd.neg {p:Rat} {D N:Nat} (h:Cd p D N):Cd (-p) D N:=by
 obtain⟨a,e,F⟩:=h;refine⟨-a,?_,by omega⟩;rw [e];push_cast;grind
theorem Cd.sub {p q:Rat} {D N M:Nat} (h:Cd p D N) (k:Cd q D M):Cd (p-q) D (N+M):=by
 rw [show p-q=p + -q by grind];exact h.add k.neg
theorem Cd.up {p:Rat} {D N:Nat} (h:Cd p D N) (k:Nat) (F:D≠0) (H:k≠0):Cd p (D*k) (N*k):=by
 obtain⟨a,e,G⟩:=h;have I:=qfx F;have J:=qfx H;refine⟨a*k,?_,by rw [qaD,qaq];exact Nat.mul_le_mul G qN⟩;rw [e];push_cast;grind
theorem Cd.zero (D:Nat):Cd 0 D 0:=⟨0,by rw [show ((0:Int):Rat)=0 from rfl];grind,qae _⟩
theorem Cd.sum {D N:Nat}:∀{n:Nat} {f:Nat->Rat},(∀i,i<n->Cd (f i) D N)->Cd (sumQ n f) D (n*N)
 | 0,_,_=>by rw [Nat.zero_mul];exact Cd.zero D
 | n+1,f,h=>by
  have ih:=Cd.sum (n:=n) (f:=f) fun i F=>h i (by omega)
  have:=ih.add (h n (by omega))
  show Cd (sumQ n f+f n) D _
  exact this.mono (by rw [qaE,qbo];exact qae _)
theorem qeC.at {d:List Int} (h:qeC d) (k:Nat):0<=d.getD k 0/\d.getD k 0<=10000:=by
 by_cases F:k<d.length
 ·exact h k F
 ·rw [qab,qa8 (by omega)];exact⟨by decide,by decide⟩
theorem dq_cd {d:List Int} (h:qeC d) (k:Nat):Cd (dq d k) 10000 10000:=by
 have:=h.at k;exact⟨d.getD k 0,rfl,by omega⟩
theorem dq_cd8 {d:List Int} (h:∀k,∃m:Nat,m<=8/\d.getD k 0=1250*m) (k:Nat):Cd (dq d k) 8 8:=by
 obtain⟨m,F,e⟩:=h k;refine⟨m,?_,by omega⟩;unfold dq;rw [e];push_cast;grind
theorem qfi {d:List Int} {E:Nat} (hE:E≠0) (h:∀k,Cd (dq d k) E E):∀n,∀p∈prods d n,Cd p (E ^ n) (E ^ n)
 | 0,p,hp=>by
  obtain rfl:p=1:=by simpa [prods] using hp
  exact⟨1,by show (1:Rat)=((1:Int):Rat) / ((1:Nat):Rat);rw [show ((1:Int):Rat)=1 from rfl,show ((1:Nat):Rat)=1 from rfl];grind,qae 1⟩
 | n+1,p,hp=>by
  have F:E ^ n≠0:=qbf (Nat.pow_pos (qbc hE));rcases qaG.1 (show p∈prods d n++(prods d n).map fun p=>p*dq d n from hp) with hp | hp
  ·exact (qfi hE h n p hp).up E F hE
  ·obtain⟨q,G,rfl⟩:=qbl.1 hp;exact (qfi hE h n q G).mul (h n) F hE
theorem termL_cd {kind:Nat} {d:List Int} {E:Nat} (hE:E≠0) (h:∀k,Cd (dq d k) E E) (J:kind=1\/kind=2\/d.length<=3):∀p∈termL kind d,Cd p (E ^ 3) (E ^ 3):=by
 have G:∀m,E ^ m≠0:=fun m=>qbf (Nat.pow_pos (qbc hE))
 have H:Cd 1 (E ^ 3) (E ^ 3):=by have:=(Cd.int 1).up (E ^ 3) (by decide) (G 3);rw [qbo] at this;exact this.mono (by show 1*E ^ 3<=_;omega)
 have I:∀k,Cd (dq d k) (E ^ 3) (E ^ 3):=fun k=>by have:=(h k).up (E ^ 2) hE (G 2);rw [show E ^ 3=E*E ^ 2 by rw [qaQ,qaC]];exact this
 have V:∀k,Cd (dq d k*dq d k) (E ^ 3) (E ^ 3):=fun k=>by
  have:=((h k).mul (h k) hE hE).up E (qbF hE hE) hE;rw [show E ^ 3=E*E*E by rw [qaQ,qaQ,qaQ,Nat.pow_zero,qbo]];exact this
 intro p F;unfold termL at F;split at F
 ·rcases qay.1 F with rfl | F
  ·exact H
  ·obtain⟨k,_,rfl⟩:=qbl.1 F;exact I k
 ·split at F
  ·rcases qaG.1 F with F | F
   ·rcases qay.1 F with rfl | F
    ·exact H
    ·obtain⟨k,_,rfl⟩:=qbl.1 F;exact I k
   ·obtain⟨k,_,rfl⟩:=qbl.1 F;exact V k
  ·rename_i O e2;have J:d.length<=3:=by rcases J with e | e | e;exact absurd e O;exact absurd e e2;exact e
   have:=qfi hE h d.length p F;obtain⟨m,U⟩:∃m,3=d.length+m:=⟨3-d.length,by omega⟩;rw [U,Nat.pow_add];exact this.up (E ^ m) (G _) (G _)
theorem termQ_cd {kind:Nat} {d:List Int} {E:Nat} (hE:E≠0) (h:∀k,Cd (dq d k) E E) (G:kind=1\/kind=2\/d.length<=3) (j:Nat):Cd (termQ kind d j) (E ^ 3) (E ^ 3):=by
 unfold termQ
 by_cases F:j<(termL kind d).length
 ·refine termL_cd hE h G _ ?_;rw [qab,qad F];exact qbG F
 ·rw [qab,qa8 (by omega)];exact (Cd.zero _).mono (qan _)
theorem qjG:10000 ^ 3<10 ^ 600:=by decide +kernel
def thrown (c:Int):Ending:=.panicked [{ v:=.iface 180 (.agg #[.int .i64 c]),recovered:=false }]
def tqf (l:List Pt) (kind:Nat) (i j:Nat):Rat:=termQ kind (l.getD i pt0).dev j
def labq (l:List Pt) (c i:Nat):Rat:=((l.getD i pt0).lab c:Rat) / 100
def wq (F:List Int) (i:Nat):Rat:=((F.getD i 0:Int):Rat)
def WOk (F:List Int):Prop:=∀k,k<F.length->0<=F.getD k 0/\F.getD k 0<=1000
def qcG (kind:Int) (k:Nat):Prop:=kind=(k:Int)/\1<=k/\k<=3
structure Md where
 kind:Int
 inn:Int
 r0:List FT
 r1:List FT
 r2:List FT
def Md.row (m:Md) (c:Nat):List FT:=if c=0 then m.r0 else if c=1 then m.r1 else m.r2
structure MdOk (m:Md) (k n:Nat):Prop where
 kind:qcG m.kind k
 inn:m.inn=(n:Int)/\1<=n/\n<=4
 both:¬(k=3/\n=4)
 rows:∀c,c<3->(m.row c).length=many k n/\FAll (m.row c)
def MdAt (W:World) (v:Value) (m:Md):Prop :=
 ∃(a0 F a2:Option Addr) (G O J H U c1 I V c2:Nat),v=.agg #[.int .i64 m.kind,.int .i64 m.inn,.slice a0 m.r0.length J,.slice F m.r1.length c1,.slice a2 m.r2.length c2]/\FCells W a0 G O m.r0/\FCells W F H U m.r1/\FCells W a2 I V m.r2
theorem MdAt.below {W W':World} {v:Value} {m:Md} (h:MdAt W v m) (F:Below W.heap.size W W'):MdAt W' v m:=by
 obtain⟨a0,a1,a2,b0,o0,c0,b1,o1,c1,b2,o2,c2,rfl,G,H,I⟩:=h;exact⟨a0,a1,a2,b0,o0,c0,b1,o1,c1,b2,o2,c2,rfl,G.below F,H.below F,I.below F⟩
def md0:Md:=⟨0,0,[],[],[]⟩
def mdv0:Value:=.agg #[.int .i64 0,.int .i64 0,.slice none 0 0,.slice none 0 0,.slice none 0 0]
def mdq (k n m:Nat) (x:Nat->Nat->Rat):Md:=⟨k,n,told m (x 0),told m (x 1),told m (x 2)⟩
theorem qfw {k n m:Nat} {x:Nat->Nat->Rat} {c:Nat} (F:c<3):(mdq k n m x).row c=told m (x c):=by
 rcases (show c=0\/c=1\/c=2 by omega) with rfl | rfl | rfl <;> rfl
theorem FAll.eq_told {l:List FT} (h:FAll l):l=told l.length (lval l):=by
 refine List.ext_getElem (by rw [qbQ]) fun i G J=>?_
 have H:l[i]=l.getD i fd0:=by rw [qab,qad G];rfl
 have I:(told l.length (lval l))[i]=ftxt (lval l i):=by
  have:=qdB (x:=lval l) G;rw [qab,qad J] at this;exact this
 rw [H,I];have F:=h i G;unfold lval;obtain⟨n1,n2⟩:=F.val;have O:=F.vn.eq;have U:=F.vd.eq;refine Prod.ext ?_ ?_
 ·show _=qcb _
  rw [n1];unfold qcb;rw [<-O]
 ·show _=num _
  rw [n2];unfold num;rw [<-qhz,Int.natAbs_of_nonneg (by have:=F.pos;omega),<-U]
theorem FAll.short {l:List FT} (h:FAll l):qbP l.length (lval l):=fun i O=>by
 have F:=h i O;unfold lval Short;obtain⟨n1,n2⟩:=F.val;rw [n1,n2];have I:=F.vn.le;have J:=F.vd.le;have G:=congrArg body F.vn.eq;have H:=congrArg body F.vd.eq;rw [(qeV _).1] at G H;rw [G] at I;rw [H] at J;rw [qdD,qdD];exact⟨I,J⟩
theorem qey {P:Program} {O:Func} {p q:Tmp} {U G:TypeId} (h:O.results=#[.cell p U,.cell q G]) (F:Array Value) (w:World) (ap H:Addr) (V v2:Value)
  (hp:F.getD p undef=.pointer (some ap)) (hq:F.getD q undef=.pointer (some H)) (Y:(loadVar U ap).run P w=.ok V w) (Z:(loadVar G H).run P w=.ok v2 w) :
  (results O F).run P w=.ok (.tuple #[V,v2]) w:=by
 have I:F[p]?.getD undef=.pointer (some ap):=by simpa using hp
 have J:F[q]?.getD undef=.pointer (some H):=by simpa using hq
 simp [results,h,I,J,asAddr,Y,Z,Sem.run_bind,Result.andThen]
theorem qet {P:Program} {G:TypeId} {w:World} {g:Nat} {t:TypeId} {v:Value} (d:TypeDesc) (I:P.underlying G=some d) (J:(match d with | .struct _ | .array _ _=>true | _=>false)=false) (hg:w.heap[g]? = some (.cells #[v] t (0,0))) :
  (loadVar G ⟨g,0,none⟩).run P w=.ok v w:=by
 have H:=qC w g 0 _ _ _ hg;have F:(isAgg G).run P w=.ok false w:=by
  unfold isAgg;rw [Sem.run_bind,run_underlying I w];cases d <;> simp_all
 simp [loadVar,Sem.run_bind,F,H]
theorem qgD {W:World} {g:Nat} {v0:Value} {t:TypeId} (h:W.heap[g]? = some (.cells #[v0] t (0,0))) (v:Value):(W.setCell ⟨g,0,none⟩ v).heap[g]? = some (.cells #[v] t (0,0)):=by
 rw [setCell_eq_setRow W g 0 _ t _ v h];exact qT _ _ _ _ _ _ h
theorem qeU {B g:Nat} {a W:World} (h:Below B a W) (hg:B<=g) (cs:Array Value):Below B a (W.setRow g cs) :=
 h.trans ⟨rfl,rfl,rfl,by simp [World.setRow],fun k F=>setRow_other _ _ _ _ (by omega)⟩
theorem caught {w W:World} {gp gq B:Nat} {O:Array Value} {I J:TypeId} (h:B<=gp/\B<=gq/\gp≠gq) (hB:Below B w W) (hp:W.heap[gp]? = some (.cells O I (0,0))) (hq:W.heap[gq]? = some (.cells #[.int .i64 0] J (0,0))) (c:Int) (o:Obj) :
  (((W.setCell ⟨gq,0,none⟩ (.int .i64 9)).setCell ⟨gq,0,none⟩ (.int .i64 c)).alloc o).heap[gp]? = some (.cells O I (0,0))/\(((W.setCell ⟨gq,0,none⟩ (.int .i64 9)).setCell ⟨gq,0,none⟩ (.int .i64 c)).alloc o).heap[gq]? = some (.cells #[.int .i64 c] J (0,0)) /\
   Below B w (((W.setCell ⟨gq,0,none⟩ (.int .i64 9)).setCell ⟨gq,0,none⟩ (.int .i64 c)).alloc o):=by
 obtain⟨X,F⟩:=qY ((W.setCell ⟨gq,0,none⟩ (.int .i64 9)).setCell ⟨gq,0,none⟩ (.int .i64 c));rw [<-F];have U:X.heap[gq]? = some (.cells #[.int .i64 c] J (0,0)):=F▸qgD (qgD hq _) _;have V:X.heap[gp]? = some (.cells O I (0,0)):=by rw [F,qW _ _ _ _ h.2.2,qW _ _ _ _ h.2.2];exact hp
 have Y:Below B w X:=F▸(hB.setCell (p:=⟨gq,0,none⟩) h.2.1 _).setCell (p:=⟨gq,0,none⟩) h.2.1 _;have G:=(qG U).1;have H:=(qG V).1;have hz:B<=X.heap.size:=by have:=h.1;omega
 exact⟨(Below.heap_alloc _ _ _ H).trans V,(Below.heap_alloc _ _ _ G).trans U,Y.trans ⟨rfl,rfl,rfl,by simp,fun k Z=>Below.heap_alloc _ _ _ (qai Z hz)⟩⟩
theorem filled {w W X:World} {gp gq B:Nat} {U cs:Array Value} {H O:TypeId} (h:B<=gp/\B<=gq/\gp≠gq) (Z:W.heap[gp]? = some (.cells U H (0,0))) (J:W.heap[gq]? = some (.cells #[.int .i64 0] O (0,0)))
  (V:X.heap[gp]? = some (.cells cs H (0,0))) (I:∀k,k≠gp->X.heap[k]? = W.heap[k]?) (Y:Below B w X) :
  (X.setCell ⟨gq,0,none⟩ (.int .i64 0)).heap[gp]? = some (.cells cs H (0,0))/\(X.setCell ⟨gq,0,none⟩ (.int .i64 0)).heap[gq]? = some (.cells #[.int .i64 0] O (0,0))/\Below B w (X.setCell ⟨gq,0,none⟩ (.int .i64 0)) /\
   ((∀b,.string b∉U.toList)->∀a b,W.cell? a=some (.string b)->(X.setCell ⟨gq,0,none⟩ (.int .i64 0)).cell? a=some (.string b)):=by
 have G:=(I gq (fun e=>h.2.2 e.symm)).trans J;refine⟨?_,qgD G _,Y.setCell (p:=⟨gq,0,none⟩) h.2.1 _,fun hz a b F=>?_⟩
 ·rw [qW _ _ _ _ h.2.2];exact V
 ·have n1:a.block≠gp:=by
   intro e;unfold World.cell? at F;rw [e,Z] at F;simp only at F;split at F
   ·cases F
   ·exact hz b (by rw [<-Array.mem_def];exact Array.mem_of_getElem? F)
  have n2:a.block≠gq:=by
   intro e;unfold World.cell? at F;rw [e,J] at F;simp only at F;split at F
   ·cases F
   ·have:=Array.mem_of_getElem? F;simp at this
  rw [World.cell?_setCell_far _ _ _ _ (fun e=>n2 e.symm)];unfold World.cell? at F ⊢;rw [I _ n1];exact F
theorem assertM (w:World) (c:Int):(Instr.typeAssert (.iface 180 (.agg #[.int .i64 c])) 20 180 true).run prog w=.ok (.tuple #[.agg #[.int .i64 c],.bool true]) w:=by
 simp [Instr.typeAssert,go_sem]
theorem qiZ (p q:Addr) (w:World) :
  CallsD prog 111 #[.pointer (some p),.pointer (some q)] .returning w fun e G w'=>e=.returned (.tuple #[])/\G=.returning/\w'=w:=by
 refine callsD_of_wpS func111 rfl fun H cs F=>?_
 apply wpS_seq;apply wpS_region;simp [wpOpsS,go_sem,recoverD,F,ntmps111,Exit.thenS,<-List.toArray_replicate,List.replicate];refine wpS_of_wp ?_;go_wp2_with fail;exact⟨rfl,.returning,by rw [<-F],.tuple #[],results_none rfl _ _ _,rfl,rfl,rfl⟩
theorem qkk (gp gq:Nat) (c:Int) (F:List PanicEntry) (w:World) (B:Nat) (hB:B<=gp/\B<=gq/\gp≠gq) (Y:w.heap[gp]? = some (.cells #[.int .i64 0,.int .i64 0,.slice none 0 0,.slice none 0 0,.slice none 0 0] 46 (0,0))) (Z:w.heap[gq]? = some (.cells #[.int .i64 0] 31 (0,0))) :
  CallsD prog 111 #[.pointer (some ⟨gp,0,none⟩),.pointer (some ⟨gq,0,none⟩)] (.panicking ({ v:=.iface 180 (.agg #[.int .i64 c]),recovered:=false } :: F)) w fun e u' w'=>e=.returned (.tuple #[])/\u'=.panicking ({ v:=.iface 180 (.agg #[.int .i64 c]),recovered:=true } :: F) /\
   w'.heap[gp]? = some (.cells #[.int .i64 0,.int .i64 0,.slice none 0 0,.slice none 0 0,.slice none 0 0] 46 (0,0))/\w'.heap[gq]? = some (.cells #[.int .i64 c] 31 (0,0))/\Below B w w':=by
 have O:=(qG Y).1;have V:=(qG Z).1;obtain⟨G,J,H⟩:=nw1 w #[.int .i64 0,.int .i64 0,.slice none 0 0,.slice none 0 0,.slice none 0 0] 46;have U:=qH (zkeep H.o.1 _ _ Y);have I:(G.setRow gp #[.int .i64 0,.int .i64 0,.slice none 0 0,.slice none 0 0,.slice none 0 0]).heap[gq]? = some (.cells #[.int .i64 0] 31 (0,0)):=(setRow_other _ _ _ _ (fun e=>hB.2.2 e.symm)).trans (zkeep H.o.1 _ _ Z);have cq:=qC (G.setRow gp #[.int .i64 0,.int .i64 0,.slice none 0 0,.slice none 0 0,.slice none 0 0]) _ 0 _ _ _ I;have fq:=qF (G.setRow gp #[.int .i64 0,.int .i64 0,.slice none 0 0,.slice none 0 0,.slice none 0 0]) _ 0 _ _ I;have au:(G.setRow gp #[.int .i64 0,.int .i64 0,.slice none 0 0,.slice none 0 0,.slice none 0 0]).heap.size=G.heap.size:=by simp [World.setRow]
 have aa:gp<G.heap.size:=qai O H.o.1.size;have ae:gq<G.heap.size:=qai V H.o.1.size;have ak:¬gq=G.heap.size:=by omega
 have HE:=qH (caught hB (qeU (H.o.1.mono (qap (qaX hB.1 O))) hB.1 #[.int .i64 0,.int .i64 0,.slice none 0 0,.slice none 0 0,.slice none 0 0]) (qT G gp #[.int .i64 0,.int .i64 0,.slice none 0 0,.slice none 0 0,.slice none 0 0] #[.int .i64 0,.int .i64 0,.slice none 0 0,.slice none 0 0,.slice none 0 0] 46 _ U.o) I c (.cells #[.int .i64 c] 180));clear Y Z hB I;have av:=assertM;refine callsD_of_wpS func111 rfl fun c₀ cs hu=>?_
 apply wpS_seq;apply wpS_region;simp [wpOpsS,go_sem,recoverD,hu,ntmps111,Exit.thenS,<-List.toArray_replicate,List.replicate];refine wpS_of_wp ?_;go_upto_region 3 with fail;rw [<-J];clear J;have af:=qC G _ 0 _ _ _ H.o.2;have ag:=qC G _ 1 _ _ _ H.o.2;have ah:=qC G _ 2 _ _ _ H.o.2;have ai:=qC G _ 3 _ _ _ H.o.2;have aj:=qC G _ 4 _ _ _ H.o.2
 go_wp2_with ((with_reducible refine sR_ rfl 46 _ _ rfl (gp) #[.int .i64 0,.int .i64 0,.slice none 0 0,.slice none 0 0,.slice none 0 0] U.o 5 ?_))
 refine⟨rfl,.panicking ({ v:=.iface 180 (.agg #[.int .i64 c]),recovered:=true } :: F),rfl,.tuple #[],results_none rfl _ _ _,rfl,rfl,?_⟩;exact HE.o
theorem qhX (fc:FuncId) (H:Array Value) (G:World->Value->Prop) (F:Int->Prop) (w:World) (ai:∀W,(callFunc fc H).run prog W=.ok (.enter fc H) W)
  (hG:∀W W' v,(∀a b,W.cell? a=some (.string b)->W'.cell? a=some (.string b))->G W v->G W' v)
  (hf:∀w1,Below w.heap.size w w1->Calls prog fc H w1 fun e w'=>Below w1.heap.size w1 w'/\((∃(i0 J:Int) (V:Option Addr) (O I:Nat) (Y:Option Addr) (n1 c1:Nat) (Z:Option Addr) (U c2:Nat),e=.returned (.agg #[.int .i64 i0,.int .i64 J,.slice V O I,.slice Y n1 c1,.slice Z U c2])/\G w' (.agg #[.int .i64 i0,.int .i64 J,.slice V O I,.slice Y n1 c1,.slice Z U c2]))\/∃c,e=thrown c/\F c)) :
  Calls prog 61 #[.func (.func fc) #[] H] w fun e w'=>Below w.heap.size w w'/\((∃(i0 J:Int) (V:Option Addr) (O I:Nat) (Y:Option Addr) (n1 c1:Nat) (Z:Option Addr) (U c2:Nat),e=.returned (.tuple #[(.agg #[.int .i64 i0,.int .i64 J,.slice V O I,.slice Y n1 c1,.slice Z U c2]),.int .i64 0])/\G w' (.agg #[.int .i64 i0,.int .i64 J,.slice V O I,.slice Y n1 c1,.slice Z U c2]))\/∃c,e=.returned (.tuple #[(.agg #[.int .i64 0,.int .i64 0,.slice none 0 0,.slice none 0 0,.slice none 0 0]),.int .i64 c])/\F c):=by
 have ak:=@hmf_ prog;obtain⟨W2,af,K2⟩:=nw2 w #[.int .i64 0,.int .i64 0,.slice none 0 0,.slice none 0 0,.slice none 0 0] 46 #[.int .i64 0] 31;have HF:=qH (hf W2 K2.o.1);clear hf
 go_enter_defers func61,ntmps61
 go_upto_region 1 with fail;rw [<-af];clear af;go_wp2_with fail;refine HF.o.mono ?_;rintro e w1 ⟨aa,h⟩;have K3:Kn (fun W=>W.heap[w.heap.size]? = some (.cells #[.int .i64 0,.int .i64 0,.slice none 0 0,.slice none 0 0,.slice none 0 0] 46 (0,0))/\W.heap[w.heap.size+1]? = some (.cells #[.int .i64 0] 31 (0,0))/\Below w.heap.size w W) w1 :=
  .of ⟨zkeep aa _ _ K2.o.2.1,zkeep aa _ _ K2.o.2.2,K2.o.1.trans (aa.mono K2.o.1.size)⟩
 clear K2;rcases h with ⟨i0,J,V,O,I,Y,n1,c1,Z,U,c2,rfl,hg⟩ | ⟨c,rfl,hF⟩
 ·have HE:=qH (filled (w:=w) (gp:=w.heap.size) (gq:=w.heap.size+1) (B:=w.heap.size) ⟨qae _,by omega,by omega⟩ K3.o.1 K3.o.2.1 (qT w1 _ #[.int .i64 0,.int .i64 0,.slice none 0 0,.slice none 0 0,.slice none 0 0] #[.int .i64 i0,.int .i64 J,.slice V O I,.slice Y n1 c1,.slice Z U c2] _ _ K3.o.1) (fun k hk=>setRow_other _ _ _ _ hk) (qeU K3.o.2.2 qN _));have ag:=hG _ ((w1.setRow w.heap.size #[.int .i64 i0,.int .i64 J,.slice V O I,.slice Y n1 c1,.slice Z U c2]).setCell ⟨w.heap.size+1,0,none⟩ (.int .i64 0)) _ (HE.o.2.2.2 (fun b hb=>by simp at hb)) hg;have ae:(w1.setRow w.heap.size #[.int .i64 i0,.int .i64 J,.slice V O I,.slice Y n1 c1,.slice Z U c2]).heap[w.heap.size+1]? = some (.cells #[.int .i64 0] 31 (0,0)):=(setRow_other _ _ _ _ (by omega)).trans K3.o.2.1;have cq:=qC (w1.setRow w.heap.size #[.int .i64 i0,.int .i64 J,.slice V O I,.slice Y n1 c1,.slice Z U c2]) _ 0 _ _ _ ae;have fq:=qF (w1.setRow w.heap.size #[.int .i64 i0,.int .i64 J,.slice V O I,.slice Y n1 c1,.slice Z U c2]) _ 0 _ _ ae;have HG:=qH ag;clear hG hg ag HF aa ai ae;rename_i hK;dsimp only;refine hK _ _ ?_
  go_wp2_with ((with_reducible refine sR_ rfl 46 _ _ rfl (w.heap.size) #[.int .i64 i0,.int .i64 J,.slice V O I,.slice Y n1 c1,.slice Z U c2] K3.o.1 5 ?_))
  try simp only [bodyPostD]
  refine leaves_cons (f:=111) (args:=#[.pointer (some ⟨w.heap.size,0,none⟩),.pointer (some ⟨w.heap.size+1,0,none⟩)]) (by simp) (by simp [go_sem]) ?_;refine (qiZ _ _ _).mono ?_;rintro e u' aj ⟨rfl,rfl,rfl⟩;refine⟨_,qey rfl _ _ _ _ _ _ rfl rfl ((fun h=>run_loadVar_row _ _ _ 46 _ (0,0) _ h underlying46 rfl (by kernel_rfl)) HE.o.1) (qet _ underlying31 rfl HE.o.2.1),HE.o.2.2.1,qav ⟨i0,J,V,O,I,Y,n1,c1,Z,U,c2,rfl,HG.o⟩⟩
 ·have ah:=qH hF;clear hF hG HF;unfold thrown;go_wp2_with fail
  try simp only [bodyPostD]
  refine leaves_cons (f:=111) (args:=#[.pointer (some ⟨w.heap.size,0,none⟩),.pointer (some ⟨w.heap.size+1,0,none⟩)]) (by simp) (by simp [go_sem]) ?_;refine (qkk w.heap.size (w.heap.size+1) c [] _ w.heap.size ⟨qae _,by omega,by omega⟩ K3.o.1 K3.o.2.1).mono ?_;rintro e u' aj ⟨rfl,rfl,hp,hq,hb⟩;refine⟨_,qey rfl _ _ _ _ _ _ rfl rfl ((fun h=>run_loadVar_row _ _ _ 46 _ (0,0) _ h underlying46 rfl (by kernel_rfl)) hp) (qet _ underlying31 rfl hq),K3.o.2.2.trans hb,qaj ⟨c,rfl,ah.o⟩⟩
theorem assertL (w:World) (c:Int):(Instr.typeAssert (.iface 180 (.agg #[.int .i64 c])) 20 180 true).run prog w=.ok (.tuple #[.agg #[.int .i64 c],.bool true]) w:=by
 simp [Instr.typeAssert,go_sem]
theorem qiY (p q:Addr) (w:World) :
  CallsD prog 141 #[.pointer (some p),.pointer (some q)] .returning w fun e G w'=>e=.returned (.tuple #[])/\G=.returning/\w'=w:=by
 refine callsD_of_wpS func141 rfl fun H cs F=>?_
 apply wpS_seq;apply wpS_region;simp [wpOpsS,go_sem,recoverD,F,ntmps141,Exit.thenS,<-List.toArray_replicate,List.replicate];refine wpS_of_wp ?_;go_wp2_with fail;exact⟨rfl,.returning,by rw [<-F],.tuple #[],results_none rfl _ _ _,rfl,rfl,rfl⟩
theorem qkj (gp gq:Nat) (c:Int) (F:List PanicEntry) (w:World) (B:Nat) (hB:B<=gp/\B<=gq/\gp≠gq) (Y:w.heap[gp]? = some (.cells #[.slice none 0 0] 22 (0,0))) (Z:w.heap[gq]? = some (.cells #[.int .i64 0] 31 (0,0))) :
  CallsD prog 141 #[.pointer (some ⟨gp,0,none⟩),.pointer (some ⟨gq,0,none⟩)] (.panicking ({ v:=.iface 180 (.agg #[.int .i64 c]),recovered:=false } :: F)) w fun e u' w'=>e=.returned (.tuple #[])/\u'=.panicking ({ v:=.iface 180 (.agg #[.int .i64 c]),recovered:=true } :: F) /\
   w'.heap[gp]? = some (.cells #[.slice none 0 0] 22 (0,0))/\w'.heap[gq]? = some (.cells #[.int .i64 c] 31 (0,0))/\Below B w w':=by
 have O:=(qG Y).1;have V:=(qG Z).1;obtain⟨G,U,J⟩:∃G,G=w/\Kn (fun W=>Below w.heap.size w W/\True) G:=⟨w,rfl,.of ⟨Below.refl _ _,trivial⟩⟩;subst U;have I:=qH (zkeep J.o.1 _ _ Y);have H:(G.setCell ⟨gp,0,none⟩ (.slice none 0 0)).heap[gq]? = some (.cells #[.int .i64 0] 31 (0,0)):=(qW _ _ _ _ (fun e=>hB.2.2 e.symm)).trans (zkeep J.o.1 _ _ Z);have cq:=qC (G.setCell ⟨gp,0,none⟩ (.slice none 0 0)) _ 0 _ _ _ H;have fq:=qF (G.setCell ⟨gp,0,none⟩ (.slice none 0 0)) _ 0 _ _ H;have cp:=qC G _ 0 _ _ _ I.o;have fp:=qF G _ 0 _ _ I.o;have ag:(G.setCell ⟨gp,0,none⟩ (.slice none 0 0)).heap.size=G.heap.size:=by simp [World.setCell]
 have aa:gp<G.heap.size:=qai O J.o.1.size;have ae:gq<G.heap.size:=qai V J.o.1.size;have af:¬gq=G.heap.size:=by omega
 have HE:=qH (caught hB ((J.o.1.mono (qap (qaX hB.1 O))).setCell hB.1 (.slice none 0 0)) (qgD I.o (.slice none 0 0)) H c (.cells #[.int .i64 c] 180));clear Y Z hB H;have ah:=assertL;refine callsD_of_wpS func141 rfl fun c₀ cs hu=>?_
 apply wpS_seq;apply wpS_region;simp [wpOpsS,go_sem,recoverD,hu,ntmps141,Exit.thenS,<-List.toArray_replicate,List.replicate];refine wpS_of_wp ?_;go_wp2_with fail;refine⟨rfl,.panicking ({ v:=.iface 180 (.agg #[.int .i64 c]),recovered:=true } :: F),rfl,.tuple #[],results_none rfl _ _ _,rfl,rfl,?_⟩;exact HE.o
theorem qhW (fc:FuncId) (H:Array Value) (G:World->Value->Prop) (F:Int->Prop) (w:World) (ae:∀W,(callFunc fc H).run prog W=.ok (.enter fc H) W)
  (hG:∀W W' v,(∀a b,W.cell? a=some (.string b)->W'.cell? a=some (.string b))->G W v->G W' v)
  (hf:∀I,Below w.heap.size w I->Calls prog fc H I fun e w'=>Below I.heap.size I w'/\((∃(p:Option Addr) (n c:Nat),e=.returned (.slice p n c)/\G w' (.slice p n c))\/∃c,e=thrown c/\F c)) :
  Calls prog 85 #[.func (.func fc) #[] H] w fun e w'=>Below w.heap.size w w'/\((∃(p:Option Addr) (n c:Nat),e=.returned (.tuple #[(.slice p n c),.int .i64 0])/\G w' (.slice p n c))\/∃c,e=.returned (.tuple #[(.slice none 0 0),.int .i64 c])/\F c):=by
 have ag:=@hmf_ prog;obtain⟨W2,Y,V⟩:=nw2 w #[.slice none 0 0] 22 #[.int .i64 0] 31;have HF:=qH (hf W2 V.o.1);clear hf
 go_enter_defers func85,ntmps85
 go_upto_region 1 with fail;rw [<-Y];clear Y;go_wp2_with fail;refine HF.o.mono ?_;rintro e I ⟨O,h⟩;have J:Kn (fun W=>W.heap[w.heap.size]? = some (.cells #[.slice none 0 0] 22 (0,0))/\W.heap[w.heap.size+1]? = some (.cells #[.int .i64 0] 31 (0,0))/\Below w.heap.size w W) I :=
  .of ⟨zkeep O _ _ V.o.2.1,zkeep O _ _ V.o.2.2,V.o.1.trans (O.mono V.o.1.size)⟩
 clear V;rcases h with ⟨p,n,c,rfl,hg⟩ | ⟨c,rfl,hF⟩
 ·have HE:=qH (filled (w:=w) (gp:=w.heap.size) (gq:=w.heap.size+1) (B:=w.heap.size) ⟨qae _,by omega,by omega⟩ J.o.1 J.o.2.1 (qgD J.o.1 (.slice p n c)) (fun k hk=>qW _ _ _ _ hk) (J.o.2.2.setCell (p:=⟨w.heap.size,0,none⟩) qN _));have Z:=hG _ ((I.setCell ⟨w.heap.size,0,none⟩ (.slice p n c)).setCell ⟨w.heap.size+1,0,none⟩ (.int .i64 0)) _ (HE.o.2.2.2 (fun b hb=>by simp at hb)) hg;have U:(I.setCell ⟨w.heap.size,0,none⟩ (.slice p n c)).heap[w.heap.size+1]? = some (.cells #[.int .i64 0] 31 (0,0)):=(qW _ _ _ _ (by simp)).trans J.o.2.1;have cq:=qC (I.setCell ⟨w.heap.size,0,none⟩ (.slice p n c)) _ 0 _ _ _ U;have fq:=qF (I.setCell ⟨w.heap.size,0,none⟩ (.slice p n c)) _ 0 _ _ U;have cp:=qC I _ 0 _ _ _ J.o.1;have fp:=qF I _ 0 _ _ J.o.1;have HG:=qH Z;clear hG hg Z HF O ae U;go_wp2_with fail
  try simp only [bodyPostD]
  refine leaves_cons (f:=141) (args:=#[.pointer (some ⟨w.heap.size,0,none⟩),.pointer (some ⟨w.heap.size+1,0,none⟩)]) (by simp) (by simp [go_sem]) ?_;refine (qiY _ _ _).mono ?_;rintro e u' af ⟨rfl,rfl,rfl⟩;refine⟨_,qey rfl _ _ _ _ _ _ rfl rfl (qet _ underlying22 rfl HE.o.1) (qet _ underlying31 rfl HE.o.2.1),HE.o.2.2.1,qav ⟨p,n,c,rfl,HG.o⟩⟩
 ·have aa:=qH hF;clear hF hG HF;unfold thrown;go_wp2_with fail
  try simp only [bodyPostD]
  refine leaves_cons (f:=141) (args:=#[.pointer (some ⟨w.heap.size,0,none⟩),.pointer (some ⟨w.heap.size+1,0,none⟩)]) (by simp) (by simp [go_sem]) ?_;refine (qkj w.heap.size (w.heap.size+1) c [] _ w.heap.size ⟨qae _,by omega,by omega⟩ J.o.1 J.o.2.1).mono ?_;rintro e u' af ⟨rfl,rfl,hp,hq,hb⟩;refine⟨_,qey rfl _ _ _ _ _ _ rfl rfl (qet _ underlying22 rfl hp) (qet _ underlying31 rfl hq),J.o.2.2.trans hb,qaj ⟨c,rfl,aa.o⟩⟩
