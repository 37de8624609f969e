import Derived.Test.YtplkdeknjghobaaGreatDoorBx15
set_option maxRecDepth 100000
set_option maxHeartbeats 0
namespace Go.Proofs.YtplkdeknjghobaaGreatDoor
open Go.RowKit Tryz
def qgf (w:World) (t:Tbl) (bl wl:List FT) (e:Ending) (F:World):Prop :=
  ((¬TOk t/\e=.returned (.tuple #[.slice none 0 0,.int .i64 60])) \/
   (TOk t/\¬(FAll bl/\FAll wl)/\e=.returned (.tuple #[.slice none 0 0,.int .i64 20])) \/
   (TOk t/\FAll bl/\FAll wl/\¬(bl.length=t.length/\wl.length=t.length/\¬Neg wl)/\e=.returned (.tuple #[.slice none 0 0,.int .i64 2])) \/
   (TOk t/\FAll bl/\FAll wl/\bl.length=t.length/\wl.length=t.length/\¬Neg wl /\
     ((Sing (wid t) (normQ t bl wl t.length)/\e=.returned (.tuple #[.slice none 0 0,.int .i64 7])) \/
      (¬Sing (wid t) (normQ t bl wl t.length)/\∃x,qcD (wid t) (normQ t bl wl t.length) (fun r=>normQ t bl wl t.length r (wid t)) x/\Tells (wid t) x e F))))/\Below w.heap.size w F
theorem qnp {W:World} {H:Option Addr} {b off n c:Nat} {l:List FT} {G:Option Addr} {J F O c2:Nat} {l2:List FT} {g:Nat} {Z:TypeId} (hg:W.heap[g]? = some (.cells #[.slice H n c,.slice G O c2] Z (0,0))) (Y:l.length=n) (h:FCells W H b off l) (I:l2.length=O) (U:FCells W G J F l2):TCells W (some ⟨g,0,none⟩) g 0 [l,l2]:=by
 refine⟨fun _=>rfl,fun k V=>?_⟩;rcases (show k=0\/k=1 by simp at V;omega) with rfl | rfl
 ·exact⟨H,b,off,c,by rw [show ([l,l2]:Tbl).getD 0 []=l from rfl,Y];exact qC _ _ 0 _ _ _ hg,h⟩
 ·exact⟨G,J,F,c2,by rw [show ([l,l2]:Tbl).getD 1 []=l2 from rfl,I];exact qC _ _ 1 _ _ _ hg,U⟩
theorem qly {l l2:List FT}:(∀k,k<([l,l2]:Tbl).length->FAll (([l,l2]:Tbl).getD k []))↔FAll l/\FAll l2 :=
 ⟨fun h=>⟨h 0 (by simp),h 1 (by simp)⟩,fun h k F=>by
  rcases (show k=0\/k=1 by simp at F;omega) with rfl | rfl
  ·exact h.1
  ·exact h.2⟩
theorem qhp (ao:Option Addr) (b off R c:Nat) (t:Tbl) (V:Option Addr) (b2 ag m c2:Nat) (bl:List FT) (Y:Option Addr) (b3 H q c3:Nat) (wl:List FT) (w:World) (hR:t.length=R) (hl:R<=4611686018427387904) (hw:∀k,k<R->(t.getD k []).length<=4611686018427387904) (hc:TCells w ao b off t)
  (hm:bl.length=m) (bq:m<=4611686018427387904) (ak:FCells w V b2 ag bl) (hq:wl.length=q) (bu:q<=4611686018427387904) (au:FCells w Y b3 H wl) (hT:HasT w) :
  Calls prog 129 #[.slice ao R c,.slice V m c2,.slice Y q c3] w fun e w'=>qgf w t bl wl e w':=by
 obtain⟨W1,aa⟩:=qY (w.alloc (.cells #[.slice V m c2,.slice Y q c3] 35));have J:Below w.heap.size w W1:=aa▸qbS qB qN;have aP:W1.heap[w.heap.size]? = some (.cells #[.slice V m c2,.slice Y q c3] 35 (0,0)):=by rw [aa];exact qM _ _ _ rfl
 have HK:=qH (qeU ao b off R c t (some ⟨w.heap.size,0,none⟩) w.heap.size 0 2 2 [bl,wl] W1 hR hl hw (hc.below J) rfl (by omega) (fun k hk=>by
  rcases (show k=0\/k=1 by omega) with rfl | rfl
  ·show bl.length<=_;omega
  ·show wl.length<=_;omega) (qnp aP hm (ak.below J) hq (au.below J)))
 have F:=qH (qA hc (qA hR (qA ak (qA hm (qA au (qA hq hT))))));have ay:=qH J;clear hR hw hc hm ak J aP hT hq au;go_enter func129,ntmps129;go_wp2_with fail;rw [<-aa];clear aa;refine HK.o.mono ?_;rintro e w2 ⟨cc,rfl,aY,aG⟩;have HB:=qH (ay.o.trans (aG.mono ay.o.size));clear aG;rcases aY with ⟨rfl,hT⟩ | ⟨rfl,hT,hL⟩ | ⟨rfl,hT,hL⟩
 ·have HT:=qH hT;clear hT;go_wp2_with fail
  go_ret2
  exact⟨qal ⟨HT.o,rfl⟩,HB.o⟩
 ·have HT:=qH (qA hT hL);clear hT hL;go_wp2_with fail
  go_ret2
  exact⟨qag (qal ⟨HT.o.1,fun h=>HT.o.2 (qly.2 h),rfl⟩),HB.o⟩
 obtain⟨aB,aC⟩:=qly.1 hL;have bi:R<=40:=by have:=hT.r2;have:=F.o.2.1;omega
 have bn:1<=R:=by have:=hT.r1;have:=F.o.2.1;omega
 have aX:=F.o.1.addr (by have:=F.o.2.1;omega);subst aX;obtain⟨n,hn⟩:=qX (wid t);have aL:n<=10:=by have:=hT.c2;omega
 have bf:1<=n:=by have:=hT.c1;omega
 have I:=qH (qA hT (qA aB (qA aC hn)));clear hT hL aB aC hn;have az:∀(W:World),Below w.heap.size w W->¬(bl.length=t.length/\wl.length=t.length/\¬Neg wl)->qgf w t bl wl (.returned (.tuple #[.slice none 0 0,.int .i64 2])) W:=fun W h hn=>⟨qag (qag (qal ⟨I.o.1,I.o.2.1,I.o.2.2.1,hn,rfl⟩)),h⟩
 have ah:=qH az;clear az
 by_cases e1:m=R
 case neg =>
  have aV:((m:Int) != (R:Int))=true:=by rw [bne_iff_ne];omega
  have HE:=qH (ah.o _ HB.o (fun h=>e1 (by rw [<-F.o.2.2.2.1,h.1,F.o.2.1])));clear e1;go_wp2_with fail
  go_ret2
  exact HE.o
 have aV:((m:Int) != (R:Int))=false:=by simp [e1]
 by_cases e2:q=R
 case neg =>
  have aW:((q:Int) != (R:Int))=true:=by rw [bne_iff_ne];omega
  have HE:=qH (ah.o _ HB.o (fun h=>e2 (by rw [<-F.o.2.2.2.2.2.1,h.2.1,F.o.2.1])));clear e2 e1;go_wp2_with fail
  go_ret2
  exact HE.o
 have aW:((q:Int) != (R:Int))=false:=by simp [e2]
 have He:=qH (qA e1 e2);have aD:=F.o.2.2.1.addr (by have:=F.o.2.2.2.1;omega);subst aD;have aF:=F.o.2.2.2.2.1.addr (by have:=F.o.2.2.2.2.2.1;omega);subst aF;have aM:=qfX (some ⟨b3,H,none⟩) b3 H q c3 wl w2 F.o.2.2.2.2.2.1 (by omega) (F.o.2.2.2.2.1.below HB.o) I.o.2.2.1;have HN:=qH aM;have bg:(q:Int)<=R:=by omega
 clear e1 e2 aM;go_wp2_with fail;refine HN.o.mono ?_;rintro e w3 ⟨x,rfl,hx,aH⟩;have G:=qH (HB.o.trans (aH.mono HB.o.size));clear aH;cases x with
 | true =>
  have HE:=qH (ah.o _ G.o (fun h=>h.2.2 (hx.1 rfl)));clear hx;go_wp2_with fail
  go_ret2
  exact HE.o
 | false =>
  have av:¬Neg wl:=fun h=>by have:=hx.2 h;cases this
  have aN:=qlb b off c t b2 ag c2 bl b3 H c3 wl R n w3 I.o.1 F.o.2.1 I.o.2.2.2 (F.o.1.below G.o) I.o.2.1 (by rw [F.o.2.2.2.1];exact He.o.1) (F.o.2.2.1.below G.o) I.o.2.2.1 (by rw [F.o.2.2.2.2.2.1];exact He.o.2) (F.o.2.2.2.2.1.below G.o) av;have aZ:(m:Int)=R:=by have:=He.o.1;omega
  have aO:(q:Int)=R:=by have:=He.o.2;omega
  obtain rfl:m=R:=He.o.1;obtain rfl:q=m:=He.o.2;have aT:=qH aN;have aU:=qH av;clear hx aN av aZ aO bg;go_wp2_with fail;refine aT.o.mono ?_;rintro e w4 ⟨tb,gs,M,Z,rfl,aI,aS,hZ,ai,U,ae⟩;have O:=G.o.trans (aI.mono G.o.size);have aR:=qm5 tb n 63440 gs M w4 bf aL (by omega) (by omega) ai (fun i hi=>by
   obtain⟨ps,_,h,_⟩:=ai.rows i hi;exact (qG h.1).1) (fun i hi j hj=>ae i hi j hj) (F.o.2.2.2.2.2.2.below O)
  have HS:=qH aR;have aj:(Z:Rat)≠0:=by have:=qbj hZ;exact_mod_cast this
  have hA:∀i,i<n->∀j,j<n->castM M i j=(Z:Rat)*normQ t bl wl q i j:=fun i hi j hj=>U i hi j (by omega)
  have aA:∀i,i<n->castM M i n=(Z:Rat)*normQ t bl wl q i n:=fun i hi=>U i hi n (by omega)
  have aQ:=Sing.scale (fun _=>(Z:Rat)) (fun _ _=>aj) hA;have af:∀x,qcD n (castM M) (fun i=>castM M i n) x->qcD n (normQ t bl wl q) (fun r=>normQ t bl wl q r n) x:=fun x hx=>qcD.scale (fun _=>(Z:Rat)) (fun _ _=>aj) hA aA hx
  have HZ:=qH (qA aQ (qA af (qA O (qaj G.o.size aS))));clear aR aI aS hZ ai U ae aj hA aA aQ af O;go_wp2_with fail;refine HS.o.mono ?_;rintro e w5 ⟨aK,h5⟩;have aJ:=qeb HZ.o.2.2.1 aK HZ.o.2.2.2;have ax:qgf w t bl wl e w5:=by
   refine⟨qag (qag (qag ⟨I.o.1,I.o.2.1,I.o.2.2.1,by rw [F.o.2.2.2.1,F.o.2.1],by rw [F.o.2.2.2.2.2.1,F.o.2.1],aU.o,?_⟩)),aJ⟩;rw [F.o.2.1,I.o.2.2.2];rcases h5 with ⟨h,e⟩ | ⟨h,x,hx,ht⟩
   ·exact qal ⟨HZ.o.1.1 h,e⟩
   ·exact qag ⟨fun hs=>h (HZ.o.1.2 hs),x,HZ.o.2.1 x hx,ht⟩
  have HF:=qH ax;clear ax aJ aK;rcases h5 with ⟨_,rfl⟩ | ⟨_,x,_,⟨_,g,rfl,_⟩ | ⟨_,rfl⟩⟩
  all_goals
   go_wp2_with fail
   go_ret2
   exact HF.o
theorem qms (p1 p2 g1 g2 n1 n2 j:Nat) (m1 m2:Nat->Int) (K J:Nat) (aj:K+J<=274877906944) (w:World)
  (h1:w.cell? ⟨p1,0,none⟩=some (rowv g1 n1)) (h2:w.cell? ⟨p2,0,none⟩=some (rowv g2 n2)) (h3:qcj w g1 n1 m1) (h4:qcj w g2 n2 m2) (ak:j<n1) (au:j<n2) (_hn1:n1<=1048576) (_hn2:n2<=1048576) (ae:Fit (m1 j).natAbs K) (af:Fit (m2 j).natAbs J) :
  Calls prog 171 #[.int .i64 j,.pointer (some ⟨p1,0,none⟩),.pointer (some ⟨p2,0,none⟩)] w fun e w'=>∃u,e=.returned u/\Below w.heap.size w w'/\IntAt w' u (m1 j*m2 j):=by
 obtain⟨H,V⟩:=qY (w.alloc (.cells #[.slice none 0 0,.bool false] 242));have G:Below w.heap.size w H:=V▸qbS qB qN;have ah:H.heap[w.heap.size]? = some (.cells #[.slice none 0 0,.bool false] 242 (0,0)):=by rw [V];exact qM _ _ _ rfl
 have ag:qcg H w.heap.size 0:=⟨_,_,_,_,ah,_,rfl,MagAt.nil _⟩;obtain⟨a2,l2,c2,b2,q0,q1,i2⟩:=h3.pair ak;obtain⟨a3,l3,c3,b3,q2,q3,i3⟩:=h4.pair au;have F:∀(p:Addr) (v:Value),w.cell? p=some v->∀W,H.grownBy W (some w.heap.size)->W.cell? p=some v:=fun p v h W hg=>by
  have Y:=qac w _ h;exact (qd2 hg (qai Y G.size) (Nat.ne_of_lt Y)).trans ((G.cell Y).trans h)
 have C1:=F _ _ h1;have C2:=F _ _ h2;have C3:=F _ _ q0;have C4:=F _ _ q1;have C5:=F _ _ q2;have C6:=F _ _ q3;have ax:(j:Int)<n1:=by omega
 have ay:(j:Int)<n2:=by omega
 have ai:=qH (fun W (h:Below H.heap.size H W)=>qcw (m1 j) (m2 j) K J aj _ _ W (i2.below (G.trans (h.mono G.size))) (i3.below (G.trans (h.mono G.size))) ae af);have U:=qH (qA G ag);have av:Below H.heap.size H H:=Below.refl _ _;have O:Below H.heap.size H H.drew:=av.drew;clear F h1 h2 h3 h4 q0 q1 q2 q3 i2 i3 ae af G ah ag;go_enter func171,ntmps171;go_wp2_with fail;rw [<-V];clear V
 go_region_held3 (fun W=>H.grownBy W (some w.heap.size)) (first | with_reducible exact qcX _ _ | with_reducible exact qb1 _ O | with_reducible exact qb1 _ I | exact qbX (qbX (qb1 _ I) (qbT _ _ _ _)) (qbT _ _ _ _)) (first | (go_at_call 172;refine (ai.o _ O).mono ?_;rintro e w6 ⟨u6,rfl,aa,Z⟩;have I:Below H.heap.size H w6:=bjoin O aa;obtain⟨a6,n6,c6,b6,rfl⟩:=qbR Z;obtain⟨_,_,_,_,⟨z0,z1⟩,⟨f0,f1⟩,_⟩:=(U.o.2.below I).cells;have HX:=qH ((U.o.2.below I).row2 Z);clear aa Z))
 all_goals go_wp2_with fail
 all_goals exact qR (v:=.agg #[.slice a6 n6 c6,.bool b6]) (rA_ rfl w.heap.size HX.o.1 underlying242 2) rfl ⟨_,rfl,((U.o.1.trans (I.mono U.o.1.size)).setCell (p:=⟨w.heap.size,0,none⟩) qN _).setCell (p:=⟨w.heap.size,1,none⟩) qN _,HX.o.2⟩
def resQ (t:Tbl) (bl F:List FT) (n i:Nat):Rat:=sumQ n (fun j=>tval t i j*lval F j)-lval bl i
def measQ (t:Tbl) (bl wl F:List FT) (n R:Nat):Rat:=sumQ R fun i=>lval wl i*(resQ t bl F n i*resQ t bl F n i)
def mval2 (t:Tbl) (bl F:List FT) (n i:Nat):Int:=isum (fun j=>ftop (besides t bl i) j*ftop F j) n + -(ftop (besides t bl i) n*((flcd F:Nat):Int))
theorem qmt {t:Tbl} {bl F:List FT} {n i:Nat} (G:FAll (besides t bl i)) (V:(besides t bl i).length=n+1) (J:(t.getD i []).length=n) (hx:FAll F) (O:F.length=n) :
  ((mval2 t bl F n i:Int):Rat)=(flcd (besides t bl i):Rat)*(flcd F:Rat)*resQ t bl F n i:=by
 unfold mval2 resQ
 push_cast
 rw [qgr,qff G (by omega)];have H:sumQ n (fun p=>(((ftop (besides t bl i) p*ftop F p:Int)):Rat))=(flcd (besides t bl i):Rat)*(flcd F:Rat)*sumQ n (fun j=>tval t i j*lval F j):=by
  rw [<-qck];refine qbV fun j U=>?_
  push_cast
  rw [qff G (by omega),qff hx (by omega)];have:lval (besides t bl i) j=tval t i j:=qgv (by omega);rw [this];grind
 have I:lval (besides t bl i) n=lval bl i:=by
  have:=qgu (l:=t.getD i []) (x:=bl.getD i fd0);rw [J] at this;exact this
 rw [H,I];grind
theorem qfs {t:Tbl} {bl F:List FT} {n i:Nat} (J:FAll (besides t bl i)) (V:(besides t bl i).length=n+1) (Y:n<=10) (hx:FAll F) (O:F.length=n) :
  Fit (isum (fun j=>ftop (besides t bl i) j*ftop F j) n).natAbs 1621/\Fit (ftop (besides t bl i) n*((flcd F:Nat):Int)).natAbs 1543/\Fit (mval2 t bl F n i).natAbs 1622:=by
 have G:Fit (isum (fun j=>ftop (besides t bl i) j*ftop F j) n).natAbs 1621:=(qfl _ 1610 n (fun j U=>by
  rw [qaD];exact ((qdd J (m:=11) (by omega) (by omega)).mul (qdd hx (m:=11) (by omega) (by omega))).mono (by omega))).mono (by omega)
 have H:Fit (ftop (besides t bl i) n*((flcd F:Nat):Int)).natAbs 1543:=by
  rw [qaD,qan];exact ((qdd J (m:=11) (by omega) (by omega)).mul (qfd hx (m:=11) (by omega))).mono (by omega)
 refine⟨G,H,?_⟩;unfold mval2;have I:=H.mono (show 1543<=1621 by omega);rw [<-qbr] at I;exact (G.add I).le (qbB _ _)
theorem qiG {a b:Nat} (I:0<a) (J:0<b):a*(a.lcm b / a)=a.lcm b/\b*(a.lcm b / b)=a.lcm b/\a.lcm b / a<=b/\a.lcm b / b<=a:=by
 have G:=Nat.mul_div_cancel' (Nat.dvd_lcm_left a b);have H:=Nat.mul_div_cancel' (Nat.dvd_lcm_right a b);have F:a.lcm b<=a*b:=qbK (qbQ I J) (Nat.lcm_dvd_mul _ _);refine⟨G,H,?_,?_⟩
 ·exact Nat.div_le_of_le_mul F
 ·exact Nat.div_le_of_le_mul (by rw [qax];exact F)
theorem Fit.zero (K:Nat):Fit 0 K:=Nat.pow_pos (by decide)
structure MSt (t:Tbl) (bl wl xl:List FT) (n i:Nat) (T:Int) (D:Nat):Prop where
 pos:0<D
 val:(T:Rat)=(D:Rat)*((flcd xl:Rat)*(flcd xl:Rat))*measQ t bl wl xl n i
 fitD:Fit D (1543*i+1)
 fitT:Fit T.natAbs (3400+1545*i)
theorem MSt.start (t:Tbl) (bl wl F:List FT) (n:Nat):MSt t bl wl F n 0 0 1:=⟨by decide,by simp [measQ,sumQ],by show 1<1000000000 ^ (1543*0+1);decide,Fit.zero _⟩
theorem MSt.skip {t:Tbl} {bl wl F:List FT} {n i:Nat} {T:Int} {D:Nat} (h:MSt t bl wl F n i T D) (G:wnum wl i=0):MSt t bl wl F n (i+1) T D:=by
 refine⟨h.pos,?_,h.fitD.mono (by omega),h.fitT.mono (by omega)⟩;rw [h.val]
 congr 1
 show measQ t bl wl F n i=measQ t bl wl F n i+lval wl i*_
 rw [qiJ G];grind
theorem MSt.next {t:Tbl} {bl wl G:List FT} {n i:Nat} {T:Int} {D:Nat} (h:MSt t bl wl G n i T D) (H:NRow t bl wl i) (V:(besides t bl i).length=n+1) (ht:(t.getD i []).length=n) (hx:FAll G) (J:G.length=n) (hn:n<=10) :
  MSt t bl wl G n (i+1) (T*((D.lcm (wdn t bl wl i) / D:Nat):Int)+((wnum wl i:Nat):Int)*mval2 t bl G n i*mval2 t bl G n i*((D.lcm (wdn t bl wl i) / wdn t bl wl i:Nat):Int)) (D.lcm (wdn t bl wl i)):=by
 obtain⟨p1,p2,p3,p4⟩:=qiG h.pos H.d.1;have hv:=qmt H.fa V ht hx J;have I:=(qfs H.fa V hn hx J).2.2;refine⟨Nat.lcm_pos h.pos H.d.1,?_,?_,?_⟩
 ·have q1:(D:Rat)*((D.lcm (wdn t bl wl i) / D:Nat):Rat)=(D.lcm (wdn t bl wl i):Rat):=by exact_mod_cast p1
  have Y:((wdn t bl wl i:Nat):Rat)*((D.lcm (wdn t bl wl i) / wdn t bl wl i:Nat):Rat)=(D.lcm (wdn t bl wl i):Rat):=by exact_mod_cast p2
  have hd:((wdn t bl wl i:Nat):Rat)=(fden (wl.getD i fd0):Rat)*(flcd (besides t bl i):Rat)*(flcd (besides t bl i):Rat):=by unfold wdn;push_cast;rfl
  have O:(wnum wl i:Rat)=lval wl i*(fden (wl.getD i fd0):Rat):=by
   unfold lval;rw [qhN];have:(ival (wl.getD i fd0).1.data.toList:Int)=(wnum wl i:Int):=by have:=H.nn;unfold wnum;omega
   have hne:((fden (wl.getD i fd0):Nat):Rat)≠0:=by have:=qbj H.wd.1;exact_mod_cast this
   rw [this]
   show (wnum wl i:Rat)=(wnum wl i:Rat) / ((fden (wl.getD i fd0):Nat):Rat)*_
   grind
  show _=_*(measQ t bl wl G n i+lval wl i*(resQ t bl G n i*resQ t bl G n i))
  rw [hd] at Y;clear p1 p2 p3 p4;generalize D.lcm (wdn t bl wl i) / D=A at *;generalize D.lcm (wdn t bl wl i) / wdn t bl wl i=B at *
  push_cast
  rw [h.val,hv];generalize ((D.lcm (wdn t bl wl i):Nat):Rat)=L at *;generalize ((flcd (besides t bl i):Nat):Rat)=F at *;generalize ((flcd G:Nat):Rat)=U at *;generalize ((fden (wl.getD i fd0):Nat):Rat)=E at *;generalize resQ t bl G n i=r at *;generalize measQ t bl wl G n i=M at *;generalize lval wl i=l at *;rw [O];have Z:(D:Rat)*(U*U)*M*A=L*(U*U)*M:=by rw [<-q1];grind
  have e2:l*E*(F*U*r)*(F*U*r)*B=L*(U*U)*(l*(r*r)):=by rw [<-Y];grind
  rw [Z,e2];grind
 ·exact ((h.fitD.mul H.d.2).le (qbK (qbQ h.pos H.d.1) (Nat.lcm_dvd_mul _ _))).mono (by omega)
 ·have f1:Fit (T*((D.lcm (wdn t bl wl i) / D:Nat):Int)).natAbs (3400+1545*i+1543):=by
   rw [qaD,qan];exact h.fitT.mul (H.d.2.le p3)
  have f2:Fit (((wnum wl i:Nat):Int)*mval2 t bl G n i*mval2 t bl G n i*((D.lcm (wdn t bl wl i) / wdn t bl wl i:Nat):Int)).natAbs (67+1622+1622+(1543*i+1)):=by
   rw [qaD,qaD,qaD,qan,qan];exact ((H.wn.mul I).mul I).mul (h.fitD.le p4)
  exact (((f1.mono (show _<=3400+1545*i+1544 by omega)).add (f2.mono (show _<=3400+1545*i+1544 by omega))).le (qbB _ _)).mono (by omega)
end Go.Proofs.YtplkdeknjghobaaGreatDoor
namespace Go.Proofs.YtplkdeknjghobaaGreatDoor
open Go.Lib
theorem qhP (x:Nat):itxt (x:Int)=decDigits x:=by
 unfold itxt;rw [if_neg (by omega),qan]
theorem qdz {q:Rat} (h:Short q):FOk (ftxt q).1.data.toList (ftxt q).2.data.toList:=by
 obtain⟨F,G⟩:=h;rw [qdR] at F G;have I:(ftxt q).2.data.toList=itxt (q.den:Int):=(qhP q.den).symm;have H:(ftxt q).1.data.toList=itxt q.num:=rfl;have J:=q.den_pos;rw [H,I];refine⟨qfK F,qfK (by rw [qan];exact G),?_,?_⟩
 ·rw [qdI];omega
 ·rw [qdI,qdI,qan];exact q.reduced
theorem qcV (q:Rat):fval (ftxt q).1.data.toList (ftxt q).2.data.toList=q:=by
 have G:(ftxt q).2.data.toList=itxt (q.den:Int):=(qhP q.den).symm;have F:(ftxt q).1.data.toList=itxt q.num:=rfl;rw [F,G];unfold fval;rw [qdI,qdI,qan];exact Rat.mkRat_self q
theorem qdg {n:Nat} {x:Nat->Rat} {i:Nat} (F:i<n):(told n x).getD i fd0=ftxt (x i):=by
 unfold told;rw [qaa,qau,qbf F];rfl
theorem qcG {n:Nat} {x:Nat->Rat} {i:Nat} (F:i<n):lval (told n x) i=x i:=by
 unfold lval;rw [qdg F,qcV]
theorem qdG {n:Nat} {x:Nat->Rat} (h:qbY n x):FAll (told n x):=fun k F=>by
 rw [qbW] at F;rw [qdg F];exact qdz (h k F)
theorem qeR {n:Nat} {x y:Nat->Rat} (h:∀i,i<n->x i=y i):told n x=told n y:=by
 unfold told;exact List.map_congr_left fun i F=>by rw [h i (qbb.1 F)]
theorem qbY.congr {n:Nat} {x y:Nat->Rat} (h:qbY n x) (e:∀i,i<n->x i=y i):qbY n y:=fun i F=>by rw [<-e i F];exact h i F
def ttab (n m:Nat) (f:Nat->Nat->Rat):Tbl:=(List.range n).map fun i=>told m (f i)
theorem qcE (n m:Nat) (f:Nat->Nat->Rat):(ttab n m f).length=n:=by unfold ttab;rw [qat,qbI]
theorem qeG {n m:Nat} {f:Nat->Nat->Rat} {i:Nat} (F:i<n):(ttab n m f).getD i []=told m (f i):=by
 unfold ttab;rw [qaa,qau,qbf F];rfl
theorem qeS {n m:Nat} {f:Nat->Nat->Rat} (h:0<n):wid (ttab n m f)=m:=by unfold wid;rw [qeG h,qbW]
theorem qno {n m:Nat} {f:Nat->Nat->Rat} (F:1<=n) (H:n<=40) (I:1<=m) (J:m<=10) (h:∀i,i<n->qbY m (f i)):TOk (ttab n m f):=by
 refine⟨by rw [qcE];exact F,by rw [qcE];exact H,by rw [qeS F];exact I,by rw [qeS F];exact J,fun k G=>?_⟩;rw [qcE] at G;rw [qeS F,qeG G,qbW];exact⟨rfl,qdG (h k G)⟩
theorem ttab_val {n m:Nat} {f:Nat->Nat->Rat} {i j:Nat} (F:i<n) (G:j<m):tval (ttab n m f) i j=f i j:=by
 unfold tval;rw [qeG F,qcG G]
def Rb (q:Rat) (N:Nat):Prop:=q.num.natAbs<=N/\q.den<=N
theorem qfY {q:Rat} {p z:Int} {N:Nat} (O:z≠0) (J:p.natAbs<=N) (F:z.natAbs<=N) (h:q=(p:Rat) / z):Rb q N:=by
 have e:q=Rat.divInt p z:=by rw [h,Rat.divInt_eq_div]
 have hg:0<p.natAbs.gcd z.natAbs:=qa9 _ (by omega);obtain⟨G,H⟩:=qmS p z O;rw [<-e] at G H;have I:q.num.natAbs=p.natAbs / p.natAbs.gcd z.natAbs:=by
  rw [G];generalize p.natAbs / p.natAbs.gcd z.natAbs=A;split <;> omega
 exact⟨by rw [I];exact qaj (qaO _ _) J,by rw [H];exact qaj (qaO _ _) F⟩
theorem qex {x k:Nat} (F:0<k) (h:x<10 ^ k):(num x).size<=k:=by rw [qdR];exact qcp k x F h
theorem qdf {q:Rat} {N:Nat} (h:Rb q N) (hN:N<10 ^ 600):Short q :=
 ⟨qex (by decide) (qaL h.1 hN),qex (by decide) (qaL h.2 hN)⟩
open Go.RowKit Tryz
theorem itoa_int (z:Int) (G:-9223372036854775808<=z) (H:z<=9223372036854775807) (w:World) (hT:HasT w) :
  Calls prog 150 #[.int .i64 z] w fun e F=>e=.returned (.string (qcc z))/\Below w.heap.size w F:=by
 refine (Tryz.strconv_Itoa z G H w hT).mono ?_;rintro e F ⟨rfl,k,os,rfl⟩;refine⟨?_,Lib.below_grow _ _ qN _ _⟩;have:Lib.itoa z=itxt z:=by
  unfold Lib.itoa itxt
  by_cases h:z<0
  ·rw [if_pos h,if_pos h]
   try (first | rfl | (congr 2;omega) | (congr 1;omega))
  ·rw [if_neg h,if_neg h]
   try (first | rfl | (congr 1;omega))
 rw [this];rfl
theorem qns (z:Int) (F:-9223372036854775808<=z) (G:z<=9223372036854775807) (w:World) (hT:HasT w) :
  Calls prog 80 #[.int .i64 z] w fun e O=>e=.returned (.string (qcc z))/\Below w.heap.size w O:=by
 have J:=qH (itoa_int z F G w hT);clear F G hT;go_enter func80,ntmps80;go_wp2_with fail;refine J.o.mono ?_;rintro e U ⟨rfl,H⟩;have I:=qH H;clear H;go_wp2;go_ret;exact⟨rfl,I.o⟩
theorem red_val {z:Int} {d:Nat} (F:0<d) {q:Rat} (V:q=mkRat z d):q.num=(if decide (z<0)=true then -((z.natAbs / z.natAbs.gcd d:Nat):Int) else ((z.natAbs / z.natAbs.gcd d:Nat):Int))/\q.den=d / z.natAbs.gcd d:=by
 have hg:0<z.natAbs.gcd d:=qa9 _ F;have U:d / z.natAbs.gcd d≠0:=qbj (Nat.div_pos (qbK F (qaS _ _)) hg);have J:(z.natAbs / z.natAbs.gcd d)*z.natAbs.gcd d=z.natAbs:=Nat.div_mul_cancel (qbN _ _);have O:(d / z.natAbs.gcd d)*z.natAbs.gcd d=d:=Nat.div_mul_cancel (qaS _ _);have G:(z.natAbs / z.natAbs.gcd d).Coprime (d / z.natAbs.gcd d):=Nat.coprime_div_gcd_div_gcd hg;generalize z.natAbs.gcd d=g at *;generalize Y:z.natAbs / g=A at *;generalize Z:d / g=D at *;have H:((A:Nat):Int)*(d:Int)=((z.natAbs:Nat):Int)*(D:Int):=by
  rw [<-J,<-O];push_cast;rw [qbs,qbc (D:Int)]
 refine qi2 U ?_ (qbj F) ?_ V
 ·split
  ·rw [qbr,qan];exact G
  ·rw [qan];exact G
 ·by_cases I:z<0
  ·rw [if_pos (by simpa using I),qby,H,show ((z.natAbs:Nat):Int) = -z by omega,qby,Int.neg_neg]
  ·rw [if_neg (by simpa using I),H,show ((z.natAbs:Nat):Int)=z by omega]
theorem qdJ {W:World} {v:Value} {x:Nat} (h:MagAt W v x):∃(a:Option Addr) (n c:Nat),v=.slice a n c:=by
 obtain⟨a,b,o,c,n,L,rfl,_⟩:=h;exact⟨a,n,c,rfl⟩
theorem qjO (z:Int) (d K:Nat) (hK:K<=137438953472) (v vm:Value) (w:World) (hv:IntAt w v z) (hm:MagAt w vm d) (hz:Fit z.natAbs K) (hd:Fit d K) (h0:0<d) :
  Calls prog 149 #[v,vm] w fun e w'=>∃u,e=.returned u/\Below w.heap.size w w'/\RatV w' u (mkRat z d):=by
 obtain⟨m,rfl,ah⟩:=hv;obtain⟨am,nm,cm,rfl⟩:=qdJ ah;obtain⟨ad,nd,cd,rfl⟩:=qdJ hm;have Y:=red_val h0 (q:=mkRat z d) rfl;have hg:0<z.natAbs.gcd d:=qa9 _ h0;have az:Fit (z.natAbs.gcd d) K:=hd.le (qbK h0 (qaS _ _));obtain⟨b0,Z⟩:=qX (decide (z<0));rw [Z] at Y;have HV:=qH (qA Y Z);rw [Z];obtain⟨W1,I⟩:=qY ((w.alloc (.cells #[.slice am nm cm,.bool b0] 136)).alloc (.cells #[.slice none 0 0,.bool false,.slice none 0 0] 138));have aa:Below w.heap.size w W1:=I▸qbS (qbS qB qN) qN;have aA:W1.heap[w.heap.size]? = some (.cells #[.slice am nm cm,.bool b0] 136 (0,0)):=by rw [I,qL _ _ _ (by simp only [qab];omega)];exact qM _ _ _ rfl
 have aB:W1.heap[w.heap.size+1]? = some (.cells #[.slice none 0 0,.bool false,.slice none 0 0] 138 (0,0)):=by rw [I];exact qM _ _ _ (by simp)
 have H1:=qH (qA aa (qA aA aB));have HM:=qH (qA ah hm);have HF:=qH (qA hz (qA hd (qA hg az)));have HK:=qH hK;have HG:=qH ((qcS .f) z.natAbs d K hK _ _ W1 (ah.below aa) (hm.below aa) hz hd);clear Y Z ah hm hz hd hg az hK aa aA aB h0;go_enter func149,ntmps149;go_wp2_with fail;rw [<-I];clear I;refine HG.o.mono ?_;rintro e w2 ⟨vg,rfl,ae,ai⟩;obtain⟨ag,ng,cg,rfl⟩:=qdJ ai;have J:=H1.o.1.trans (ae.mono H1.o.1.size);have H2:=qH (qA J (qA (zkeep ae _ _ H1.o.2.1) (zkeep ae _ _ H1.o.2.2)));have HD:=qH ((qb0 .f) z.natAbs (z.natAbs.gcd d) K HK.o _ _ w2 (HM.o.1.below J) ai HF.o.1 HF.o.2.2.2 HF.o.2.2.1);have aF:=qH ai;have k0:=qC w2 _ 0 _ _ _ H2.o.2.1;clear ae ai J;go_wp2_with fail;refine HD.o.mono ?_;rintro e w3 ⟨q,r,rfl,U,hq,hr⟩;obtain⟨aq,nq,cq,rfl⟩:=qdJ hq;obtain⟨ar,nr,cr,rfl⟩:=qdJ hr;have O:=H2.o.1.trans (U.mono H2.o.1.size);have H3:=qH (qA O (qA (zkeep U _ _ H2.o.2.1) (zkeep U _ _ H2.o.2.2)));have HQ:=qH hq;have HE:=qH ((qb0 .f) d (z.natAbs.gcd d) K HK.o _ _ w3 (HM.o.2.below O) (aF.o.below U) HF.o.2.1 HF.o.2.2.2 HF.o.2.2.1);clear U hq hr O k0;go_wp2_with fail;refine HE.o.mono ?_;rintro e w4 ⟨q2,r2,rfl,V,ax,aC⟩;obtain⟨F,H,G,rfl⟩:=qdJ ax;obtain⟨aG,aI,aH,rfl⟩:=qdJ aC;have aj:=H3.o.1.trans (V.mono H3.o.1.size);have H4:=qH (qA aj (qA (zkeep V _ _ H3.o.2.1) (zkeep V _ _ H3.o.2.2)));have aD:=qH ax;have HS:=qH ((qb3 .f) _ b0 _ w4 (HQ.o.below V));have k1:=qC w4 _ 1 _ _ _ H4.o.2.1;clear V ax aC aj;go_wp2_with fail;refine HS.o.mono ?_;rintro e w5 ⟨u,rfl,af,hu⟩;obtain⟨au,nu,cu,bu,rfl⟩:=qbR hu;have ay:=zkeep af _ _ H4.o.2.2;have ak:=H4.o.1.trans (af.mono H4.o.1.size);have av:RatV (w5.setRow (w.heap.size+1) #[.slice au nu cu,.bool bu,.slice F H G]) (.agg #[.slice au nu cu,.bool bu,.slice F H G]) (mkRat z d):=by
  refine qeN (W:=w5) (cs':=#[.slice au nu cu,.bool bu,.slice F H G]) ?_ ay;unfold RatV;rw [HV.o.1.1,HV.o.1.2];obtain⟨m',e1,e2⟩:=hu;simp only [qaV,qa3,qaU] at e1;obtain⟨rfl,e3,_⟩:=e1;rw [e3];exact⟨_,_,rfl,e2,aD.o.below af⟩
 have H5:=qH (qA ay (qA (qS ak (show w.heap.size<=w.heap.size+1 by omega) #[.slice au nu cu,.bool bu,.slice F H G]) av));clear af ay ak av hu k1
 go_wp2_with ((with_reducible refine sR_ rfl 138 _ _ rfl (w.heap.size+1) #[.slice au nu cu,.bool bu,.slice F H G] H5.o.1 3 ?_))
 exact qR (v:=.agg #[.slice au nu cu,.bool bu,.slice F H G]) (rA_ rfl (w.heap.size+1) (qT _ _ _ _ _ _ H5.o.1) underlying138 3) rfl ⟨_,rfl,H5.o.2.1,H5.o.2.2⟩
theorem qfM {z:Int} (h:z.natAbs<10 ^ 600):Valid (qcc z).data.toList:=qfK (by have:=qex (x:=z.natAbs) (k:=600) (by decide) h;rw [qdR] at this;exact this)
theorem qjj (z:Int):ival (qcc z).data.toList=z:=qdI z
theorem qev {x:Nat} (h:x<1000000000000000000000000000):Fit x 3:=by unfold Fit;exact h
theorem infoFs:(Tryz.prog.info? 35).map (fun i=>(i.zero,i.size,i.bytes))=some (some (.slice none 0 0),1,24):=by kernel_rfl
theorem qdj {W:World} {B:Nat} {v:Value} {n:Nat} {l:List FT} (h:Rws W B 44 2 v n (fflat l)) (Z:l.length=n):∃(I:Option Addr) (g cap:Nat),v=.slice I n cap/\FCells W I g 0 l/\n<=cap:=by
 have F:=h.own;rcases h.2 with ⟨rfl,rfl⟩ | ⟨g,cap,cur,rfl,_,_,Y,_⟩
 ·exact⟨none,0,0,rfl,⟨fun O=>absurd O (by omega),fun k H=>absurd H (by omega)⟩,qae _⟩
 ·refine⟨some ⟨g,0,none⟩,g,cap,rfl,⟨fun _=>rfl,fun k H=>?_⟩,Y⟩;have hx:l[k]? = some (l.getD k fd0):=by rw [qaa,qad H];rfl
  obtain⟨U,V⟩:=qdX l k _ hx;have J:=F.cells (g:=g) rfl _ _ U;have G:=F.cells (g:=g) rfl _ _ V;rw [Addr.add_mid] at J G;refine⟨J,?_⟩;rw [<-Nat.add_assoc] at G;exact G
theorem qdW (x:ByteArray):qcy (.string x):=fun k d h=>by cases h
theorem qer {U:Array Oper} {rest:List Oper} {o:Oper} {a:Act} {w:World} {Q:Exit->Act->World->Prop} (ae:o.guard=none) (s x:Operand)
  (ho:o.op=.call { callee:=.builtin .append,args:=#[s,x],argTypes:=#[35,35] }) {Z:World} {B:Nat} {v:Value} {n:Nat} {l:List FT} {x1 x2:ByteArray}
  (hB:Below B Z w) (aj:B=Z.heap.size) (O:Rws w B 44 2 v n (fflat l)) (hs:a.eval s=v) {g:Nat} (hx:a.eval x=.slice (some ⟨g,0,none⟩) 1 1) (af:g=w.heap.size) (hn:n<1000000)
  (h:∀Y V,Hu (Rws V B 44 2 Y (n+1) (fflat (l++[(x1,x2)])))->Hu (Below B Z V)->wpList prog U Q rest (a.put o.dst Y) V) :
  wpList prog U Q (o :: rest) a (w.alloc (.cells #[.string x1,.string x2] 44)):=by
 subst af;obtain⟨i0,hi,ag,ah,ai⟩:=info_parts infoF;have ak:=hB.size;have aa:Below w.heap.size w (w.alloc (.cells #[.string x1,.string x2] 44)):=qbS qB qN;have F:=O.below aa;have hg:=heap_alloc_new w (.cells #[.string x1,.string x2] 44);refine qdo ae s x 35 ho B 44 i0 _ 2 32 underlying35 hi ag ah ai rfl (by decide) ?nz v n (fflat l) hs F ⟨w.heap.size,0,none⟩ 1 1 [.string x1,.string x2] hx rfl ?c1 ?c2 ?c3 (by decide) (by unfold maxLen;omega) (by omega) (by simp only [qab];omega) ?_
 case nz =>
  intro y hy;rcases qaN.1 (show y∈[Value.string ⟨#[]⟩,Value.string ⟨#[]⟩] from hy) with rfl | hy
  ·exact qdW _
  ·rw [qas.1 hy];exact qdW _
 case c1 =>
  intro j u J;rw [Addr.add_mid]
  match j,J with
  | 0,J=>exact (qC _ _ _ _ _ _ hg).trans J
  | 1,J=>exact (qC _ _ _ _ _ _ hg).trans J
 case c2 =>
  intro u I;rcases qaN.1 I with rfl | I
  ·rfl
  ·rw [qas.1 I];rfl
 case c3 =>
  intro u I;rcases qaN.1 I with rfl | I
  ·exact qdW _
  ·rw [qas.1 I];exact qdW _
 intro Y V H G _;refine h Y V (qH ?_) (qH ?_)
 ·rw [qcF];exact H
 ·exact F.old G (hB.alloc (by omega) _) qN (by simp only [qab];omega)
end Go.Proofs.YtplkdeknjghobaaGreatDoor
namespace Go.Proofs.YtplkdeknjghobaaGreatDoor
open Go
section
variable {P:Program} {ops:Array Oper} {Q:Exit->Act->World->Prop} {md:Region.Mode} {S:World->Prop}
def nthOp:List Oper->Nat->Option Oper
 | [],_=>none
 | o :: _,0=>some o
 | _ :: l,n+1=>nthOp l n
theorem qhu:∀{l:List Oper} {i:Nat} {o:Oper},nthOp l i=some o->l.toArray[i]? = some o
 | [],_,_,h=>by cases h
 | _ :: _,0,_,h=>by rw [qav];exact h
 | _ :: l,n+1,_,h=>by
  have:=qhu (l:=l) h;rw [qav] at this ⊢;exact this
theorem qh0 {F:Array Oper} {i:Nat} {o:Oper} (h:nthOp F.toList i=some o):F[i]? = some o:=qhu (l:=F.toList) h
theorem ql5 {T:World->Prop} (hT:∀W,T W->S W):∀(F:Nat) (G:Array Bool) (a:Act) (w:World),wpAnyH P md ops Q T F G a w->wpAnyH P md ops Q S F G a w
 | 0,_,_,_,h=>h
 | F+1,_,_,_,h=>⟨h.1,fun i I=>wpOp_mono (fun _ _ H=>⟨hT _ H.1,ql5 hT F _ _ _ H.2⟩) (h.2 i I)⟩
theorem hd_take (i:Nat) {o:Oper} {v:Value} {G:Nat} {F:Array Bool} {a:Act} {w:World} (I:nthOp ops.toList i=some o)
  (H:(Region.noSelect ops && (Region.free md ops F i && (Region.ready md ops F).contains i))=true) (J:∀c a w,Q (.panic c) (a.put o.dst v) w->Q (.panic c) a w) (hS:S w)
  (U:Region.wanted o (yielded ops a.tmps)=true) (hy:∀w,S w->(execOp a.eval o).run P w=.ok (.value v) w)
  (h:wpAnyH P md ops Q S G (F.setIfInBounds i true) (a.put o.dst v) w):wpAnyH P md ops Q S (G+1) F a w:=by
 have O:=qh0 I;rw [qaY,qaY] at H;exact wpAnyH_take O H.1 H.2.1 H.2.2 J (qal ⟨U,hy⟩) hS h
def Way (P:Program) (I:Region.Mode) (H:Array Oper) (Q:Exit->Act->World->Prop) (S:World->Prop) (G:Nat) (F:Array Bool) (K:Act->World->Prop):Prop :=
 Shut (∀(T:World->Prop) (a:Act) (w:World),(∀W,T W->S W)->T w->wpAnyH P I H Q T G F a w->K a w)
theorem hd_step {i:Nat} {o:Oper} {G:Nat} {F:Array Bool} {a:Act} {w:World} (V:ops[i]? = some o)
  (h:∀K:Act->World->Prop,Way P md ops Q S G (F.setIfInBounds i true) K->if Region.wanted o (yielded ops a.tmps)=true then Oper.wp P o a w K Q else K (a.put o.dst undef) w) :
  wpOp P ops Q i (fun J H=>S H/\wpAnyH P md ops Q S G (F.setIfInBounds i true) J H) a w :=
 wpOp_step V fun I O=>h I fun _T a w hT Y U=>O a w ⟨hT w Y,ql5 hT _ _ _ _ U⟩
theorem qhm (i:Nat) {o:Oper} {G:Nat} {F:Array Bool} {a:Act} {w:World} (H:nthOp ops.toList i=some o) (J:decide (Region.ready md ops F=[i])=true)
  (h:∀K:Act->World->Prop,Way P md ops Q S G (F.setIfInBounds i true) K->if Region.wanted o (yielded ops a.tmps)=true then Oper.wp P o a w K Q else K (a.put o.dst undef) w) :
  wpAnyH P md ops Q S (G+1) F a w:=by
 refine wpAnyH_all (of_decide_eq_true J) (by simp) fun j I=>?_
 rw [qas] at I;subst I;exact hd_step (qh0 H) h
theorem Way.on {G:Nat} {F:Array Bool} {K:Act->World->Prop} (h:Way P md ops Q S G F K) (T:World->Prop) (a:Act) (w:World) (hT:∀W,T W->S W) (H:T w) (k:T w->wpAnyH P md ops Q T G F a w):K a w :=
 h.out T a w hT H (k H)
end
def pf (a:Act) (v:Nat->Value):List (Nat×Tmp)->Act
 | []=>a
 | p :: D=>(pf a v D).put (some p.2) (v p.1)
def upd {α:Type} (v:Nat->α) (i:Nat) (x:α):Nat->α:=fun k=>if k=i then x else v k
theorem upd_same {α:Type} (v:Nat->α) (i:Nat) (x:α):upd v i x i=x:=if_pos rfl
theorem qb7 {α:Type} (v:Nat->α) {i k:Nat} (x:α) (h:k≠i):upd v i x k=v k:=if_neg h
theorem put_put (a:Act) (d:Tmp) (x y:Value):(a.put (some d) x).put (some d) y=a.put (some d) y:=by
 simp [Act.put]
theorem qfI (a:Act) (v:Nat->Value) (i:Nat) (x:Value):∀D:List (Nat×Tmp),(∀p∈D,p.1≠i)->pf a (upd v i x) D=pf a v D
 | [],_=>rfl
 | p :: D,h=>by
  show (pf a (upd v i x) D).put _ (upd v i x p.1)=(pf a v D).put _ (v p.1)
  rw [qfI a v i x D fun q F=>h q (List.mem_cons_of_mem _ F),qb7 _ _ (h p (List.mem_cons_self ..))]
theorem pf_put (a:Act) (v:Nat->Value) {i:Nat} {d:Tmp} (x:Value):∀D:List (Nat×Tmp),(D.map (·.1)).Nodup->(D.map (·.2)).Nodup->(i,d)∈D->(pf a v D).put (some d) x=pf a (upd v i x) D
 | [],_,_,h=>by cases h
 | p :: D,F,G,h=>by
  rw [qbw,List.nodup_cons] at F G;rcases qaN.1 h with e | h
  ·subst e
   show ((pf a v D).put (some d) (v i)).put (some d) x=(pf a (upd v i x) D).put (some d) (upd v i x i)
   rw [put_put,upd_same,qfI a v i x D fun q J e=>F.1 (qbn.2 ⟨q,J,e⟩)]
  ·have hne:p.1≠i:=fun e=>F.1 (qbn.2 ⟨_,h,e.symm⟩)
   have H:p.2≠d:=fun e=>G.1 (qbn.2 ⟨_,h,e.symm⟩)
   show ((pf a v D).put (some p.2) (v p.1)).put (some d) x=(pf a (upd v i x) D).put (some p.2) (upd v i x p.1)
   rw [qb7 _ _ hne,<-pf_put a v x D F.2 G.2 h];exact Act.put_comm _ _ _ fun e he I=>H (by cases he;cases I;rfl)
theorem qmN (a:Act) (v:Nat->Value):∀D:List (Nat×Tmp),(∀p∈D,v p.1=a.tmps.getD p.2 undef/\p.2<a.tmps.size)->pf a v D=a
 | [],_=>rfl
 | p :: D,h=>by
  show (pf a v D).put (some p.2) (v p.1)=a
  obtain⟨F,G⟩:=h p (List.mem_cons_self ..);rw [qmN a v D fun q H=>h q (List.mem_cons_of_mem _ H),F]
  show { a with tmps:=a.tmps.setIfInBounds p.2 _ }=a
  congr 1
  apply Array.ext_getElem?;intro j;rw [Array.getElem?_setIfInBounds];split
  ·next e=>subst e;simp [G]
  ·rfl
def arr (n:Nat) (L:Nat->Bool):Array Bool:=((List.range n).map L).toArray
theorem qhI (n:Nat) (L:Nat->Bool) (i:Nat) (b:Bool):(arr n L).getD i b=if i<n then L i else b:=by
 unfold arr;rw [Array.getD_eq_getD_getElem?,qav,qau]
 by_cases h:i<n
 ·rw [qbf h,if_pos h];rfl
 ·rw [qaA (by rw [qbI];omega),if_neg h];rfl
theorem arr_set (n:Nat) (L:Nat->Bool) (i:Nat):(arr n L).setIfInBounds i true=arr n (upd L i true):=by
 unfold arr;rw [qaB]
 congr 1
 apply qbC;intro k
 by_cases e:k=i
 ·subst e
  by_cases h:k<n
  ·rw [List.getElem?_set_self (by simpa using h),qau,qbf h]
   show some true=some (upd L k true k)
   rw [upd_same]
  ·rw [qaA (by simp;omega),qaA (by simp;omega)]
 ·rw [qbx (by omega),qau,qau];cases hk:(List.range n)[k]? with
  | none=>rfl
  | some j =>
   have:j=k:=by
    obtain⟨h,e2⟩:=List.getElem?_eq_some_iff.1 hk;rw [List.getElem_range] at e2;exact e2.symm
   subst this
   show some (L j)=some (upd L i true j)
   rw [qb7 _ _ e]
section
variable {P:Program} {ops:Array Oper} {Q:Exit->Act->World->Prop} {md:Region.Mode} {S:World->Prop}
theorem qi4 (n:Nat) (L:Nat->Bool) (O:n=ops.size) (i:Nat):i∈Region.ready md ops (arr n L)↔i<n/\L i=false/\∃o,ops[i]? = some o/\(o.after.all fun e=>!Region.binds md e || (decide (e.on<n) && L e.on))=true:=by
 have I:∀o:Oper,(o.after.all fun e=>!Region.binds md e || (arr n L).getD e.on false)=(o.after.all fun e=>!Region.binds md e || (decide (e.on<n) && L e.on)):=fun o=>congrArg (fun f=>o.after.all f) (funext fun e=>by
  rw [qhI]
  by_cases h:e.on<n
  ·rw [if_pos h,qV h,Bool.true_and]
  ·rw [if_neg h,qU h,Bool.false_and])
 unfold Region.ready;rw [List.mem_filter,qbb,<-O]
 constructor
 ·rintro ⟨G,H⟩;rw [qaY] at H;refine⟨G,?_,?_⟩
  ·have:=H.1;rw [qhI,if_pos G] at this;simpa using this
  ·have F:=H.2;cases e:ops[i]? with
   | none=>rw [e] at F;exact absurd F (by simp)
   | some o =>
    rw [e] at F;exact⟨o,rfl,(I o).symm.trans F⟩
 ·rintro ⟨G,H,o,F,J⟩;refine⟨G,?_⟩;rw [qaY];refine⟨by rw [qhI,if_pos G,H];rfl,?_⟩;rw [F];exact (I o).trans J
def waits (F:Region.Mode) (o:Oper):List Nat:=(o.after.toList.filter fun e=>Region.binds F e).map (·.on)
theorem qnq {o:Oper} {n:Nat} {L:Nat->Bool} (h:(o.after.all fun e=>!Region.binds md e || (decide (e.on<n) && L e.on))=true):∀k∈waits md o,k<n/\L k=true:=by
 intro k H;obtain⟨e,he,rfl⟩:=qbn.1 H;obtain⟨he,F⟩:=List.mem_filter.1 he;obtain⟨j,G,rfl⟩:=Array.getElem_of_mem (Array.mem_toList_iff.1 he);have:=(Array.all_eq_true.1 h) j G;rw [F] at this
 simpa using this
def dagB (G:Region.Mode) (F:Array Oper):Bool:=(List.range F.size).all fun i=>((nthOp F.toList i).map fun o=>(waits G o).all fun k=>decide (k<i)).getD true
theorem qkq:∀{l:List Oper} {i:Nat} {o:Oper},l[i]? = some o->nthOp l i=some o
 | [],_,_,h=>by simp at h
 | _ :: _,0,_,h=>by simpa [nthOp] using h
 | _ :: l,n+1,_,h=>by
  show nthOp l n=_
  exact qkq (by simpa using h)
theorem qdM {i:Nat} {o:Oper} (h:ops[i]? = some o):nthOp ops.toList i=some o:=qkq (by rw [<-qav];exact h)
theorem qla {L:Nat->Bool} (U:dagB md ops=true) (h:Region.ready md ops (arr ops.size L)=[]):∀i,i<ops.size->L i=true:=by
 intro i
 induction i using Nat.strongRecOn with
 | ind i ih =>
  intro G;apply Classical.byContradiction;intro J;have I:ops[i]? = some ops[i]:=Array.getElem?_eq_getElem G;have F:=(qa4.1 U) i (qbb.2 G);rw [qdM I] at F;have F:(waits md ops[i]).all (fun k=>decide (k<i))=true:=F;have:i∈Region.ready md ops (arr ops.size L):=(qi4 _ L rfl i).2 ⟨G,by simpa using J,_,I,Array.all_eq_true.2 fun j V=>by
   cases O:Region.binds md ops[i].after[j] with
   | false=>rfl
   | true =>
    have Y:ops[i].after[j].on∈waits md ops[i]:=qbn.2 ⟨_,List.mem_filter.2 ⟨Array.mem_toList_iff.2 (Array.getElem_mem V),O⟩,rfl⟩;have H:=of_decide_eq_true ((qa4.1 F) _ Y);rw [ih _ H (by omega)];simp;omega⟩
  rw [h] at this;cases this
def leftN (n:Nat) (L:Nat->Bool):Nat:=((List.range n).filter fun k=>!L k).length
theorem qmi {n:Nat} {L:Nat->Bool} {i:Nat} (G:i<n) (I:L i=false):leftN n (upd L i true)<leftN n L:=by
 have F:∀l:List Nat,(∀x∈l,x=i->False)\/i∈l->((l.filter fun k=>!upd L i true k).length<=(l.filter fun k=>!L k).length)/\(i∈l->(l.filter fun k=>!upd L i true k).length<(l.filter fun k=>!L k).length):=by
  intro l _
  induction l with
  | nil=>exact⟨qae _,fun h=>by cases h⟩
  | cons x l ih =>
   have ih:=ih (by by_cases h:i∈l;exact qag h;exact qal fun y hy e=>h (e▸hy))
   by_cases e:x=i
   ·subst e;rw [List.filter_cons_of_neg (by rw [upd_same];simp),List.filter_cons_of_pos (by rw [I];rfl),qbH];exact⟨by omega,fun _=>by omega⟩
   ·have H:upd L i true x=L x:=qb7 _ _ e;cases hx:L x with
    | true =>
     rw [List.filter_cons_of_neg (by rw [H,hx];simp),List.filter_cons_of_neg (by rw [hx];simp)];exact⟨ih.1,fun h=>ih.2 (by rcases qaN.1 h with h | h;exact absurd h.symm e;exact h)⟩
    | false =>
     rw [List.filter_cons_of_pos (by rw [H,hx];rfl),List.filter_cons_of_pos (by rw [hx];rfl),qbH,qbH];exact⟨by omega,fun h=>by
      have:=ih.2 (by rcases qaN.1 h with h | h;exact absurd h.symm e;exact h);omega⟩
 exact (F _ (qag (qbb.2 G))).2 (qbb.2 G)
theorem qk3 {n:Nat} {L:Nat->Bool} (h:leftN n L=0):∀i,i<n->L i=true:=fun i G=>by
 have:=List.eq_nil_of_length_eq_zero h;cases hL:L i with
 | true=>rfl
 | false =>
  have F:i∈(List.range n).filter fun k=>!L k:=List.mem_filter.2 ⟨qbb.2 G,by rw [hL];rfl⟩
  rw [this] at F;cases F
def dstB (F:Array Oper) (D:List (Nat×Tmp)) (T:List Nat):Bool:=(List.range F.size).all fun i=>T.contains i || ((nthOp F.toList i).map fun o=>match o.dst with | none=>!(D.map (·.1)).contains i | some d=>D.contains (i,d)).getD true
end
open Go.RowKit
section
variable {P:Program} {ops:Array Oper} {Q:Exit->Act->World->Prop} {md:Region.Mode} {S:World->Prop}
def dep (F:List (Nat×List Nat)) (i:Nat):List Nat:=(F.lookup i).getD []
theorem qjF {n:Nat} {L M:Nat->Bool} (h:∀i,i<n->L i=M i):leftN n L=leftN n M:=by
 unfold leftN
 congr 1
 exact List.filter_congr fun i F=>by rw [h i (qbb.1 F)]
section
variable {dl:List (Nat×List Nat)} {F:Nat->Value->List Nat->World->Prop} {w0:World} {i:Nat} {gs:Nat->List Nat} {w:World} {A:Act} {d:Option Tmp} {K:Act->World->Prop}
end
end
class Stays (p:World->Prop):Prop where
 go:∀{W W':World},p W->Below W.heap.size W W'->p W'
instance stays_and {p q:World->Prop} [hp:Stays p] [hq:Stays q]:Stays fun W=>p W/\q W:=⟨fun h F=>⟨hp.go h.1 F,hq.go h.2 F⟩⟩
instance stays_const {p:Prop}:Stays fun _=>p:=⟨fun h _=>h⟩
instance stays_old {w:World}:Stays fun W=>Below w.heap.size w W:=⟨fun h F=>h.trans (F.mono h.size)⟩
instance stays_row {g:Nat} {o:Obj}:Stays fun W=>W.heap[g]? = some o:=⟨fun h F=>(F.block g (qG h).1).trans h⟩
instance stays_ex {α:Type} {p:α->World->Prop} [hp:∀x,Stays (p x)]:Stays fun W=>∃x,p x W:=⟨fun⟨x,h⟩ hb=>⟨x,(hp x).go h hb⟩⟩
def Kn (p:World->Prop) (W:World):Prop:=Hu (p W)
theorem Kn.o {p:World->Prop} {W:World} (k:Kn p W):p W:=Hu.o k
theorem Kn.of {p:World->Prop} {W:World} (h:p W):Kn p W:=qH h
theorem Kn.below {p:World->Prop} [hp:Stays p] {W W':World} (k:Kn p W) (F:Below W.heap.size W W'):Kn p W':=.of (hp.go k.o F)
theorem Kn.on {p q:World->Prop} [hp:Stays p] {W W':World} (k:Kn p W) (F:Below W.heap.size W W') (h:q W'):Kn (fun W=>p W/\q W) W':=.of ⟨hp.go k.o F,h⟩
theorem Kn.also {p q:World->Prop} {W:World} (k:Kn p W) (h:q W):Kn (fun W=>p W/\q W) W:=.of ⟨k.o,h⟩
section
variable {P:Program} {ops:Array Oper} {Q:Exit->Act->World->Prop} {md:Region.Mode} {S:World->Prop}
def growB (H:Region.Mode) (F:Array Oper) (rl:List (Nat×List Nat)) (T:List Nat) (G:Nat):Bool :=
 ((List.range G).all fun i=>T.contains i || (((nthOp F.toList i).map fun o=>(dep rl i).all fun k=>(waits H o).contains k && (!T.contains k && decide (k<G))).getD false)) &&
 ((decide (F.size<=G) || (List.range G).all fun k=>T.contains k || (List.range (G+1)).any fun j=>decide (k<j) && ((nthOp F.toList j).map fun o=>(waits H o).contains k).getD false) &&
 (!T.contains G && (List.range F.size).all fun i=>decide (i<=G) || (T.contains i || ((nthOp F.toList i).map fun o=>(waits H o).any fun k=>decide (G<=k) && !T.contains k).getD false)))
section
variable {ops:Array Oper} {md:Region.Mode}
theorem qkY {rl:List (Nat×List Nat)} {T:List Nat} {H:Nat} (h:growB md ops rl T H=true) {i:Nat} {o:Oper} (I:i<H) (hT:i∉T) (O:nthOp ops.toList i=some o):∀k∈dep rl i,k∈waits md o/\k∉T/\k<H:=by
 intro k J;unfold growB at h;rw [qaY] at h;have F:=(qa4.1 h.1) i (qbb.2 I);rw [Bool.or_eq_true,O] at F;rcases F with F | F
 ·exact absurd (qaF.1 F) hT
 ·have G:=(qa4.1 (show ((dep rl i).all fun k=>(waits md o).contains k && (!T.contains k && decide (k<H)))=true from F)) k J;simp only [qaY,decide_eq_true_eq,Bool.not_eq_true'] at G;refine⟨qaF.1 G.1,fun e=>?_,G.2.2⟩;rw [qaF.2 e] at G;exact absurd G.2.1 (by decide)
theorem qkZ {rl:List (Nat×List Nat)} {T:List Nat} {H:Nat} (h:growB md ops rl T H=true) (O:H<ops.size) {k:Nat} (J:k<H) (hT:k∉T):∃j o,k<j/\j<=H/\nthOp ops.toList j=some o/\k∈waits md o:=by
 unfold growB at h;rw [qaY,qaY,Bool.or_eq_true,decide_eq_true_eq] at h;have G:=(qa4.1 (h.2.1.resolve_left (by omega))) k (qbb.2 J);rw [Bool.or_eq_true] at G;rcases G with G | G
 ·exact absurd (qaF.1 G) hT
 obtain⟨j,I,F⟩:=List.any_eq_true.1 G;rw [qaY,decide_eq_true_eq] at F;have I:=qbb.1 I;cases e:nthOp ops.toList j with
 | none=>rw [e] at F;exact absurd F.2 (by simp)
 | some o=>rw [e] at F;exact⟨j,o,F.1,by omega,e,qaF.1 F.2⟩
theorem qkX {rl:List (Nat×List Nat)} {T:List Nat} {H:Nat} (h:growB md ops rl T H=true) {i:Nat} {o:Oper} (U:H<i) (hT:i∉T) (O:i<ops.size) (J:nthOp ops.toList i=some o):∃k∈waits md o,H<=k/\k∉T:=by
 unfold growB at h;rw [qaY,qaY,qaY] at h;have G:=(qa4.1 h.2.2.2) i (qbb.2 O);rw [Bool.or_eq_true,decide_eq_true_eq,Bool.or_eq_true,J] at G;rcases G with G | G | G
 ·omega
 ·exact absurd (qaF.1 G) hT
 ·obtain⟨k,I,F⟩:=List.any_eq_true.1 (show ((waits md o).any fun k=>decide (H<=k) && !T.contains k)=true from G);rw [qaY,decide_eq_true_eq,Bool.not_eq_true'] at F;exact⟨k,I,F.1,fun e=>by rw [qaF.2 e] at F;cases F.2⟩
theorem growB_own {rl:List (Nat×List Nat)} {T:List Nat} {F:Nat} (h:growB md ops rl T F=true):F∉T:=fun e=>by
 unfold growB at h;rw [qaY,qaY,qaY,Bool.not_eq_true'] at h;have:=h.2.2.1;rw [qaF.2 e] at this;cases this
end
def pv:Value->Nat
 | .pointer (some a)=>a.block
 | .slice (some a) _ _=>a.block
 | _=>0
structure Grown (md:Region.Mode) (ops:Array Oper) (T E:List Nat) (n0:Nat) (F:Nat->Value->World->Prop) (w0:World) (L:Nat->Bool) (v:Nat->Value) (w:World):Prop where
 old:Below w0.heap.size w0 w
 top:∀i,n0<=i->i∉T->L i=false
 took:∀k∈T,L k=true
 shut:∀j o,nthOp ops.toList j=some o->L j=true->∀k∈waits md o,L k=true
 fact:∀i,i<n0->i∉T->L i=true->F i (v i) w
 lt:∀i∈E,L i=true->pv (v i)<w.heap.size
 apart:∀i∈E,∀j∈E,L i=true->L j=true->i≠j->pv (v i)≠pv (v j)
def Grows (F:Nat->Value->World->Prop) (E:List Nat) (i:Nat) (w:World) (A:Act) (d:Option Tmp) (K:Act->World->Prop):Prop :=
 Shut (∀(x:Value) (H:Act) (G:World),H=A.put d x->F i x G->(E.contains i=true->w.heap.size<=pv x/\pv x<G.heap.size)->Below w.heap.size w G->K H G)
theorem Grows.to {F:Nat->Value->World->Prop} {E:List Nat} {i:Nat} {w:World} {A:Act} {d:Option Tmp} {K:Act->World->Prop} (h:Grows F E i w A d K) (x:Value) (H:Act) (G:World) (I:H=A.put d x) (J:F i x G) (hE:E.contains i=true->w.heap.size<=pv x/\pv x<G.heap.size) (O:Below w.heap.size w G):K H G:=h.out x H G I J hE O
theorem qjX (a:Act) (D:List (Nat×Tmp)) (rl:List (Nat×List Nat)) (T E:List Nat) (O:Nat) (F:Nat->Value->World->Prop) (w0:World) (T2:List Nat)
  (ay:∀i x w w',F i x w->Below w.heap.size w w'->F i x w')
  (ak:dagB md ops=true) (h1:(D.map (·.1)).Nodup) (h2:(D.map (·.2)).Nodup) (au:dstB ops D T2=true) (aA:∀k,k<O->k∈T2->k∈T) (hB:growB md ops rl T O=true) (hn:O<=ops.size) (kl:Nat) (aD:leftN ops.size (fun i=>decide (i<O) || T.contains i)=kl)
  (hS:∀w,Below w0.heap.size w0 w->S w)
  (hstep:∀i o,nthOp ops.toList i=some o->i<O->i∉T->∀(v:Nat->Value) (w:World),Below w0.heap.size w0 w->(∀k∈dep rl i,F k (v k) w) ->
   ∀A,A=pf a v D->∀K,Grows F E i w A o.dst K->if Region.wanted o (yielded ops A.tmps)=true then Oper.wp P o A w K Q else K (A.put o.dst undef) w)
  (hend:∀v w,Grown md ops T E O F w0 (fun i=>decide (i<O) || T.contains i) v w->∀A,A=pf a v D->∀f,wpAnyH P md ops Q S (f+kl) (arr ops.size fun i=>decide (i<O) || T.contains i) A w) :
  ∀(G:Nat) (L:Nat->Bool) (v:Nat->Value) (w:World),leftN ops.size L<=G->Grown md ops T E O F w0 L v w->wpAnyH P md ops Q S G (arr ops.size L) (pf a v D) w:=by
 have ai:∀(G:Nat) (L:Nat->Bool) (v:Nat->Value) (w:World),leftN ops.size L<=G->Grown md ops T E O F w0 L v w->(∀i,i<O->L i=true)->wpAnyH P md ops Q S G (arr ops.size L) (pf a v D) w:=by
  intro G L v w hf H J;have az:L=fun i=>decide (i<O) || T.contains i:=funext fun i=>by
   by_cases h:i<O
   ·rw [J i h,qV h];rfl
   ·by_cases h2:i∈T
    ·rw [H.took i h2,qaF.2 h2,Bool.or_true]
    ·rw [H.top i (by omega) h2,qU h,Bool.false_or];exact (Bool.not_eq_true _▸fun e=>h2 (qaF.1 e):T.contains i=false).symm
  subst az;rw [aD] at hf;obtain⟨f,rfl⟩:∃f,G=f+kl:=⟨G-kl,by omega⟩;exact hend v w H _ rfl f
 intro G
 induction G with
 | zero =>
  intro L v w hf H;exact ai 0 L v w hf H fun i hi=>qk3 (Nat.le_zero.1 hf) i (by omega)
 | succ G ih =>
  intro L v w hf H
  by_cases J:∀i,i<O->L i=true
  ·exact ai (G+1) L v w hf H J
  refine⟨fun h0=>absurd (fun i hi=>qla ak h0 i (by omega)) J,fun i hi=>?_⟩;obtain⟨af,hL,o,ho,hd⟩:=(qi4 _ L rfl i).1 hi;have hw:∀k∈waits md o,L k=true:=fun k V=>(qnq hd k V).2
  have Z:i<O:=by
   apply Classical.byContradiction;intro aG;rcases qaM O i with hgt | hle
   ·obtain⟨k,V,aB,aC⟩:=qkX hB hgt (fun h=>by have:=H.took i h;rw [hL] at this;cases this) af (qdM ho);have:=hw k V;rw [H.top k aB aC] at this;cases this
   ·obtain rfl:i=O:=by omega
    refine J fun k V=>?_
    have aF:∀m k,k<i->i-k=m->L k=true:=by
     intro m
     induction m using Nat.strongRecOn with
     | ind m ihm =>
      intro k V hm
      by_cases av:k∈T
      ·exact H.took k av
      obtain⟨j,p,h1,h2,h3,h4⟩:=qkZ hB af V av;rcases qaM j i with h | h
      ·exact H.shut j p h3 (ihm (i-j) (by omega) j h rfl) k h4
      ·obtain rfl:j=i:=by omega
       rw [qdM ho] at h3;cases h3;exact hw k h4
    exact aF _ k V rfl
  have ae:i∉T:=fun h=>by have:=H.took i h;rw [hL] at this;cases this
  refine wpOp_step ho fun K' hK=>hstep i o (qdM ho) Z ae v w H.old (fun k V=>by obtain⟨a1,a2,a3⟩:=qkY hB Z ae (qdM ho) k V;exact H.fact k a3 a2 (hw k a1)) _ rfl K' fun x A' w' hA hF ag U=>?_
  have aj:Below w0.heap.size w0 w':=H.old.trans (U.mono H.old.size);refine hK _ _ ⟨hS _ aj,?_⟩;rw [arr_set];have ax:A'=pf a (upd v i x) D:=by
   rw [hA];have U:=(qa4.1 au) i (qbb.2 af);rw [Bool.or_eq_true,qdM ho] at U;rcases U with U | U
   ·exact absurd (aA i Z (qaF.1 U)) ae
   ·cases e:o.dst with
    | none =>
     show pf a v D=_
     refine (qfI a v i x D fun p hp e2=>?_).symm;have U:(!(D.map (·.1)).contains i)=true:=by
      have:(match o.dst with | none=>!(D.map (·.1)).contains i | some d=>D.contains (i,d))=true:=U;rw [e] at this;exact this
     rw [Bool.not_eq_true',<-Bool.not_eq_true] at U;exact U (qaF.2 (qbn.2 ⟨p,hp,e2⟩))
    | some d =>
     have U:D.contains (i,d)=true:=by
      have:(match o.dst with | none=>!(D.map (·.1)).contains i | some d=>D.contains (i,d))=true:=U;rw [e] at this;exact this
     exact pf_put a v x D h1 h2 (qaF.1 U)
  rw [ax];refine ih _ _ _ (by have:=qmi af hL;omega) ⟨aj,fun j Y ah=>?_,fun k V=>?_,fun j p hp Y k V=>?_,fun j Y ah I=>?_,fun j Y I=>?_,fun j Y m hm I aa hne=>?_⟩
  ·rw [qb7 _ _ (by omega)];exact H.top j Y ah
  ·rw [qb7 _ _ (by rintro rfl;exact ae V)];exact H.took k V
  ·by_cases e:k=i
   ·rw [e,upd_same]
   ·rw [qb7 _ _ e]
    by_cases e2:j=i
    ·subst e2;rw [qdM ho] at hp;cases hp;exact hw k V
    ·rw [qb7 _ _ e2] at Y;exact H.shut j p hp Y k V
  ·by_cases e:j=i
   ·subst e;rw [upd_same];exact hF
   ·rw [qb7 _ _ e] at I ⊢;exact ay _ _ _ _ (H.fact j Y ah I) U
  ·by_cases e:j=i
   ·subst e;rw [upd_same];exact (ag (qaF.2 Y)).2
   ·rw [qb7 _ _ e] at I ⊢;exact qai (H.lt j Y I) U.size
  ·by_cases e:j=i
   ·subst e;have e2:m≠j:=fun e=>hne e.symm
    rw [qb7 _ _ e2] at aa;rw [upd_same,qb7 _ _ e2];have h1:=H.lt m hm aa;have h2:=(ag (qaF.2 Y)).1;omega
   ·rw [qb7 _ _ e] at I ⊢
    by_cases e2:m=i
    ·subst e2;rw [upd_same];have h1:=H.lt j Y I;have h2:=(ag (qaF.2 hm)).1;omega
    ·rw [qb7 _ _ e2] at aa ⊢;exact H.apart j Y m hm I aa hne
theorem qk0 {J:Nat} {G:Array Bool} {a:Act} {U:World} (D:List (Nat×Tmp)) (rl:List (Nat×List Nat)) (T C E:List Nat) (I:Nat) (F:Nat->Value->World->Prop) (kl m:Nat) (Lz:Array Bool) (hm:a.tmps.size=m)
  (av:∀i x,Stays (F i x))
  (hB:(dagB md ops && (decide ((D.map (·.1)).Nodup) && (decide ((D.map (·.2)).Nodup) && (dstB ops D (T++(List.range ops.size).filter fun k=>decide (I<=k)) && ((D.all fun p=>decide (D.lookup p.1=some p.2) && decide (p.2<m)) && (decide (G.size=ops.size) && (decide (leftN ops.size (fun k=>G.getD k false)<=J) &&
   (growB md ops rl T I && (decide (I<=ops.size) && (decide (leftN ops.size (fun i=>decide (i<I) || T.contains i)=kl) && (decide (G=arr ops.size fun k=>T.contains k) && ((T.all fun k=>((nthOp ops.toList k).map fun o=>(waits md o).all fun j=>T.contains j).getD false) && (decide (Lz=arr ops.size fun i=>decide (i<I) || T.contains i) && ((List.range I).all (fun i=>T.contains i || C.contains i) && E.all fun i=>decide (i<I) && !T.contains i))))))))))))))=true)
  (hS:∀w,Below U.heap.size U w->S w)
  (hstep:∀i∈C,∀o,nthOp ops.toList i=some o->∀(v:Nat->Value) (w:World),Below U.heap.size U w->(∀k∈dep rl i,F k (v k) w) ->
   ∀A,A=pf a v D->∀K,Grows F E i w A o.dst K->if Region.wanted o (yielded ops A.tmps)=true then Oper.wp P o A w K Q else K (A.put o.dst undef) w)
  (hend:∀(v:Nat->Value) (w:World),Below U.heap.size U w->(∀i,i<I->i∉T->F i (v i) w)->(∀i∈E,∀j∈E,i≠j->pv (v i)≠pv (v j))->∀A,A=pf a v D->∀f,wpAnyH P md ops Q S (f+kl) Lz A w):wpAnyH P md ops Q S J G a U:=by
 simp only [qaY,decide_eq_true_eq] at hB;obtain⟨aa,h1,h2,ae,hD,ax,hf,af,hn,au,O,ai,ah,hC,hE⟩:=hB;have Y:pf a (fun i=>a.tmps.getD ((D.lookup i).getD 0) undef) D=a:=qmN a _ D fun p hp=>by
  have:=(qa4.1 hD) p hp;simp only [qaY,decide_eq_true_eq] at this;exact⟨by rw [this.1];rfl,by rw [hm];exact this.2⟩
 have V:∀i∈E,i<I/\¬T.contains i=true:=fun i H=>by
  have:=(qa4.1 hE) i H;rw [qaY,decide_eq_true_eq] at this;exact⟨this.1,by simpa using this.2⟩
 have h0:Grown md ops T E I F U (fun k=>T.contains k) (fun i=>a.tmps.getD ((D.lookup i).getD 0) undef) U :=
  ⟨Below.refl _ _,fun i _ H=>by
   rw [<-Bool.not_eq_true];intro h;exact H (qaF.1 h),fun k hk=>qaF.2 hk,fun j o ho hj k hk=>by
   have:=(qa4.1 ai) j (qaF.1 hj);rw [ho] at this;exact (qa4.1 (show ((waits md o).all fun j=>T.contains j)=true from this)) k hk,fun i _ h Z=>absurd (qaF.1 Z) h,fun i H Z=>absurd Z (V i H).2,fun i H _ _ Z=>absurd Z (V i H).2⟩
 have ag:=qjX (P:=P) (Q:=Q) (S:=S) a D rl T E I F U (T++(List.range ops.size).filter fun k=>decide (I<=k)) (fun i x w w' h hb=>(av i x).go h hb) aa h1 h2 ae (fun k hk ak=>by
  rcases qaK.1 ak with h | h
  ·exact h
  ·have:=of_decide_eq_true (List.mem_filter.1 h).2;omega) af hn kl au hS (fun i o ho H aj=>hstep i (by
   have:=(qa4.1 hC) i (qbb.2 H);rw [Bool.or_eq_true] at this;rcases this with h | h
   ·exact absurd (qaF.1 h) aj
   ·exact qaF.1 h) o ho) (fun v w h A hA f=>by
   rw [<-ah];exact hend v w h.old (fun i H hT=>h.fact i H hT (by rw [qV H];rfl)) (fun i H j hj=>h.apart i H j hj (by rw [qV (V i H).1];rfl) (by rw [qV (V j hj).1];rfl)) A hA f) J _ _ _ (by rw [qjF (M:=fun k=>G.getD k false)];exact hf;intro i H;rw [O,qhI,if_pos H]) h0
 rw [Y,<-O] at ag;exact ag
end
theorem qnu {P:Program} {o:Oper} {a:Act} {w:World} {next:Act->World->Prop} {Q:Exit->Act->World->Prop} {f:FuncId} {G:Array Value} {R:Ending->World->Prop} (he:(execOp a.eval o).run P w=.ok (.enter f G) w) (hC:Calls P f G w R)
  (h:∀e F,R e F->∃v,e=.returned v/\next (a.put o.dst v) F):o.wp P a w next Q:=by
 unfold Oper.wp;rw [he,Oper.upon_enter];exact hC.mono fun e F r=>by obtain⟨v,rfl,h⟩:=h e F r;exact h
theorem rowC {B:Nat} {F:World} {g:Nat} {cs:Array Value} {t:TypeId} (h:F.heap[g]? = some (.cells cs t (0,0))) (i:Nat) {x:Value} (hx:cs[i]? = some x:=by rfl) (hg:g<B:=by omega):∀W,Below B F W->W.cell? ⟨g,i,none⟩=some x :=
 fun _ G=>(G.cell (p:=⟨g,i,none⟩) hg).trans ((qC _ _ i _ _ _ h).trans hx)
def fl2:List (Nat×(Value->World->Prop))->Nat->Value->World->Prop
 | [],_=>fun _ _=>True
 | (j,p) :: l,i=>if i=j then p else fl2 l i
instance stays_nil {i:Nat} {x:Value}:Stays (fl2 [] i x):=⟨fun _ _=>trivial⟩
instance stays_cons {i j:Nat} {x:Value} {p:Value->World->Prop} {l:List (Nat×(Value->World->Prop))} [hp:∀x,Stays (p x)] [hl:Stays (fl2 l i x)]:Stays (fl2 ((j,p) :: l) i x):=⟨fun {_ _} h hb=>by
 have F:fl2 ((j,p) :: l) i=if i=j then p else fl2 l i:=rfl
 rw [F] at h ⊢
 by_cases e:i=j
 ·rw [if_pos e] at h ⊢;exact (hp x).go h hb
 ·rw [if_neg e] at h ⊢;exact hl.go h hb⟩
theorem rowG {F:World} {g0 g:Nat} {cs:Array Value} {t:TypeId} (h:F.heap[g]? = some (.cells cs t (0,0))) (i:Nat) {x:Value} (hx:cs[i]? = some x:=by rfl) (hne:g≠g0:=by omega):∀W,F.grownBy W (some g0)->W.cell? ⟨g,i,none⟩=some x :=
 fun _ G=>G.cell ((qC _ _ i _ _ _ h).trans hx) (fun e=>hne (qah e))
def ZC (B:Nat) (cs:Array Value) (t:TypeId) (x:Value) (W:World):Prop:=∃g,W.heap[g]? = some (.cells cs t (0,0))/\x=.pointer (some ⟨g,0,none⟩)/\B<=g
instance stays_zc {B:Nat} {cs:Array Value} {t:TypeId} {x:Value}:Stays (ZC B cs t x):=⟨fun⟨g,F,G,H⟩ hb=>⟨g,(hb.block g (qG F).1).trans F,G,H⟩⟩
theorem ZC.new {B:Nat} {cs:Array Value} {t:TypeId} {w:World} (h:B<=w.heap.size):ZC B cs t (.pointer (some ⟨w.heap.size,0,none⟩)) (w.alloc (.cells cs t))/\Below w.heap.size w (w.alloc (.cells cs t)) :=
 ⟨⟨w.heap.size,qM _ _ _ rfl,rfl,h⟩,qB.alloc qN _⟩
section
variable {P:Program} {ops:Array Oper} {Q:Exit->Act->World->Prop} {md:Region.Mode} {S:World->Prop} {fuel:Nat} {listed:Array Bool} {a a':Act} {w:World} {o:Oper}
theorem hT (i:Nat) {v:Value} (G:nthOp ops.toList i=some o:=by rfl)
  (H:(Region.noSelect ops && (Region.free md ops listed i && (Region.ready md ops listed).contains i))=true:=by kernel_rfl) (I:∀c a w,Q (.panic c) (a.put o.dst v) w->Q (.panic c) a w:=by exact fun _ _ _ h=>h) (hS:S w:=by assumption)
  (O:Region.wanted o (yielded ops a.tmps)=true:=by rfl) (hy:∀w,S w->(execOp a.eval o).run P w=.ok (.value v) w:=by (intro w F;(try dsimp only at F);go_simp <;> with_reducible rfl))
  (J:a.put o.dst v=a':=by (simp only [Act.put,qaB,qbi,List.set_cons_succ];with_reducible rfl))
  (h:wpAnyH P md ops Q S fuel (listed.setIfInBounds i true) a' w):wpAnyH P md ops Q S (fuel+1) listed a w :=
 hd_take i G H I hS O hy (by rw [J];exact h)
theorem hU (i:Nat) (G:nthOp ops.toList i=some o:=by rfl)
  (F:(Region.noSelect ops && (Region.free md ops listed i && (Region.ready md ops listed).contains i))=true:=by kernel_rfl) (H:∀c a w,Q (.panic c) (a.put o.dst undef) w->Q (.panic c) a w:=by exact fun _ _ _ h=>h) (hS:S w:=by assumption)
  (J:Region.wanted o (yielded ops a.tmps)=false:=by rfl)
  (I:a.put o.dst undef=a':=by (simp only [Act.put,qaB,qbi,List.set_cons_succ];with_reducible rfl))
  (h:wpAnyH P md ops Q S fuel (listed.setIfInBounds i true) a' w):wpAnyH P md ops Q S (fuel+1) listed a w:=by
 rw [qaY,qaY] at F;exact wpAnyH_take (qh0 G) F.1 F.2.1 F.2.2 H (qag ⟨J,rfl⟩) hS (by rw [I];exact h)
theorem hC (i:Nat) {f:FuncId} {H:Array Value} {R:Ending->World->Prop} (U:Calls P f H w R) (G:nthOp ops.toList i=some o:=by rfl) (V:decide (Region.ready md ops listed=[i])=true:=by kernel_rfl)
  (Y:Region.wanted o (yielded ops a.tmps)=true:=by rfl) (he:(execOp a.eval o).run P w=.ok (.enter f H) w:=by (go_simp <;> with_reducible rfl))
  (h:∀e F,R e F->∃v,e=.returned v/\S F/\wpAnyH P md ops Q S fuel (listed.setIfInBounds i true) (a.put o.dst v) F):wpAnyH P md ops Q S (fuel+1) listed a w :=
 qhm i G V fun K O=>by
  rw [if_pos Y];refine qnu he U fun e F r=>?_
  obtain⟨v,rfl,I,J⟩:=h e F r;exact⟨v,rfl,O.on S _ _ (fun _ h=>h) I fun _=>J⟩
theorem hN {d:Option Tmp} {v:Value} (F:a.put d v=a':=by (simp only [Act.put,qaB,qbi,List.set_cons_succ];with_reducible rfl)) (h:wpAnyH P md ops Q S fuel listed a' w):wpAnyH P md ops Q S fuel listed (a.put d v) w:=by rw [F];exact h
theorem qnv {P:Program} {o:Oper} {a:Act} {w F:World} {next:Act->World->Prop} {Q:Exit->Act->World->Prop} {v:Value} (he:(execOp a.eval o).run P w=.ok (.value v) F) (h:next (a.put o.dst v) F):o.wp P a w next Q:=by
 unfold Oper.wp;rw [he,Oper.upon_value];exact h
theorem hSg (i:Nat) {G:World} (F:nthOp ops.toList i=some o:=by rfl) (J:decide (Region.ready md ops listed=[i])=true:=by kernel_rfl) (O:Region.wanted o (yielded ops a.tmps)=true:=by rfl) (I:o.dst=none:=by rfl)
  (he:(execOp a.eval o).run P w=.ok .skip G:=by (go_simp <;> with_reducible rfl)) (h:S G/\wpAnyH P md ops Q S fuel (listed.setIfInBounds i true) a G):wpAnyH P md ops Q S (fuel+1) listed a w :=
 qhm i F J fun K H=>by
  rw [if_pos O];unfold Oper.wp;rw [he,Oper.upon_skip,I];exact H.on S _ _ (fun _ h=>h) h.1 fun _=>h.2
theorem hE (i:Nat) {G:World} {v:Value} (F:nthOp ops.toList i=some o:=by rfl) (I:decide (Region.ready md ops listed=[i])=true:=by kernel_rfl) (J:Region.wanted o (yielded ops a.tmps)=true:=by rfl)
  (he:(execOp a.eval o).run P w=.ok (.value v) G:=by (go_simp <;> first | with_reducible rfl | exact⟨rfl,rfl⟩ | rfl)) (h:S G/\wpAnyH P md ops Q S fuel (listed.setIfInBounds i true) (a.put o.dst v) G):wpAnyH P md ops Q S (fuel+1) listed a w :=
 qhm i F I fun K H=>by
  rw [if_pos J];exact qnv he (H.on S _ _ (fun _ h=>h) h.1 fun _=>h.2)
theorem qgR {P:Program} {o:Oper} {F:Operand->Value} {w J:World} {s x:Operand} {t H:TypeId} {v u I:Value} (O:o.op=.call { callee:=.builtin .append,args:=#[s,x],argTypes:=#[t,t] }) (G:o.type=H) (V:F s=v) (hx:F x=u)
  (U:(Builtin.append_ #[t,t] H #[v,u]).run P w=.ok I J):(execOp F o).run P w=.ok (.value I) J:=by
 subst G;unfold execOp;simp only [O,resolve,invoke,builtin,Sem.run_bind,Sem.run_pure,Result.andThen_ok,List.map_toArray,qbw,qbL,V,hx,U]
theorem hSn (i:Nat) (n:Nat) {I:TypeId} {x y:Operand} {g:Nat} {cells old:Array Value} {t:TypeId} (hg:w.heap[g]? = some (.cells old t (0,0))) (H:nthOp ops.toList i=some o:=by rfl) (Z:decide (Region.ready md ops listed=[i])=true:=by kernel_rfl)
  (hw:Region.wanted o (yielded ops a.tmps)=true:=by rfl) (Y:o.op=.store I x y:=by rfl) (U:o.dst=none:=by rfl) (hx:a.eval x=.pointer (some ⟨g,0,none⟩):=by rfl) (hy:a.eval y=.agg cells:=by rfl)
  (V:(P.info? I).map (·.size)=some n:=by kernel_rfl) (G:old.size=n:=by rfl) (F:cells.size=n:=by rfl) (J:cells.toList.all (·.oneCell')=true:=by rfl)
  (h:S (w.setRow g cells)/\wpAnyH P md ops Q S fuel (listed.setIfInBounds i true) a (w.setRow g cells)):wpAnyH P md ops Q S (fuel+1) listed a w :=
 qhm i H Z fun K O=>by
  rw [if_pos hw];refine wp_store_row I x y Y g cells hx hy t old hg (by rw [F];exact V) (by rw [G,F]) (Array.all_eq_true_iff_forall_mem.2 (fun v hv=>qa4.1 J v (by simpa using hv))) ?_;refine O.on S _ _ (fun _ h=>h) h.1 fun _=>?_
  rw [U];exact h.2
theorem hSt (i:Nat) (n:Nat) {I:TypeId} {x y:Operand} {g:Nat} {cells old:Array Value} {t:TypeId} (hg:w.heap[g]? = some (.cells old t (0,0))) (H:nthOp ops.toList i=some o:=by rfl) (hr:decide (Region.ready md ops listed=[i])=true:=by kernel_rfl)
  (hw:Region.wanted o (yielded ops a.tmps)=true:=by rfl) (Z:o.op=.store I x y:=by rfl) (U:o.dst=none:=by rfl) (hx:a.eval x=.pointer (some ⟨g,0,none⟩):=by rfl) (hy:a.eval y=.agg cells:=by rfl)
  (V:(P.info? I).map (·.size)=some n:=by kernel_rfl) (G:old.size=n:=by rfl) (F:cells.size=n:=by rfl) (J:cells.toList.all (·.oneCell')=true:=by rfl) (Y:decide (Region.ready md ops (listed.setIfInBounds i true)=[])=true:=by kernel_rfl)
  (h:S (w.setRow g cells)/\Q .normal a (w.setRow g cells)):wpAnyH P md ops Q S (fuel+1) listed a w :=
 qhm i H hr fun K O=>by
  rw [if_pos hw];refine wp_store_row I x y Z g cells hx hy t old hg (by rw [F];exact V) (by rw [G,F]) (Array.all_eq_true_iff_forall_mem.2 (fun v hv=>qa4.1 J v (by simpa using hv))) ?_;refine O.on S _ _ (fun _ h=>h) h.1 fun _=>?_
  rw [U];exact wpAnyH_done (of_decide_eq_true Y) h.2 _
def AllC (p:Nat->Prop):List Nat->Prop
 | []=>True
 | i :: l=>p i/\AllC p l
theorem AllC.get {p:Nat->Prop}:∀{l:List Nat},AllC p l->∀i∈l,p i
 | i :: _,h,j,hj=>by
  rcases qaN.1 hj with rfl | hj
  ·exact h.1
  ·exact AllC.get h.2 j hj
theorem gr (D:List (Nat×Tmp)) (rl:List (Nat×List Nat)) (T C E:List Nat) (H N:Nat) (F:Nat->Value->World->Prop) (A:(Nat->Value)->Act) (V:Nat) {m:Nat} (hm:a.tmps.size=m:=by rfl) (Y:∀v,pf a v D=A v:=by (intro v;simp only [pf,Act.put,qaB,qbi,List.set_cons_succ];with_reducible rfl))
  (U:∀i x,Stays (F i x):=by intro i x;infer_instance)
  (I:(dagB md ops && (decide ((D.map (·.1)).Nodup) && (decide ((D.map (·.2)).Nodup) && (dstB ops D (T++(List.range ops.size).filter fun k=>decide (H<=k)) && ((D.all fun p=>decide (D.lookup p.1=some p.2) && decide (p.2<m)) && (decide (listed.size=ops.size) && (decide (leftN ops.size (fun k=>listed.getD k false)<=fuel) &&
   (growB md ops rl T H && (decide (H<=ops.size) && (decide (leftN ops.size (fun i=>decide (i<H) || T.contains i)=V) && (decide (listed=arr ops.size fun k=>T.contains k) && ((T.all fun k=>((nthOp ops.toList k).map fun o=>(waits md o).all fun j=>T.contains j).getD false) && (decide (arr N (fun i=>decide (i<H) || T.contains i)=arr ops.size fun i=>decide (i<H) || T.contains i) && ((List.range H).all (fun i=>T.contains i || C.contains i) && E.all fun i=>decide (i<H) && !T.contains i))))))))))))))=true:=by kernel_rfl)
  (hS:∀G,Below w.heap.size w G->S G)
  (hstep:AllC (fun i=>∃o,nthOp ops.toList i=some o/\∀(v:Nat->Value) (G:World),Below w.heap.size w G->AllC (fun k=>F k (v k) G) (dep rl i)->∀K,Grows F E i G (A v) o.dst K->if Region.wanted o (yielded ops (A v).tmps)=true then Oper.wp P o (A v) G K Q else K ((A v).put o.dst undef) G) C)
  (hend:∀(v:Nat->Value) (G:World),Below w.heap.size w G->(∀i,i<H->i∉T->F i (v i) G)->(∀i∈E,∀j∈E,i≠j->pv (v i)≠pv (v j))->∀f,wpAnyH P md ops Q S (f+V) (arr N fun i=>decide (i<H) || T.contains i) (A v) G):wpAnyH P md ops Q S fuel listed a w:=by
 refine qk0 D rl T C E H F V m (arr N fun i=>decide (i<H) || T.contains i) hm U I hS (fun i hi o ho v G O J B I K Z=>?_) fun v G O J hE B I f=>?_
 ·obtain⟨p,hp,h⟩:=hstep.get i hi;rw [hp] at ho;cases ho;rw [Y] at I;subst I;refine h v G O ?_ K Z;generalize dep rl i=l at J;clear h hp Z
  induction l with
  | nil=>exact trivial
  | cons k l ih=>exact⟨J k (List.mem_cons_self ..),ih fun j hj=>J j (List.mem_cons_of_mem _ hj)⟩
 ·rw [Y] at I;subst I;exact hend v G O J hE f
theorem gC {F:Nat->Value->World->Prop} {E:List Nat} {i:Nat} {K:Act->World->Prop} (O:Grows F E i w a o.dst K) {f:FuncId} {H:Array Value} {R:Ending->World->Prop} (U:Calls P f H w R) (V:Region.wanted o (yielded ops a.tmps)=true:=by rfl) (he:(execOp a.eval o).run P w=.ok (.enter f H) w:=by (go_simp <;> with_reducible rfl))
  (hE:E.contains i=false:=by rfl) (h:∀e G,R e G->∃v,e=.returned v/\F i v G/\Below w.heap.size w G):if Region.wanted o (yielded ops a.tmps)=true then Oper.wp P o a w K Q else K (a.put o.dst undef) w:=by
 rw [if_pos V];exact qnu he U fun e G r=>by obtain⟨v,rfl,I,J⟩:=h e G r;exact⟨v,rfl,O.to _ _ _ rfl I (fun h=>by rw [hE] at h;cases h) J⟩
theorem gW {F:Nat->Value->World->Prop} {E:List Nat} {i:Nat} {K:Act->World->Prop} (H:Grows F E i w a o.dst K) {v:Value} {G:World} (I:Region.wanted o (yielded ops a.tmps)=true:=by rfl) (he:(execOp a.eval o).run P w=.ok (.value v) G:=by (go_simp <;> first | with_reducible rfl | exact⟨rfl,rfl⟩ | rfl))
  (hE:E.contains i=true->w.heap.size<=pv v/\pv v<G.heap.size:=by exact fun _=>⟨qae _,by rw [qab];exact Nat.lt_succ_self _⟩) (h:F i v G/\Below w.heap.size w G):if Region.wanted o (yielded ops a.tmps)=true then Oper.wp P o a w K Q else K (a.put o.dst undef) w:=by
 rw [if_pos I];unfold Oper.wp;rw [he,Oper.upon_value];exact H.to _ _ _ rfl h.1 hE h.2
theorem gV {F:Nat->Value->World->Prop} {E:List Nat} {i:Nat} {K:Act->World->Prop} (H:Grows F E i w a o.dst K) {v:Value} (G:F i v w) (I:Region.wanted o (yielded ops a.tmps)=true:=by rfl) (he:(execOp a.eval o).run P w=.ok (.value v) w:=by (go_simp <;> with_reducible rfl)) (hE:E.contains i=false:=by rfl) :
  if Region.wanted o (yielded ops a.tmps)=true then Oper.wp P o a w K Q else K (a.put o.dst undef) w:=by
 rw [if_pos I];exact qnv he (H.to _ _ _ rfl G (fun h=>by rw [hE] at h;cases h) qB)
