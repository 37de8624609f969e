import Derived.Defers
import Derived.Recover
import Derived.Test.YtjalhnlhcdfncaaGreatDoorBo15
set_option maxRecDepth 100000
set_option maxHeartbeats 0
namespace Go.Proofs.YtjalhnlhcdfncaaGreatDoor
open Go.RowKit Go.Proofs.Tryz
def qg5 (w:World) (t:Tbl) (bl wl:List FT) (e:Ending) (w':World):Prop :=
  ((¬TOk t/\e=.returned (.tuple #[.slice none 0 0,.int .i64 60])) \/
   (TOk t/\¬(FAll bl/\FAll wl)/\e=.returned (.tuple #[.slice none 0 0,.int .i64 20])) \/
   (TOk t/\FAll bl/\FAll wl/\¬(bl.length=t.length/\wl.length=t.length/\¬Neg wl)/\e=.returned (.tuple #[.slice none 0 0,.int .i64 2])) \/
   (TOk t/\FAll bl/\FAll wl/\bl.length=t.length/\wl.length=t.length/\¬Neg wl /\
     ((Sing (wid t) (normQ t bl wl t.length)/\e=.returned (.tuple #[.slice none 0 0,.int .i64 7])) \/
      (¬Sing (wid t) (normQ t bl wl t.length)/\∃x,qcZ (wid t) (normQ t bl wl t.length) (fun r=>normQ t bl wl t.length r (wid t)) x/\Tells (wid t) x e w'))))/\Below w.heap.size w w'
theorem qpi {W:World} {H:Option Addr} {b off n c:Nat} {l:List FT} {F:Option Addr} {J E n2 c2:Nat} {l2:List FT} {g:Nat} {Y:TypeId} (hg:W.heap[g]? = some (.cells #[.slice H n c,.slice F n2 c2] Y (0,0))) (V:l.length=n) (h:FCells W H b off l) (I:l2.length=n2) (O:FCells W F J E l2):TCells W (some ⟨g,0,none⟩) g 0 [l,l2]:=by
 refine⟨fun _=>rfl,fun k U=>?_⟩;rcases (show k=0\/k=1 by simp at U;omega) with rfl | rfl
 ·exact⟨H,b,off,c,by rw [show ([l,l2]:Tbl).getD 0 []=l from rfl,V];exact qC _ _ 0 _ _ _ hg,h⟩
 ·exact⟨F,J,E,c2,by rw [show ([l,l2]:Tbl).getD 1 []=l2 from rfl,I];exact qC _ _ 1 _ _ _ hg,O⟩
theorem qm9 {l l2:List FT}:(∀k,k<([l,l2]:Tbl).length->FAll (([l,l2]:Tbl).getD k []))↔FAll l/\FAll l2 :=
 ⟨fun h=>⟨h 0 (by simp),h 1 (by simp)⟩,fun h k E=>by
  rcases (show k=0\/k=1 by simp at E;omega) with rfl | rfl
  ·exact h.1
  ·exact h.2⟩
theorem qmg (ao:Option Addr) (b off R c:Nat) (t:Tbl) (V:Option Addr) (b2 ag m c2:Nat) (bl:List FT) (Y:Option Addr) (b3 H q c3:Nat) (wl:List FT) (w:World) (hR:t.length=R) (hl:R<=4611686018427387904) (hw:∀k,k<R->(t.getD k []).length<=4611686018427387904) (hc:TCells w ao b off t)
  (hm:bl.length=m) (bn:m<=4611686018427387904) (ak:FCells w V b2 ag bl) (hq:wl.length=q) (bq:q<=4611686018427387904) (au:FCells w Y b3 H wl) (hT:HasT w) :
  Calls prog 117 #[.slice ao R c,.slice V m c2,.slice Y q c3] w fun e w'=>qg5 w t bl wl e w':=by
 obtain⟨W1,aa⟩:=qY (w.alloc (.cells #[.slice V m c2,.slice Y q c3] 22));have J:Below w.heap.size w W1:=aa▸qb4 qB qN;have aO:W1.heap[w.heap.size]? = some (.cells #[.slice V m c2,.slice Y q c3] 22 (0,0)):=by rw [aa];exact qM _ _ _ rfl
 have HK:=qH (qfp ao b off R c t (some ⟨w.heap.size,0,none⟩) w.heap.size 0 2 2 [bl,wl] W1 hR hl hw (hc.below J) rfl (by omega) (fun k hk=>by
  rcases (show k=0\/k=1 by omega) with rfl | rfl
  ·show bl.length<=_;omega
  ·show wl.length<=_;omega) (qpi aO hm (ak.below J) hq (au.below J)))
 have E:=qH (qA hc (qA hR (qA ak (qA hm (qA au (qA hq hT))))));have ay:=qH J;clear hR hw hc hm ak J aO hT hq au;go_enter func117,ntmps117;go_wp2_with fail;rw [<-aa];clear aa;refine HK.o.mono ?_;rintro e w2 ⟨cc,rfl,aX,aF⟩;have HB:=qH (ay.o.trans (aF.mono ay.o.size));clear aF;rcases aX with ⟨rfl,hT⟩ | ⟨rfl,hT,hL⟩ | ⟨rfl,hT,hL⟩
 ·have HT:=qH hT;clear hT;go_wp2_with fail
  go_ret2
  exact⟨qaw ⟨HT.o,rfl⟩,HB.o⟩
 ·have HT:=qH (qA hT hL);clear hT hL;go_wp2_with fail
  go_ret2
  exact⟨qam (qaw ⟨HT.o.1,fun h=>HT.o.2 (qm9.2 h),rfl⟩),HB.o⟩
 obtain⟨aA,aB⟩:=qm9.1 hL;have bg:R<=40:=by have:=hT.r2;have:=E.o.2.1;omega
 have bi:1<=R:=by have:=hT.r1;have:=E.o.2.1;omega
 have aW:=E.o.1.addr (by have:=E.o.2.1;omega);subst aW;obtain⟨n,hn⟩:=qX (wid t);have aK:n<=10:=by have:=hT.c2;omega
 have aZ:1<=n:=by have:=hT.c1;omega
 have I:=qH (qA hT (qA aA (qA aB hn)));clear hT hL aA aB hn;have bad:∀(W:World),Below w.heap.size w W->¬(bl.length=t.length/\wl.length=t.length/\¬Neg wl)->qg5 w t bl wl (.returned (.tuple #[.slice none 0 0,.int .i64 2])) W:=fun W h hn=>⟨qam (qam (qaw ⟨I.o.1,I.o.2.1,I.o.2.2.1,hn,rfl⟩)),h⟩
 have ah:=qH bad;clear bad
 by_cases e1:m=R
 case neg =>
  have aU:((m:Int) != (R:Int))=true:=by rw [bne_iff_ne];omega
  have HE:=qH (ah.o _ HB.o (fun h=>e1 (by rw [<-E.o.2.2.2.1,h.1,E.o.2.1])));clear e1;go_wp2_with fail
  go_ret2
  exact HE.o
 have aU:((m:Int) != (R:Int))=false:=by simp [e1]
 by_cases e2:q=R
 case neg =>
  have aV:((q:Int) != (R:Int))=true:=by rw [bne_iff_ne];omega
  have HE:=qH (ah.o _ HB.o (fun h=>e2 (by rw [<-E.o.2.2.2.2.2.1,h.2.1,E.o.2.1])));clear e2 e1;go_wp2_with fail
  go_ret2
  exact HE.o
 have aV:((q:Int) != (R:Int))=false:=by simp [e2]
 have He:=qH (qA e1 e2);have aC:=E.o.2.2.1.addr (by have:=E.o.2.2.2.1;omega);subst aC;have aD:=E.o.2.2.2.2.1.addr (by have:=E.o.2.2.2.2.2.1;omega);subst aD;have aL:=qgH (some ⟨b3,H,none⟩) b3 H q c3 wl w2 E.o.2.2.2.2.2.1 (by omega) (E.o.2.2.2.2.1.below HB.o) I.o.2.2.1;have HN:=qH aL;have bf:(q:Int)<=R:=by omega
 clear e1 e2 aL;go_wp2_with fail;refine HN.o.mono ?_;rintro e w3 ⟨x,rfl,hx,aG⟩;have F:=qH (HB.o.trans (aG.mono HB.o.size));clear aG;cases x with
 | true =>
  have HE:=qH (ah.o _ F.o (fun h=>h.2.2 (hx.1 rfl)));clear hx;go_wp2_with fail
  go_ret2
  exact HE.o
 | false =>
  have av:¬Neg wl:=fun h=>by have:=hx.2 h;cases this
  have aM:=qmt b off c t b2 ag c2 bl b3 H c3 wl R n w3 I.o.1 E.o.2.1 I.o.2.2.2 (E.o.1.below F.o) I.o.2.1 (by rw [E.o.2.2.2.1];exact He.o.1) (E.o.2.2.1.below F.o) I.o.2.2.1 (by rw [E.o.2.2.2.2.2.1];exact He.o.2) (E.o.2.2.2.2.1.below F.o) av;have aY:(m:Int)=R:=by have:=He.o.1;omega
  have aN:(q:Int)=R:=by have:=He.o.2;omega
  obtain rfl:m=R:=He.o.1;obtain rfl:q=m:=He.o.2;have aS:=qH aM;have aT:=qH av;clear hx aM av aY aN bf;go_wp2_with fail;refine aS.o.mono ?_;rintro e w4 ⟨tb,gs,M,Z,rfl,aH,aR,hZ,ai,U,ae⟩;have O:=F.o.trans (aH.mono F.o.size);have aQ:=qo0 tb n 63440 gs M w4 aZ aK (by omega) (by omega) ai (fun i hi=>by
   obtain⟨ps,_,h,_⟩:=ai.rows i hi;exact (qG h.1).1) (fun i hi j hj=>ae i hi j hj) (E.o.2.2.2.2.2.2.below O)
  have HS:=qH aQ;have aj:(Z:Rat)≠0:=by have:=qbu hZ;exact_mod_cast this
  have hA:∀i,i<n->∀j,j<n->castM M i j=(Z:Rat)*normQ t bl wl q i j:=fun i hi j hj=>U i hi j (by omega)
  have az:∀i,i<n->castM M i n=(Z:Rat)*normQ t bl wl q i n:=fun i hi=>U i hi n (by omega)
  have aP:=Sing.scale (fun _=>(Z:Rat)) (fun _ _=>aj) hA;have af:∀x,qcZ n (castM M) (fun i=>castM M i n) x->qcZ n (normQ t bl wl q) (fun r=>normQ t bl wl q r n) x:=fun x hx=>qcZ.scale (fun _=>(Z:Rat)) (fun _ _=>aj) hA az hx
  have HZ:=qH (qA aP (qA af (qA O (qak F.o.size aR))));clear aQ aH aR hZ ai U ae aj hA az aP af O;go_wp2_with fail;refine HS.o.mono ?_;rintro e w5 ⟨aJ,h5⟩;have aI:=qez HZ.o.2.2.1 aJ HZ.o.2.2.2;have ax:qg5 w t bl wl e w5:=by
   refine⟨qam (qam (qam ⟨I.o.1,I.o.2.1,I.o.2.2.1,by rw [E.o.2.2.2.1,E.o.2.1],by rw [E.o.2.2.2.2.2.1,E.o.2.1],aT.o,?_⟩)),aI⟩;rw [E.o.2.1,I.o.2.2.2];rcases h5 with ⟨h,e⟩ | ⟨h,x,hx,ht⟩
   ·exact qaw ⟨HZ.o.1.1 h,e⟩
   ·exact qam ⟨fun hs=>h (HZ.o.1.2 hs),x,HZ.o.2.1 x hx,ht⟩
  have HF:=qH ax;clear ax aI aJ;rcases h5 with ⟨_,rfl⟩ | ⟨_,x,_,⟨_,g,rfl,_⟩ | ⟨_,rfl⟩⟩
  all_goals
   go_wp2_with fail
   go_ret2
   exact HF.o
theorem qoe (p1 p2 g1 g2 n1 n2 j:Nat) (m1 m2:Nat->Int) (K J:Nat) (aj:K+J<=274877906944) (w:World)
  (h1:w.cell? ⟨p1,0,none⟩=some (rowv g1 n1)) (h2:w.cell? ⟨p2,0,none⟩=some (rowv g2 n2)) (h3:qcy w g1 n1 m1) (h4:qcy w g2 n2 m2) (ak:j<n1) (au:j<n2) (_hn1:n1<=1048576) (_hn2:n2<=1048576) (ae:Fit (m1 j).natAbs K) (af:Fit (m2 j).natAbs J) :
  Calls prog 152 #[.int .i64 j,.pointer (some ⟨p1,0,none⟩),.pointer (some ⟨p2,0,none⟩)] w fun e w'=>∃u,e=.returned u/\Below w.heap.size w w'/\IntAt w' u (m1 j*m2 j):=by
 obtain⟨H,V⟩:=qY (w.alloc (.cells #[.slice none 0 0,.bool false] 217));have F:Below w.heap.size w H:=V▸qb4 qB qN;have ah:H.heap[w.heap.size]? = some (.cells #[.slice none 0 0,.bool false] 217 (0,0)):=by rw [V];exact qM _ _ _ rfl
 have ag:qcu H w.heap.size 0:=⟨_,_,_,_,ah,_,rfl,MagAt.nil _⟩;obtain⟨a2,l2,c2,b2,q0,q1,i2⟩:=h3.pair ak;obtain⟨a3,l3,c3,b3,q2,q3,i3⟩:=h4.pair au;have E:∀(p:Addr) (v:Value),w.cell? p=some v->∀W,H.grownBy W (some w.heap.size)->W.cell? p=some v:=fun p v h W hg=>by
  have Y:=qae w _ h;exact (qer hg (qai Y F.size) (Nat.ne_of_lt Y)).trans ((F.cell Y).trans h)
 have C1:=E _ _ h1;have C2:=E _ _ h2;have C3:=E _ _ q0;have C4:=E _ _ q1;have C5:=E _ _ q2;have C6:=E _ _ q3;have ax:(j:Int)<n1:=by omega
 have ay:(j:Int)<n2:=by omega
 have ai:=qH (fun W (h:Below H.heap.size H W)=>qcU (m1 j) (m2 j) K J aj _ _ W (i2.below (F.trans (h.mono F.size))) (i3.below (F.trans (h.mono F.size))) ae af);have U:=qH (qA F ag);have av:Below H.heap.size H H:=Below.refl _ _;have O:Below H.heap.size H H.drew:=av.drew;clear E h1 h2 h3 h4 q0 q1 q2 q3 i2 i3 ae af F ah ag;go_enter func152,ntmps152;go_wp2_with fail;rw [<-V];clear V
 go_region_held3 (fun W=>H.grownBy W (some w.heap.size)) (first | with_reducible exact qcw _ _ | with_reducible exact qch _ O | with_reducible exact qch _ I | exact qb5 (qb5 (qch _ I) (qb7 _ _ _ _)) (qb7 _ _ _ _)) (first | (go_at_call 153;refine (ai.o _ O).mono ?_;rintro e w6 ⟨u6,rfl,aa,Z⟩;have I:Below H.heap.size H w6:=bjoin O aa;obtain⟨a6,n6,c6,b6,rfl⟩:=qb6 Z;obtain⟨_,_,_,_,⟨z0,z1⟩,⟨f0,f1⟩,_⟩:=(U.o.2.below I).cells;have HX:=qH ((U.o.2.below I).row2 Z);clear aa Z))
 all_goals go_wp2_with fail
 all_goals exact qR (v:=.agg #[.slice a6 n6 c6,.bool b6]) (rA_ rfl w.heap.size HX.o.1 underlying217 2) rfl ⟨_,rfl,((U.o.1.trans (I.mono U.o.1.size)).setCell (p:=⟨w.heap.size,0,none⟩) qN _).setCell (p:=⟨w.heap.size,1,none⟩) qN _,HX.o.2⟩
def resQ (t:Tbl) (bl E:List FT) (n i:Nat):Rat:=sumQ n (fun j=>tval t i j*lval E j)-lval bl i
def measQ (t:Tbl) (bl wl E:List FT) (n R:Nat):Rat:=sumQ R fun i=>lval wl i*(resQ t bl E n i*resQ t bl E n i)
def mval2 (t:Tbl) (bl E:List FT) (n i:Nat):Int:=isum (fun j=>ftop (besides t bl i) j*ftop E j) n + -(ftop (besides t bl i) n*((flcd E:Nat):Int))
theorem qof {t:Tbl} {bl E:List FT} {n i:Nat} (F:FAll (besides t bl i)) (V:(besides t bl i).length=n+1) (J:(t.getD i []).length=n) (hx:FAll E) (O:E.length=n) :
  ((mval2 t bl E n i:Int):Rat)=(flcd (besides t bl i):Rat)*(flcd E:Rat)*resQ t bl E n i:=by
 unfold mval2 resQ
 push_cast
 rw [qhj,qfV F (by omega)];have H:sumQ n (fun p=>(((ftop (besides t bl i) p*ftop E p:Int)):Rat))=(flcd (besides t bl i):Rat)*(flcd E:Rat)*sumQ n (fun j=>tval t i j*lval E j):=by
  rw [<-qcD];refine qcc fun j U=>?_
  push_cast
  rw [qfV F (by omega),qfV hx (by omega)];have:lval (besides t bl i) j=tval t i j:=qho (by omega);rw [this];grind
 have I:lval (besides t bl i) n=lval bl i:=by
  have:=qhn (l:=t.getD i []) (x:=bl.getD i fd0);rw [J] at this;exact this
 rw [H,I];grind
theorem qf9 {t:Tbl} {bl E:List FT} {n i:Nat} (J:FAll (besides t bl i)) (V:(besides t bl i).length=n+1) (Y:n<=10) (hx:FAll E) (O:E.length=n) :
  Fit (isum (fun j=>ftop (besides t bl i) j*ftop E j) n).natAbs 1621/\Fit (ftop (besides t bl i) n*((flcd E:Nat):Int)).natAbs 1543/\Fit (mval2 t bl E n i).natAbs 1622:=by
 have F:Fit (isum (fun j=>ftop (besides t bl i) j*ftop E j) n).natAbs 1621:=(qf3 _ 1610 n (fun j U=>by
  rw [qaE];exact ((qdq J (m:=11) (by omega) (by omega)).mul (qdq hx (m:=11) (by omega) (by omega))).mono (by omega))).mono (by omega)
 have H:Fit (ftop (besides t bl i) n*((flcd E:Nat):Int)).natAbs 1543:=by
  rw [qaE,qas];exact ((qdq J (m:=11) (by omega) (by omega)).mul (qfT hx (m:=11) (by omega))).mono (by omega)
 refine⟨F,H,?_⟩;unfold mval2;have I:=H.mono (show 1543<=1621 by omega);rw [<-qbv] at I;exact (F.add I).le (Int.natAbs_add_le _ _)
theorem qjr {a b:Nat} (I:0<a) (J:0<b):a*(a.lcm b / a)=a.lcm b/\b*(a.lcm b / b)=a.lcm b/\a.lcm b / a<=b/\a.lcm b / b<=a:=by
 have F:=Nat.mul_div_cancel' (Nat.dvd_lcm_left a b);have H:=Nat.mul_div_cancel' (Nat.dvd_lcm_right a b);have E:a.lcm b<=a*b:=qbZ (qb3 I J) (Nat.lcm_dvd_mul _ _);refine⟨F,H,?_,?_⟩
 ·exact Nat.div_le_of_le_mul E
 ·exact Nat.div_le_of_le_mul (by rw [qav];exact E)
theorem Fit.zero (K:Nat):Fit 0 K:=Nat.pow_pos (by decide)
structure MSt (t:Tbl) (bl wl xl:List FT) (n i:Nat) (T:Int) (D:Nat):Prop where
 pos:0<D
 val:(T:Rat)=(D:Rat)*((flcd xl:Rat)*(flcd xl:Rat))*measQ t bl wl xl n i
 fitD:Fit D (1543*i+1)
 fitT:Fit T.natAbs (3400+1545*i)
theorem MSt.start (t:Tbl) (bl wl E:List FT) (n:Nat):MSt t bl wl E n 0 0 1:=⟨by decide,by simp [measQ,sumQ],by show 1<1000000000 ^ (1543*0+1);decide,Fit.zero _⟩
theorem MSt.skip {t:Tbl} {bl wl E:List FT} {n i:Nat} {T:Int} {D:Nat} (h:MSt t bl wl E n i T D) (F:wnum wl i=0):MSt t bl wl E n (i+1) T D:=by
 refine⟨h.pos,?_,h.fitD.mono (by omega),h.fitT.mono (by omega)⟩;rw [h.val]
 congr 1
 show measQ t bl wl E n i=measQ t bl wl E n i+lval wl i*_
 rw [qju F];grind
theorem MSt.next {t:Tbl} {bl wl H:List FT} {n i:Nat} {T:Int} {D:Nat} (h:MSt t bl wl H n i T D) (hr:NRow t bl wl i) (V:(besides t bl i).length=n+1) (ht:(t.getD i []).length=n) (hx:FAll H) (J:H.length=n) (hn:n<=10) :
  MSt t bl wl H n (i+1) (T*((D.lcm (wdn t bl wl i) / D:Nat):Int)+((wnum wl i:Nat):Int)*mval2 t bl H n i*mval2 t bl H n i*((D.lcm (wdn t bl wl i) / wdn t bl wl i:Nat):Int)) (D.lcm (wdn t bl wl i)):=by
 obtain⟨p1,p2,p3,p4⟩:=qjr h.pos hr.d.1;have hv:=qof hr.fa V ht hx J;have I:=(qf9 hr.fa V hn hx J).2.2;refine⟨Nat.lcm_pos h.pos hr.d.1,?_,?_,?_⟩
 ·have q1:(D:Rat)*((D.lcm (wdn t bl wl i) / D:Nat):Rat)=(D.lcm (wdn t bl wl i):Rat):=by exact_mod_cast p1
  have Y:((wdn t bl wl i:Nat):Rat)*((D.lcm (wdn t bl wl i) / wdn t bl wl i:Nat):Rat)=(D.lcm (wdn t bl wl i):Rat):=by exact_mod_cast p2
  have hd:((wdn t bl wl i:Nat):Rat)=(fden (wl.getD i fd0):Rat)*(flcd (besides t bl i):Rat)*(flcd (besides t bl i):Rat):=by unfold wdn;push_cast;rfl
  have O:(wnum wl i:Rat)=lval wl i*(fden (wl.getD i fd0):Rat):=by
   unfold lval;rw [qiB];have:(ival (wl.getD i fd0).1.data.toList:Int)=(wnum wl i:Int):=by have:=hr.nn;unfold wnum;omega
   have hne:((fden (wl.getD i fd0):Nat):Rat)≠0:=by have:=qbu hr.wd.1;exact_mod_cast this
   rw [this]
   show (wnum wl i:Rat)=(wnum wl i:Rat) / ((fden (wl.getD i fd0):Nat):Rat)*_
   grind
  show _=_*(measQ t bl wl H n i+lval wl i*(resQ t bl H n i*resQ t bl H n i))
  rw [hd] at Y;clear p1 p2 p3 p4;generalize D.lcm (wdn t bl wl i) / D=A at *;generalize D.lcm (wdn t bl wl i) / wdn t bl wl i=B at *
  push_cast
  rw [h.val,hv];generalize ((D.lcm (wdn t bl wl i):Nat):Rat)=L at *;generalize ((flcd (besides t bl i):Nat):Rat)=F at *;generalize ((flcd H:Nat):Rat)=U at *;generalize ((fden (wl.getD i fd0):Nat):Rat)=E at *;generalize resQ t bl H n i=r at *;generalize measQ t bl wl H n i=M at *;generalize lval wl i=l at *;rw [O];have Z:(D:Rat)*(U*U)*M*A=L*(U*U)*M:=by rw [<-q1];grind
  have e2:l*E*(F*U*r)*(F*U*r)*B=L*(U*U)*(l*(r*r)):=by rw [<-Y];grind
  rw [Z,e2];grind
 ·exact ((h.fitD.mul hr.d.2).le (qbZ (qb3 h.pos hr.d.1) (Nat.lcm_dvd_mul _ _))).mono (by omega)
 ·have f1:Fit (T*((D.lcm (wdn t bl wl i) / D:Nat):Int)).natAbs (3400+1545*i+1543):=by
   rw [qaE,qas];exact h.fitT.mul (hr.d.2.le p3)
  have f2:Fit (((wnum wl i:Nat):Int)*mval2 t bl H n i*mval2 t bl H n i*((D.lcm (wdn t bl wl i) / wdn t bl wl i:Nat):Int)).natAbs (67+1622+1622+(1543*i+1)):=by
   rw [qaE,qaE,qaE,qas,qas];exact ((hr.wn.mul I).mul I).mul (h.fitD.le p4)
  exact (((f1.mono (show _<=3400+1545*i+1544 by omega)).add (f2.mono (show _<=3400+1545*i+1544 by omega))).le (Int.natAbs_add_le _ _)).mono (by omega)
open Go.Lib
theorem qiE (x:Nat):itxt (x:Int)=decDigits x:=by
 unfold itxt;rw [if_neg (by omega),qas]
theorem qfU {q:Rat} (h:Short q):FOk (ftxt q).1.data.toList (ftxt q).2.data.toList:=by
 obtain⟨E,F⟩:=h;rw [qdZ] at E F;have I:(ftxt q).2.data.toList=itxt (q.den:Int):=(qiE q.den).symm;have H:(ftxt q).1.data.toList=itxt q.num:=rfl;have J:=q.den_pos;rw [H,I];refine⟨qgz E,qgz (by rw [qas];exact F),?_,?_⟩
 ·rw [qdr];omega
 ·rw [qdr,qdr,qas];exact q.reduced
theorem qeo (q:Rat):fval (ftxt q).1.data.toList (ftxt q).2.data.toList=q:=by
 have F:(ftxt q).2.data.toList=itxt (q.den:Int):=(qiE q.den).symm;have E:(ftxt q).1.data.toList=itxt q.num:=rfl;rw [E,F];unfold fval;rw [qdr,qdr,qas];exact Rat.mkRat_self q
theorem qed {n:Nat} {x:Nat->Rat} {i:Nat} (E:i<n):(told n x).getD i fd0=ftxt (x i):=by
 unfold told;rw [qaa,qaP,qbG E];rfl
theorem qdf {n:Nat} {x:Nat->Rat} {i:Nat} (E:i<n):lval (told n x) i=x i:=by
 unfold lval;rw [qed E,qeo]
theorem qdp {n:Nat} {x:Nat->Rat} (h:qb9 n x):FAll (told n x):=fun k E=>by
 rw [qcb] at E;rw [qed E];exact qfU (h k E)
theorem qd4 {n:Nat} {x y:Nat->Rat} (h:∀i,i<n->x i=y i):told n x=told n y:=by
 unfold told;exact List.map_congr_left fun i E=>by rw [h i (qaq.1 E)]
theorem qb9.congr {n:Nat} {x y:Nat->Rat} (h:qb9 n x) (e:∀i,i<n->x i=y i):qb9 n y:=fun i E=>by rw [<-e i E];exact h i E
def ttab (n m:Nat) (f:Nat->Nat->Rat):Tbl:=(List.range n).map fun i=>told m (f i)
theorem qc6 (n m:Nat) (f:Nat->Nat->Rat):(ttab n m f).length=n:=by unfold ttab;rw [qaD,qbo]
theorem qe4 {n m:Nat} {f:Nat->Nat->Rat} {i:Nat} (E:i<n):(ttab n m f).getD i []=told m (f i):=by
 unfold ttab;rw [qaa,qaP,qbG E];rfl
theorem qfm {n m:Nat} {f:Nat->Nat->Rat} (h:0<n):wid (ttab n m f)=m:=by unfold wid;rw [qe4 h,qcb]
theorem qph {n m:Nat} {f:Nat->Nat->Rat} (E:1<=n) (H:n<=40) (I:1<=m) (J:m<=10) (h:∀i,i<n->qb9 m (f i)):TOk (ttab n m f):=by
 refine⟨by rw [qc6];exact E,by rw [qc6];exact H,by rw [qfm E];exact I,by rw [qfm E];exact J,fun k F=>?_⟩;rw [qc6] at F;rw [qfm E,qe4 F,qcb];exact⟨rfl,qdp (h k F)⟩
theorem ttab_val {n m:Nat} {f:Nat->Nat->Rat} {i j:Nat} (E:i<n) (F:j<m):tval (ttab n m f) i j=f i j:=by
 unfold tval;rw [qe4 E,qdf F]
def Rb (q:Rat) (N:Nat):Prop:=q.num.natAbs<=N/\q.den<=N
theorem qip {q:Rat} {p z:Int} {N:Nat} (O:z≠0) (J:p.natAbs<=N) (E:z.natAbs<=N) (h:q=(p:Rat) / z):Rb q N:=by
 have e:q=Rat.divInt p z:=by rw [h,Rat.divInt_eq_div]
 have hg:0<p.natAbs.gcd z.natAbs:=qbe _ (by omega);obtain⟨F,H⟩:=qkS p z O;rw [<-e] at F H;have I:q.num.natAbs=p.natAbs / p.natAbs.gcd z.natAbs:=by
  rw [F];generalize p.natAbs / p.natAbs.gcd z.natAbs=A;split <;> omega
 exact⟨by rw [I];exact qak (qa2 _ _) J,by rw [H];exact qak (qa2 _ _) E⟩
theorem qeQ {x k:Nat} (E:0<k) (h:x<10 ^ k):(num x).size<=k:=by rw [qdZ];exact qcL k x E h
theorem qdM {q:Rat} {N:Nat} (h:Rb q N) (hN:N<10 ^ 600):Short q :=
 ⟨qeQ (by decide) (qaU h.1 hN),qeQ (by decide) (qaU h.2 hN)⟩
theorem itoa_int (z:Int) (E:-9223372036854775808<=z) (F:z<=9223372036854775807) (w:World) (hT:HasT w) :
  Calls prog 124 #[.int .i64 z] w fun e w'=>e=.returned (.string (qcj z))/\Below w.heap.size w w':=by
 refine (Tryz.strconv_Itoa z E F w hT).mono ?_;rintro e w' ⟨rfl,k,os,rfl⟩;refine⟨?_,Lib.below_grow _ _ qN _ _⟩;have:Lib.itoa z=itxt z:=by
  unfold Lib.itoa itxt
  by_cases h:z<0
  ·rw [if_pos h,if_pos h]
   try (first | rfl | (congr 2;omega) | (congr 1;omega))
  ·rw [if_neg h,if_neg h]
   try (first | rfl | (congr 1;omega))
 rw [this];rfl
theorem qpk (z:Int) (E:-9223372036854775808<=z) (F:z<=9223372036854775807) (w:World) (hT:HasT w) :
  Calls prog 75 #[.int .i64 z] w fun e w'=>e=.returned (.string (qcj z))/\Below w.heap.size w w':=by
 have J:=qH (itoa_int z E F w hT);clear E F hT;go_enter func75,ntmps75;go_wp2_with fail;refine J.o.mono ?_;rintro e O ⟨rfl,H⟩;have I:=qH H;clear H;go_wp2;go_ret;exact⟨rfl,I.o⟩
theorem red_val {z:Int} {d:Nat} (E:0<d) {q:Rat} (V:q=mkRat z d):q.num=(if decide (z<0)=true then -((z.natAbs / z.natAbs.gcd d:Nat):Int) else ((z.natAbs / z.natAbs.gcd d:Nat):Int))/\q.den=d / z.natAbs.gcd d:=by
 have hg:0<z.natAbs.gcd d:=qbe _ E;have U:d / z.natAbs.gcd d≠0:=qbu (Nat.div_pos (qbZ E (qa4 _ _)) hg);have J:(z.natAbs / z.natAbs.gcd d)*z.natAbs.gcd d=z.natAbs:=Nat.div_mul_cancel (qbT _ _);have O:(d / z.natAbs.gcd d)*z.natAbs.gcd d=d:=Nat.div_mul_cancel (qa4 _ _);have F:(z.natAbs / z.natAbs.gcd d).Coprime (d / z.natAbs.gcd d):=Nat.coprime_div_gcd_div_gcd hg;generalize z.natAbs.gcd d=g at *;generalize Y:z.natAbs / g=A at *;generalize Z:d / g=D at *;have H:((A:Nat):Int)*(d:Int)=((z.natAbs:Nat):Int)*(D:Int):=by
  rw [<-J,<-O];push_cast;rw [qbK,qbs (D:Int)]
 refine qjQ U ?_ (qbu E) ?_ V
 ·split
  ·rw [qbv,qas];exact F
  ·rw [qas];exact F
 ·by_cases I:z<0
  ·rw [if_pos (by simpa using I),qbN,H,show ((z.natAbs:Nat):Int) = -z by omega,qbN,Int.neg_neg]
  ·rw [if_neg (by simpa using I),H,show ((z.natAbs:Nat):Int)=z by omega]
theorem qd8 {W:World} {v:Value} {x:Nat} (h:MagAt W v x):∃(a:Option Addr) (n c:Nat),v=.slice a n c:=by
 obtain⟨a,b,o,c,n,L,rfl,_⟩:=h;exact⟨a,n,c,rfl⟩
theorem qkT (z:Int) (d K:Nat) (hK:K<=137438953472) (v vm:Value) (w:World) (hv:IntAt w v z) (hm:MagAt w vm d) (hz:Fit z.natAbs K) (hd:Fit d K) (h0:0<d) :
  Calls prog 122 #[v,vm] w fun e w'=>∃u,e=.returned u/\Below w.heap.size w w'/\RatV w' u (mkRat z d):=by
 obtain⟨m,rfl,ah⟩:=hv;obtain⟨am,nm,cm,rfl⟩:=qd8 ah;obtain⟨ad,nd,cd,rfl⟩:=qd8 hm;have Y:=red_val h0 (q:=mkRat z d) rfl;have hg:0<z.natAbs.gcd d:=qbe _ h0;have az:Fit (z.natAbs.gcd d) K:=hd.le (qbZ h0 (qa4 _ _));obtain⟨b0,Z⟩:=qX (decide (z<0));rw [Z] at Y;have HV:=qH (qA Y Z);rw [Z];obtain⟨W1,I⟩:=qY ((w.alloc (.cells #[.slice am nm cm,.bool b0] 125)).alloc (.cells #[.slice none 0 0,.bool false,.slice none 0 0] 127));have aa:Below w.heap.size w W1:=I▸qb4 (qb4 qB qN) qN;have aA:W1.heap[w.heap.size]? = some (.cells #[.slice am nm cm,.bool b0] 125 (0,0)):=by rw [I,qL _ _ _ (by simp only [qab];omega)];exact qM _ _ _ rfl
 have aB:W1.heap[w.heap.size+1]? = some (.cells #[.slice none 0 0,.bool false,.slice none 0 0] 127 (0,0)):=by rw [I];exact qM _ _ _ (by simp)
 have H1:=qH (qA aa (qA aA aB));have HM:=qH (qA ah hm);have HF:=qH (qA hz (qA hd (qA hg az)));have HK:=qH hK;have HG:=qH ((qdb .f) z.natAbs d K hK _ _ W1 (ah.below aa) (hm.below aa) hz hd);clear Y Z ah hm hz hd hg az hK aa aA aB h0;go_enter func122,ntmps122;go_wp2_with fail;rw [<-I];clear I;refine HG.o.mono ?_;rintro e w2 ⟨vg,rfl,ae,ai⟩;obtain⟨ag,ng,cg,rfl⟩:=qd8 ai;have J:=H1.o.1.trans (ae.mono H1.o.1.size);have H2:=qH (qA J (qA (zkeep ae _ _ H1.o.2.1) (zkeep ae _ _ H1.o.2.2)));have HD:=qH ((qcf .f) z.natAbs (z.natAbs.gcd d) K HK.o _ _ w2 (HM.o.1.below J) ai HF.o.1 HF.o.2.2.2 HF.o.2.2.1);have aF:=qH ai;have k0:=qC w2 _ 0 _ _ _ H2.o.2.1;clear ae ai J;go_wp2_with fail;refine HD.o.mono ?_;rintro e w3 ⟨q,r,rfl,U,hq,hr⟩;obtain⟨aq,nq,cq,rfl⟩:=qd8 hq;obtain⟨ar,nr,cr,rfl⟩:=qd8 hr;have O:=H2.o.1.trans (U.mono H2.o.1.size);have H3:=qH (qA O (qA (zkeep U _ _ H2.o.2.1) (zkeep U _ _ H2.o.2.2)));have HQ:=qH hq;have HE:=qH ((qcf .f) d (z.natAbs.gcd d) K HK.o _ _ w3 (HM.o.2.below O) (aF.o.below U) HF.o.2.1 HF.o.2.2.2 HF.o.2.2.1);clear U hq hr O k0;go_wp2_with fail;refine HE.o.mono ?_;rintro e w4 ⟨q2,r2,rfl,V,ax,aC⟩;obtain⟨E,H,F,rfl⟩:=qd8 ax;obtain⟨aG,aI,aH,rfl⟩:=qd8 aC;have aj:=H3.o.1.trans (V.mono H3.o.1.size);have H4:=qH (qA aj (qA (zkeep V _ _ H3.o.2.1) (zkeep V _ _ H3.o.2.2)));have aD:=qH ax;have HS:=qH ((qcq .f) _ b0 _ w4 (HQ.o.below V));have k1:=qC w4 _ 1 _ _ _ H4.o.2.1;clear V ax aC aj;go_wp2_with fail;refine HS.o.mono ?_;rintro e w5 ⟨u,rfl,af,hu⟩;obtain⟨au,nu,cu,bu,rfl⟩:=qb6 hu;have ay:=zkeep af _ _ H4.o.2.2;have ak:=H4.o.1.trans (af.mono H4.o.1.size);have av:RatV (w5.setRow (w.heap.size+1) #[.slice au nu cu,.bool bu,.slice E H F]) (.agg #[.slice au nu cu,.bool bu,.slice E H F]) (mkRat z d):=by
  refine qgw (W:=w5) (cs':=#[.slice au nu cu,.bool bu,.slice E H F]) ?_ ay;unfold RatV;rw [HV.o.1.1,HV.o.1.2];obtain⟨m',e1,e2⟩:=hu;simp only [qaX,qa1,qaV] at e1;obtain⟨rfl,e3,_⟩:=e1;rw [e3];exact⟨_,_,rfl,e2,aD.o.below af⟩
 have H5:=qH (qA ay (qA (qS ak (show w.heap.size<=w.heap.size+1 by omega) #[.slice au nu cu,.bool bu,.slice E H F]) av));clear af ay ak av hu k1
 go_wp2_with ((with_reducible refine sR_ rfl 127 _ _ rfl (w.heap.size+1) #[.slice au nu cu,.bool bu,.slice E H F] H5.o.1 3 ?_))
 exact qR (v:=.agg #[.slice au nu cu,.bool bu,.slice E H F]) (rA_ rfl (w.heap.size+1) (qT _ _ _ _ _ _ H5.o.1) underlying127 3) rfl ⟨_,rfl,H5.o.2.1,H5.o.2.2⟩
theorem qiv {z:Int} (h:z.natAbs<10 ^ 600):Valid (qcj z).data.toList:=qgz (by have:=qeQ (x:=z.natAbs) (k:=600) (by decide) h;rw [qdZ] at this;exact this)
theorem qkc (z:Int):ival (qcj z).data.toList=z:=qdr z
theorem qfS {x:Nat} (h:x<1000000000000000000000000000):Fit x 3:=by unfold Fit;exact h
def Cd (q:Rat) (D N:Nat):Prop:=∃p:Int,q=(p:Rat) / (D:Rat)/\p.natAbs<=N
theorem Cd.rb {q:Rat} {D N M:Nat} (h:Cd q D N) (E:D≠0) (hN:N<=M) (F:D<=M):Rb q M:=by
 obtain⟨p,e,H⟩:=h;refine qip (p:=p) (z:=(D:Int)) (by omega) (by omega) (by omega) ?_;rw [e];rfl
theorem Cd.short {q:Rat} {D N:Nat} (h:Cd q D N) (E:D≠0) (hN:N<10 ^ 600) (F:D<10 ^ 600):Short q :=
 qdM (h.rb E (Nat.le_max_left N D) (Nat.le_max_right N D)) (by omega)
theorem qgr {D:Nat} (E:D≠0):(D:Rat)≠0:=by exact_mod_cast E
theorem Cd.mul {p q:Rat} {D E N M:Nat} (h:Cd p D N) (k:Cd q E M) (F:D≠0) (hE:E≠0):Cd (p*q) (D*E) (N*M):=by
 obtain⟨a,e,H⟩:=h;obtain⟨b,e2,I⟩:=k;refine⟨a*b,?_,by rw [qaE];exact Nat.mul_le_mul H I⟩;have J:=qgr F;have O:=qgr hE;rw [e,e2];push_cast;grind
theorem Cd.up {p:Rat} {D N:Nat} (h:Cd p D N) (k:Nat) (E:D≠0) (H:k≠0):Cd p (D*k) (N*k):=by
 obtain⟨a,e,F⟩:=h;have I:=qgr E;have J:=qgr H;refine⟨a*k,?_,by rw [qaE,qas];exact Nat.mul_le_mul F qN⟩;rw [e];push_cast;grind
theorem qfo.at {d:List Int} (h:qfo d) (k:Nat):0<=d.getD k 0/\d.getD k 0<=10000:=by
 by_cases E:k<d.length
 ·exact h k E
 ·rw [qaa,qaR (by omega)];exact⟨by decide,by decide⟩
theorem dq_cd {d:List Int} (h:qfo d) (k:Nat):Cd (dq d k) 10000 10000:=by
 have:=h.at k;exact⟨d.getD k 0,rfl,by omega⟩
theorem qgc {d:List Int} {E:Nat} (hE:E≠0) (h:∀k,Cd (dq d k) E E):∀n,∀p∈prods d n,Cd p (E ^ n) (E ^ n)
 | 0,p,hp=>by
  obtain rfl:p=1:=by simpa [prods] using hp
  exact⟨1,by show (1:Rat)=((1:Int):Rat) / ((1:Nat):Rat);rw [show ((1:Int):Rat)=1 from rfl,show ((1:Nat):Rat)=1 from rfl];grind,qad 1⟩
 | n+1,p,hp=>by
  have F:E ^ n≠0:=qbu (Nat.pow_pos (qbm hE));rcases qaL.1 (show p∈prods d n++(prods d n).map fun p=>p*dq d n from hp) with hp | hp
  ·exact (qgc hE h n p hp).up E F hE
  ·obtain⟨q,H,rfl⟩:=qbb.1 hp;exact (qgc hE h n q H).mul (h n) F hE
theorem qk9:10000 ^ 3<10 ^ 600:=by decide +kernel
def thrown (c:Int):Ending:=.panicked [{ v:=.iface 180 (.agg #[.int .i64 c]),recovered:=false }]
def tqf (l:List Pt) (kind:Nat) (i j:Nat):Rat:=termQ kind (l.getD i pt0).dev j
def labq (l:List Pt) (c i:Nat):Rat:=((l.getD i pt0).lab c:Rat) / 100
def wq (E:List Int) (i:Nat):Rat:=((E.getD i 0:Int):Rat)
def WOk (E:List Int):Prop:=∀k,k<E.length->0<=E.getD k 0/\E.getD k 0<=1000
def qdy (kind:Int) (k:Nat):Prop:=kind=(k:Int)/\1<=k/\k<=3
structure Md where
 kind:Int
 inn:Int
 r0:List FT
 r1:List FT
 r2:List FT
def Md.row (m:Md) (c:Nat):List FT:=if c=0 then m.r0 else if c=1 then m.r1 else m.r2
structure MdOk (m:Md) (k n:Nat):Prop where
 kind:qdy m.kind k
 inn:m.inn=(n:Int)/\1<=n/\n<=4
 both:¬(k=3/\n=4)
 rows:∀c,c<3->(m.row c).length=many k n/\FAll (m.row c)
def MdAt (W:World) (v:Value) (m:Md):Prop :=
 ∃(a0 E a2:Option Addr) (F O J H U c1 I V c2:Nat),v=.agg #[.int .i64 m.kind,.int .i64 m.inn,.slice a0 m.r0.length J,.slice E m.r1.length c1,.slice a2 m.r2.length c2]/\FCells W a0 F O m.r0/\FCells W E H U m.r1/\FCells W a2 I V m.r2
theorem MdAt.below {W W':World} {v:Value} {m:Md} (h:MdAt W v m) (E:Below W.heap.size W W'):MdAt W' v m:=by
 obtain⟨a0,a1,a2,b0,o0,c0,b1,o1,c1,b2,o2,c2,rfl,F,H,I⟩:=h;exact⟨a0,a1,a2,b0,o0,c0,b1,o1,c1,b2,o2,c2,rfl,F.below E,H.below E,I.below E⟩
def mdv0:Value:=.agg #[.int .i64 0,.int .i64 0,.slice none 0 0,.slice none 0 0,.slice none 0 0]
def mdq (k n m:Nat) (x:Nat->Nat->Rat):Md:=⟨k,n,told m (x 0),told m (x 1),told m (x 2)⟩
theorem qhq {k n m:Nat} {x:Nat->Nat->Rat} {c:Nat} (E:c<3):(mdq k n m x).row c=told m (x c):=by
 rcases (show c=0\/c=1\/c=2 by omega) with rfl | rfl | rfl <;> rfl
theorem FAll.eq_told {l:List FT} (h:FAll l):l=told l.length (lval l):=by
 refine List.ext_getElem (by rw [qcb]) fun i F J=>?_
 have H:l[i]=l.getD i fd0:=by rw [qaa,qac F];rfl
 have I:(told l.length (lval l))[i]=ftxt (lval l i):=by
  have:=qed (x:=lval l) F;rw [qaa,qac J] at this;exact this
 rw [H,I];have E:=h i F;unfold lval;obtain⟨n1,n2⟩:=E.val;have O:=E.vn.eq;have U:=E.vd.eq;refine Prod.ext ?_ ?_
 ·show _=qcj _
  rw [n1];unfold qcj;rw [<-O]
 ·show _=num _
  rw [n2];unfold num;rw [<-qiE,Int.natAbs_of_nonneg (by have:=E.pos;omega),<-U]
theorem FAll.short {l:List FT} (h:FAll l):qb9 l.length (lval l):=fun i O=>by
 have E:=h i O;unfold lval Short;obtain⟨n1,n2⟩:=E.val;rw [n1,n2];have I:=E.vn.le;have J:=E.vd.le;have F:=congrArg body E.vn.eq;have H:=congrArg body E.vd.eq;rw [(qfL _).1] at F H;rw [F] at I;rw [H] at J;rw [qdZ,qdZ];exact⟨I,J⟩
theorem qfk {P:Program} {O:Func} {p q:Tmp} {U F:TypeId} (h:O.results=#[.cell p U,.cell q F]) (E:Array Value) (w:World) (ap H:Addr) (V v2:Value)
  (hp:E.getD p undef=.pointer (some ap)) (hq:E.getD q undef=.pointer (some H)) (Y:(loadVar U ap).run P w=.ok V w) (Z:(loadVar F H).run P w=.ok v2 w) :
  (results O E).run P w=.ok (.tuple #[V,v2]) w:=by
 have I:E[p]?.getD undef=.pointer (some ap):=by simpa using hp
 have J:E[q]?.getD undef=.pointer (some H):=by simpa using hq
 simp [results,h,I,J,asAddr,Y,Z,Sem.run_bind,Result.andThen]
theorem qfe {P:Program} {F:TypeId} {w:World} {g:Nat} {t:TypeId} {v:Value} (d:TypeDesc) (I:P.underlying F=some d) (J:(match d with | .struct _ | .array _ _=>true | _=>false)=false) (hg:w.heap[g]? = some (.cells #[v] t (0,0))) :
  (loadVar F ⟨g,0,none⟩).run P w=.ok v w:=by
 have H:=qC w g 0 _ _ _ hg;have E:(isAgg F).run P w=.ok false w:=by
  unfold isAgg;rw [Sem.run_bind,run_underlying I w];cases d <;> simp_all
 simp [loadVar,Sem.run_bind,E,H]
theorem qhI {W:World} {g:Nat} {v0:Value} {t:TypeId} (h:W.heap[g]? = some (.cells #[v0] t (0,0))) (v:Value):(W.setCell ⟨g,0,none⟩ v).heap[g]? = some (.cells #[v] t (0,0)):=by
 rw [setCell_eq_setRow W g 0 _ t _ v h];exact qT _ _ _ _ _ _ h
theorem qfJ {B g:Nat} {a W:World} (h:Below B a W) (hg:B<=g) (cs:Array Value):Below B a (W.setRow g cs) :=
 h.trans ⟨rfl,rfl,rfl,by simp [World.setRow],fun k E=>setRow_other _ _ _ _ (by omega)⟩
theorem caught {w W:World} {gp gq B:Nat} {O:Array Value} {I J:TypeId} (h:B<=gp/\B<=gq/\gp≠gq) (hB:Below B w W) (hp:W.heap[gp]? = some (.cells O I (0,0))) (hq:W.heap[gq]? = some (.cells #[.int .i64 0] J (0,0))) (c:Int) (o:Obj) :
  (((W.setCell ⟨gq,0,none⟩ (.int .i64 9)).setCell ⟨gq,0,none⟩ (.int .i64 c)).alloc o).heap[gp]? = some (.cells O I (0,0))/\(((W.setCell ⟨gq,0,none⟩ (.int .i64 9)).setCell ⟨gq,0,none⟩ (.int .i64 c)).alloc o).heap[gq]? = some (.cells #[.int .i64 c] J (0,0)) /\
   Below B w (((W.setCell ⟨gq,0,none⟩ (.int .i64 9)).setCell ⟨gq,0,none⟩ (.int .i64 c)).alloc o):=by
 obtain⟨X,E⟩:=qY ((W.setCell ⟨gq,0,none⟩ (.int .i64 9)).setCell ⟨gq,0,none⟩ (.int .i64 c));rw [<-E];have U:X.heap[gq]? = some (.cells #[.int .i64 c] J (0,0)):=E▸qhI (qhI hq _) _;have V:X.heap[gp]? = some (.cells O I (0,0)):=by rw [E,qW _ _ _ _ h.2.2,qW _ _ _ _ h.2.2];exact hp
 have Y:Below B w X:=E▸(hB.setCell (p:=⟨gq,0,none⟩) h.2.1 _).setCell (p:=⟨gq,0,none⟩) h.2.1 _;have F:=(qG U).1;have H:=(qG V).1;have hz:B<=X.heap.size:=by have:=h.1;omega
 exact⟨(Below.heap_alloc _ _ _ H).trans V,(Below.heap_alloc _ _ _ F).trans U,Y.trans ⟨rfl,rfl,rfl,by simp,fun k Z=>Below.heap_alloc _ _ _ (qai Z hz)⟩⟩
theorem filled {w W X:World} {gp gq B:Nat} {U cs:Array Value} {H O:TypeId} (h:B<=gp/\B<=gq/\gp≠gq) (Z:W.heap[gp]? = some (.cells U H (0,0))) (J:W.heap[gq]? = some (.cells #[.int .i64 0] O (0,0)))
  (V:X.heap[gp]? = some (.cells cs H (0,0))) (I:∀k,k≠gp->X.heap[k]? = W.heap[k]?) (Y:Below B w X) :
  (X.setCell ⟨gq,0,none⟩ (.int .i64 0)).heap[gp]? = some (.cells cs H (0,0))/\(X.setCell ⟨gq,0,none⟩ (.int .i64 0)).heap[gq]? = some (.cells #[.int .i64 0] O (0,0))/\Below B w (X.setCell ⟨gq,0,none⟩ (.int .i64 0)) /\
   ((∀b,.string b∉U.toList)->∀a b,W.cell? a=some (.string b)->(X.setCell ⟨gq,0,none⟩ (.int .i64 0)).cell? a=some (.string b)):=by
 have F:=(I gq (fun e=>h.2.2 e.symm)).trans J;refine⟨?_,qhI F _,Y.setCell (p:=⟨gq,0,none⟩) h.2.1 _,fun hz a b E=>?_⟩
 ·rw [qW _ _ _ _ h.2.2];exact V
 ·have n1:a.block≠gp:=by
   intro e;unfold World.cell? at E;rw [e,Z] at E;simp only at E;split at E
   ·cases E
   ·exact hz b (by rw [<-Array.mem_def];exact Array.mem_of_getElem? E)
  have n2:a.block≠gq:=by
   intro e;unfold World.cell? at E;rw [e,J] at E;simp only at E;split at E
   ·cases E
   ·have:=Array.mem_of_getElem? E;simp at this
  rw [World.cell?_setCell_far _ _ _ _ (fun e=>n2 e.symm)];unfold World.cell? at E ⊢;rw [I _ n1];exact E
theorem assertM (w:World) (c:Int):(Instr.typeAssert (.iface 180 (.agg #[.int .i64 c])) 20 180 true).run prog w=.ok (.tuple #[.agg #[.int .i64 c],.bool true]) w:=by
 simp [Instr.typeAssert,go_sem]
theorem qkn (p q:Addr) (w:World) :
  CallsD prog 111 #[.pointer (some p),.pointer (some q)] .returning w fun e F w'=>e=.returned (.tuple #[])/\F=.returning/\w'=w:=by
 refine callsD_of_wpS func111 rfl fun H cs E=>?_
 apply wpS_seq;apply wpS_region;simp [wpOpsS,go_sem,recoverD,E,ntmps111,Exit.thenS,<-List.toArray_replicate,List.replicate];refine wpS_of_wp ?_;go_wp2_with fail;exact⟨rfl,.returning,by rw [<-E],.tuple #[],results_none rfl _ _ _,rfl,rfl,rfl⟩
theorem qlV (gp gq:Nat) (c:Int) (E:List PanicEntry) (w:World) (B:Nat) (hB:B<=gp/\B<=gq/\gp≠gq) (Y:w.heap[gp]? = some (.cells #[.int .i64 0,.int .i64 0,.slice none 0 0,.slice none 0 0,.slice none 0 0] 46 (0,0))) (Z:w.heap[gq]? = some (.cells #[.int .i64 0] 31 (0,0))) :
  CallsD prog 111 #[.pointer (some ⟨gp,0,none⟩),.pointer (some ⟨gq,0,none⟩)] (.panicking ({ v:=.iface 180 (.agg #[.int .i64 c]),recovered:=false } :: E)) w fun e u' w'=>e=.returned (.tuple #[])/\u'=.panicking ({ v:=.iface 180 (.agg #[.int .i64 c]),recovered:=true } :: E) /\
   w'.heap[gp]? = some (.cells #[.int .i64 0,.int .i64 0,.slice none 0 0,.slice none 0 0,.slice none 0 0] 46 (0,0))/\w'.heap[gq]? = some (.cells #[.int .i64 c] 31 (0,0))/\Below B w w':=by
 have O:=(qG Y).1;have V:=(qG Z).1;obtain⟨F,J,H⟩:=nw1 w #[.int .i64 0,.int .i64 0,.slice none 0 0,.slice none 0 0,.slice none 0 0] 46;have U:=qH (zkeep H.o.1 _ _ Y);have I:(F.setRow gp #[.int .i64 0,.int .i64 0,.slice none 0 0,.slice none 0 0,.slice none 0 0]).heap[gq]? = some (.cells #[.int .i64 0] 31 (0,0)):=(setRow_other _ _ _ _ (fun e=>hB.2.2 e.symm)).trans (zkeep H.o.1 _ _ Z);have cq:=qC (F.setRow gp #[.int .i64 0,.int .i64 0,.slice none 0 0,.slice none 0 0,.slice none 0 0]) _ 0 _ _ _ I;have fq:=qF (F.setRow gp #[.int .i64 0,.int .i64 0,.slice none 0 0,.slice none 0 0,.slice none 0 0]) _ 0 _ _ I;have au:(F.setRow gp #[.int .i64 0,.int .i64 0,.slice none 0 0,.slice none 0 0,.slice none 0 0]).heap.size=F.heap.size:=by simp [World.setRow]
 have aa:gp<F.heap.size:=qai O H.o.1.size;have ae:gq<F.heap.size:=qai V H.o.1.size;have ak:¬gq=F.heap.size:=by omega
 have HE:=qH (caught hB (qfJ (H.o.1.mono (qan (qaU hB.1 O))) hB.1 #[.int .i64 0,.int .i64 0,.slice none 0 0,.slice none 0 0,.slice none 0 0]) (qT F gp #[.int .i64 0,.int .i64 0,.slice none 0 0,.slice none 0 0,.slice none 0 0] #[.int .i64 0,.int .i64 0,.slice none 0 0,.slice none 0 0,.slice none 0 0] 46 _ U.o) I c (.cells #[.int .i64 c] 180));clear Y Z hB I;have av:=assertM;refine callsD_of_wpS func111 rfl fun c₀ cs hu=>?_
 apply wpS_seq;apply wpS_region;simp [wpOpsS,go_sem,recoverD,hu,ntmps111,Exit.thenS,<-List.toArray_replicate,List.replicate];refine wpS_of_wp ?_;go_upto_region 3 with fail;rw [<-J];clear J;have af:=qC F _ 0 _ _ _ H.o.2;have ag:=qC F _ 1 _ _ _ H.o.2;have ah:=qC F _ 2 _ _ _ H.o.2;have ai:=qC F _ 3 _ _ _ H.o.2;have aj:=qC F _ 4 _ _ _ H.o.2
 go_wp2_with ((with_reducible refine sR_ rfl 46 _ _ rfl (gp) #[.int .i64 0,.int .i64 0,.slice none 0 0,.slice none 0 0,.slice none 0 0] U.o 5 ?_))
 refine⟨rfl,.panicking ({ v:=.iface 180 (.agg #[.int .i64 c]),recovered:=true } :: E),rfl,.tuple #[],results_none rfl _ _ _,rfl,rfl,?_⟩;exact HE.o
theorem qi6 (fc:FuncId) (E:Array Value) (G:World->Value->Prop) (F:Int->Prop) (w:World) (ah:∀W,(callFunc fc E).run prog W=.ok (.enter fc E) W)
  (hG:∀W W' v,(∀a b,W.cell? a=some (.string b)->W'.cell? a=some (.string b))->G W v->G W' v)
  (hf:∀V,Below w.heap.size w V->Calls prog fc E V fun e w'=>Below V.heap.size V w'/\((∃(i0 I:Int) (J:Option Addr) (n0 H:Nat) (O:Option Addr) (n1 c1:Nat) (U:Option Addr) (n2 c2:Nat),e=.returned (.agg #[.int .i64 i0,.int .i64 I,.slice J n0 H,.slice O n1 c1,.slice U n2 c2])/\G w' (.agg #[.int .i64 i0,.int .i64 I,.slice J n0 H,.slice O n1 c1,.slice U n2 c2]))\/∃c,e=thrown c/\F c)) :
  Calls prog 61 #[.func (.func fc) #[] E] w fun e w'=>Below w.heap.size w w'/\((∃(i0 I:Int) (J:Option Addr) (n0 H:Nat) (O:Option Addr) (n1 c1:Nat) (U:Option Addr) (n2 c2:Nat),e=.returned (.tuple #[(.agg #[.int .i64 i0,.int .i64 I,.slice J n0 H,.slice O n1 c1,.slice U n2 c2]),.int .i64 0])/\G w' (.agg #[.int .i64 i0,.int .i64 I,.slice J n0 H,.slice O n1 c1,.slice U n2 c2]))\/∃c,e=.returned (.tuple #[(.agg #[.int .i64 0,.int .i64 0,.slice none 0 0,.slice none 0 0,.slice none 0 0]),.int .i64 c])/\F c):=by
 have aj:=@hmf_ prog;obtain⟨W2,ae,K2⟩:=nw2 w #[.int .i64 0,.int .i64 0,.slice none 0 0,.slice none 0 0,.slice none 0 0] 46 #[.int .i64 0] 31;have HF:=qH (hf W2 K2.o.1);clear hf
 go_enter_defers func61,ntmps61
 go_upto_region 1 with fail;rw [<-ae];clear ae;go_wp2_with fail;refine HF.o.mono ?_;rintro e V ⟨Z,h⟩;have Y:Kn (fun W=>W.heap[w.heap.size]? = some (.cells #[.int .i64 0,.int .i64 0,.slice none 0 0,.slice none 0 0,.slice none 0 0] 46 (0,0))/\W.heap[w.heap.size+1]? = some (.cells #[.int .i64 0] 31 (0,0))/\Below w.heap.size w W) V :=
  .of ⟨zkeep Z _ _ K2.o.2.1,zkeep Z _ _ K2.o.2.2,K2.o.1.trans (Z.mono K2.o.1.size)⟩
 clear K2;rcases h with ⟨i0,I,J,n0,H,O,n1,c1,U,n2,c2,rfl,hg⟩ | ⟨c,rfl,hF⟩
 ·have HE:=qH (filled (w:=w) (gp:=w.heap.size) (gq:=w.heap.size+1) (B:=w.heap.size) ⟨qad _,by omega,by omega⟩ Y.o.1 Y.o.2.1 (qT V _ #[.int .i64 0,.int .i64 0,.slice none 0 0,.slice none 0 0,.slice none 0 0] #[.int .i64 i0,.int .i64 I,.slice J n0 H,.slice O n1 c1,.slice U n2 c2] _ _ Y.o.1) (fun k hk=>setRow_other _ _ _ _ hk) (qfJ Y.o.2.2 qN _));have af:=hG _ ((V.setRow w.heap.size #[.int .i64 i0,.int .i64 I,.slice J n0 H,.slice O n1 c1,.slice U n2 c2]).setCell ⟨w.heap.size+1,0,none⟩ (.int .i64 0)) _ (HE.o.2.2.2 (fun b hb=>by simp at hb)) hg;have aa:(V.setRow w.heap.size #[.int .i64 i0,.int .i64 I,.slice J n0 H,.slice O n1 c1,.slice U n2 c2]).heap[w.heap.size+1]? = some (.cells #[.int .i64 0] 31 (0,0)):=(setRow_other _ _ _ _ (by omega)).trans Y.o.2.1;have cq:=qC (V.setRow w.heap.size #[.int .i64 i0,.int .i64 I,.slice J n0 H,.slice O n1 c1,.slice U n2 c2]) _ 0 _ _ _ aa;have fq:=qF (V.setRow w.heap.size #[.int .i64 i0,.int .i64 I,.slice J n0 H,.slice O n1 c1,.slice U n2 c2]) _ 0 _ _ aa;have HG:=qH af;clear hG hg af HF Z ah aa;rename_i hK;dsimp only;refine hK _ _ ?_
  go_wp2_with ((with_reducible refine sR_ rfl 46 _ _ rfl (w.heap.size) #[.int .i64 i0,.int .i64 I,.slice J n0 H,.slice O n1 c1,.slice U n2 c2] Y.o.1 5 ?_))
  try simp only [bodyPostD]
  refine leaves_cons (f:=111) (args:=#[.pointer (some ⟨w.heap.size,0,none⟩),.pointer (some ⟨w.heap.size+1,0,none⟩)]) (by simp) (by simp [go_sem]) ?_;refine (qkn _ _ _).mono ?_;rintro e u' ai ⟨rfl,rfl,rfl⟩;refine⟨_,qfk rfl _ _ _ _ _ _ rfl rfl ((fun h=>run_loadVar_row _ _ _ 46 _ (0,0) _ h underlying46 rfl (by kernel_rfl)) HE.o.1) (qfe _ underlying31 rfl HE.o.2.1),HE.o.2.2.1,qaw ⟨i0,I,J,n0,H,O,n1,c1,U,n2,c2,rfl,HG.o⟩⟩
 ·have ag:=qH hF;clear hF hG HF;unfold thrown;go_wp2_with fail
  try simp only [bodyPostD]
  refine leaves_cons (f:=111) (args:=#[.pointer (some ⟨w.heap.size,0,none⟩),.pointer (some ⟨w.heap.size+1,0,none⟩)]) (by simp) (by simp [go_sem]) ?_;refine (qlV w.heap.size (w.heap.size+1) c [] _ w.heap.size ⟨qad _,by omega,by omega⟩ Y.o.1 Y.o.2.1).mono ?_;rintro e u' ai ⟨rfl,rfl,hp,hq,hb⟩;refine⟨_,qfk rfl _ _ _ _ _ _ rfl rfl ((fun h=>run_loadVar_row _ _ _ 46 _ (0,0) _ h underlying46 rfl (by kernel_rfl)) hp) (qfe _ underlying31 rfl hq),Y.o.2.2.trans hb,qam ⟨c,rfl,ag.o⟩⟩
theorem assertL (w:World) (c:Int):(Instr.typeAssert (.iface 180 (.agg #[.int .i64 c])) 20 180 true).run prog w=.ok (.tuple #[.agg #[.int .i64 c],.bool true]) w:=by
 simp [Instr.typeAssert,go_sem]
theorem qkm (p q:Addr) (w:World) :
  CallsD prog 141 #[.pointer (some p),.pointer (some q)] .returning w fun e F w'=>e=.returned (.tuple #[])/\F=.returning/\w'=w:=by
 refine callsD_of_wpS func141 rfl fun H cs E=>?_
 apply wpS_seq;apply wpS_region;simp [wpOpsS,go_sem,recoverD,E,ntmps141,Exit.thenS,<-List.toArray_replicate,List.replicate];refine wpS_of_wp ?_;go_wp2_with fail;exact⟨rfl,.returning,by rw [<-E],.tuple #[],results_none rfl _ _ _,rfl,rfl,rfl⟩
theorem qlU (gp gq:Nat) (c:Int) (E:List PanicEntry) (w:World) (B:Nat) (hB:B<=gp/\B<=gq/\gp≠gq) (Y:w.heap[gp]? = some (.cells #[.slice none 0 0] 22 (0,0))) (Z:w.heap[gq]? = some (.cells #[.int .i64 0] 31 (0,0))) :
  CallsD prog 141 #[.pointer (some ⟨gp,0,none⟩),.pointer (some ⟨gq,0,none⟩)] (.panicking ({ v:=.iface 180 (.agg #[.int .i64 c]),recovered:=false } :: E)) w fun e u' w'=>e=.returned (.tuple #[])/\u'=.panicking ({ v:=.iface 180 (.agg #[.int .i64 c]),recovered:=true } :: E) /\
   w'.heap[gp]? = some (.cells #[.slice none 0 0] 22 (0,0))/\w'.heap[gq]? = some (.cells #[.int .i64 c] 31 (0,0))/\Below B w w':=by
 have O:=(qG Y).1;have V:=(qG Z).1;obtain⟨F,U,J⟩:∃F,F=w/\Kn (fun W=>Below w.heap.size w W/\True) F:=⟨w,rfl,.of ⟨Below.refl _ _,trivial⟩⟩;subst U;have I:=qH (zkeep J.o.1 _ _ Y);have H:(F.setCell ⟨gp,0,none⟩ (.slice none 0 0)).heap[gq]? = some (.cells #[.int .i64 0] 31 (0,0)):=(qW _ _ _ _ (fun e=>hB.2.2 e.symm)).trans (zkeep J.o.1 _ _ Z);have cq:=qC (F.setCell ⟨gp,0,none⟩ (.slice none 0 0)) _ 0 _ _ _ H;have fq:=qF (F.setCell ⟨gp,0,none⟩ (.slice none 0 0)) _ 0 _ _ H;have cp:=qC F _ 0 _ _ _ I.o;have fp:=qF F _ 0 _ _ I.o;have ag:(F.setCell ⟨gp,0,none⟩ (.slice none 0 0)).heap.size=F.heap.size:=by simp [World.setCell]
 have aa:gp<F.heap.size:=qai O J.o.1.size;have ae:gq<F.heap.size:=qai V J.o.1.size;have af:¬gq=F.heap.size:=by omega
 have HE:=qH (caught hB ((J.o.1.mono (qan (qaU hB.1 O))).setCell hB.1 (.slice none 0 0)) (qhI I.o (.slice none 0 0)) H c (.cells #[.int .i64 c] 180));clear Y Z hB H;have ah:=assertL;refine callsD_of_wpS func141 rfl fun c₀ cs hu=>?_
 apply wpS_seq;apply wpS_region;simp [wpOpsS,go_sem,recoverD,hu,ntmps141,Exit.thenS,<-List.toArray_replicate,List.replicate];refine wpS_of_wp ?_;go_wp2_with fail;refine⟨rfl,.panicking ({ v:=.iface 180 (.agg #[.int .i64 c]),recovered:=true } :: E),rfl,.tuple #[],results_none rfl _ _ _,rfl,rfl,?_⟩;exact HE.o
theorem qi5 (fc:FuncId) (E:Array Value) (G:World->Value->Prop) (F:Int->Prop) (w:World) (ae:∀W,(callFunc fc E).run prog W=.ok (.enter fc E) W)
  (hG:∀W W' v,(∀a b,W.cell? a=some (.string b)->W'.cell? a=some (.string b))->G W v->G W' v)
  (hf:∀H,Below w.heap.size w H->Calls prog fc E H fun e w'=>Below H.heap.size H w'/\((∃(p:Option Addr) (n c:Nat),e=.returned (.slice p n c)/\G w' (.slice p n c))\/∃c,e=thrown c/\F c)) :
  Calls prog 85 #[.func (.func fc) #[] E] w fun e w'=>Below w.heap.size w w'/\((∃(p:Option Addr) (n c:Nat),e=.returned (.tuple #[(.slice p n c),.int .i64 0])/\G w' (.slice p n c))\/∃c,e=.returned (.tuple #[(.slice none 0 0),.int .i64 c])/\F c):=by
 have ag:=@hmf_ prog;obtain⟨W2,V,U⟩:=nw2 w #[.slice none 0 0] 22 #[.int .i64 0] 31;have HF:=qH (hf W2 U.o.1);clear hf
 go_enter_defers func85,ntmps85
 go_upto_region 1 with fail;rw [<-V];clear V;go_wp2_with fail;refine HF.o.mono ?_;rintro e H ⟨J,h⟩;have I:Kn (fun W=>W.heap[w.heap.size]? = some (.cells #[.slice none 0 0] 22 (0,0))/\W.heap[w.heap.size+1]? = some (.cells #[.int .i64 0] 31 (0,0))/\Below w.heap.size w W) H :=
  .of ⟨zkeep J _ _ U.o.2.1,zkeep J _ _ U.o.2.2,U.o.1.trans (J.mono U.o.1.size)⟩
 clear U;rcases h with ⟨p,n,c,rfl,hg⟩ | ⟨c,rfl,hF⟩
 ·have Z:=qH (filled (w:=w) (gp:=w.heap.size) (gq:=w.heap.size+1) (B:=w.heap.size) ⟨qad _,by omega,by omega⟩ I.o.1 I.o.2.1 (qhI I.o.1 (.slice p n c)) (fun k hk=>qW _ _ _ _ hk) (I.o.2.2.setCell (p:=⟨w.heap.size,0,none⟩) qN _));have Y:=hG _ ((H.setCell ⟨w.heap.size,0,none⟩ (.slice p n c)).setCell ⟨w.heap.size+1,0,none⟩ (.int .i64 0)) _ (Z.o.2.2.2 (fun b hb=>by simp at hb)) hg;have O:(H.setCell ⟨w.heap.size,0,none⟩ (.slice p n c)).heap[w.heap.size+1]? = some (.cells #[.int .i64 0] 31 (0,0)):=(qW _ _ _ _ (by simp)).trans I.o.2.1;have cq:=qC (H.setCell ⟨w.heap.size,0,none⟩ (.slice p n c)) _ 0 _ _ _ O;have fq:=qF (H.setCell ⟨w.heap.size,0,none⟩ (.slice p n c)) _ 0 _ _ O;have cp:=qC H _ 0 _ _ _ I.o.1;have fp:=qF H _ 0 _ _ I.o.1;have HG:=qH Y;clear hG hg Y HF J ae O;go_wp2_with fail
  try simp only [bodyPostD]
  refine leaves_cons (f:=141) (args:=#[.pointer (some ⟨w.heap.size,0,none⟩),.pointer (some ⟨w.heap.size+1,0,none⟩)]) (by simp) (by simp [go_sem]) ?_;refine (qkm _ _ _).mono ?_;rintro e u' af ⟨rfl,rfl,rfl⟩;refine⟨_,qfk rfl _ _ _ _ _ _ rfl rfl (qfe _ underlying22 rfl Z.o.1) (qfe _ underlying31 rfl Z.o.2.1),Z.o.2.2.1,qaw ⟨p,n,c,rfl,HG.o⟩⟩
 ·have aa:=qH hF;clear hF hG HF;unfold thrown;go_wp2_with fail
  try simp only [bodyPostD]
  refine leaves_cons (f:=141) (args:=#[.pointer (some ⟨w.heap.size,0,none⟩),.pointer (some ⟨w.heap.size+1,0,none⟩)]) (by simp) (by simp [go_sem]) ?_;refine (qlU w.heap.size (w.heap.size+1) c [] _ w.heap.size ⟨qad _,by omega,by omega⟩ I.o.1 I.o.2.1).mono ?_;rintro e u' af ⟨rfl,rfl,hp,hq,hb⟩;refine⟨_,qfk rfl _ _ _ _ _ _ rfl rfl (qfe _ underlying22 rfl hp) (qfe _ underlying31 rfl hq),I.o.2.2.trans hb,qam ⟨c,rfl,aa.o⟩⟩
