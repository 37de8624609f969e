import Derived.Defers
import Derived.Recover
import Derived.Test.YtjalhnlhcdfncaaGreatDoorBu15
set_option maxRecDepth 100000
set_option maxHeartbeats 0
namespace Go.Proofs.YtjalhnlhcdfncaaGreatDoor
open Go.RowKit Go.Proofs.Tryz
def qgq (w:World) (t:Tbl) (bl wl:List FT) (e:Ending) (E:World):Prop :=
  ((¬TOk t/\e=.returned (.tuple #[.slice none 0 0,.int .i64 60])) \/
   (TOk t/\¬(FAll bl/\FAll wl)/\e=.returned (.tuple #[.slice none 0 0,.int .i64 20])) \/
   (TOk t/\FAll bl/\FAll wl/\¬(bl.length=t.length/\wl.length=t.length/\¬Neg wl)/\e=.returned (.tuple #[.slice none 0 0,.int .i64 2])) \/
   (TOk t/\FAll bl/\FAll wl/\bl.length=t.length/\wl.length=t.length/\¬Neg wl /\
     ((Sing (wid t) (normQ t bl wl t.length)/\e=.returned (.tuple #[.slice none 0 0,.int .i64 7])) \/
      (¬Sing (wid t) (normQ t bl wl t.length)/\∃x,qcO (wid t) (normQ t bl wl t.length) (fun r=>normQ t bl wl t.length r (wid t)) x/\Tells (wid t) x e E))))/\Below w.heap.size w E
theorem qnY {W:World} {H:Option Addr} {b G n c:Nat} {l:List FT} {F:Option Addr} {J E n2 c2:Nat} {l2:List FT} {g:Nat} {Y:TypeId} (hg:W.heap[g]? = some (.cells #[.slice H n c,.slice F n2 c2] Y (0,0))) (V:l.length=n) (h:FCells W H b G l) (I:l2.length=n2) (O:FCells W F J E l2):TCells W (some ⟨g,0,none⟩) g 0 [l,l2]:=by
 refine⟨fun _=>rfl,fun k U=>?_⟩;rcases (show k=0\/k=1 by simp at U;omega) with rfl | rfl
 ·exact⟨H,b,G,c,by rw [show ([l,l2]:Tbl).getD 0 []=l from rfl,V];exact qC _ _ 0 _ _ _ hg,h⟩
 ·exact⟨F,J,E,c2,by rw [show ([l,l2]:Tbl).getD 1 []=l2 from rfl,I];exact qC _ _ 1 _ _ _ hg,O⟩
theorem qlW {l l2:List FT}:(∀k,k<([l,l2]:Tbl).length->FAll (([l,l2]:Tbl).getD k []))↔FAll l/\FAll l2 :=
 ⟨fun h=>⟨h 0 (by simp),h 1 (by simp)⟩,fun h k E=>by
  rcases (show k=0\/k=1 by simp at E;omega) with rfl | rfl
  ·exact h.1
  ·exact h.2⟩
theorem qle (ao:Option Addr) (b av R c:Nat) (t:Tbl) (U:Option Addr) (b2 af m c2:Nat) (bl:List FT) (V:Option Addr) (b3 G q c3:Nat) (wl:List FT) (w:World) (hR:t.length=R) (hl:R<=4611686018427387904) (hw:∀k,k<R->(t.getD k []).length<=4611686018427387904) (hc:TCells w ao b av t)
  (hm:bl.length=m) (bn:m<=4611686018427387904) (aj:FCells w U b2 af bl) (hq:wl.length=q) (bq:q<=4611686018427387904) (ak:FCells w V b3 G wl) (hT:HasT w) :
  Calls prog 117 #[.slice ao R c,.slice U m c2,.slice V q c3] w fun e w'=>qgq w t bl wl e w':=by
 obtain⟨W1,Y⟩:=qY (w.alloc (.cells #[.slice U m c2,.slice V q c3] 22));have I:Below w.heap.size w W1:=Y▸qbY qB qN;have aO:W1.heap[w.heap.size]? = some (.cells #[.slice U m c2,.slice V q c3] 22 (0,0)):=by rw [Y];exact qM _ _ _ rfl
 have HK:=qH (qeW ao b av R c t (some ⟨w.heap.size,0,none⟩) w.heap.size 0 2 2 [bl,wl] W1 hR hl hw (hc.below I) rfl (by omega) (fun k hk=>by
  rcases (show k=0\/k=1 by omega) with rfl | rfl
  ·show bl.length<=_;omega
  ·show wl.length<=_;omega) (qnY aO hm (aj.below I) hq (ak.below I)))
 have E:=qH (qA hc (qA hR (qA aj (qA hm (qA ak (qA hq hT))))));have ay:=qH I;clear hR hw hc hm aj I aO hT hq ak;go_enter func117,ntmps117;go_wp2_with fail;rw [<-Y];clear Y;refine HK.o.mono ?_;rintro e w2 ⟨cc,rfl,aX,aF⟩;have HB:=qH (ay.o.trans (aF.mono ay.o.size));clear aF;rcases aX with ⟨rfl,hT⟩ | ⟨rfl,hT,hL⟩ | ⟨rfl,hT,hL⟩
 ·have HT:=qH hT;clear hT;go_wp2_with fail
  go_ret2
  exact⟨qax ⟨HT.o,rfl⟩,HB.o⟩
 ·have HT:=qH (qA hT hL);clear hT hL;go_wp2_with fail
  go_ret2
  exact⟨qam (qax ⟨HT.o.1,fun h=>HT.o.2 (qlW.2 h),rfl⟩),HB.o⟩
 obtain⟨aA,aB⟩:=qlW.1 hL;have bg:R<=40:=by have:=hT.r2;have:=E.o.2.1;omega
 have bi:1<=R:=by have:=hT.r1;have:=E.o.2.1;omega
 have aW:=E.o.1.addr (by have:=E.o.2.1;omega);subst aW;obtain⟨n,hn⟩:=qX (wid t);have aK:n<=10:=by have:=hT.c2;omega
 have aZ:1<=n:=by have:=hT.c1;omega
 have H:=qH (qA hT (qA aA (qA aB hn)));clear hT hL aA aB hn;have bad:∀(W:World),Below w.heap.size w W->¬(bl.length=t.length/\wl.length=t.length/\¬Neg wl)->qgq w t bl wl (.returned (.tuple #[.slice none 0 0,.int .i64 2])) W:=fun W h hn=>⟨qam (qam (qax ⟨H.o.1,H.o.2.1,H.o.2.2.1,hn,rfl⟩)),h⟩
 have ag:=qH bad;clear bad
 by_cases e1:m=R
 case neg =>
  have aU:((m:Int) != (R:Int))=true:=by rw [bne_iff_ne];omega
  have HE:=qH (ag.o _ HB.o (fun h=>e1 (by rw [<-E.o.2.2.2.1,h.1,E.o.2.1])));clear e1;go_wp2_with fail
  go_ret2
  exact HE.o
 have aU:((m:Int) != (R:Int))=false:=by simp [e1]
 by_cases e2:q=R
 case neg =>
  have aV:((q:Int) != (R:Int))=true:=by rw [bne_iff_ne];omega
  have HE:=qH (ag.o _ HB.o (fun h=>e2 (by rw [<-E.o.2.2.2.2.2.1,h.2.1,E.o.2.1])));clear e2 e1;go_wp2_with fail
  go_ret2
  exact HE.o
 have aV:((q:Int) != (R:Int))=false:=by simp [e2]
 have He:=qH (qA e1 e2);have aC:=E.o.2.2.1.addr (by have:=E.o.2.2.2.1;omega);subst aC;have aD:=E.o.2.2.2.2.1.addr (by have:=E.o.2.2.2.2.2.1;omega);subst aD;have aL:=qf9 (some ⟨b3,G,none⟩) b3 G q c3 wl w2 E.o.2.2.2.2.2.1 (by omega) (E.o.2.2.2.2.1.below HB.o) H.o.2.2.1;have HN:=qH aL;have bf:(q:Int)<=R:=by omega
 clear e1 e2 aL;go_wp2_with fail;refine HN.o.mono ?_;rintro e w3 ⟨x,rfl,hx,aG⟩;have F:=qH (HB.o.trans (aG.mono HB.o.size));clear aG;cases x with
 | true =>
  have HE:=qH (ag.o _ F.o (fun h=>h.2.2 (hx.1 rfl)));clear hx;go_wp2_with fail
  go_ret2
  exact HE.o
 | false =>
  have au:¬Neg wl:=fun h=>by have:=hx.2 h;cases this
  have aM:=qlq b av c t b2 af c2 bl b3 G c3 wl R n w3 H.o.1 E.o.2.1 H.o.2.2.2 (E.o.1.below F.o) H.o.2.1 (by rw [E.o.2.2.2.1];exact He.o.1) (E.o.2.2.1.below F.o) H.o.2.2.1 (by rw [E.o.2.2.2.2.2.1];exact He.o.2) (E.o.2.2.2.2.1.below F.o) au;have aY:(m:Int)=R:=by have:=He.o.1;omega
  have aN:(q:Int)=R:=by have:=He.o.2;omega
  obtain rfl:m=R:=He.o.1;obtain rfl:q=m:=He.o.2;have aS:=qH aM;have aT:=qH au;clear hx aM au aY aN bf;go_wp2_with fail;refine aS.o.mono ?_;rintro e w4 ⟨tb,gs,M,Z,rfl,aH,aR,hZ,ah,O,aa⟩;have J:=F.o.trans (aH.mono F.o.size);have aQ:=qnD tb n 63440 gs M w4 aZ aK (by omega) (by omega) ah (fun i hi=>by
   obtain⟨ps,_,h,_⟩:=ah.rows i hi;exact (qG h.1).1) (fun i hi j hj=>aa i hi j hj) (E.o.2.2.2.2.2.2.below J)
  have HS:=qH aQ;have ai:(Z:Rat)≠0:=by have:=qbo hZ;exact_mod_cast this
  have hA:∀i,i<n->∀j,j<n->castM M i j=(Z:Rat)*normQ t bl wl q i j:=fun i hi j hj=>O i hi j (by omega)
  have az:∀i,i<n->castM M i n=(Z:Rat)*normQ t bl wl q i n:=fun i hi=>O i hi n (by omega)
  have aP:=Sing.scale (fun _=>(Z:Rat)) (fun _ _=>ai) hA;have ae:∀x,qcO n (castM M) (fun i=>castM M i n) x->qcO n (normQ t bl wl q) (fun r=>normQ t bl wl q r n) x:=fun x hx=>qcO.scale (fun _=>(Z:Rat)) (fun _ _=>ai) hA az hx
  have HZ:=qH (qA aP (qA ae (qA J (qal F.o.size aR))));clear aQ aH aR hZ ah O aa ai hA az aP ae J;go_wp2_with fail;refine HS.o.mono ?_;rintro e w5 ⟨aJ,h5⟩;have aI:=qec HZ.o.2.2.1 aJ HZ.o.2.2.2;have ax:qgq w t bl wl e w5:=by
   refine⟨qam (qam (qam ⟨H.o.1,H.o.2.1,H.o.2.2.1,by rw [E.o.2.2.2.1,E.o.2.1],by rw [E.o.2.2.2.2.2.1,E.o.2.1],aT.o,?_⟩)),aI⟩;rw [E.o.2.1,H.o.2.2.2];rcases h5 with ⟨h,e⟩ | ⟨h,x,hx,ht⟩
   ·exact qax ⟨HZ.o.1.1 h,e⟩
   ·exact qam ⟨fun hs=>h (HZ.o.1.2 hs),x,HZ.o.2.1 x hx,ht⟩
  have HF:=qH ax;clear ax aI aJ;rcases h5 with ⟨_,rfl⟩ | ⟨_,x,_,⟨_,g,rfl,_⟩ | ⟨_,rfl⟩⟩
  all_goals
   go_wp2_with fail
   go_ret2
   exact HF.o
theorem qm2 (p1 p2 g1 g2 n1 n2 j:Nat) (m1 m2:Nat->Int) (K J:Nat) (ai:K+J<=274877906944) (w:World)
  (h1:w.cell? ⟨p1,0,none⟩=some (rowv g1 n1)) (h2:w.cell? ⟨p2,0,none⟩=some (rowv g2 n2)) (h3:qcm w g1 n1 m1) (h4:qcm w g2 n2 m2) (aj:j<n1) (ak:j<n2) (_hn1:n1<=1048576) (_hn2:n2<=1048576) (aa:Fit (m1 j).natAbs K) (ae:Fit (m2 j).natAbs J) :
  Calls prog 152 #[.int .i64 j,.pointer (some ⟨p1,0,none⟩),.pointer (some ⟨p2,0,none⟩)] w fun e w'=>∃u,e=.returned u/\Below w.heap.size w w'/\IntAt w' u (m1 j*m2 j):=by
 obtain⟨G,U⟩:=qY (w.alloc (.cells #[.slice none 0 0,.bool false] 217));have F:Below w.heap.size w G:=U▸qbY qB qN;have ag:G.heap[w.heap.size]? = some (.cells #[.slice none 0 0,.bool false] 217 (0,0)):=by rw [U];exact qM _ _ _ rfl
 have af:qcj G w.heap.size 0:=⟨_,_,_,_,ag,_,rfl,MagAt.nil _⟩;obtain⟨a2,l2,c2,b2,q0,q1,i2⟩:=h3.pair aj;obtain⟨a3,l3,c3,b3,q2,q3,i3⟩:=h4.pair ak;have E:∀(p:Addr) (v:Value),w.cell? p=some v->∀W,G.grownBy W (some w.heap.size)->W.cell? p=some v:=fun p v h W hg=>by
  have V:=qac w _ h;exact (qd5 hg (qak V F.size) (Nat.ne_of_lt V)).trans ((F.cell V).trans h)
 have C1:=E _ _ h1;have C2:=E _ _ h2;have C3:=E _ _ q0;have C4:=E _ _ q1;have C5:=E _ _ q2;have C6:=E _ _ q3;have av:(j:Int)<n1:=by omega
 have ax:(j:Int)<n2:=by omega
 have ah:=qH (fun W (h:Below G.heap.size G W)=>qcJ (m1 j) (m2 j) K J ai _ _ W (i2.below (F.trans (h.mono F.size))) (i3.below (F.trans (h.mono F.size))) aa ae);have O:=qH (qA F af);have au:Below G.heap.size G G:=Below.refl _ _;have I:Below G.heap.size G G.drew:=au.drew;clear E h1 h2 h3 h4 q0 q1 q2 q3 i2 i3 aa ae F ag af;go_enter func152,ntmps152;go_wp2_with fail;rw [<-U];clear U
 go_region_held3 (fun W=>G.grownBy W (some w.heap.size)) (first | with_reducible exact qcs _ _ | with_reducible exact qb6 _ I | with_reducible exact qb6 _ H | exact qbX (qbX (qb6 _ H) (qb0 _ _ _ _)) (qb0 _ _ _ _)) (first | (go_at_call 153;refine (ah.o _ I).mono ?_;rintro e w6 ⟨u6,rfl,Z,Y⟩;have H:Below G.heap.size G w6:=bjoin I Z;obtain⟨a6,n6,c6,b6,rfl⟩:=qbZ Y;obtain⟨_,_,_,_,⟨z0,z1⟩,⟨f0,f1⟩,_⟩:=(O.o.2.below H).cells;have HX:=qH ((O.o.2.below H).row2 Y);clear Z Y))
 all_goals go_wp2_with fail
 all_goals exact qR (v:=.agg #[.slice a6 n6 c6,.bool b6]) (rA_ rfl w.heap.size HX.o.1 underlying217 2) rfl ⟨_,rfl,((O.o.1.trans (H.mono O.o.1.size)).setCell (p:=⟨w.heap.size,0,none⟩) qN _).setCell (p:=⟨w.heap.size,1,none⟩) qN _,HX.o.2⟩
def resQ (t:Tbl) (bl E:List FT) (n i:Nat):Rat:=sumQ n (fun j=>tval t i j*lval E j)-lval bl i
def measQ (t:Tbl) (bl wl E:List FT) (n R:Nat):Rat:=sumQ R fun i=>lval wl i*(resQ t bl E n i*resQ t bl E n i)
def mval2 (t:Tbl) (bl E:List FT) (n i:Nat):Int:=isum (fun j=>ftop (besides t bl i) j*ftop E j) n + -(ftop (besides t bl i) n*((flcd E:Nat):Int))
theorem qm3 {t:Tbl} {bl E:List FT} {n i:Nat} (F:FAll (besides t bl i)) (U:(besides t bl i).length=n+1) (I:(t.getD i []).length=n) (hx:FAll E) (J:E.length=n) :
  ((mval2 t bl E n i:Int):Rat)=(flcd (besides t bl i):Rat)*(flcd E:Rat)*resQ t bl E n i:=by
 unfold mval2 resQ
 push_cast
 rw [qgC,qfm F (by omega)];have G:sumQ n (fun p=>(((ftop (besides t bl i) p*ftop E p:Int)):Rat))=(flcd (besides t bl i):Rat)*(flcd E:Rat)*sumQ n (fun j=>tval t i j*lval E j):=by
  rw [<-qcr];refine qb4 fun j O=>?_
  push_cast
  rw [qfm F (by omega),qfm hx (by omega)];have:lval (besides t bl i) j=tval t i j:=qgH (by omega);rw [this];grind
 have H:lval (besides t bl i) n=lval bl i:=by
  have:=qgG (l:=t.getD i []) (x:=bl.getD i fd0);rw [I] at this;exact this
 rw [G,H];grind
theorem qfx {t:Tbl} {bl E:List FT} {n i:Nat} (I:FAll (besides t bl i)) (U:(besides t bl i).length=n+1) (V:n<=10) (hx:FAll E) (J:E.length=n) :
  Fit (isum (fun j=>ftop (besides t bl i) j*ftop E j) n).natAbs 1621/\Fit (ftop (besides t bl i) n*((flcd E:Nat):Int)).natAbs 1543/\Fit (mval2 t bl E n i).natAbs 1622:=by
 have F:Fit (isum (fun j=>ftop (besides t bl i) j*ftop E j) n).natAbs 1621:=(qfr _ 1610 n (fun j O=>by
  rw [qaK];exact ((qdc I (m:=11) (by omega) (by omega)).mul (qdc hx (m:=11) (by omega) (by omega))).mono (by omega))).mono (by omega)
 have G:Fit (ftop (besides t bl i) n*((flcd E:Nat):Int)).natAbs 1543:=by
  rw [qaK,qar];exact ((qdc I (m:=11) (by omega) (by omega)).mul (qfl hx (m:=11) (by omega))).mono (by omega)
 refine⟨F,G,?_⟩;unfold mval2;have H:=G.mono (show 1543<=1621 by omega);rw [<-qbv] at H;exact (F.add H).le (Int.natAbs_add_le _ _)
theorem qiF {a b:Nat} (H:0<a) (I:0<b):a*(a.lcm b / a)=a.lcm b/\b*(a.lcm b / b)=a.lcm b/\a.lcm b / a<=b/\a.lcm b / b<=a:=by
 have F:=Nat.mul_div_cancel' (Nat.dvd_lcm_left a b);have G:=Nat.mul_div_cancel' (Nat.dvd_lcm_right a b);have E:a.lcm b<=a*b:=qbT (qbW H I) (Nat.lcm_dvd_mul _ _);refine⟨F,G,?_,?_⟩
 ·exact Nat.div_le_of_le_mul E
 ·exact Nat.div_le_of_le_mul (by rw [qat];exact E)
theorem Fit.zero (K:Nat):Fit 0 K:=Nat.pow_pos (by decide)
structure MSt (t:Tbl) (bl wl xl:List FT) (n i:Nat) (T:Int) (D:Nat):Prop where
 pos:0<D
 val:(T:Rat)=(D:Rat)*((flcd xl:Rat)*(flcd xl:Rat))*measQ t bl wl xl n i
 fitD:Fit D (1543*i+1)
 fitT:Fit T.natAbs (3400+1545*i)
theorem MSt.start (t:Tbl) (bl wl E:List FT) (n:Nat):MSt t bl wl E n 0 0 1:=⟨by decide,by simp [measQ,sumQ],by show 1<1000000000 ^ (1543*0+1);decide,Fit.zero _⟩
theorem MSt.skip {t:Tbl} {bl wl E:List FT} {n i:Nat} {T:Int} {D:Nat} (h:MSt t bl wl E n i T D) (F:wnum wl i=0):MSt t bl wl E n (i+1) T D:=by
 refine⟨h.pos,?_,h.fitD.mono (by omega),h.fitT.mono (by omega)⟩;rw [h.val]
 congr 1
 show measQ t bl wl E n i=measQ t bl wl E n i+lval wl i*_
 rw [qiI F];grind
theorem MSt.next {t:Tbl} {bl wl G:List FT} {n i:Nat} {T:Int} {D:Nat} (h:MSt t bl wl G n i T D) (hr:NRow t bl wl i) (O:(besides t bl i).length=n+1) (ht:(t.getD i []).length=n) (hx:FAll G) (I:G.length=n) (hn:n<=10) :
  MSt t bl wl G n (i+1) (T*((D.lcm (wdn t bl wl i) / D:Nat):Int)+((wnum wl i:Nat):Int)*mval2 t bl G n i*mval2 t bl G n i*((D.lcm (wdn t bl wl i) / wdn t bl wl i:Nat):Int)) (D.lcm (wdn t bl wl i)):=by
 obtain⟨p1,p2,p3,p4⟩:=qiF h.pos hr.d.1;have hv:=qm3 hr.fa O ht hx I;have H:=(qfx hr.fa O hn hx I).2.2;refine⟨Nat.lcm_pos h.pos hr.d.1,?_,?_,?_⟩
 ·have q1:(D:Rat)*((D.lcm (wdn t bl wl i) / D:Nat):Rat)=(D.lcm (wdn t bl wl i):Rat):=by exact_mod_cast p1
  have V:((wdn t bl wl i:Nat):Rat)*((D.lcm (wdn t bl wl i) / wdn t bl wl i:Nat):Rat)=(D.lcm (wdn t bl wl i):Rat):=by exact_mod_cast p2
  have hd:((wdn t bl wl i:Nat):Rat)=(fden (wl.getD i fd0):Rat)*(flcd (besides t bl i):Rat)*(flcd (besides t bl i):Rat):=by unfold wdn;push_cast;rfl
  have J:(wnum wl i:Rat)=lval wl i*(fden (wl.getD i fd0):Rat):=by
   unfold lval;rw [qhR];have:(ival (wl.getD i fd0).1.data.toList:Int)=(wnum wl i:Int):=by have:=hr.nn;unfold wnum;omega
   have hne:((fden (wl.getD i fd0):Nat):Rat)≠0:=by have:=qbo hr.wd.1;exact_mod_cast this
   rw [this]
   show (wnum wl i:Rat)=(wnum wl i:Rat) / ((fden (wl.getD i fd0):Nat):Rat)*_
   grind
  show _=_*(measQ t bl wl G n i+lval wl i*(resQ t bl G n i*resQ t bl G n i))
  rw [hd] at V;clear p1 p2 p3 p4;generalize D.lcm (wdn t bl wl i) / D=A at *;generalize D.lcm (wdn t bl wl i) / wdn t bl wl i=B at *
  push_cast
  rw [h.val,hv];generalize ((D.lcm (wdn t bl wl i):Nat):Rat)=L at *;generalize ((flcd (besides t bl i):Nat):Rat)=F at *;generalize ((flcd G:Nat):Rat)=U at *;generalize ((fden (wl.getD i fd0):Nat):Rat)=E at *;generalize resQ t bl G n i=r at *;generalize measQ t bl wl G n i=M at *;generalize lval wl i=l at *;rw [J];have Y:(D:Rat)*(U*U)*M*A=L*(U*U)*M:=by rw [<-q1];grind
  have Z:l*E*(F*U*r)*(F*U*r)*B=L*(U*U)*(l*(r*r)):=by rw [<-V];grind
  rw [Y,Z];grind
 ·exact ((h.fitD.mul hr.d.2).le (qbT (qbW h.pos hr.d.1) (Nat.lcm_dvd_mul _ _))).mono (by omega)
 ·have f1:Fit (T*((D.lcm (wdn t bl wl i) / D:Nat):Int)).natAbs (3400+1545*i+1543):=by
   rw [qaK,qar];exact h.fitT.mul (hr.d.2.le p3)
  have f2:Fit (((wnum wl i:Nat):Int)*mval2 t bl G n i*mval2 t bl G n i*((D.lcm (wdn t bl wl i) / wdn t bl wl i:Nat):Int)).natAbs (67+1622+1622+(1543*i+1)):=by
   rw [qaK,qaK,qaK,qar,qar];exact ((hr.wn.mul H).mul H).mul (h.fitD.le p4)
  exact (((f1.mono (show _<=3400+1545*i+1544 by omega)).add (f2.mono (show _<=3400+1545*i+1544 by omega))).le (Int.natAbs_add_le _ _)).mono (by omega)
open Go.Lib
theorem qhT (x:Nat):itxt (x:Int)=decDigits x:=by
 unfold itxt;rw [if_neg (by omega),qar]
theorem qeh {q:Rat} (h:Short q):FOk (ftxt q).1.data.toList (ftxt q).2.data.toList:=by
 obtain⟨E,F⟩:=h;rw [qdG] at E F;have H:(ftxt q).2.data.toList=itxt (q.den:Int):=(qhT q.den).symm;have G:(ftxt q).1.data.toList=itxt q.num:=rfl;have I:=q.den_pos;rw [G,H];refine⟨qfX E,qfX (by rw [qar];exact F),?_,?_⟩
 ·rw [qdP];omega
 ·rw [qdP,qdP,qar];exact q.reduced
theorem qdw (q:Rat):fval (ftxt q).1.data.toList (ftxt q).2.data.toList=q:=by
 have F:(ftxt q).2.data.toList=itxt (q.den:Int):=(qhT q.den).symm;have E:(ftxt q).1.data.toList=itxt q.num:=rfl;rw [E,F];unfold fval;rw [qdP,qdP,qar];exact Rat.mkRat_self q
theorem qdr {n:Nat} {x:Nat->Rat} {i:Nat} (E:i<n):(told n x).getD i fd0=ftxt (x i):=by
 unfold told;rw [qaa,qaN,qbG E];rfl
theorem qcU {n:Nat} {x:Nat->Rat} {i:Nat} (E:i<n):lval (told n x) i=x i:=by
 unfold lval;rw [qdr E,qdw]
theorem qc2 {n:Nat} {x:Nat->Rat} (h:qb3 n x):FAll (told n x):=fun k E=>by
 rw [qb1] at E;rw [qdr E];exact qeh (h k E)
theorem qdL {n:Nat} {x y:Nat->Rat} (h:∀i,i<n->x i=y i):told n x=told n y:=by
 unfold told;exact List.map_congr_left fun i E=>by rw [h i (qas.1 E)]
theorem qb3.congr {n:Nat} {x y:Nat->Rat} (h:qb3 n x) (e:∀i,i<n->x i=y i):qb3 n y:=fun i E=>by rw [<-e i E];exact h i E
def ttab (n m:Nat) (f:Nat->Nat->Rat):Tbl:=(List.range n).map fun i=>told m (f i)
theorem qcS (n m:Nat) (f:Nat->Nat->Rat):(ttab n m f).length=n:=by unfold ttab;rw [qaD,qbs]
theorem qeD {n m:Nat} {f:Nat->Nat->Rat} {i:Nat} (E:i<n):(ttab n m f).getD i []=told m (f i):=by
 unfold ttab;rw [qaa,qaN,qbG E];rfl
theorem qeT {n m:Nat} {f:Nat->Nat->Rat} (h:0<n):wid (ttab n m f)=m:=by unfold wid;rw [qeD h,qb1]
theorem qnX {n m:Nat} {f:Nat->Nat->Rat} (E:1<=n) (G:n<=40) (H:1<=m) (I:m<=10) (h:∀i,i<n->qb3 m (f i)):TOk (ttab n m f):=by
 refine⟨by rw [qcS];exact E,by rw [qcS];exact G,by rw [qeT E];exact H,by rw [qeT E];exact I,fun k F=>?_⟩;rw [qcS] at F;rw [qeT E,qeD F,qb1];exact⟨rfl,qc2 (h k F)⟩
theorem ttab_val {n m:Nat} {f:Nat->Nat->Rat} {i j:Nat} (E:i<n) (F:j<m):tval (ttab n m f) i j=f i j:=by
 unfold tval;rw [qeD E,qcU F]
def Rb (q:Rat) (N:Nat):Prop:=q.num.natAbs<=N/\q.den<=N
theorem qhE {q:Rat} {p z:Int} {N:Nat} (J:z≠0) (I:p.natAbs<=N) (E:z.natAbs<=N) (h:q=(p:Rat) / z):Rb q N:=by
 have e:q=Rat.divInt p z:=by rw [h,Rat.divInt_eq_div]
 have hg:0<p.natAbs.gcd z.natAbs:=qba _ (by omega);obtain⟨F,G⟩:=qjY p z J;rw [<-e] at F G;have H:q.num.natAbs=p.natAbs / p.natAbs.gcd z.natAbs:=by
  rw [F];generalize p.natAbs / p.natAbs.gcd z.natAbs=A;split <;> omega
 exact⟨by rw [H];exact qal (qaV _ _) I,by rw [G];exact qal (qaV _ _) E⟩
theorem qet {x k:Nat} (E:0<k) (h:x<10 ^ k):(num x).size<=k:=by rw [qdG];exact qcw k x E h
theorem qdu {q:Rat} {N:Nat} (h:Rb q N) (hN:N<10 ^ 600):Short q :=
 ⟨qet (by decide) (qaQ h.1 hN),qet (by decide) (qaQ h.2 hN)⟩
theorem itoa_int (z:Int) (F:-9223372036854775808<=z) (G:z<=9223372036854775807) (w:World) (hT:HasT w) :
  Calls prog 124 #[.int .i64 z] w fun e E=>e=.returned (.string (qcb z))/\Below w.heap.size w E:=by
 refine (Tryz.strconv_Itoa z F G w hT).mono ?_;rintro e E ⟨rfl,k,os,rfl⟩;refine⟨?_,Lib.below_grow _ _ qN _ _⟩;have:Lib.itoa z=itxt z:=by
  unfold Lib.itoa itxt
  by_cases h:z<0
  ·rw [if_pos h,if_pos h]
   try (first | rfl | (congr 2;omega) | (congr 1;omega))
  ·rw [if_neg h,if_neg h]
   try (first | rfl | (congr 1;omega))
 rw [this];rfl
theorem qn0 (z:Int) (E:-9223372036854775808<=z) (F:z<=9223372036854775807) (w:World) (hT:HasT w) :
  Calls prog 75 #[.int .i64 z] w fun e J=>e=.returned (.string (qcb z))/\Below w.heap.size w J:=by
 have I:=qH (itoa_int z E F w hT);clear E F hT;go_enter func75,ntmps75;go_wp2_with fail;refine I.o.mono ?_;rintro e O ⟨rfl,G⟩;have H:=qH G;clear G;go_wp2;go_ret;exact⟨rfl,H.o⟩
theorem red_val {z:Int} {d:Nat} (E:0<d) {q:Rat} (U:q=mkRat z d):q.num=(if decide (z<0)=true then -((z.natAbs / z.natAbs.gcd d:Nat):Int) else ((z.natAbs / z.natAbs.gcd d:Nat):Int))/\q.den=d / z.natAbs.gcd d:=by
 have hg:0<z.natAbs.gcd d:=qba _ E;have O:d / z.natAbs.gcd d≠0:=qbo (Nat.div_pos (qbT E (qaZ _ _)) hg);have I:(z.natAbs / z.natAbs.gcd d)*z.natAbs.gcd d=z.natAbs:=Nat.div_mul_cancel (qbN _ _);have J:(d / z.natAbs.gcd d)*z.natAbs.gcd d=d:=Nat.div_mul_cancel (qaZ _ _);have F:(z.natAbs / z.natAbs.gcd d).Coprime (d / z.natAbs.gcd d):=Nat.coprime_div_gcd_div_gcd hg;generalize z.natAbs.gcd d=g at *;generalize V:z.natAbs / g=A at *;generalize Y:d / g=D at *;have G:((A:Nat):Int)*(d:Int)=((z.natAbs:Nat):Int)*(D:Int):=by
  rw [<-I,<-J];push_cast;rw [qbD,qbm (D:Int)]
 refine qi5 O ?_ (qbo E) ?_ U
 ·split
  ·rw [qbv,qar];exact F
  ·rw [qar];exact F
 ·by_cases H:z<0
  ·rw [if_pos (by simpa using H),qbI,G,show ((z.natAbs:Nat):Int) = -z by omega,qbI,Int.neg_neg]
  ·rw [if_neg (by simpa using H),G,show ((z.natAbs:Nat):Int)=z by omega]
theorem qdQ {W:World} {v:Value} {x:Nat} (h:MagAt W v x):∃(a:Option Addr) (n c:Nat),v=.slice a n c:=by
 obtain⟨a,b,o,c,n,L,rfl,_⟩:=h;exact⟨a,n,c,rfl⟩
theorem qjZ (z:Int) (d K:Nat) (hK:K<=137438953472) (v vm:Value) (w:World) (hv:IntAt w v z) (hm:MagAt w vm d) (hz:Fit z.natAbs K) (hd:Fit d K) (h0:0<d) :
  Calls prog 122 #[v,vm] w fun e w'=>∃u,e=.returned u/\Below w.heap.size w w'/\RatV w' u (mkRat z d):=by
 obtain⟨m,rfl,af⟩:=hv;obtain⟨am,nm,cm,rfl⟩:=qdQ af;obtain⟨ad,nd,cd,rfl⟩:=qdQ hm;have V:=red_val h0 (q:=mkRat z d) rfl;have hg:0<z.natAbs.gcd d:=qba _ h0;have ay:Fit (z.natAbs.gcd d) K:=hd.le (qbT h0 (qaZ _ _));obtain⟨b0,Y⟩:=qX (decide (z<0));rw [Y] at V;have HV:=qH (qA V Y);rw [Y];obtain⟨W1,H⟩:=qY ((w.alloc (.cells #[.slice am nm cm,.bool b0] 125)).alloc (.cells #[.slice none 0 0,.bool false,.slice none 0 0] 127));have Z:Below w.heap.size w W1:=H▸qbY (qbY qB qN) qN;have az:W1.heap[w.heap.size]? = some (.cells #[.slice am nm cm,.bool b0] 125 (0,0)):=by rw [H,qL _ _ _ (by simp only [qab];omega)];exact qM _ _ _ rfl
 have aA:W1.heap[w.heap.size+1]? = some (.cells #[.slice none 0 0,.bool false,.slice none 0 0] 127 (0,0)):=by rw [H];exact qM _ _ _ (by simp)
 have H1:=qH (qA Z (qA az aA));have HM:=qH (qA af hm);have HF:=qH (qA hz (qA hd (qA hg ay)));have HK:=qH hK;have HG:=qH ((qcZ .f) z.natAbs d K hK _ _ W1 (af.below Z) (hm.below Z) hz hd);clear V Y af hm hz hd hg ay hK Z az aA h0;go_enter func122,ntmps122;go_wp2_with fail;rw [<-H];clear H;refine HG.o.mono ?_;rintro e w2 ⟨vg,rfl,aa,ah⟩;obtain⟨ag,ng,cg,rfl⟩:=qdQ ah;have I:=H1.o.1.trans (aa.mono H1.o.1.size);have H2:=qH (qA I (qA (zkeep aa _ _ H1.o.2.1) (zkeep aa _ _ H1.o.2.2)));have HD:=qH ((qb5 .f) z.natAbs (z.natAbs.gcd d) K HK.o _ _ w2 (HM.o.1.below I) ah HF.o.1 HF.o.2.2.2 HF.o.2.2.1);have aD:=qH ah;have k0:=qC w2 _ 0 _ _ _ H2.o.2.1;clear aa ah I;go_wp2_with fail;refine HD.o.mono ?_;rintro e w3 ⟨q,r,rfl,O,hq,hr⟩;obtain⟨aq,nq,cq,rfl⟩:=qdQ hq;obtain⟨ar,nr,cr,rfl⟩:=qdQ hr;have J:=H2.o.1.trans (O.mono H2.o.1.size);have H3:=qH (qA J (qA (zkeep O _ _ H2.o.2.1) (zkeep O _ _ H2.o.2.2)));have HQ:=qH hq;have HE:=qH ((qb5 .f) d (z.natAbs.gcd d) K HK.o _ _ w3 (HM.o.2.below J) (aD.o.below O) HF.o.2.1 HF.o.2.2.2 HF.o.2.2.1);clear O hq hr J k0;go_wp2_with fail;refine HE.o.mono ?_;rintro e w4 ⟨q2,r2,rfl,U,av,aB⟩;obtain⟨E,G,F,rfl⟩:=qdQ av;obtain⟨aF,aH,aG,rfl⟩:=qdQ aB;have ai:=H3.o.1.trans (U.mono H3.o.1.size);have H4:=qH (qA ai (qA (zkeep U _ _ H3.o.2.1) (zkeep U _ _ H3.o.2.2)));have aC:=qH av;have HS:=qH ((qcf .f) _ b0 _ w4 (HQ.o.below U));have k1:=qC w4 _ 1 _ _ _ H4.o.2.1;clear U av aB ai;go_wp2_with fail;refine HS.o.mono ?_;rintro e w5 ⟨u,rfl,ae,hu⟩;obtain⟨au,nu,cu,bu,rfl⟩:=qbZ hu;have ax:=zkeep ae _ _ H4.o.2.2;have aj:=H4.o.1.trans (ae.mono H4.o.1.size);have ak:RatV (w5.setRow (w.heap.size+1) #[.slice au nu cu,.bool bu,.slice E G F]) (.agg #[.slice au nu cu,.bool bu,.slice E G F]) (mkRat z d):=by
  refine qfV (W:=w5) (cs':=#[.slice au nu cu,.bool bu,.slice E G F]) ?_ ax;unfold RatV;rw [HV.o.1.1,HV.o.1.2];obtain⟨m',e1,e2⟩:=hu;simp only [qaY,qa5,qaW] at e1;obtain⟨rfl,e3,_⟩:=e1;rw [e3];exact⟨_,_,rfl,e2,aC.o.below ae⟩
 have H5:=qH (qA ax (qA (qS aj (show w.heap.size<=w.heap.size+1 by omega) #[.slice au nu cu,.bool bu,.slice E G F]) ak));clear ae ax aj ak hu k1
 go_wp2_with ((with_reducible refine sR_ rfl 127 _ _ rfl (w.heap.size+1) #[.slice au nu cu,.bool bu,.slice E G F] H5.o.1 3 ?_))
 exact qR (v:=.agg #[.slice au nu cu,.bool bu,.slice E G F]) (rA_ rfl (w.heap.size+1) (qT _ _ _ _ _ _ H5.o.1) underlying127 3) rfl ⟨_,rfl,H5.o.2.1,H5.o.2.2⟩
theorem qhK {z:Int} (h:z.natAbs<10 ^ 600):Valid (qcb z).data.toList:=qfX (by have:=qet (x:=z.natAbs) (k:=600) (by decide) h;rw [qdG] at this;exact this)
theorem qjn (z:Int):ival (qcb z).data.toList=z:=qdP z
theorem qfk {x:Nat} (h:x<1000000000000000000000000000):Fit x 3:=by unfold Fit;exact h
def Cd (q:Rat) (D N:Nat):Prop:=∃p:Int,q=(p:Rat) / (D:Rat)/\p.natAbs<=N
theorem Cd.rb {q:Rat} {D N M:Nat} (h:Cd q D N) (E:D≠0) (hN:N<=M) (F:D<=M):Rb q M:=by
 obtain⟨p,e,G⟩:=h;refine qhE (p:=p) (z:=(D:Int)) (by omega) (by omega) (by omega) ?_;rw [e];rfl
theorem Cd.short {q:Rat} {D N:Nat} (h:Cd q D N) (E:D≠0) (hN:N<10 ^ 600) (F:D<10 ^ 600):Short q :=
 qdu (h.rb E (Nat.le_max_left N D) (Nat.le_max_right N D)) (by omega)
theorem qfR {D:Nat} (E:D≠0):(D:Rat)≠0:=by exact_mod_cast E
theorem Cd.mul {p q:Rat} {D E N M:Nat} (h:Cd p D N) (k:Cd q E M) (F:D≠0) (hE:E≠0):Cd (p*q) (D*E) (N*M):=by
 obtain⟨a,e,G⟩:=h;obtain⟨b,e2,H⟩:=k;refine⟨a*b,?_,by rw [qaK];exact Nat.mul_le_mul G H⟩;have I:=qfR F;have J:=qfR hE;rw [e,e2];push_cast;grind
theorem Cd.up {p:Rat} {D N:Nat} (h:Cd p D N) (k:Nat) (E:D≠0) (G:k≠0):Cd p (D*k) (N*k):=by
 obtain⟨a,e,F⟩:=h;have H:=qfR E;have I:=qfR G;refine⟨a*k,?_,by rw [qaK,qar];exact Nat.mul_le_mul F qN⟩;rw [e];push_cast;grind
theorem qeV.at {d:List Int} (h:qeV d) (k:Nat):0<=d.getD k 0/\d.getD k 0<=10000:=by
 by_cases E:k<d.length
 ·exact h k E
 ·rw [qaa,qaO (by omega)];exact⟨by decide,by decide⟩
theorem dq_cd {d:List Int} (h:qeV d) (k:Nat):Cd (dq d k) 10000 10000:=by
 have:=h.at k;exact⟨d.getD k 0,rfl,by omega⟩
theorem qfD {d:List Int} {E:Nat} (hE:E≠0) (h:∀k,Cd (dq d k) E E):∀n,∀p∈prods d n,Cd p (E ^ n) (E ^ n)
 | 0,p,hp=>by
  obtain rfl:p=1:=by simpa [prods] using hp
  exact⟨1,by show (1:Rat)=((1:Int):Rat) / ((1:Nat):Rat);rw [show ((1:Int):Rat)=1 from rfl,show ((1:Nat):Rat)=1 from rfl];grind,qae 1⟩
 | n+1,p,hp=>by
  have F:E ^ n≠0:=qbo (Nat.pow_pos (qbg hE));rcases qaI.1 (show p∈prods d n++(prods d n).map fun p=>p*dq d n from hp) with hp | hp
  ·exact (qfD hE h n p hp).up E F hE
  ·obtain⟨q,G,rfl⟩:=qbe.1 hp;exact (qfD hE h n q G).mul (h n) F hE
theorem qkf:10000 ^ 3<10 ^ 600:=by decide +kernel
def thrown (c:Int):Ending:=.panicked [{ v:=.iface 180 (.agg #[.int .i64 c]),recovered:=false }]
def tqf (l:List Pt) (kind:Nat) (i j:Nat):Rat:=termQ kind (l.getD i pt0).dev j
def labq (l:List Pt) (c i:Nat):Rat:=((l.getD i pt0).lab c:Rat) / 100
def wq (E:List Int) (i:Nat):Rat:=((E.getD i 0:Int):Rat)
def WOk (E:List Int):Prop:=∀k,k<E.length->0<=E.getD k 0/\E.getD k 0<=1000
def qdi (kind:Int) (k:Nat):Prop:=kind=(k:Int)/\1<=k/\k<=3
structure Md where
 kind:Int
 inn:Int
 r0:List FT
 r1:List FT
 r2:List FT
def Md.row (m:Md) (c:Nat):List FT:=if c=0 then m.r0 else if c=1 then m.r1 else m.r2
structure MdOk (m:Md) (k n:Nat):Prop where
 kind:qdi m.kind k
 inn:m.inn=(n:Int)/\1<=n/\n<=4
 both:¬(k=3/\n=4)
 rows:∀c,c<3->(m.row c).length=many k n/\FAll (m.row c)
def MdAt (W:World) (v:Value) (m:Md):Prop :=
 ∃(a0 E a2:Option Addr) (F J I G O c1 H U c2:Nat),v=.agg #[.int .i64 m.kind,.int .i64 m.inn,.slice a0 m.r0.length I,.slice E m.r1.length c1,.slice a2 m.r2.length c2]/\FCells W a0 F J m.r0/\FCells W E G O m.r1/\FCells W a2 H U m.r2
theorem MdAt.below {W W':World} {v:Value} {m:Md} (h:MdAt W v m) (E:Below W.heap.size W W'):MdAt W' v m:=by
 obtain⟨a0,a1,a2,b0,o0,c0,b1,o1,c1,b2,o2,c2,rfl,F,G,H⟩:=h;exact⟨a0,a1,a2,b0,o0,c0,b1,o1,c1,b2,o2,c2,rfl,F.below E,G.below E,H.below E⟩
def mdv0:Value:=.agg #[.int .i64 0,.int .i64 0,.slice none 0 0,.slice none 0 0,.slice none 0 0]
def mdq (k n m:Nat) (x:Nat->Nat->Rat):Md:=⟨k,n,told m (x 0),told m (x 1),told m (x 2)⟩
theorem qgJ {k n m:Nat} {x:Nat->Nat->Rat} {c:Nat} (E:c<3):(mdq k n m x).row c=told m (x c):=by
 rcases (show c=0\/c=1\/c=2 by omega) with rfl | rfl | rfl <;> rfl
theorem FAll.eq_told {l:List FT} (h:FAll l):l=told l.length (lval l):=by
 refine List.ext_getElem (by rw [qb1]) fun i F I=>?_
 have G:l[i]=l.getD i fd0:=by rw [qaa,qad F];rfl
 have H:(told l.length (lval l))[i]=ftxt (lval l i):=by
  have:=qdr (x:=lval l) F;rw [qaa,qad I] at this;exact this
 rw [G,H];have E:=h i F;unfold lval;obtain⟨n1,n2⟩:=E.val;have J:=E.vn.eq;have O:=E.vd.eq;refine Prod.ext ?_ ?_
 ·show _=qcb _
  rw [n1];unfold qcb;rw [<-J]
 ·show _=num _
  rw [n2];unfold num;rw [<-qhT,Int.natAbs_of_nonneg (by have:=E.pos;omega),<-O]
theorem FAll.short {l:List FT} (h:FAll l):qb3 l.length (lval l):=fun i J=>by
 have E:=h i J;unfold lval Short;obtain⟨n1,n2⟩:=E.val;rw [n1,n2];have H:=E.vn.le;have I:=E.vd.le;have F:=congrArg body E.vn.eq;have G:=congrArg body E.vd.eq;rw [(qff _).1] at F G;rw [F] at H;rw [G] at I;rw [qdG,qdG];exact⟨H,I⟩
theorem qeR {P:Program} {J:Func} {p q:Tmp} {O F:TypeId} (h:J.results=#[.cell p O,.cell q F]) (E:Array Value) (w:World) (ap G:Addr) (U v2:Value)
  (Z:E.getD p undef=.pointer (some ap)) (hq:E.getD q undef=.pointer (some G)) (V:(loadVar O ap).run P w=.ok U w) (Y:(loadVar F G).run P w=.ok v2 w) :
  (results J E).run P w=.ok (.tuple #[U,v2]) w:=by
 have H:E[p]?.getD undef=.pointer (some ap):=by simpa using Z
 have I:E[q]?.getD undef=.pointer (some G):=by simpa using hq
 simp [results,h,H,I,asAddr,V,Y,Sem.run_bind,Result.andThen]
theorem qeM {P:Program} {F:TypeId} {w:World} {g:Nat} {t:TypeId} {v:Value} (d:TypeDesc) (H:P.underlying F=some d) (I:(match d with | .struct _ | .array _ _=>true | _=>false)=false) (hg:w.heap[g]? = some (.cells #[v] t (0,0))) :
  (loadVar F ⟨g,0,none⟩).run P w=.ok v w:=by
 have G:=qC w g 0 _ _ _ hg;have E:(isAgg F).run P w=.ok false w:=by
  unfold isAgg;rw [Sem.run_bind,run_underlying H w];cases d <;> simp_all
 simp [loadVar,Sem.run_bind,E,G]
theorem qgY {W:World} {g:Nat} {v0:Value} {t:TypeId} (h:W.heap[g]? = some (.cells #[v0] t (0,0))) (v:Value):(W.setCell ⟨g,0,none⟩ v).heap[g]? = some (.cells #[v] t (0,0)):=by
 rw [setCell_eq_setRow W g 0 _ t _ v h];exact qT _ _ _ _ _ _ h
theorem qfc {B g:Nat} {a W:World} (h:Below B a W) (hg:B<=g) (cs:Array Value):Below B a (W.setRow g cs) :=
 h.trans ⟨rfl,rfl,rfl,by simp [World.setRow],fun k E=>setRow_other _ _ _ _ (by omega)⟩
theorem caught {w W:World} {gp gq B:Nat} {J:Array Value} {H I:TypeId} (h:B<=gp/\B<=gq/\gp≠gq) (hB:Below B w W) (Z:W.heap[gp]? = some (.cells J H (0,0))) (hq:W.heap[gq]? = some (.cells #[.int .i64 0] I (0,0))) (c:Int) (o:Obj) :
  (((W.setCell ⟨gq,0,none⟩ (.int .i64 9)).setCell ⟨gq,0,none⟩ (.int .i64 c)).alloc o).heap[gp]? = some (.cells J H (0,0))/\(((W.setCell ⟨gq,0,none⟩ (.int .i64 9)).setCell ⟨gq,0,none⟩ (.int .i64 c)).alloc o).heap[gq]? = some (.cells #[.int .i64 c] I (0,0)) /\
   Below B w (((W.setCell ⟨gq,0,none⟩ (.int .i64 9)).setCell ⟨gq,0,none⟩ (.int .i64 c)).alloc o):=by
 obtain⟨X,E⟩:=qY ((W.setCell ⟨gq,0,none⟩ (.int .i64 9)).setCell ⟨gq,0,none⟩ (.int .i64 c));rw [<-E];have O:X.heap[gq]? = some (.cells #[.int .i64 c] I (0,0)):=E▸qgY (qgY hq _) _;have U:X.heap[gp]? = some (.cells J H (0,0)):=by rw [E,qW _ _ _ _ h.2.2,qW _ _ _ _ h.2.2];exact Z
 have V:Below B w X:=E▸(hB.setCell (p:=⟨gq,0,none⟩) h.2.1 _).setCell (p:=⟨gq,0,none⟩) h.2.1 _;have F:=(qG O).1;have G:=(qG U).1;have hz:B<=X.heap.size:=by have:=h.1;omega
 exact⟨(Below.heap_alloc _ _ _ G).trans U,(Below.heap_alloc _ _ _ F).trans O,V.trans ⟨rfl,rfl,rfl,by simp,fun k Y=>Below.heap_alloc _ _ _ (qak Y hz)⟩⟩
theorem filled {w W X:World} {gp gq B:Nat} {O cs:Array Value} {G J:TypeId} (h:B<=gp/\B<=gq/\gp≠gq) (Y:W.heap[gp]? = some (.cells O G (0,0))) (I:W.heap[gq]? = some (.cells #[.int .i64 0] J (0,0)))
  (U:X.heap[gp]? = some (.cells cs G (0,0))) (H:∀k,k≠gp->X.heap[k]? = W.heap[k]?) (V:Below B w X) :
  (X.setCell ⟨gq,0,none⟩ (.int .i64 0)).heap[gp]? = some (.cells cs G (0,0))/\(X.setCell ⟨gq,0,none⟩ (.int .i64 0)).heap[gq]? = some (.cells #[.int .i64 0] J (0,0))/\Below B w (X.setCell ⟨gq,0,none⟩ (.int .i64 0)) /\
   ((∀b,.string b∉O.toList)->∀a b,W.cell? a=some (.string b)->(X.setCell ⟨gq,0,none⟩ (.int .i64 0)).cell? a=some (.string b)):=by
 have F:=(H gq (fun e=>h.2.2 e.symm)).trans I;refine⟨?_,qgY F _,V.setCell (p:=⟨gq,0,none⟩) h.2.1 _,fun Z a b E=>?_⟩
 ·rw [qW _ _ _ _ h.2.2];exact U
 ·have n1:a.block≠gp:=by
   intro e;unfold World.cell? at E;rw [e,Y] at E;simp only at E;split at E
   ·cases E
   ·exact Z b (by rw [<-Array.mem_def];exact Array.mem_of_getElem? E)
  have n2:a.block≠gq:=by
   intro e;unfold World.cell? at E;rw [e,I] at E;simp only at E;split at E
   ·cases E
   ·have:=Array.mem_of_getElem? E;simp at this
  rw [World.cell?_setCell_far _ _ _ _ (fun e=>n2 e.symm)];unfold World.cell? at E ⊢;rw [H _ n1];exact E
theorem assertM (w:World) (c:Int):(Instr.typeAssert (.iface 180 (.agg #[.int .i64 c])) 20 180 true).run prog w=.ok (.tuple #[.agg #[.int .i64 c],.bool true]) w:=by
 simp [Instr.typeAssert,go_sem]
theorem qjw (p q:Addr) (w:World) :
  CallsD prog 111 #[.pointer (some p),.pointer (some q)] .returning w fun e F G=>e=.returned (.tuple #[])/\F=.returning/\G=w:=by
 refine callsD_of_wpS func111 rfl fun H cs E=>?_
 apply wpS_seq;apply wpS_region;simp [wpOpsS,go_sem,recoverD,E,ntmps111,Exit.thenS,<-List.toArray_replicate,List.replicate];refine wpS_of_wp ?_;go_wp2_with fail;exact⟨rfl,.returning,by rw [<-E],.tuple #[],results_none rfl _ _ _,rfl,rfl,rfl⟩
theorem qkT (gp gq:Nat) (c:Int) (E:List PanicEntry) (w:World) (B:Nat) (hB:B<=gp/\B<=gq/\gp≠gq) (V:w.heap[gp]? = some (.cells #[.int .i64 0,.int .i64 0,.slice none 0 0,.slice none 0 0,.slice none 0 0] 46 (0,0))) (Y:w.heap[gq]? = some (.cells #[.int .i64 0] 31 (0,0))) :
  CallsD prog 111 #[.pointer (some ⟨gp,0,none⟩),.pointer (some ⟨gq,0,none⟩)] (.panicking ({ v:=.iface 180 (.agg #[.int .i64 c]),recovered:=false } :: E)) w fun e u' Z=>e=.returned (.tuple #[])/\u'=.panicking ({ v:=.iface 180 (.agg #[.int .i64 c]),recovered:=true } :: E) /\
   Z.heap[gp]? = some (.cells #[.int .i64 0,.int .i64 0,.slice none 0 0,.slice none 0 0,.slice none 0 0] 46 (0,0))/\Z.heap[gq]? = some (.cells #[.int .i64 c] 31 (0,0))/\Below B w Z:=by
 have J:=(qG V).1;have U:=(qG Y).1;obtain⟨F,I,G⟩:=nw1 w #[.int .i64 0,.int .i64 0,.slice none 0 0,.slice none 0 0,.slice none 0 0] 46;have O:=qH (zkeep G.o.1 _ _ V);have H:(F.setRow gp #[.int .i64 0,.int .i64 0,.slice none 0 0,.slice none 0 0,.slice none 0 0]).heap[gq]? = some (.cells #[.int .i64 0] 31 (0,0)):=(setRow_other _ _ _ _ (fun e=>hB.2.2 e.symm)).trans (zkeep G.o.1 _ _ Y);have cq:=qC (F.setRow gp #[.int .i64 0,.int .i64 0,.slice none 0 0,.slice none 0 0,.slice none 0 0]) _ 0 _ _ _ H;have fq:=qF (F.setRow gp #[.int .i64 0,.int .i64 0,.slice none 0 0,.slice none 0 0,.slice none 0 0]) _ 0 _ _ H;have au:(F.setRow gp #[.int .i64 0,.int .i64 0,.slice none 0 0,.slice none 0 0,.slice none 0 0]).heap.size=F.heap.size:=by simp [World.setRow]
 have aa:gp<F.heap.size:=qak J G.o.1.size;have ae:gq<F.heap.size:=qak U G.o.1.size;have ak:¬gq=F.heap.size:=by omega
 have HE:=qH (caught hB (qfc (G.o.1.mono (qaq (qaQ hB.1 J))) hB.1 #[.int .i64 0,.int .i64 0,.slice none 0 0,.slice none 0 0,.slice none 0 0]) (qT F gp #[.int .i64 0,.int .i64 0,.slice none 0 0,.slice none 0 0,.slice none 0 0] #[.int .i64 0,.int .i64 0,.slice none 0 0,.slice none 0 0,.slice none 0 0] 46 _ O.o) H c (.cells #[.int .i64 c] 180));clear V Y hB H;have av:=assertM;refine callsD_of_wpS func111 rfl fun c₀ cs hu=>?_
 apply wpS_seq;apply wpS_region;simp [wpOpsS,go_sem,recoverD,hu,ntmps111,Exit.thenS,<-List.toArray_replicate,List.replicate];refine wpS_of_wp ?_;go_upto_region 3 with fail;rw [<-I];clear I;have af:=qC F _ 0 _ _ _ G.o.2;have ag:=qC F _ 1 _ _ _ G.o.2;have ah:=qC F _ 2 _ _ _ G.o.2;have ai:=qC F _ 3 _ _ _ G.o.2;have aj:=qC F _ 4 _ _ _ G.o.2
 go_wp2_with ((with_reducible refine sR_ rfl 46 _ _ rfl (gp) #[.int .i64 0,.int .i64 0,.slice none 0 0,.slice none 0 0,.slice none 0 0] O.o 5 ?_))
 refine⟨rfl,.panicking ({ v:=.iface 180 (.agg #[.int .i64 c]),recovered:=true } :: E),rfl,.tuple #[],results_none rfl _ _ _,rfl,rfl,?_⟩;exact HE.o
theorem qim (fc:FuncId) (E:Array Value) (G:World->Value->Prop) (F:Int->Prop) (w:World) (ah:∀W,(callFunc fc E).run prog W=.ok (.enter fc E) W)
  (hG:∀W W' v,(∀a b,W.cell? a=some (.string b)->W'.cell? a=some (.string b))->G W v->G W' v)
  (hf:∀V,Below w.heap.size w V->Calls prog fc E V fun e w'=>Below V.heap.size V w'/\((∃(i0 I:Int) (J:Option Addr) (n0 H:Nat) (O:Option Addr) (n1 c1:Nat) (U:Option Addr) (n2 c2:Nat),e=.returned (.agg #[.int .i64 i0,.int .i64 I,.slice J n0 H,.slice O n1 c1,.slice U n2 c2])/\G w' (.agg #[.int .i64 i0,.int .i64 I,.slice J n0 H,.slice O n1 c1,.slice U n2 c2]))\/∃c,e=thrown c/\F c)) :
  Calls prog 61 #[.func (.func fc) #[] E] w fun e w'=>Below w.heap.size w w'/\((∃(i0 I:Int) (J:Option Addr) (n0 H:Nat) (O:Option Addr) (n1 c1:Nat) (U:Option Addr) (n2 c2:Nat),e=.returned (.tuple #[(.agg #[.int .i64 i0,.int .i64 I,.slice J n0 H,.slice O n1 c1,.slice U n2 c2]),.int .i64 0])/\G w' (.agg #[.int .i64 i0,.int .i64 I,.slice J n0 H,.slice O n1 c1,.slice U n2 c2]))\/∃c,e=.returned (.tuple #[(.agg #[.int .i64 0,.int .i64 0,.slice none 0 0,.slice none 0 0,.slice none 0 0]),.int .i64 c])/\F c):=by
 have aj:=@hmf_ prog;obtain⟨W2,ae,K2⟩:=nw2 w #[.int .i64 0,.int .i64 0,.slice none 0 0,.slice none 0 0,.slice none 0 0] 46 #[.int .i64 0] 31;have HF:=qH (hf W2 K2.o.1);clear hf
 go_enter_defers func61,ntmps61
 go_upto_region 1 with fail;rw [<-ae];clear ae;go_wp2_with fail;refine HF.o.mono ?_;rintro e V ⟨Z,h⟩;have Y:Kn (fun W=>W.heap[w.heap.size]? = some (.cells #[.int .i64 0,.int .i64 0,.slice none 0 0,.slice none 0 0,.slice none 0 0] 46 (0,0))/\W.heap[w.heap.size+1]? = some (.cells #[.int .i64 0] 31 (0,0))/\Below w.heap.size w W) V :=
  .of ⟨zkeep Z _ _ K2.o.2.1,zkeep Z _ _ K2.o.2.2,K2.o.1.trans (Z.mono K2.o.1.size)⟩
 clear K2;rcases h with ⟨i0,I,J,n0,H,O,n1,c1,U,n2,c2,rfl,hg⟩ | ⟨c,rfl,hF⟩
 ·have HE:=qH (filled (w:=w) (gp:=w.heap.size) (gq:=w.heap.size+1) (B:=w.heap.size) ⟨qae _,by omega,by omega⟩ Y.o.1 Y.o.2.1 (qT V _ #[.int .i64 0,.int .i64 0,.slice none 0 0,.slice none 0 0,.slice none 0 0] #[.int .i64 i0,.int .i64 I,.slice J n0 H,.slice O n1 c1,.slice U n2 c2] _ _ Y.o.1) (fun k hk=>setRow_other _ _ _ _ hk) (qfc Y.o.2.2 qN _));have af:=hG _ ((V.setRow w.heap.size #[.int .i64 i0,.int .i64 I,.slice J n0 H,.slice O n1 c1,.slice U n2 c2]).setCell ⟨w.heap.size+1,0,none⟩ (.int .i64 0)) _ (HE.o.2.2.2 (fun b hb=>by simp at hb)) hg;have aa:(V.setRow w.heap.size #[.int .i64 i0,.int .i64 I,.slice J n0 H,.slice O n1 c1,.slice U n2 c2]).heap[w.heap.size+1]? = some (.cells #[.int .i64 0] 31 (0,0)):=(setRow_other _ _ _ _ (by omega)).trans Y.o.2.1;have cq:=qC (V.setRow w.heap.size #[.int .i64 i0,.int .i64 I,.slice J n0 H,.slice O n1 c1,.slice U n2 c2]) _ 0 _ _ _ aa;have fq:=qF (V.setRow w.heap.size #[.int .i64 i0,.int .i64 I,.slice J n0 H,.slice O n1 c1,.slice U n2 c2]) _ 0 _ _ aa;have HG:=qH af;clear hG hg af HF Z ah aa;rename_i hK;dsimp only;refine hK _ _ ?_
  go_wp2_with ((with_reducible refine sR_ rfl 46 _ _ rfl (w.heap.size) #[.int .i64 i0,.int .i64 I,.slice J n0 H,.slice O n1 c1,.slice U n2 c2] Y.o.1 5 ?_))
  try simp only [bodyPostD]
  refine leaves_cons (f:=111) (args:=#[.pointer (some ⟨w.heap.size,0,none⟩),.pointer (some ⟨w.heap.size+1,0,none⟩)]) (by simp) (by simp [go_sem]) ?_;refine (qjw _ _ _).mono ?_;rintro e u' ai ⟨rfl,rfl,rfl⟩;refine⟨_,qeR rfl _ _ _ _ _ _ rfl rfl ((fun h=>run_loadVar_row _ _ _ 46 _ (0,0) _ h underlying46 rfl (by kernel_rfl)) HE.o.1) (qeM _ underlying31 rfl HE.o.2.1),HE.o.2.2.1,qax ⟨i0,I,J,n0,H,O,n1,c1,U,n2,c2,rfl,HG.o⟩⟩
 ·have ag:=qH hF;clear hF hG HF;unfold thrown;go_wp2_with fail
  try simp only [bodyPostD]
  refine leaves_cons (f:=111) (args:=#[.pointer (some ⟨w.heap.size,0,none⟩),.pointer (some ⟨w.heap.size+1,0,none⟩)]) (by simp) (by simp [go_sem]) ?_;refine (qkT w.heap.size (w.heap.size+1) c [] _ w.heap.size ⟨qae _,by omega,by omega⟩ Y.o.1 Y.o.2.1).mono ?_;rintro e u' ai ⟨rfl,rfl,hp,hq,hb⟩;refine⟨_,qeR rfl _ _ _ _ _ _ rfl rfl ((fun h=>run_loadVar_row _ _ _ 46 _ (0,0) _ h underlying46 rfl (by kernel_rfl)) hp) (qeM _ underlying31 rfl hq),Y.o.2.2.trans hb,qam ⟨c,rfl,ag.o⟩⟩
theorem assertL (w:World) (c:Int):(Instr.typeAssert (.iface 180 (.agg #[.int .i64 c])) 20 180 true).run prog w=.ok (.tuple #[.agg #[.int .i64 c],.bool true]) w:=by
 simp [Instr.typeAssert,go_sem]
theorem qjv (p q:Addr) (w:World) :
  CallsD prog 141 #[.pointer (some p),.pointer (some q)] .returning w fun e F G=>e=.returned (.tuple #[])/\F=.returning/\G=w:=by
 refine callsD_of_wpS func141 rfl fun H cs E=>?_
 apply wpS_seq;apply wpS_region;simp [wpOpsS,go_sem,recoverD,E,ntmps141,Exit.thenS,<-List.toArray_replicate,List.replicate];refine wpS_of_wp ?_;go_wp2_with fail;exact⟨rfl,.returning,by rw [<-E],.tuple #[],results_none rfl _ _ _,rfl,rfl,rfl⟩
theorem qkS (gp gq:Nat) (c:Int) (E:List PanicEntry) (w:World) (B:Nat) (hB:B<=gp/\B<=gq/\gp≠gq) (V:w.heap[gp]? = some (.cells #[.slice none 0 0] 22 (0,0))) (Y:w.heap[gq]? = some (.cells #[.int .i64 0] 31 (0,0))) :
  CallsD prog 141 #[.pointer (some ⟨gp,0,none⟩),.pointer (some ⟨gq,0,none⟩)] (.panicking ({ v:=.iface 180 (.agg #[.int .i64 c]),recovered:=false } :: E)) w fun e u' Z=>e=.returned (.tuple #[])/\u'=.panicking ({ v:=.iface 180 (.agg #[.int .i64 c]),recovered:=true } :: E) /\
   Z.heap[gp]? = some (.cells #[.slice none 0 0] 22 (0,0))/\Z.heap[gq]? = some (.cells #[.int .i64 c] 31 (0,0))/\Below B w Z:=by
 have J:=(qG V).1;have U:=(qG Y).1;obtain⟨F,O,I⟩:∃F,F=w/\Kn (fun W=>Below w.heap.size w W/\True) F:=⟨w,rfl,.of ⟨Below.refl _ _,trivial⟩⟩;subst O;have H:=qH (zkeep I.o.1 _ _ V);have G:(F.setCell ⟨gp,0,none⟩ (.slice none 0 0)).heap[gq]? = some (.cells #[.int .i64 0] 31 (0,0)):=(qW _ _ _ _ (fun e=>hB.2.2 e.symm)).trans (zkeep I.o.1 _ _ Y);have cq:=qC (F.setCell ⟨gp,0,none⟩ (.slice none 0 0)) _ 0 _ _ _ G;have fq:=qF (F.setCell ⟨gp,0,none⟩ (.slice none 0 0)) _ 0 _ _ G;have cp:=qC F _ 0 _ _ _ H.o;have fp:=qF F _ 0 _ _ H.o;have ag:(F.setCell ⟨gp,0,none⟩ (.slice none 0 0)).heap.size=F.heap.size:=by simp [World.setCell]
 have aa:gp<F.heap.size:=qak J I.o.1.size;have ae:gq<F.heap.size:=qak U I.o.1.size;have af:¬gq=F.heap.size:=by omega
 have HE:=qH (caught hB ((I.o.1.mono (qaq (qaQ hB.1 J))).setCell hB.1 (.slice none 0 0)) (qgY H.o (.slice none 0 0)) G c (.cells #[.int .i64 c] 180));clear V Y hB G;have ah:=assertL;refine callsD_of_wpS func141 rfl fun c₀ cs hu=>?_
 apply wpS_seq;apply wpS_region;simp [wpOpsS,go_sem,recoverD,hu,ntmps141,Exit.thenS,<-List.toArray_replicate,List.replicate];refine wpS_of_wp ?_;go_wp2_with fail;refine⟨rfl,.panicking ({ v:=.iface 180 (.agg #[.int .i64 c]),recovered:=true } :: E),rfl,.tuple #[],results_none rfl _ _ _,rfl,rfl,?_⟩;exact HE.o
theorem qil (fc:FuncId) (E:Array Value) (G:World->Value->Prop) (F:Int->Prop) (w:World) (ae:∀W,(callFunc fc E).run prog W=.ok (.enter fc E) W)
  (hG:∀W W' v,(∀a b,W.cell? a=some (.string b)->W'.cell? a=some (.string b))->G W v->G W' v)
  (hf:∀H,Below w.heap.size w H->Calls prog fc E H fun e Z=>Below H.heap.size H Z/\((∃(p:Option Addr) (n c:Nat),e=.returned (.slice p n c)/\G Z (.slice p n c))\/∃c,e=thrown c/\F c)) :
  Calls prog 85 #[.func (.func fc) #[] E] w fun e Z=>Below w.heap.size w Z/\((∃(p:Option Addr) (n c:Nat),e=.returned (.tuple #[(.slice p n c),.int .i64 0])/\G Z (.slice p n c))\/∃c,e=.returned (.tuple #[(.slice none 0 0),.int .i64 c])/\F c):=by
 have ag:=@hmf_ prog;obtain⟨W2,V,U⟩:=nw2 w #[.slice none 0 0] 22 #[.int .i64 0] 31;have HF:=qH (hf W2 U.o.1);clear hf
 go_enter_defers func85,ntmps85
 go_upto_region 1 with fail;rw [<-V];clear V;go_wp2_with fail;refine HF.o.mono ?_;rintro e H ⟨J,h⟩;have I:Kn (fun W=>W.heap[w.heap.size]? = some (.cells #[.slice none 0 0] 22 (0,0))/\W.heap[w.heap.size+1]? = some (.cells #[.int .i64 0] 31 (0,0))/\Below w.heap.size w W) H :=
  .of ⟨zkeep J _ _ U.o.2.1,zkeep J _ _ U.o.2.2,U.o.1.trans (J.mono U.o.1.size)⟩
 clear U;rcases h with ⟨p,n,c,rfl,hg⟩ | ⟨c,rfl,hF⟩
 ·have HE:=qH (filled (w:=w) (gp:=w.heap.size) (gq:=w.heap.size+1) (B:=w.heap.size) ⟨qae _,by omega,by omega⟩ I.o.1 I.o.2.1 (qgY I.o.1 (.slice p n c)) (fun k hk=>qW _ _ _ _ hk) (I.o.2.2.setCell (p:=⟨w.heap.size,0,none⟩) qN _));have Y:=hG _ ((H.setCell ⟨w.heap.size,0,none⟩ (.slice p n c)).setCell ⟨w.heap.size+1,0,none⟩ (.int .i64 0)) _ (HE.o.2.2.2 (fun b hb=>by simp at hb)) hg;have O:(H.setCell ⟨w.heap.size,0,none⟩ (.slice p n c)).heap[w.heap.size+1]? = some (.cells #[.int .i64 0] 31 (0,0)):=(qW _ _ _ _ (by simp)).trans I.o.2.1;have cq:=qC (H.setCell ⟨w.heap.size,0,none⟩ (.slice p n c)) _ 0 _ _ _ O;have fq:=qF (H.setCell ⟨w.heap.size,0,none⟩ (.slice p n c)) _ 0 _ _ O;have cp:=qC H _ 0 _ _ _ I.o.1;have fp:=qF H _ 0 _ _ I.o.1;have HG:=qH Y;clear hG hg Y HF J ae O;go_wp2_with fail
  try simp only [bodyPostD]
  refine leaves_cons (f:=141) (args:=#[.pointer (some ⟨w.heap.size,0,none⟩),.pointer (some ⟨w.heap.size+1,0,none⟩)]) (by simp) (by simp [go_sem]) ?_;refine (qjv _ _ _).mono ?_;rintro e u' af ⟨rfl,rfl,rfl⟩;refine⟨_,qeR rfl _ _ _ _ _ _ rfl rfl (qeM _ underlying22 rfl HE.o.1) (qeM _ underlying31 rfl HE.o.2.1),HE.o.2.2.1,qax ⟨p,n,c,rfl,HG.o⟩⟩
 ·have aa:=qH hF;clear hF hG HF;unfold thrown;go_wp2_with fail
  try simp only [bodyPostD]
  refine leaves_cons (f:=141) (args:=#[.pointer (some ⟨w.heap.size,0,none⟩),.pointer (some ⟨w.heap.size+1,0,none⟩)]) (by simp) (by simp [go_sem]) ?_;refine (qkS w.heap.size (w.heap.size+1) c [] _ w.heap.size ⟨qae _,by omega,by omega⟩ I.o.1 I.o.2.1).mono ?_;rintro e u' af ⟨rfl,rfl,hp,hq,hb⟩;refine⟨_,qeR rfl _ _ _ _ _ _ rfl rfl (qeM _ underlying22 rfl hp) (qeM _ underlying31 rfl hq),I.o.2.2.trans hb,qam ⟨c,rfl,aa.o⟩⟩
