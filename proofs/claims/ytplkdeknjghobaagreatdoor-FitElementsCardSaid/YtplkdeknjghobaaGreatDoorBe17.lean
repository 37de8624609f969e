import Derived.Test.YtplkdeknjghobaaGreatDoorBe16
set_option maxRecDepth 100000
set_option maxHeartbeats 0
namespace Go.Proofs.YtplkdeknjghobaaGreatDoor
open Go.RowKit
def qgC (w:World) (t:Tbl) (bl wl:List FT) (e:Ending) (w':World):Prop :=
  ((¬TOk t/\e=.returned (.tuple #[.slice none 0 0,.int .i64 60])) \/
   (TOk t/\¬(FAll bl/\FAll wl)/\e=.returned (.tuple #[.slice none 0 0,.int .i64 20])) \/
   (TOk t/\FAll bl/\FAll wl/\¬(bl.length=t.length/\wl.length=t.length/\¬Neg wl)/\e=.returned (.tuple #[.slice none 0 0,.int .i64 2])) \/
   (TOk t/\FAll bl/\FAll wl/\bl.length=t.length/\wl.length=t.length/\¬Neg wl /\
     ((Sing (wid t) (normQ t bl wl t.length)/\e=.returned (.tuple #[.slice none 0 0,.int .i64 7])) \/
      (¬Sing (wid t) (normQ t bl wl t.length)/\∃x,qc6 (wid t) (normQ t bl wl t.length) (fun r=>normQ t bl wl t.length r (wid t)) x/\Tells (wid t) x e w'))))/\Below w.heap.size w w'
theorem qng {W:World} {ao:Option Addr} {b off n c:Nat} {l:List FT} {ao2:Option Addr} {b2 off2 n2 c2:Nat} {l2:List FT} {g:Nat} {ty:TypeId} (hg:W.heap[g]? = some (.cells #[.slice ao n c,.slice ao2 n2 c2] ty (0,0))) (hn:l.length=n) (h:FCells W ao b off l) (hn2:l2.length=n2) (h2:FCells W ao2 b2 off2 l2):TCells W (some ⟨g,0,none⟩) g 0 [l,l2]:=by
 refine⟨fun _=>rfl,fun k hk=>?_⟩;rcases (show k=0\/k=1 by simp at hk;omega) with rfl | rfl
 ·exact⟨ao,b,off,c,by rw [show ([l,l2]:Tbl).getD 0 []=l from rfl,hn];exact qC _ _ 0 _ _ _ hg,h⟩
 ·exact⟨ao2,b2,off2,c2,by rw [show ([l,l2]:Tbl).getD 1 []=l2 from rfl,hn2];exact qC _ _ 1 _ _ _ hg,h2⟩
theorem qle {l l2:List FT}:(∀k,k<([l,l2]:Tbl).length->FAll (([l,l2]:Tbl).getD k []))↔FAll l/\FAll l2 :=
 ⟨fun h=>⟨h 0 (by simp),h 1 (by simp)⟩,fun h k hk=>by
  rcases (show k=0\/k=1 by simp at hk;omega) with rfl | rfl
  ·exact h.1
  ·exact h.2⟩
theorem qhu (ao:Option Addr) (b off R c:Nat) (t:Tbl) (ao2:Option Addr) (b2 off2 m c2:Nat) (bl:List FT) (ao3:Option Addr) (b3 off3 q c3:Nat) (wl:List FT) (w:World) (hR:t.length=R) (hl:R<=4611686018427387904) (hw:∀k,k<R->(t.getD k []).length<=4611686018427387904) (hc:TCells w ao b off t)
  (hm:bl.length=m) (hl2:m<=4611686018427387904) (hc2:FCells w ao2 b2 off2 bl) (hq:wl.length=q) (hl3:q<=4611686018427387904) (hc3:FCells w ao3 b3 off3 wl) (hT:HasT w) :
  Calls Tryz.prog 129 #[.slice ao R c,.slice ao2 m c2,.slice ao3 q c3] w fun e w'=>qgC w t bl wl e w':=by
 obtain⟨W1,hW1⟩:=qY (w.alloc (.cells #[.slice ao2 m c2,.slice ao3 q c3] 35));have hb1:Below w.heap.size w W1:=hW1▸qbS qB qN;have hr1:W1.heap[w.heap.size]? = some (.cells #[.slice ao2 m c2,.slice ao3 q c3] 35 (0,0)):=by rw [hW1];exact qM _ _ _ rfl
 have HK:=qH (qeW ao b off R c t (some ⟨w.heap.size,0,none⟩) w.heap.size 0 2 2 [bl,wl] W1 hR hl hw (hc.below hb1) rfl (by omega) (fun k hk=>by
  rcases (show k=0\/k=1 by omega) with rfl | rfl
  ·show bl.length<=_;omega
  ·show wl.length<=_;omega) (qng hr1 hm (hc2.below hb1) hq (hc3.below hb1)))
 have HC:=qH (qA hc (qA hR (qA hc2 (qA hm (qA hc3 (qA hq hT))))));have HB1:=qH hb1;clear hR hw hc hm hc2 hb1 hr1 hT hq hc3;go_enter Tryz.func129,Tryz.ntmps129;go_wp2_with fail;rw [<-hW1];clear hW1;refine HK.out.mono ?_;rintro e w2 ⟨cc,rfl,hcc,hb2⟩;have HB:=qH (HB1.out.trans (hb2.mono HB1.out.size));clear hb2;rcases hcc with ⟨rfl,hT⟩ | ⟨rfl,hT,hL⟩ | ⟨rfl,hT,hL⟩
 ·have HT:=qH hT;clear hT;go_wp2_with fail
  go_ret2
  exact⟨qan ⟨HT.out,rfl⟩,HB.out⟩
 ·have HT:=qH (qA hT hL);clear hT hL;go_wp2_with fail
  go_ret2
  exact⟨qah (qan ⟨HT.out.1,fun h=>HT.out.2 (qle.2 h),rfl⟩),HB.out⟩
 obtain⟨hLb,hLw⟩:=qle.1 hL;have hR40:R<=40:=by have:=hT.r2;have:=HC.out.2.1;omega
 have hR1:1<=R:=by have:=hT.r1;have:=HC.out.2.1;omega
 have haw:=HC.out.1.addr (by have:=HC.out.2.1;omega);subst haw;obtain⟨n,hn⟩:=qX (wid t);have hn10:n<=10:=by have:=hT.c2;omega
 have hn1:1<=n:=by have:=hT.c1;omega
 have HX:=qH (qA hT (qA hLb (qA hLw hn)));clear hT hL hLb hLw hn;have bad:∀(W:World),Below w.heap.size w W->¬(bl.length=t.length/\wl.length=t.length/\¬Neg wl)->qgC w t bl wl (.returned (.tuple #[.slice none 0 0,.int .i64 2])) W:=fun W h hn=>⟨qah (qah (qan ⟨HX.out.1,HX.out.2.1,HX.out.2.2.1,hn,rfl⟩)),h⟩
 have BAD:=qH bad;clear bad
 by_cases e1:m=R
 case neg =>
  have e1b:((m:Int) != (R:Int))=true:=by rw [bne_iff_ne];omega
  have HE:=qH (BAD.out _ HB.out (fun h=>e1 (by rw [<-HC.out.2.2.2.1,h.1,HC.out.2.1])));clear e1;go_wp2_with fail
  go_ret2
  exact HE.out
 have e1b:((m:Int) != (R:Int))=false:=by simp [e1]
 by_cases e2:q=R
 case neg =>
  have e2b:((q:Int) != (R:Int))=true:=by rw [bne_iff_ne];omega
  have HE:=qH (BAD.out _ HB.out (fun h=>e2 (by rw [<-HC.out.2.2.2.2.2.1,h.2.1,HC.out.2.1])));clear e2 e1;go_wp2_with fail
  go_ret2
  exact HE.out
 have e2b:((q:Int) != (R:Int))=false:=by simp [e2]
 have He:=qH (qA e1 e2);have haw2:=HC.out.2.2.1.addr (by have:=HC.out.2.2.2.1;omega);subst haw2;have haw3:=HC.out.2.2.2.2.1.addr (by have:=HC.out.2.2.2.2.2.1;omega);subst haw3;have hng:=qgi (some ⟨b3,off3,none⟩) b3 off3 q c3 wl w2 HC.out.2.2.2.2.2.1 (by omega) (HC.out.2.2.2.2.1.below HB.out) HX.out.2.2.1;have HN:=qH hng;have hqR:(q:Int)<=R:=by omega
 clear e1 e2 hng;go_wp2_with fail;refine HN.out.mono ?_;rintro e w3 ⟨x,rfl,hx,hb3⟩;have HB3:=qH (HB.out.trans (hb3.mono HB.out.size));clear hb3;cases x with
 | true =>
  have HE:=qH (BAD.out _ HB3.out (fun h=>h.2.2 (hx.1 rfl)));clear hx;go_wp2_with fail
  go_ret2
  exact HE.out
 | false =>
  have hnn:¬Neg wl:=fun h=>by have:=hx.2 h;cases this
  have hno:=qkQ b off c t b2 off2 c2 bl b3 off3 c3 wl R n w3 HX.out.1 HC.out.2.1 HX.out.2.2.2 (HC.out.1.below HB3.out) HX.out.2.1 (by rw [HC.out.2.2.2.1];exact He.out.1) (HC.out.2.2.1.below HB3.out) HX.out.2.2.1 (by rw [HC.out.2.2.2.2.2.1];exact He.out.2) (HC.out.2.2.2.2.1.below HB3.out) hnn;have hmR:(m:Int)=R:=by have:=He.out.1;omega
  have hqR2:(q:Int)=R:=by have:=He.out.2;omega
  obtain rfl:m=R:=He.out.1;obtain rfl:q=m:=He.out.2;have HNo:=qH hno;have Hnn:=qH hnn;clear hx hno hnn hmR hqR2 hqR;go_wp2_with fail;refine HNo.out.mono ?_;rintro e w4 ⟨tb,gs,M,Z,rfl,hb4,htb,hZ,hMt,hval,hfit⟩;have hb14:=HB3.out.trans (hb4.mono HB3.out.size);have hsv:=qmZ tb n 63440 gs M w4 hn1 hn10 (by omega) (by omega) hMt (fun i hi=>by
   obtain⟨ps,_,h,_⟩:=hMt.rows i hi;exact (qG h.1).1) (fun i hi j hj=>hfit i hi j hj) (HC.out.2.2.2.2.2.2.below hb14)
  have HS:=qH hsv;have hZq:(Z:Rat)≠0:=by have:=qbl hZ;exact_mod_cast this
  have hA:∀i,i<n->∀j,j<n->castM M i j=(Z:Rat)*normQ t bl wl q i j:=fun i hi j hj=>hval i hi j (by omega)
  have hAb:∀i,i<n->castM M i n=(Z:Rat)*normQ t bl wl q i n:=fun i hi=>hval i hi n (by omega)
  have hsg:=Sing.scale (fun _=>(Z:Rat)) (fun _ _=>hZq) hA;have hsol:∀x,qc6 n (castM M) (fun i=>castM M i n) x->qc6 n (normQ t bl wl q) (fun r=>normQ t bl wl q r n) x:=fun x hx=>qc6.scale (fun _=>(Z:Rat)) (fun _ _=>hZq) hA hAb hx
  have HZ:=qH (qA hsg (qA hsol (qA hb14 (qaj HB3.out.size htb))));clear hsv hb4 htb hZ hMt hval hfit hZq hA hAb hsg hsol hb14;go_wp2_with fail;refine HS.out.mono ?_;rintro e w5 ⟨hg5,h5⟩;have hbb:=qef HZ.out.2.2.1 hg5 HZ.out.2.2.2;have FIN:qgC w t bl wl e w5:=by
   refine⟨qah (qah (qah ⟨HX.out.1,HX.out.2.1,HX.out.2.2.1,by rw [HC.out.2.2.2.1,HC.out.2.1],by rw [HC.out.2.2.2.2.2.1,HC.out.2.1],Hnn.out,?_⟩)),hbb⟩;rw [HC.out.2.1,HX.out.2.2.2];rcases h5 with ⟨h,e⟩ | ⟨h,x,hx,ht⟩
   ·exact qan ⟨HZ.out.1.1 h,e⟩
   ·exact qah ⟨fun hs=>h (HZ.out.1.2 hs),x,HZ.out.2.1 x hx,ht⟩
  have HF:=qH FIN;clear FIN hbb hg5;rcases h5 with ⟨_,rfl⟩ | ⟨_,x,_,⟨_,g,rfl,_⟩ | ⟨_,rfl⟩⟩
  all_goals
   go_wp2_with fail
   go_ret2
   exact HF.out
theorem qmo (p1 p2 g1 g2 n1 n2 j:Nat) (m1 m2:Nat->Int) (K J:Nat) (hKJ:K+J<=274877906944) (w:World)
  (h1:w.cell? ⟨p1,0,none⟩=some (rowv g1 n1)) (h2:w.cell? ⟨p2,0,none⟩=some (rowv g2 n2)) (h3:qcm w g1 n1 m1) (h4:qcm w g2 n2 m2) (hj1:j<n1) (hj2:j<n2) (_hn1:n1<=1048576) (_hn2:n2<=1048576) (hf1:Fit (m1 j).natAbs K) (hf2:Fit (m2 j).natAbs J) :
  Calls Tryz.prog 171 #[.int .i64 j,.pointer (some ⟨p1,0,none⟩),.pointer (some ⟨p2,0,none⟩)] w fun e w'=>∃u,e=.returned u/\Below w.heap.size w w'/\IntAt w' u (m1 j*m2 j):=by
 obtain⟨W1,hW1⟩:=qY (w.alloc (.cells #[.slice none 0 0,.bool false] 242));have hb1:Below w.heap.size w W1:=hW1▸qbS qB qN;have hr1:W1.heap[w.heap.size]? = some (.cells #[.slice none 0 0,.bool false] 242 (0,0)):=by rw [hW1];exact qM _ _ _ rfl
 have hib:qcj W1 w.heap.size 0:=⟨_,_,_,_,hr1,_,rfl,MagAt.nil _⟩;obtain⟨a2,l2,c2,b2,q0,q1,i2⟩:=h3.pair hj1;obtain⟨a3,l3,c3,b3,q2,q3,i3⟩:=h4.pair hj2;have cellF:∀(p:Addr) (v:Value),w.cell? p=some v->∀W,W1.grownBy W (some w.heap.size)->W.cell? p=some v:=fun p v h W hg=>by
  have hlt:=qac w _ h;exact (qd6 hg (qag hlt hb1.size) (Nat.ne_of_lt hlt)).trans ((hb1.cell hlt).trans h)
 have C1:=cellF _ _ h1;have C2:=cellF _ _ h2;have C3:=cellF _ _ q0;have C4:=cellF _ _ q1;have C5:=cellF _ _ q2;have C6:=cellF _ _ q3;have hji1:(j:Int)<n1:=by omega
 have hji2:(j:Int)<n2:=by omega
 have HP1:=qH (fun W (h:Below W1.heap.size W1 W)=>least.qde (m1 j) (m2 j) K J hKJ _ _ W (i2.below (hb1.trans (h.mono hb1.size))) (i3.below (hb1.trans (h.mono hb1.size))) hf1 hf2);have HB1:=qH (qA hb1 hib);have hst:Below W1.heap.size W1 W1:=Below.refl _ _;have hstD:Below W1.heap.size W1 W1.drew:=hst.drew;clear cellF h1 h2 h3 h4 q0 q1 q2 q3 i2 i3 hf1 hf2 hb1 hr1 hib;go_enter Tryz.func171,Tryz.ntmps171;go_wp2_with fail;rw [<-hW1];clear hW1
 go_region_held3 (fun W=>W1.grownBy W (some w.heap.size)) (first | with_reducible exact qcT _ _ | with_reducible exact qb2 _ hstD | with_reducible exact qb2 _ HB6 | exact qbU (qbU (qb2 _ HB6) (least.qbX _ _ _ _)) (least.qbX _ _ _ _)) (first | (go_at_call 172;refine (HP1.out _ hstD).mono ?_;rintro e w6 ⟨u6,rfl,hb6,hu6⟩;have HB6:Below W1.heap.size W1 w6:=bjoin hstD hb6;obtain⟨a6,n6,c6,b6,rfl⟩:=least.qbT hu6;obtain⟨_,_,_,_,⟨z0,z1⟩,⟨f0,f1⟩,_⟩:=(HB1.out.2.below HB6).cells;have HX:=qH ((HB1.out.2.below HB6).row2 hu6);clear hb6 hu6))
 all_goals go_wp2_with fail
 all_goals exact qR (v:=.agg #[.slice a6 n6 c6,.bool b6]) (rA_ rfl w.heap.size HX.out.1 Tryz.underlying242 2) rfl ⟨_,rfl,((HB1.out.1.trans (HB6.mono HB1.out.1.size)).setCell (p:=⟨w.heap.size,0,none⟩) qN _).setCell (p:=⟨w.heap.size,1,none⟩) qN _,HX.out.2⟩
def resQ (t:Tbl) (bl xl:List FT) (n i:Nat):Rat:=sumQ n (fun j=>tval t i j*lval xl j)-lval bl i
def measQ (t:Tbl) (bl wl xl:List FT) (n R:Nat):Rat:=sumQ R fun i=>lval wl i*(resQ t bl xl n i*resQ t bl xl n i)
def mval2 (t:Tbl) (bl xl:List FT) (n i:Nat):Int:=isum (fun j=>ftop (besides t bl i) j*ftop xl j) n + -(ftop (besides t bl i) n*((flcd xl:Nat):Int))
theorem qmp {t:Tbl} {bl xl:List FT} {n i:Nat} (hf:FAll (besides t bl i)) (hl:(besides t bl i).length=n+1) (ht:(t.getD i []).length=n) (hx:FAll xl) (hxl:xl.length=n) :
  ((mval2 t bl xl n i:Int):Rat)=(flcd (besides t bl i):Rat)*(flcd xl:Rat)*resQ t bl xl n i:=by
 unfold mval2 resQ
 push_cast
 rw [qgN,qfi hf (by omega)];have e1:sumQ n (fun p=>(((ftop (besides t bl i) p*ftop xl p:Int)):Rat))=(flcd (besides t bl i):Rat)*(flcd xl:Rat)*sumQ n (fun j=>tval t i j*lval xl j):=by
  rw [<-qcv];refine qb0 fun j hj=>?_
  push_cast
  rw [qfi hf (by omega),qfi hx (by omega)];have:lval (besides t bl i) j=tval t i j:=qgS (by omega);rw [this];grind
 have e2:lval (besides t bl i) n=lval bl i:=by
  have:=qgR (l:=t.getD i []) (x:=bl.getD i fd0);rw [ht] at this;exact this
 rw [e1,e2];grind
theorem qfs {t:Tbl} {bl xl:List FT} {n i:Nat} (hf:FAll (besides t bl i)) (hl:(besides t bl i).length=n+1) (hn:n<=10) (hx:FAll xl) (hxl:xl.length=n) :
  Fit (isum (fun j=>ftop (besides t bl i) j*ftop xl j) n).natAbs 1621/\Fit (ftop (besides t bl i) n*((flcd xl:Nat):Int)).natAbs 1543/\Fit (mval2 t bl xl n i).natAbs 1622:=by
 have h1:Fit (isum (fun j=>ftop (besides t bl i) j*ftop xl j) n).natAbs 1621:=(qfm _ 1610 n (fun j hj=>by
  rw [qaE];exact ((qdk hf (m:=11) (by omega) (by omega)).mul (qdk hx (m:=11) (by omega) (by omega))).mono (by omega))).mono (by omega)
 have h2:Fit (ftop (besides t bl i) n*((flcd xl:Nat):Int)).natAbs 1543:=by
  rw [qaE,qal];exact ((qdk hf (m:=11) (by omega) (by omega)).mul (qfh hx (m:=11) (by omega))).mono (by omega)
 refine⟨h1,h2,?_⟩;unfold mval2;have h3:=h2.mono (show 1543<=1621 by omega);rw [<-qa9] at h3;exact (h1.add h3).le (qbK _ _)
theorem qix {a b:Nat} (ha:0<a) (hb:0<b):a*(a.lcm b / a)=a.lcm b/\b*(a.lcm b / b)=a.lcm b/\a.lcm b / a<=b/\a.lcm b / b<=a:=by
 have h1:=Nat.mul_div_cancel' (Nat.dvd_lcm_left a b);have h2:=Nat.mul_div_cancel' (Nat.dvd_lcm_right a b);have h3:a.lcm b<=a*b:=qbL (qbP ha hb) (Nat.lcm_dvd_mul _ _);refine⟨h1,h2,?_,?_⟩
 ·exact Nat.div_le_of_le_mul h3
 ·exact Nat.div_le_of_le_mul (by rw [qau];exact h3)
theorem Fit.zero (K:Nat):Fit 0 K:=Nat.pow_pos (by decide)
structure MSt (t:Tbl) (bl wl xl:List FT) (n i:Nat) (T:Int) (D:Nat):Prop where
 pos:0<D
 val:(T:Rat)=(D:Rat)*((flcd xl:Rat)*(flcd xl:Rat))*measQ t bl wl xl n i
 fitD:Fit D (1543*i+1)
 fitT:Fit T.natAbs (3400+1545*i)
theorem MSt.start (t:Tbl) (bl wl xl:List FT) (n:Nat):MSt t bl wl xl n 0 0 1:=⟨by decide,by simp [measQ,sumQ],by show 1<1000000000 ^ (1543*0+1);decide,Fit.zero _⟩
theorem MSt.skip {t:Tbl} {bl wl xl:List FT} {n i:Nat} {T:Int} {D:Nat} (h:MSt t bl wl xl n i T D) (hw:wnum wl i=0):MSt t bl wl xl n (i+1) T D:=by
 refine⟨h.pos,?_,h.fitD.mono (by omega),h.fitT.mono (by omega)⟩;rw [h.val]
 congr 1
 show measQ t bl wl xl n i=measQ t bl wl xl n i+lval wl i*_
 rw [qiA hw];grind
theorem MSt.next {t:Tbl} {bl wl xl:List FT} {n i:Nat} {T:Int} {D:Nat} (h:MSt t bl wl xl n i T D) (hr:NRow t bl wl i) (hl:(besides t bl i).length=n+1) (ht:(t.getD i []).length=n) (hx:FAll xl) (hxl:xl.length=n) (hn:n<=10) :
  MSt t bl wl xl n (i+1) (T*((D.lcm (wdn t bl wl i) / D:Nat):Int)+((wnum wl i:Nat):Int)*mval2 t bl xl n i*mval2 t bl xl n i*((D.lcm (wdn t bl wl i) / wdn t bl wl i:Nat):Int)) (D.lcm (wdn t bl wl i)):=by
 obtain⟨p1,p2,p3,p4⟩:=qix h.pos hr.d.1;have hv:=qmp hr.fa hl ht hx hxl;have hfv:=(qfs hr.fa hl hn hx hxl).2.2;refine⟨Nat.lcm_pos h.pos hr.d.1,?_,?_,?_⟩
 ·have q1:(D:Rat)*((D.lcm (wdn t bl wl i) / D:Nat):Rat)=(D.lcm (wdn t bl wl i):Rat):=by exact_mod_cast p1
  have q2:((wdn t bl wl i:Nat):Rat)*((D.lcm (wdn t bl wl i) / wdn t bl wl i:Nat):Rat)=(D.lcm (wdn t bl wl i):Rat):=by exact_mod_cast p2
  have hd:((wdn t bl wl i:Nat):Rat)=(fden (wl.getD i fd0):Rat)*(flcd (besides t bl i):Rat)*(flcd (besides t bl i):Rat):=by unfold wdn;push_cast;rfl
  have hwl:(wnum wl i:Rat)=lval wl i*(fden (wl.getD i fd0):Rat):=by
   unfold lval;rw [qhO];have:(ival (wl.getD i fd0).1.data.toList:Int)=(wnum wl i:Int):=by have:=hr.nn;unfold wnum;omega
   have hne:((fden (wl.getD i fd0):Nat):Rat)≠0:=by have:=qbl hr.wd.1;exact_mod_cast this
   rw [this]
   show (wnum wl i:Rat)=(wnum wl i:Rat) / ((fden (wl.getD i fd0):Nat):Rat)*_
   grind
  show _=_*(measQ t bl wl xl n i+lval wl i*(resQ t bl xl n i*resQ t bl xl n i))
  rw [hd] at q2;clear p1 p2 p3 p4;generalize D.lcm (wdn t bl wl i) / D=A at *;generalize D.lcm (wdn t bl wl i) / wdn t bl wl i=B at *
  push_cast
  rw [h.val,hv];generalize ((D.lcm (wdn t bl wl i):Nat):Rat)=L at *;generalize ((flcd (besides t bl i):Nat):Rat)=F at *;generalize ((flcd xl:Nat):Rat)=U at *;generalize ((fden (wl.getD i fd0):Nat):Rat)=E at *;generalize resQ t bl xl n i=r at *;generalize measQ t bl wl xl n i=M at *;generalize lval wl i=l at *;rw [hwl];have e1:(D:Rat)*(U*U)*M*A=L*(U*U)*M:=by rw [<-q1];grind
  have e2:l*E*(F*U*r)*(F*U*r)*B=L*(U*U)*(l*(r*r)):=by rw [<-q2];grind
  rw [e1,e2];grind
 ·exact ((h.fitD.mul hr.d.2).le (qbL (qbP h.pos hr.d.1) (Nat.lcm_dvd_mul _ _))).mono (by omega)
 ·have f1:Fit (T*((D.lcm (wdn t bl wl i) / D:Nat):Int)).natAbs (3400+1545*i+1543):=by
   rw [qaE,qal];exact h.fitT.mul (hr.d.2.le p3)
  have f2:Fit (((wnum wl i:Nat):Int)*mval2 t bl xl n i*mval2 t bl xl n i*((D.lcm (wdn t bl wl i) / wdn t bl wl i:Nat):Int)).natAbs (67+1622+1622+(1543*i+1)):=by
   rw [qaE,qaE,qaE,qal,qal];exact ((hr.wn.mul hfv).mul hfv).mul (h.fitD.le p4)
  exact (((f1.mono (show _<=3400+1545*i+1544 by omega)).add (f2.mono (show _<=3400+1545*i+1544 by omega))).le (qbK _ _)).mono (by omega)
open Go.Lib
theorem qhQ (x:Nat):itxt (x:Int)=decDigits x:=by
 unfold itxt;rw [if_neg (by omega),qal]
theorem qcZ {q:Rat} (h:Short q):FOk (ftxt q).1.data.toList (ftxt q).2.data.toList:=by
 obtain⟨h1,h2⟩:=h;rw [qdb] at h1 h2;have e2:(ftxt q).2.data.toList=itxt (q.den:Int):=(qhQ q.den).symm;have e1:(ftxt q).1.data.toList=itxt q.num:=rfl;have hp:=q.den_pos;rw [e1,e2];refine⟨qf8 h1,qf8 (by rw [qal];exact h2),?_,?_⟩
 ·rw [qdL];omega
 ·rw [qdL,qdL,qal];exact q.reduced
theorem qcD (q:Rat):fval (ftxt q).1.data.toList (ftxt q).2.data.toList=q:=by
 have e2:(ftxt q).2.data.toList=itxt (q.den:Int):=(qhQ q.den).symm;have e1:(ftxt q).1.data.toList=itxt q.num:=rfl;rw [e1,e2];unfold fval;rw [qdL,qdL,qal];exact Rat.mkRat_self q
theorem qdr {n:Nat} {x:Nat->Rat} {i:Nat} (hi:i<n):(told n x).getD i fd0=ftxt (x i):=by
 unfold told;rw [qaa,qaM,List.getElem?_range hi];rfl
theorem qcW {n:Nat} {x:Nat->Rat} {i:Nat} (hi:i<n):lval (told n x) i=x i:=by
 unfold lval;rw [qdr hi,qcD]
theorem qdJ {n:Nat} {x:Nat->Rat} (h:qbY n x):FAll (told n x):=fun k hk=>by
 rw [qbW] at hk;rw [qdr hk];exact qcZ (h k hk)
theorem qeR {n:Nat} {x y:Nat->Rat} (h:∀i,i<n->x i=y i):told n x=told n y:=by
 unfold told;exact List.map_congr_left fun i hi=>by rw [h i (qbg.1 hi)]
theorem qbY.congr {n:Nat} {x y:Nat->Rat} (h:qbY n x) (e:∀i,i<n->x i=y i):qbY n y:=fun i hi=>by rw [<-e i hi];exact h i hi
def ttab (n m:Nat) (f:Nat->Nat->Rat):Tbl:=(List.range n).map fun i=>told m (f i)
theorem qcS (n m:Nat) (f:Nat->Nat->Rat):(ttab n m f).length=n:=by unfold ttab;rw [qaw,List.length_range]
theorem qeH {n m:Nat} {f:Nat->Nat->Rat} {i:Nat} (hi:i<n):(ttab n m f).getD i []=told m (f i):=by
 unfold ttab;rw [qaa,qaM,List.getElem?_range hi];rfl
theorem qeS {n m:Nat} {f:Nat->Nat->Rat} (h:0<n):wid (ttab n m f)=m:=by unfold wid;rw [qeH h,qbW]
theorem qnf {n m:Nat} {f:Nat->Nat->Rat} (h1:1<=n) (h2:n<=40) (h3:1<=m) (h4:m<=10) (h:∀i,i<n->qbY m (f i)):TOk (ttab n m f):=by
 refine⟨by rw [qcS];exact h1,by rw [qcS];exact h2,by rw [qeS h1];exact h3,by rw [qeS h1];exact h4,fun k hk=>?_⟩;rw [qcS] at hk;rw [qeS h1,qeH hk,qbW];exact⟨rfl,qdJ (h k hk)⟩
theorem ttab_val {n m:Nat} {f:Nat->Nat->Rat} {i j:Nat} (hi:i<n) (hj:j<m):tval (ttab n m f) i j=f i j:=by
 unfold tval;rw [qeH hi,qcW hj]
def Rb (q:Rat) (N:Nat):Prop:=q.num.natAbs<=N/\q.den<=N
theorem qhC {q:Rat} {p z:Int} {N:Nat} (hz:z≠0) (hp:p.natAbs<=N) (hzN:z.natAbs<=N) (h:q=(p:Rat) / z):Rb q N:=by
 have e:q=Rat.divInt p z:=by rw [h,Rat.divInt_eq_div]
 have hg:0<p.natAbs.gcd z.natAbs:=qa8 _ (by omega);obtain⟨h1,h2⟩:=qjw p z hz;rw [<-e] at h1 h2;have h3:q.num.natAbs=p.natAbs / p.natAbs.gcd z.natAbs:=by
  rw [h1];generalize p.natAbs / p.natAbs.gcd z.natAbs=A;split <;> omega
 exact⟨by rw [h3];exact qaj (qaS _ _) hp,by rw [h2];exact qaj (qaS _ _) hzN⟩
theorem qey {x k:Nat} (hk:0<k) (h:x<10 ^ k):(num x).size<=k:=by rw [qdb];exact qb9 k x hk h
theorem qdd {q:Rat} {N:Nat} (h:Rb q N) (hN:N<10 ^ 600):Short q :=
 ⟨qey (by decide) (qaF h.1 hN),qey (by decide) (qaF h.2 hN)⟩
theorem itoa_int (z:Int) (h0:-9223372036854775808<=z) (h1:z<=9223372036854775807) (w:World) (hT:HasT w) :
  Calls Tryz.prog 150 #[.int .i64 z] w fun e w'=>e=.returned (.string (frac.wtxt z))/\Below w.heap.size w w':=by
 refine (Tryz.strconv_Itoa z h0 h1 w hT).mono ?_;rintro e w' ⟨rfl,k,os,rfl⟩;refine⟨?_,Lib.below_grow _ _ qN _ _⟩;have:Lib.itoa z=itxt z:=by
  unfold Lib.itoa itxt
  by_cases h:z<0
  ·rw [if_pos h,if_pos h]
   try (first | rfl | (congr 2;omega) | (congr 1;omega))
  ·rw [if_neg h,if_neg h]
   try (first | rfl | (congr 1;omega))
 rw [this];rfl
theorem qnj (z:Int) (h0:-9223372036854775808<=z) (h1:z<=9223372036854775807) (w:World) (hT:HasT w) :
  Calls Tryz.prog 80 #[.int .i64 z] w fun e w'=>e=.returned (.string (frac.wtxt z))/\Below w.heap.size w w':=by
 have HI:=qH (itoa_int z h0 h1 w hT);clear h0 h1 hT;go_enter Tryz.func80,Tryz.ntmps80;go_wp2_with fail;refine HI.out.mono ?_;rintro e w2 ⟨rfl,hb⟩;have HB:=qH hb;clear hb;go_wp2;go_ret;exact⟨rfl,HB.out⟩
theorem red_val {z:Int} {d:Nat} (h0:0<d) {q:Rat} (hq:q=mkRat z d):q.num=(if decide (z<0)=true then -((z.natAbs / z.natAbs.gcd d:Nat):Int) else ((z.natAbs / z.natAbs.gcd d:Nat):Int))/\q.den=d / z.natAbs.gcd d:=by
 have hg:0<z.natAbs.gcd d:=qa8 _ h0;have hd:d / z.natAbs.gcd d≠0:=qbl (Nat.div_pos (qbL h0 (qaU _ _)) hg);have e1:(z.natAbs / z.natAbs.gcd d)*z.natAbs.gcd d=z.natAbs:=Nat.div_mul_cancel (qbJ _ _);have e2:(d / z.natAbs.gcd d)*z.natAbs.gcd d=d:=Nat.div_mul_cancel (qaU _ _);have hc:(z.natAbs / z.natAbs.gcd d).Coprime (d / z.natAbs.gcd d):=Nat.coprime_div_gcd_div_gcd hg;generalize z.natAbs.gcd d=g at *;generalize hA:z.natAbs / g=A at *;generalize hD:d / g=D at *;have hk:((A:Nat):Int)*(d:Int)=((z.natAbs:Nat):Int)*(D:Int):=by
  rw [<-e1,<-e2];push_cast;rw [qbz,qbj (D:Int)]
 refine qiQ hd ?_ (qbl h0) ?_ hq
 ·split
  ·rw [qa9,qal];exact hc
  ·rw [qal];exact hc
 ·by_cases hz:z<0
  ·rw [if_pos (by simpa using hz),qbs,hk,show ((z.natAbs:Nat):Int) = -z by omega,qbs,Int.neg_neg]
  ·rw [if_neg (by simpa using hz),hk,show ((z.natAbs:Nat):Int)=z by omega]
theorem qdM {W:World} {v:Value} {x:Nat} (h:MagAt W v x):∃(a:Option Addr) (n c:Nat),v=.slice a n c:=by
 obtain⟨a,b,o,c,n,L,rfl,_⟩:=h;exact⟨a,n,c,rfl⟩
theorem qjx (z:Int) (d K:Nat) (hK:K<=137438953472) (v vm:Value) (w:World) (hv:IntAt w v z) (hm:MagAt w vm d) (hz:Fit z.natAbs K) (hd:Fit d K) (h0:0<d) :
  Calls Tryz.prog 149 #[v,vm] w fun e w'=>∃u,e=.returned u/\Below w.heap.size w w'/\RatV w' u (mkRat z d):=by
 obtain⟨m,rfl,hmz⟩:=hv;obtain⟨am,nm,cm,rfl⟩:=qdM hmz;obtain⟨ad,nd,cd,rfl⟩:=qdM hm;have hval:=red_val h0 (q:=mkRat z d) rfl;have hg:0<z.natAbs.gcd d:=qa8 _ h0;have hgf:Fit (z.natAbs.gcd d) K:=hd.le (qbL h0 (qaU _ _));obtain⟨b0,hb0⟩:=qX (decide (z<0));rw [hb0] at hval;have HV:=qH (qA hval hb0);rw [hb0];obtain⟨W1,hW1⟩:=qY ((w.alloc (.cells #[.slice am nm cm,.bool b0] 136)).alloc (.cells #[.slice none 0 0,.bool false,.slice none 0 0] 138));have hb1:Below w.heap.size w W1:=hW1▸qbS (qbS qB qN) qN;have hr0:W1.heap[w.heap.size]? = some (.cells #[.slice am nm cm,.bool b0] 136 (0,0)):=by rw [hW1,qL _ _ _ (by simp only [qab];omega)];exact qM _ _ _ rfl
 have hr1:W1.heap[w.heap.size+1]? = some (.cells #[.slice none 0 0,.bool false,.slice none 0 0] 138 (0,0)):=by rw [hW1];exact qM _ _ _ (by simp)
 have H1:=qH (qA hb1 (qA hr0 hr1));have HM:=qH (qA hmz hm);have HF:=qH (qA hz (qA hd (qA hg hgf)));have HK:=qH hK;have HG:=qH (frac.qdU z.natAbs d K hK _ _ W1 (hmz.below hb1) (hm.below hb1) hz hd);clear hval hb0 hmz hm hz hd hg hgf hK hb1 hr0 hr1 h0;go_enter Tryz.func149,Tryz.ntmps149;go_wp2_with fail;rw [<-hW1];clear hW1;refine HG.out.mono ?_;rintro e w2 ⟨vg,rfl,hb2,hvg⟩;obtain⟨ag,ng,cg,rfl⟩:=qdM hvg;have hb02:=H1.out.1.trans (hb2.mono H1.out.1.size);have H2:=qH (qA hb02 (qA (zkeep hb2 _ _ H1.out.2.1) (zkeep hb2 _ _ H1.out.2.2)));have HD:=qH (frac.qb7 z.natAbs (z.natAbs.gcd d) K HK.out _ _ w2 (HM.out.1.below hb02) hvg HF.out.1 HF.out.2.2.2 HF.out.2.2.1);have HVg:=qH hvg;have k0:=qC w2 _ 0 _ _ _ H2.out.2.1;clear hb2 hvg hb02;go_wp2_with fail;refine HD.out.mono ?_;rintro e w3 ⟨q,r,rfl,hb3,hq,hr⟩;obtain⟨aq,nq,cq,rfl⟩:=qdM hq;obtain⟨ar,nr,cr,rfl⟩:=qdM hr;have hb03:=H2.out.1.trans (hb3.mono H2.out.1.size);have H3:=qH (qA hb03 (qA (zkeep hb3 _ _ H2.out.2.1) (zkeep hb3 _ _ H2.out.2.2)));have HQ:=qH hq;have HE:=qH (frac.qb7 d (z.natAbs.gcd d) K HK.out _ _ w3 (HM.out.2.below hb03) (HVg.out.below hb3) HF.out.2.1 HF.out.2.2.2 HF.out.2.2.1);clear hb3 hq hr hb03 k0;go_wp2_with fail;refine HE.out.mono ?_;rintro e w4 ⟨q2,r2,rfl,hb4,hq2,hr2⟩;obtain⟨aq2,nq2,cq2,rfl⟩:=qdM hq2;obtain⟨ar2,nr2,cr2,rfl⟩:=qdM hr2;have hb04:=H3.out.1.trans (hb4.mono H3.out.1.size);have H4:=qH (qA hb04 (qA (zkeep hb4 _ _ H3.out.2.1) (zkeep hb4 _ _ H3.out.2.2)));have HQ2:=qH hq2;have HS:=qH (frac.qb3 _ b0 _ w4 (HQ.out.below hb4));have k1:=qC w4 _ 1 _ _ _ H4.out.2.1;clear hb4 hq2 hr2 hb04;go_wp2_with fail;refine HS.out.mono ?_;rintro e w5 ⟨u,rfl,hb5,hu⟩;obtain⟨au,nu,cu,bu,rfl⟩:=frac.qbT hu;have hr5:=zkeep hb5 _ _ H4.out.2.2;have hb05:=H4.out.1.trans (hb5.mono H4.out.1.size);have hrat:RatV (w5.setRow (w.heap.size+1) #[.slice au nu cu,.bool bu,.slice aq2 nq2 cq2]) (.agg #[.slice au nu cu,.bool bu,.slice aq2 nq2 cq2]) (mkRat z d):=by
  refine qdG (W:=w5) (cs':=#[.slice au nu cu,.bool bu,.slice aq2 nq2 cq2]) ?_ hr5;unfold RatV;rw [HV.out.1.1,HV.out.1.2];obtain⟨m',e1,e2⟩:=hu;simp only [qaJ,qaL,qaH] at e1;obtain⟨rfl,e3,_⟩:=e1;rw [e3];exact⟨_,_,rfl,e2,HQ2.out.below hb5⟩
 have H5:=qH (qA hr5 (qA (qS hb05 (show w.heap.size<=w.heap.size+1 by omega) #[.slice au nu cu,.bool bu,.slice aq2 nq2 cq2]) hrat));clear hb5 hr5 hb05 hrat hu k1
 go_wp2_with ((with_reducible refine sR_ rfl 138 _ _ rfl (w.heap.size+1) #[.slice au nu cu,.bool bu,.slice aq2 nq2 cq2] H5.out.1 3 ?_))
 exact qR (v:=.agg #[.slice au nu cu,.bool bu,.slice aq2 nq2 cq2]) (rA_ rfl (w.heap.size+1) (qT _ _ _ _ _ _ H5.out.1) Tryz.underlying138 3) rfl ⟨_,rfl,H5.out.2.1,H5.out.2.2⟩
theorem qf9 {z:Int} (h:z.natAbs<10 ^ 600):Valid (frac.wtxt z).data.toList:=qf8 (by have:=qey (x:=z.natAbs) (k:=600) (by decide) h;rw [qdb] at this;exact this)
theorem qi5 (z:Int):ival (frac.wtxt z).data.toList=z:=qdL z
theorem qev {x:Nat} (h:x<1000000000000000000000000000):Fit x 3:=by unfold Fit;exact h
theorem infoFs:(Tryz.prog.info? 35).map (fun i=>(i.zero,i.size,i.bytes))=some (some (.slice none 0 0),1,24):=by kernel_rfl
theorem qd2 {W:World} {B:Nat} {v:Value} {n:Nat} {l:List FT} (h:Rws W B 44 2 v n (fflat l)) (hl:l.length=n):∃(ao:Option Addr) (g cap:Nat),v=.slice ao n cap/\FCells W ao g 0 l/\n<=cap:=by
 have hown:=h.own;rcases h.2 with ⟨rfl,rfl⟩ | ⟨g,cap,cur,rfl,_,_,hc,_⟩
 ·exact⟨none,0,0,rfl,⟨fun h0=>absurd h0 (by omega),fun k hk=>absurd hk (by omega)⟩,qad _⟩
 ·refine⟨some ⟨g,0,none⟩,g,cap,rfl,⟨fun _=>rfl,fun k hk=>?_⟩,hc⟩;have hx:l[k]? = some (l.getD k fd0):=by rw [qaa,qae hk];rfl
  obtain⟨h1,h2⟩:=qd0 l k _ hx;have e1:=hown.cells (g:=g) rfl _ _ h1;have e2:=hown.cells (g:=g) rfl _ _ h2;rw [Addr.add_mid] at e1 e2;refine⟨e1,?_⟩;rw [<-Nat.add_assoc] at e2;exact e2
theorem qdX (x:ByteArray):qcH (.string x):=fun k d h=>by cases h
theorem qhj {ops:Array Oper} {rest:List Oper} {o:Oper} {a:Act} {w:World} {Q:Exit->Act->World->Prop} (hgd:o.guard=none) (s x:Operand)
  (ho:o.op=.call { callee:=.builtin .append,args:=#[s,x],argTypes:=#[35,35] }) {W0:World} {B:Nat} {v:Value} {n:Nat} {l:List FT} {x1 x2:ByteArray}
  (hB:Below B W0 w) (hB0:B=W0.heap.size) (hown:Rws w B 44 2 v n (fflat l)) (hs:a.eval s=v) {g:Nat} (hx:a.eval x=.slice (some ⟨g,0,none⟩) 1 1) (hgs:g=w.heap.size) (hn:n<1000000)
  (h:∀v' w',Hid (Rws w' B 44 2 v' (n+1) (fflat (l++[(x1,x2)])))->Hid (Below B W0 w')->wpList Tryz.prog ops Q rest (a.put o.dst v') w') :
  wpList Tryz.prog ops Q (o :: rest) a (w.alloc (.cells #[.string x1,.string x2] 44)):=by
 subst hgs;obtain⟨i0,hi,hz0,hz1,hz2⟩:=info_parts infoF;have hsz:=hB.size;have hba:Below w.heap.size w (w.alloc (.cells #[.string x1,.string x2] 44)):=qbS qB qN;have hown2:=hown.below hba;have hg:=heap_alloc_new w (.cells #[.string x1,.string x2] 44);refine qds hgd s x 35 ho B 44 i0 _ 2 32 Tryz.underlying35 hi hz0 hz1 hz2 rfl (by decide) ?nz v n (fflat l) hs hown2 ⟨w.heap.size,0,none⟩ 1 1 [.string x1,.string x2] hx rfl ?c1 ?c2 ?c3 (by decide) (by unfold maxLen;omega) (by omega) (by simp only [qab];omega) ?_
 case nz =>
  intro y hy;rcases qaP.1 (show y∈[Value.string ⟨#[]⟩,Value.string ⟨#[]⟩] from hy) with rfl | hy
  ·exact qdX _
  ·rw [qap.1 hy];exact qdX _
 case c1 =>
  intro j u hj;rw [Addr.add_mid]
  match j,hj with
  | 0,hj=>exact (qC _ _ _ _ _ _ hg).trans hj
  | 1,hj=>exact (qC _ _ _ _ _ _ hg).trans hj
 case c2 =>
  intro u hu;rcases qaP.1 hu with rfl | hu
  ·rfl
  ·rw [qap.1 hu];rfl
 case c3 =>
  intro u hu;rcases qaP.1 hu with rfl | hu
  ·exact qdX _
  ·rw [qap.1 hu];exact qdX _
 intro v' w' hown' hgrow _;refine h v' w' (qH ?_) (qH ?_)
 ·rw [qdj];exact hown'
 ·exact hown2.old hgrow (hB.alloc (by omega) _) qN (by simp only [qab];omega)
section
variable {P:Program} {ops:Array Oper} {Q:Exit->Act->World->Prop} {md:Region.Mode} {S:World->Prop}
def nthOp:List Oper->Nat->Option Oper
 | [],_=>none
 | o :: _,0=>some o
 | _ :: l,n+1=>nthOp l n
theorem qhx:∀{l:List Oper} {i:Nat} {o:Oper},nthOp l i=some o->l.toArray[i]? = some o
 | [],_,_,h=>by cases h
 | _ :: _,0,_,h=>by rw [qat];exact h
 | _ :: l,n+1,_,h=>by
  have:=qhx (l:=l) h;rw [qat] at this ⊢;exact this
theorem qh0 {ops:Array Oper} {i:Nat} {o:Oper} (h:nthOp ops.toList i=some o):ops[i]? = some o:=qhx (l:=ops.toList) h
theorem qlY {T:World->Prop} (hT:∀W,T W->S W):∀(fuel:Nat) (listed:Array Bool) (a:Act) (w:World),wpAnyH P md ops Q T fuel listed a w->wpAnyH P md ops Q S fuel listed a w
 | 0,_,_,_,h=>h
 | fuel+1,_,_,_,h=>⟨h.1,fun i hi=>wpOp_mono (fun _ _ hh=>⟨hT _ hh.1,qlY hT fuel _ _ _ hh.2⟩) (h.2 i hi)⟩
theorem hd_take (i:Nat) {o:Oper} {v:Value} {fuel:Nat} {listed:Array Bool} {a:Act} {w:World} (hi':nthOp ops.toList i=some o)
  (hB:(Region.noSelect ops && (Region.free md ops listed i && (Region.ready md ops listed).contains i))=true) (hQ:∀c a w,Q (.panic c) (a.put o.dst v) w->Q (.panic c) a w) (hS:S w)
  (hw:Region.wanted o (yielded ops a.tmps)=true) (hy:∀w,S w->(execOp a.eval o).run P w=.ok (.value v) w)
  (h:wpAnyH P md ops Q S fuel (listed.setIfInBounds i true) (a.put o.dst v) w):wpAnyH P md ops Q S (fuel+1) listed a w:=by
 have hi:=qh0 hi';rw [qa4,qa4] at hB;exact wpAnyH_take hi hB.1 hB.2.1 hB.2.2 hQ (qan ⟨hw,hy⟩) hS h
def Way (P:Program) (md:Region.Mode) (ops:Array Oper) (Q:Exit->Act->World->Prop) (S:World->Prop) (fuel:Nat) (listed:Array Bool) (K:Act->World->Prop):Prop :=
 Shut (∀(T:World->Prop) (a:Act) (w:World),(∀W,T W->S W)->T w->wpAnyH P md ops Q T fuel listed a w->K a w)
theorem hd_step {i:Nat} {o:Oper} {fuel:Nat} {listed:Array Bool} {a:Act} {w:World} (hi:ops[i]? = some o)
  (h:∀K:Act->World->Prop,Way P md ops Q S fuel (listed.setIfInBounds i true) K->if Region.wanted o (yielded ops a.tmps)=true then Oper.wp P o a w K Q else K (a.put o.dst undef) w) :
  wpOp P ops Q i (fun a' w'=>S w'/\wpAnyH P md ops Q S fuel (listed.setIfInBounds i true) a' w') a w :=
 wpOp_step hi fun K' hK=>h K' fun _T a w hT hw hh=>hK a w ⟨hT w hw,qlY hT _ _ _ _ hh⟩
theorem qhr (i:Nat) {o:Oper} {fuel:Nat} {listed:Array Bool} {a:Act} {w:World} (hi':nthOp ops.toList i=some o) (hr:decide (Region.ready md ops listed=[i])=true)
  (h:∀K:Act->World->Prop,Way P md ops Q S fuel (listed.setIfInBounds i true) K->if Region.wanted o (yielded ops a.tmps)=true then Oper.wp P o a w K Q else K (a.put o.dst undef) w) :
  wpAnyH P md ops Q S (fuel+1) listed a w:=by
 refine wpAnyH_all (of_decide_eq_true hr) (by simp) fun j hj=>?_
 rw [qap] at hj;subst hj;exact hd_step (qh0 hi') h
theorem Way.on {fuel:Nat} {listed:Array Bool} {K:Act->World->Prop} (h:Way P md ops Q S fuel listed K) (T:World->Prop) (a:Act) (w:World) (hT:∀W,T W->S W) (hw:T w) (k:T w->wpAnyH P md ops Q T fuel listed a w):K a w :=
 h.out T a w hT hw (k hw)
end
def pf (a:Act) (v:Nat->Value):List (Nat×Tmp)->Act
 | []=>a
 | p :: D=>(pf a v D).put (some p.2) (v p.1)
def upd {α:Type} (v:Nat->α) (i:Nat) (x:α):Nat->α:=fun k=>if k=i then x else v k
theorem upd_same {α:Type} (v:Nat->α) (i:Nat) (x:α):upd v i x i=x:=if_pos rfl
theorem qca {α:Type} (v:Nat->α) {i k:Nat} (x:α) (h:k≠i):upd v i x k=v k:=if_neg h
theorem put_put (a:Act) (d:Tmp) (x y:Value):(a.put (some d) x).put (some d) y=a.put (some d) y:=by
 simp [Act.put]
theorem qfY (a:Act) (v:Nat->Value) (i:Nat) (x:Value):∀D:List (Nat×Tmp),(∀p∈D,p.1≠i)->pf a (upd v i x) D=pf a v D
 | [],_=>rfl
 | p :: D,h=>by
  show (pf a (upd v i x) D).put _ (upd v i x p.1)=(pf a v D).put _ (v p.1)
  rw [qfY a v i x D fun q hq=>h q (qbG _ hq),qca _ _ (h p (qbQ ..))]
theorem pf_put (a:Act) (v:Nat->Value) {i:Nat} {d:Tmp} (x:Value):∀D:List (Nat×Tmp),(D.map (·.1)).Nodup->(D.map (·.2)).Nodup->(i,d)∈D->(pf a v D).put (some d) x=pf a (upd v i x) D
 | [],_,_,h=>by cases h
 | p :: D,h1,h2,h=>by
  rw [qbt,List.nodup_cons] at h1 h2;rcases qaP.1 h with e | h
  ·subst e
   show ((pf a v D).put (some d) (v i)).put (some d) x=(pf a (upd v i x) D).put (some d) (upd v i x i)
   rw [put_put,upd_same,qfY a v i x D fun q hq e=>h1.1 (qbB.2 ⟨q,hq,e⟩)]
  ·have hne:p.1≠i:=fun e=>h1.1 (qbB.2 ⟨_,h,e.symm⟩)
   have hnd:p.2≠d:=fun e=>h2.1 (qbB.2 ⟨_,h,e.symm⟩)
   show ((pf a v D).put (some p.2) (v p.1)).put (some d) x=(pf a (upd v i x) D).put (some p.2) (upd v i x p.1)
   rw [qca _ _ hne,<-pf_put a v x D h1.2 h2.2 h];exact Act.put_comm _ _ _ fun e he e2=>hnd (by cases he;cases e2;rfl)
theorem qmJ (a:Act) (v:Nat->Value):∀D:List (Nat×Tmp),(∀p∈D,v p.1=a.tmps.getD p.2 undef/\p.2<a.tmps.size)->pf a v D=a
 | [],_=>rfl
 | p :: D,h=>by
  show (pf a v D).put (some p.2) (v p.1)=a
  obtain⟨h1,h2⟩:=h p (qbQ ..);rw [qmJ a v D fun q hq=>h q (qbG _ hq),h1]
  show { a with tmps:=a.tmps.setIfInBounds p.2 _ }=a
  congr 1
  apply Array.ext_getElem?;intro j;rw [Array.getElem?_setIfInBounds];split
  ·next e=>subst e;simp [h2]
  ·rfl
def arr (n:Nat) (L:Nat->Bool):Array Bool:=((List.range n).map L).toArray
theorem qhJ (n:Nat) (L:Nat->Bool) (i:Nat) (b:Bool):(arr n L).getD i b=if i<n then L i else b:=by
 unfold arr;rw [Array.getD_eq_getD_getElem?,qat,qaM]
 by_cases h:i<n
 ·rw [List.getElem?_range h,if_pos h];rfl
 ·rw [qba (by rw [List.length_range];omega),if_neg h];rfl
theorem arr_set (n:Nat) (L:Nat->Bool) (i:Nat):(arr n L).setIfInBounds i true=arr n (upd L i true):=by
 unfold arr;rw [qaC]
 congr 1
 apply List.ext_getElem?;intro k
 by_cases e:k=i
 ·subst e
  by_cases h:k<n
  ·rw [List.getElem?_set_self (by simpa using h),qaM,List.getElem?_range h]
   show some true=some (upd L k true k)
   rw [upd_same]
  ·rw [qba (by simp;omega),qba (by simp;omega)]
 ·rw [List.getElem?_set_ne (by omega),qaM,qaM];cases hk:(List.range n)[k]? with
  | none=>rfl
  | some j =>
   have:j=k:=by
    obtain⟨h,e2⟩:=List.getElem?_eq_some_iff.1 hk;rw [List.getElem_range] at e2;exact e2.symm
   subst this
   show some (L j)=some (upd L i true j)
   rw [qca _ _ e]
section
variable {P:Program} {ops:Array Oper} {Q:Exit->Act->World->Prop} {md:Region.Mode} {S:World->Prop}
theorem qiS (n:Nat) (L:Nat->Bool) (hn:n=ops.size) (i:Nat):i∈Region.ready md ops (arr n L)↔i<n/\L i=false/\∃o,ops[i]? = some o/\(o.after.all fun e=>!Region.binds md e || (decide (e.on<n) && L e.on))=true:=by
 have key:∀o:Oper,(o.after.all fun e=>!Region.binds md e || (arr n L).getD e.on false)=(o.after.all fun e=>!Region.binds md e || (decide (e.on<n) && L e.on)):=fun o=>congrArg (fun f=>o.after.all f) (funext fun e=>by
  rw [qhJ]
  by_cases h:e.on<n
  ·rw [if_pos h,qV h,Bool.true_and]
  ·rw [if_neg h,qU h,Bool.false_and])
 unfold Region.ready;rw [List.mem_filter,qbg,<-hn]
 constructor
 ·rintro ⟨h1,h2⟩;rw [qa4] at h2;refine⟨h1,?_,?_⟩
  ·have:=h2.1;rw [qhJ,if_pos h1] at this;simpa using this
  ·have h3:=h2.2;cases e:ops[i]? with
   | none=>rw [e] at h3;exact absurd h3 (by simp)
   | some o =>
    rw [e] at h3;exact⟨o,rfl,(key o).symm.trans h3⟩
 ·rintro ⟨h1,h2,o,h3,h4⟩;refine⟨h1,?_⟩;rw [qa4];refine⟨by rw [qhJ,if_pos h1,h2];rfl,?_⟩;rw [h3];exact (key o).trans h4
def waits (md:Region.Mode) (o:Oper):List Nat:=(o.after.toList.filter fun e=>Region.binds md e).map (·.on)
theorem qnh {o:Oper} {n:Nat} {L:Nat->Bool} (h:(o.after.all fun e=>!Region.binds md e || (decide (e.on<n) && L e.on))=true):∀k∈waits md o,k<n/\L k=true:=by
 intro k hk;obtain⟨e,he,rfl⟩:=qbB.1 hk;obtain⟨he,hb⟩:=List.mem_filter.1 he;obtain⟨j,hj,rfl⟩:=Array.getElem_of_mem (Array.mem_toList_iff.1 he);have:=(Array.all_eq_true.1 h) j hj;rw [hb] at this
 simpa using this
def dagB (md:Region.Mode) (ops:Array Oper):Bool:=(List.range ops.size).all fun i=>((nthOp ops.toList i).map fun o=>(waits md o).all fun k=>decide (k<i)).getD true
theorem qj6:∀{l:List Oper} {i:Nat} {o:Oper},l[i]? = some o->nthOp l i=some o
 | [],_,_,h=>by simp at h
 | _ :: _,0,_,h=>by simpa [nthOp] using h
 | _ :: l,n+1,_,h=>by
  show nthOp l n=_
  exact qj6 (by simpa using h)
theorem qdN {i:Nat} {o:Oper} (h:ops[i]? = some o):nthOp ops.toList i=some o:=qj6 (by rw [<-qat];exact h)
theorem qkP {L:Nat->Bool} (hd:dagB md ops=true) (h:Region.ready md ops (arr ops.size L)=[]):∀i,i<ops.size->L i=true:=by
 intro i
 induction i using Nat.strongRecOn with
 | ind i ih =>
  intro hi;apply Classical.byContradiction;intro hL;have ho:ops[i]? = some ops[i]:=Array.getElem?_eq_getElem hi;have hdi:=(qa6.1 hd) i (qbg.2 hi);rw [qdN ho] at hdi;have hdi:(waits md ops[i]).all (fun k=>decide (k<i))=true:=hdi;have:i∈Region.ready md ops (arr ops.size L):=(qiS _ L rfl i).2 ⟨hi,by simpa using hL,_,ho,Array.all_eq_true.2 fun j hj=>by
   cases hb:Region.binds md ops[i].after[j] with
   | false=>rfl
   | true =>
    have hk:ops[i].after[j].on∈waits md ops[i]:=qbB.2 ⟨_,List.mem_filter.2 ⟨Array.mem_toList_iff.2 (Array.getElem_mem hj),hb⟩,rfl⟩;have hlt:=of_decide_eq_true ((qa6.1 hdi) _ hk);rw [ih _ hlt (by omega)];simp;omega⟩
  rw [h] at this;cases this
def leftN (n:Nat) (L:Nat->Bool):Nat:=((List.range n).filter fun k=>!L k).length
theorem qma {n:Nat} {L:Nat->Bool} {i:Nat} (hi:i<n) (hL:L i=false):leftN n (upd L i true)<leftN n L:=by
 have key:∀l:List Nat,(∀x∈l,x=i->False)\/i∈l->((l.filter fun k=>!upd L i true k).length<=(l.filter fun k=>!L k).length)/\(i∈l->(l.filter fun k=>!upd L i true k).length<(l.filter fun k=>!L k).length):=by
  intro l _
  induction l with
  | nil=>exact⟨qad _,fun h=>by cases h⟩
  | cons x l ih =>
   have ih:=ih (by by_cases h:i∈l;exact qah h;exact qan fun y hy e=>h (e▸hy))
   by_cases e:x=i
   ·subst e;rw [List.filter_cons_of_neg (by rw [upd_same];simp),List.filter_cons_of_pos (by rw [hL];rfl),qbI];exact⟨by omega,fun _=>by omega⟩
   ·have hu:upd L i true x=L x:=qca _ _ e;cases hx:L x with
    | true =>
     rw [List.filter_cons_of_neg (by rw [hu,hx];simp),List.filter_cons_of_neg (by rw [hx];simp)];exact⟨ih.1,fun h=>ih.2 (by rcases qaP.1 h with h | h;exact absurd h.symm e;exact h)⟩
    | false =>
     rw [List.filter_cons_of_pos (by rw [hu,hx];rfl),List.filter_cons_of_pos (by rw [hx];rfl),qbI,qbI];exact⟨by omega,fun h=>by
      have:=ih.2 (by rcases qaP.1 h with h | h;exact absurd h.symm e;exact h);omega⟩
 exact (key _ (qah (qbg.2 hi))).2 (qbg.2 hi)
theorem qkH {n:Nat} {L:Nat->Bool} (h:leftN n L=0):∀i,i<n->L i=true:=fun i hi=>by
 have:=List.eq_nil_of_length_eq_zero h;cases hL:L i with
 | true=>rfl
 | false =>
  have hm:i∈(List.range n).filter fun k=>!L k:=List.mem_filter.2 ⟨qbg.2 hi,by rw [hL];rfl⟩
  rw [this] at hm;cases hm
def dstB (ops:Array Oper) (D:List (Nat×Tmp)) (T:List Nat):Bool:=(List.range ops.size).all fun i=>T.contains i || ((nthOp ops.toList i).map fun o=>match o.dst with | none=>!(D.map (·.1)).contains i | some d=>D.contains (i,d)).getD true
end
section
variable {P:Program} {ops:Array Oper} {Q:Exit->Act->World->Prop} {md:Region.Mode} {S:World->Prop}
def dep (dl:List (Nat×List Nat)) (i:Nat):List Nat:=(dl.lookup i).getD []
theorem qjn {n:Nat} {L M:Nat->Bool} (h:∀i,i<n->L i=M i):leftN n L=leftN n M:=by
 unfold leftN
 congr 1
 exact List.filter_congr fun i hi=>by rw [h i (qbg.1 hi)]
section
variable {dl:List (Nat×List Nat)} {F:Nat->Value->List Nat->World->Prop} {w0:World} {i:Nat} {gs:Nat->List Nat} {w:World} {A:Act} {d:Option Tmp} {K:Act->World->Prop}
end
end
class Stays (p:World->Prop):Prop where
 go:∀{W W':World},p W->Below W.heap.size W W'->p W'
instance stays_and {p q:World->Prop} [hp:Stays p] [hq:Stays q]:Stays fun W=>p W/\q W:=⟨fun h hb=>⟨hp.go h.1 hb,hq.go h.2 hb⟩⟩
instance stays_const {p:Prop}:Stays fun _=>p:=⟨fun h _=>h⟩
instance stays_old {w:World}:Stays fun W=>Below w.heap.size w W:=⟨fun h hb=>h.trans (hb.mono h.size)⟩
instance stays_row {g:Nat} {o:Obj}:Stays fun W=>W.heap[g]? = some o:=⟨fun h hb=>(hb.block g (qG h).1).trans h⟩
instance stays_ex {α:Type} {p:α->World->Prop} [hp:∀x,Stays (p x)]:Stays fun W=>∃x,p x W:=⟨fun⟨x,h⟩ hb=>⟨x,(hp x).go h hb⟩⟩
def Kn (p:World->Prop) (W:World):Prop:=Hid (p W)
theorem Kn.out {p:World->Prop} {W:World} (k:Kn p W):p W:=Hid.out k
theorem Kn.of {p:World->Prop} {W:World} (h:p W):Kn p W:=qH h
theorem Kn.below {p:World->Prop} [hp:Stays p] {W W':World} (k:Kn p W) (hb:Below W.heap.size W W'):Kn p W':=.of (hp.go k.out hb)
theorem Kn.on {p q:World->Prop} [hp:Stays p] {W W':World} (k:Kn p W) (hb:Below W.heap.size W W') (h:q W'):Kn (fun W=>p W/\q W) W':=.of ⟨hp.go k.out hb,h⟩
theorem Kn.also {p q:World->Prop} {W:World} (k:Kn p W) (h:q W):Kn (fun W=>p W/\q W) W:=.of ⟨k.out,h⟩
section
variable {P:Program} {ops:Array Oper} {Q:Exit->Act->World->Prop} {md:Region.Mode} {S:World->Prop}
def growB (md:Region.Mode) (ops:Array Oper) (rl:List (Nat×List Nat)) (T:List Nat) (n0:Nat):Bool :=
 ((List.range n0).all fun i=>T.contains i || (((nthOp ops.toList i).map fun o=>(dep rl i).all fun k=>(waits md o).contains k && (!T.contains k && decide (k<n0))).getD false)) &&
 ((decide (ops.size<=n0) || (List.range n0).all fun k=>T.contains k || (List.range (n0+1)).any fun j=>decide (k<j) && ((nthOp ops.toList j).map fun o=>(waits md o).contains k).getD false) &&
 (!T.contains n0 && (List.range ops.size).all fun i=>decide (i<=n0) || (T.contains i || ((nthOp ops.toList i).map fun o=>(waits md o).any fun k=>decide (n0<=k) && !T.contains k).getD false)))
section
variable {ops:Array Oper} {md:Region.Mode}
theorem qkD {rl:List (Nat×List Nat)} {T:List Nat} {n0:Nat} (h:growB md ops rl T n0=true) {i:Nat} {o:Oper} (hi:i<n0) (hT:i∉T) (ho:nthOp ops.toList i=some o):∀k∈dep rl i,k∈waits md o/\k∉T/\k<n0:=by
 intro k hk;unfold growB at h;rw [qa4] at h;have h1:=(qa6.1 h.1) i (qbg.2 hi);rw [Bool.or_eq_true,ho] at h1;rcases h1 with h1 | h1
 ·exact absurd (qaz.1 h1) hT
 ·have h2:=(qa6.1 (show ((dep rl i).all fun k=>(waits md o).contains k && (!T.contains k && decide (k<n0)))=true from h1)) k hk;simp only [qa4,decide_eq_true_eq,Bool.not_eq_true'] at h2;refine⟨qaz.1 h2.1,fun e=>?_,h2.2.2⟩;rw [qaz.2 e] at h2;exact absurd h2.2.1 (by decide)
theorem qkE {rl:List (Nat×List Nat)} {T:List Nat} {n0:Nat} (h:growB md ops rl T n0=true) (hlt:n0<ops.size) {k:Nat} (hk:k<n0) (hT:k∉T):∃j o,k<j/\j<=n0/\nthOp ops.toList j=some o/\k∈waits md o:=by
 unfold growB at h;rw [qa4,qa4,Bool.or_eq_true,decide_eq_true_eq] at h;have h1:=(qa6.1 (h.2.1.resolve_left (by omega))) k (qbg.2 hk);rw [Bool.or_eq_true] at h1;rcases h1 with h1 | h1
 ·exact absurd (qaz.1 h1) hT
 obtain⟨j,hj,hj2⟩:=List.any_eq_true.1 h1;rw [qa4,decide_eq_true_eq] at hj2;have hj:=qbg.1 hj;cases e:nthOp ops.toList j with
 | none=>rw [e] at hj2;exact absurd hj2.2 (by simp)
 | some o=>rw [e] at hj2;exact⟨j,o,hj2.1,by omega,e,qaz.1 hj2.2⟩
theorem qkC {rl:List (Nat×List Nat)} {T:List Nat} {n0:Nat} (h:growB md ops rl T n0=true) {i:Nat} {o:Oper} (hi:n0<i) (hT:i∉T) (hs:i<ops.size) (ho:nthOp ops.toList i=some o):∃k∈waits md o,n0<=k/\k∉T:=by
 unfold growB at h;rw [qa4,qa4,qa4] at h;have h1:=(qa6.1 h.2.2.2) i (qbg.2 hs);rw [Bool.or_eq_true,decide_eq_true_eq,Bool.or_eq_true,ho] at h1;rcases h1 with h1 | h1 | h1
 ·omega
 ·exact absurd (qaz.1 h1) hT
 ·obtain⟨k,hk,hk2⟩:=List.any_eq_true.1 (show ((waits md o).any fun k=>decide (n0<=k) && !T.contains k)=true from h1);rw [qa4,decide_eq_true_eq,Bool.not_eq_true'] at hk2;exact⟨k,hk,hk2.1,fun e=>by rw [qaz.2 e] at hk2;cases hk2.2⟩
theorem growB_own {rl:List (Nat×List Nat)} {T:List Nat} {n0:Nat} (h:growB md ops rl T n0=true):n0∉T:=fun e=>by
 unfold growB at h;rw [qa4,qa4,qa4,Bool.not_eq_true'] at h;have:=h.2.2.1;rw [qaz.2 e] at this;cases this
end
def pv:Value->Nat
 | .pointer (some a)=>a.block
 | .slice (some a) _ _=>a.block
 | _=>0
structure Grown (md:Region.Mode) (ops:Array Oper) (T E:List Nat) (n0:Nat) (F:Nat->Value->World->Prop) (w0:World) (L:Nat->Bool) (v:Nat->Value) (w:World):Prop where
 old:Below w0.heap.size w0 w
 top:∀i,n0<=i->i∉T->L i=false
 took:∀k∈T,L k=true
 shut:∀j o,nthOp ops.toList j=some o->L j=true->∀k∈waits md o,L k=true
 fact:∀i,i<n0->i∉T->L i=true->F i (v i) w
 lt:∀i∈E,L i=true->pv (v i)<w.heap.size
 apart:∀i∈E,∀j∈E,L i=true->L j=true->i≠j->pv (v i)≠pv (v j)
def Grows (F:Nat->Value->World->Prop) (E:List Nat) (i:Nat) (w:World) (A:Act) (d:Option Tmp) (K:Act->World->Prop):Prop :=
 Shut (∀(x:Value) (A':Act) (w':World),A'=A.put d x->F i x w'->(E.contains i=true->w.heap.size<=pv x/\pv x<w'.heap.size)->Below w.heap.size w w'->K A' w')
theorem Grows.to {F:Nat->Value->World->Prop} {E:List Nat} {i:Nat} {w:World} {A:Act} {d:Option Tmp} {K:Act->World->Prop} (h:Grows F E i w A d K) (x:Value) (A':Act) (w':World) (hA:A'=A.put d x) (hF:F i x w') (hE:E.contains i=true->w.heap.size<=pv x/\pv x<w'.heap.size) (hb:Below w.heap.size w w'):K A' w':=h.out x A' w' hA hF hE hb
theorem qjE (a:Act) (D:List (Nat×Tmp)) (rl:List (Nat×List Nat)) (T E:List Nat) (n0:Nat) (F:Nat->Value->World->Prop) (w0:World) (T2:List Nat)
  (hst2:∀i x w w',F i x w->Below w.heap.size w w'->F i x w')
  (hdag:dagB md ops=true) (h1:(D.map (·.1)).Nodup) (h2:(D.map (·.2)).Nodup) (hdst:dstB ops D T2=true) (hT2:∀k,k<n0->k∈T2->k∈T) (hB:growB md ops rl T n0=true) (hn:n0<=ops.size) (kl:Nat) (hkl:leftN ops.size (fun i=>decide (i<n0) || T.contains i)=kl)
  (hS:∀w,Below w0.heap.size w0 w->S w)
  (hstep:∀i o,nthOp ops.toList i=some o->i<n0->i∉T->∀(v:Nat->Value) (w:World),Below w0.heap.size w0 w->(∀k∈dep rl i,F k (v k) w) ->
   ∀A,A=pf a v D->∀K,Grows F E i w A o.dst K->if Region.wanted o (yielded ops A.tmps)=true then Oper.wp P o A w K Q else K (A.put o.dst undef) w)
  (hend:∀v w,Grown md ops T E n0 F w0 (fun i=>decide (i<n0) || T.contains i) v w->∀A,A=pf a v D->∀f,wpAnyH P md ops Q S (f+kl) (arr ops.size fun i=>decide (i<n0) || T.contains i) A w) :
  ∀(fuel:Nat) (L:Nat->Bool) (v:Nat->Value) (w:World),leftN ops.size L<=fuel->Grown md ops T E n0 F w0 L v w->wpAnyH P md ops Q S fuel (arr ops.size L) (pf a v D) w:=by
 have fin:∀(fuel:Nat) (L:Nat->Bool) (v:Nat->Value) (w:World),leftN ops.size L<=fuel->Grown md ops T E n0 F w0 L v w->(∀i,i<n0->L i=true)->wpAnyH P md ops Q S fuel (arr ops.size L) (pf a v D) w:=by
  intro fuel L v w hf hJ hall;have hLe:L=fun i=>decide (i<n0) || T.contains i:=funext fun i=>by
   by_cases h:i<n0
   ·rw [hall i h,qV h];rfl
   ·by_cases h2:i∈T
    ·rw [hJ.took i h2,qaz.2 h2,Bool.or_true]
    ·rw [hJ.top i (by omega) h2,qU h,Bool.false_or];exact (Bool.not_eq_true _▸fun e=>h2 (qaz.1 e):T.contains i=false).symm
  subst hLe;rw [hkl] at hf;obtain⟨f,rfl⟩:∃f,fuel=f+kl:=⟨fuel-kl,by omega⟩;exact hend v w hJ _ rfl f
 intro fuel
 induction fuel with
 | zero =>
  intro L v w hf hJ;exact fin 0 L v w hf hJ fun i hi=>qkH (Nat.le_zero.1 hf) i (by omega)
 | succ fuel ih =>
  intro L v w hf hJ
  by_cases hall:∀i,i<n0->L i=true
  ·exact fin (fuel+1) L v w hf hJ hall
  refine⟨fun h0=>absurd (fun i hi=>qkP hdag h0 i (by omega)) hall,fun i hi=>?_⟩;obtain⟨hin,hL,o,ho,hd⟩:=(qiS _ L rfl i).1 hi;have hw:∀k∈waits md o,L k=true:=fun k hk=>(qnh hd k hk).2
  have hin0:i<n0:=by
   apply Classical.byContradiction;intro hge;rcases qaT n0 i with hgt | hle
   ·obtain⟨k,hk,hk2,hk3⟩:=qkC hB hgt (fun h=>by have:=hJ.took i h;rw [hL] at this;cases this) hin (qdN ho);have:=hw k hk;rw [hJ.top k hk2 hk3] at this;cases this
   ·obtain rfl:i=n0:=by omega
    refine hall fun k hk=>?_
    have key:∀m k,k<i->i-k=m->L k=true:=by
     intro m
     induction m using Nat.strongRecOn with
     | ind m ihm =>
      intro k hk hm
      by_cases hkT:k∈T
      ·exact hJ.took k hkT
      obtain⟨j,p,h1,h2,h3,h4⟩:=qkE hB hin hk hkT;rcases qaT j i with h | h
      ·exact hJ.shut j p h3 (ihm (i-j) (by omega) j h rfl) k h4
      ·obtain rfl:j=i:=by omega
       rw [qdN ho] at h3;cases h3;exact hw k h4
    exact key _ k hk rfl
  have hiT:i∉T:=fun h=>by have:=hJ.took i h;rw [hL] at this;cases this
  refine wpOp_step ho fun K' hK=>hstep i o (qdN ho) hin0 hiT v w hJ.old (fun k hk=>by obtain⟨a1,a2,a3⟩:=qkD hB hin0 hiT (qdN ho) k hk;exact hJ.fact k a3 a2 (hw k a1)) _ rfl K' fun x A' w' hA hF hEi hb=>?_
  have hb':Below w0.heap.size w0 w':=hJ.old.trans (hb.mono hJ.old.size);refine hK _ _ ⟨hS _ hb',?_⟩;rw [arr_set];have hput:A'=pf a (upd v i x) D:=by
   rw [hA];have hb:=(qa6.1 hdst) i (qbg.2 hin);rw [Bool.or_eq_true,qdN ho] at hb;rcases hb with hb | hb
   ·exact absurd (hT2 i hin0 (qaz.1 hb)) hiT
   ·cases e:o.dst with
    | none =>
     show pf a v D=_
     refine (qfY a v i x D fun p hp e2=>?_).symm;have hb:(!(D.map (·.1)).contains i)=true:=by
      have:(match o.dst with | none=>!(D.map (·.1)).contains i | some d=>D.contains (i,d))=true:=hb;rw [e] at this;exact this
     rw [Bool.not_eq_true',<-Bool.not_eq_true] at hb;exact hb (qaz.2 (qbB.2 ⟨p,hp,e2⟩))
    | some d =>
     have hb:D.contains (i,d)=true:=by
      have:(match o.dst with | none=>!(D.map (·.1)).contains i | some d=>D.contains (i,d))=true:=hb;rw [e] at this;exact this
     exact pf_put a v x D h1 h2 (qaz.1 hb)
  rw [hput];refine ih _ _ _ (by have:=qma hin hL;omega) ⟨hb',fun j hj hjT=>?_,fun k hk=>?_,fun j p hp hj k hk=>?_,fun j hj hjT hLj=>?_,fun j hj hLj=>?_,fun j hj m hm hLj hLm hne=>?_⟩
  ·rw [qca _ _ (by omega)];exact hJ.top j hj hjT
  ·rw [qca _ _ (by rintro rfl;exact hiT hk)];exact hJ.took k hk
  ·by_cases e:k=i
   ·rw [e,upd_same]
   ·rw [qca _ _ e]
    by_cases e2:j=i
    ·subst e2;rw [qdN ho] at hp;cases hp;exact hw k hk
    ·rw [qca _ _ e2] at hj;exact hJ.shut j p hp hj k hk
  ·by_cases e:j=i
   ·subst e;rw [upd_same];exact hF
   ·rw [qca _ _ e] at hLj ⊢;exact hst2 _ _ _ _ (hJ.fact j hj hjT hLj) hb
  ·by_cases e:j=i
   ·subst e;rw [upd_same];exact (hEi (qaz.2 hj)).2
   ·rw [qca _ _ e] at hLj ⊢;exact qag (hJ.lt j hj hLj) hb.size
  ·by_cases e:j=i
   ·subst e;have e2:m≠j:=fun e=>hne e.symm
    rw [qca _ _ e2] at hLm;rw [upd_same,qca _ _ e2];have h1:=hJ.lt m hm hLm;have h2:=(hEi (qaz.2 hj)).1;omega
   ·rw [qca _ _ e] at hLj ⊢
    by_cases e2:m=i
    ·subst e2;rw [upd_same];have h1:=hJ.lt j hj hLj;have h2:=(hEi (qaz.2 hm)).1;omega
    ·rw [qca _ _ e2] at hLm ⊢;exact hJ.apart j hj m hm hLj hLm hne
theorem qkF {fuel:Nat} {listed:Array Bool} {a:Act} {w0:World} (D:List (Nat×Tmp)) (rl:List (Nat×List Nat)) (T C E:List Nat) (n0:Nat) (F:Nat->Value->World->Prop) (kl m:Nat) (Lz:Array Bool) (hm:a.tmps.size=m)
  (hst:∀i x,Stays (F i x))
  (hB:(dagB md ops && (decide ((D.map (·.1)).Nodup) && (decide ((D.map (·.2)).Nodup) && (dstB ops D (T++(List.range ops.size).filter fun k=>decide (n0<=k)) && ((D.all fun p=>decide (D.lookup p.1=some p.2) && decide (p.2<m)) && (decide (listed.size=ops.size) && (decide (leftN ops.size (fun k=>listed.getD k false)<=fuel) &&
   (growB md ops rl T n0 && (decide (n0<=ops.size) && (decide (leftN ops.size (fun i=>decide (i<n0) || T.contains i)=kl) && (decide (listed=arr ops.size fun k=>T.contains k) && ((T.all fun k=>((nthOp ops.toList k).map fun o=>(waits md o).all fun j=>T.contains j).getD false) && (decide (Lz=arr ops.size fun i=>decide (i<n0) || T.contains i) && ((List.range n0).all (fun i=>T.contains i || C.contains i) && E.all fun i=>decide (i<n0) && !T.contains i))))))))))))))=true)
  (hS:∀w,Below w0.heap.size w0 w->S w)
  (hstep:∀i∈C,∀o,nthOp ops.toList i=some o->∀(v:Nat->Value) (w:World),Below w0.heap.size w0 w->(∀k∈dep rl i,F k (v k) w) ->
   ∀A,A=pf a v D->∀K,Grows F E i w A o.dst K->if Region.wanted o (yielded ops A.tmps)=true then Oper.wp P o A w K Q else K (A.put o.dst undef) w)
  (hend:∀(v:Nat->Value) (w:World),Below w0.heap.size w0 w->(∀i,i<n0->i∉T->F i (v i) w)->(∀i∈E,∀j∈E,i≠j->pv (v i)≠pv (v j))->∀A,A=pf a v D->∀f,wpAnyH P md ops Q S (f+kl) Lz A w):wpAnyH P md ops Q S fuel listed a w0:=by
 simp only [qa4,decide_eq_true_eq] at hB;obtain⟨hdag,h1,h2,hdst,hD,hsz,hf,hsep,hn,hkl,hlist,hTw,hLz,hC,hE⟩:=hB;have hself:pf a (fun i=>a.tmps.getD ((D.lookup i).getD 0) undef) D=a:=qmJ a _ D fun p hp=>by
  have:=(qa6.1 hD) p hp;simp only [qa4,decide_eq_true_eq] at this;exact⟨by rw [this.1];rfl,by rw [hm];exact this.2⟩
 have hE1:∀i∈E,i<n0/\¬T.contains i=true:=fun i hi=>by
  have:=(qa6.1 hE) i hi;rw [qa4,decide_eq_true_eq] at this;exact⟨this.1,by simpa using this.2⟩
 have h0:Grown md ops T E n0 F w0 (fun k=>T.contains k) (fun i=>a.tmps.getD ((D.lookup i).getD 0) undef) w0 :=
  ⟨Below.refl _ _,fun i _ hi=>by
   rw [<-Bool.not_eq_true];intro h;exact hi (qaz.1 h),fun k hk=>qaz.2 hk,fun j o ho hj k hk=>by
   have:=(qa6.1 hTw) j (qaz.1 hj);rw [ho] at this;exact (qa6.1 (show ((waits md o).all fun j=>T.contains j)=true from this)) k hk,fun i _ h hL=>absurd (qaz.1 hL) h,fun i hi hL=>absurd hL (hE1 i hi).2,fun i hi _ _ hL=>absurd hL (hE1 i hi).2⟩
 have key:=qjE (P:=P) (Q:=Q) (S:=S) a D rl T E n0 F w0 (T++(List.range ops.size).filter fun k=>decide (n0<=k)) (fun i x w w' h hb=>(hst i x).go h hb) hdag h1 h2 hdst (fun k hk hk2=>by
  rcases qaN.1 hk2 with h | h
  ·exact h
  ·have:=of_decide_eq_true (List.mem_filter.1 h).2;omega) hsep hn kl hkl hS (fun i o ho hi hiT=>hstep i (by
   have:=(qa6.1 hC) i (qbg.2 hi);rw [Bool.or_eq_true] at this;rcases this with h | h
   ·exact absurd (qaz.1 h) hiT
   ·exact qaz.1 h) o ho) (fun v w h A hA f=>by
   rw [<-hLz];exact hend v w h.old (fun i hi hT=>h.fact i hi hT (by rw [qV hi];rfl)) (fun i hi j hj=>h.apart i hi j hj (by rw [qV (hE1 i hi).1];rfl) (by rw [qV (hE1 j hj).1];rfl)) A hA f) fuel _ _ _ (by rw [qjn (M:=fun k=>listed.getD k false)];exact hf;intro i hi;rw [hlist,qhJ,if_pos hi]) h0
 rw [hself,<-hlist] at key;exact key
end
theorem qnl {P:Program} {o:Oper} {a:Act} {w:World} {next:Act->World->Prop} {Q:Exit->Act->World->Prop} {f:FuncId} {vs:Array Value} {R:Ending->World->Prop} (he:(execOp a.eval o).run P w=.ok (.enter f vs) w) (hC:Calls P f vs w R)
  (h:∀e w',R e w'->∃v,e=.returned v/\next (a.put o.dst v) w'):o.wp P a w next Q:=by
 unfold Oper.wp;rw [he,Oper.upon_enter];exact hC.mono fun e w' r=>by obtain⟨v,rfl,h⟩:=h e w' r;exact h
theorem rowC {B:Nat} {W1:World} {g:Nat} {cs:Array Value} {t:TypeId} (h:W1.heap[g]? = some (.cells cs t (0,0))) (i:Nat) {x:Value} (hx:cs[i]? = some x:=by rfl) (hg:g<B:=by omega):∀W,Below B W1 W->W.cell? ⟨g,i,none⟩=some x :=
 fun _ hb=>(hb.cell (p:=⟨g,i,none⟩) hg).trans ((qC _ _ i _ _ _ h).trans hx)
def fl2:List (Nat×(Value->World->Prop))->Nat->Value->World->Prop
 | [],_=>fun _ _=>True
 | (j,p) :: l,i=>if i=j then p else fl2 l i
instance stays_nil {i:Nat} {x:Value}:Stays (fl2 [] i x):=⟨fun _ _=>trivial⟩
instance stays_cons {i j:Nat} {x:Value} {p:Value->World->Prop} {l:List (Nat×(Value->World->Prop))} [hp:∀x,Stays (p x)] [hl:Stays (fl2 l i x)]:Stays (fl2 ((j,p) :: l) i x):=⟨fun {_ _} h hb=>by
 have key:fl2 ((j,p) :: l) i=if i=j then p else fl2 l i:=rfl
 rw [key] at h ⊢
 by_cases e:i=j
 ·rw [if_pos e] at h ⊢;exact (hp x).go h hb
 ·rw [if_neg e] at h ⊢;exact hl.go h hb⟩
theorem rowG {W1:World} {g0 g:Nat} {cs:Array Value} {t:TypeId} (h:W1.heap[g]? = some (.cells cs t (0,0))) (i:Nat) {x:Value} (hx:cs[i]? = some x:=by rfl) (hne:g≠g0:=by omega):∀W,W1.grownBy W (some g0)->W.cell? ⟨g,i,none⟩=some x :=
 fun _ hb=>hb.cell ((qC _ _ i _ _ _ h).trans hx) (fun e=>hne (qai e))
def ZC (B:Nat) (cs:Array Value) (t:TypeId) (x:Value) (W:World):Prop:=∃g,W.heap[g]? = some (.cells cs t (0,0))/\x=.pointer (some ⟨g,0,none⟩)/\B<=g
instance stays_zc {B:Nat} {cs:Array Value} {t:TypeId} {x:Value}:Stays (ZC B cs t x):=⟨fun⟨g,h1,h2,h3⟩ hb=>⟨g,(hb.block g (qG h1).1).trans h1,h2,h3⟩⟩
theorem ZC.new {B:Nat} {cs:Array Value} {t:TypeId} {w:World} (h:B<=w.heap.size):ZC B cs t (.pointer (some ⟨w.heap.size,0,none⟩)) (w.alloc (.cells cs t))/\Below w.heap.size w (w.alloc (.cells cs t)) :=
 ⟨⟨w.heap.size,qM _ _ _ rfl,rfl,h⟩,qB.alloc qN _⟩
section
variable {P:Program} {ops:Array Oper} {Q:Exit->Act->World->Prop} {md:Region.Mode} {S:World->Prop} {fuel:Nat} {listed:Array Bool} {a a':Act} {w:World} {o:Oper}
theorem hT (i:Nat) {v:Value} (hi':nthOp ops.toList i=some o:=by rfl)
  (hB:(Region.noSelect ops && (Region.free md ops listed i && (Region.ready md ops listed).contains i))=true:=by kernel_rfl) (hQ:∀c a w,Q (.panic c) (a.put o.dst v) w->Q (.panic c) a w:=by exact fun _ _ _ h=>h) (hS:S w:=by assumption)
  (hw:Region.wanted o (yielded ops a.tmps)=true:=by rfl) (hy:∀w,S w->(execOp a.eval o).run P w=.ok (.value v) w:=by (intro w hSw;(try dsimp only at hSw);go_simp <;> with_reducible rfl))
  (hp:a.put o.dst v=a':=by (simp only [Act.put,qaC,qbn,List.set_cons_succ];with_reducible rfl))
  (h:wpAnyH P md ops Q S fuel (listed.setIfInBounds i true) a' w):wpAnyH P md ops Q S (fuel+1) listed a w :=
 hd_take i hi' hB hQ hS hw hy (by rw [hp];exact h)
theorem hU (i:Nat) (hi':nthOp ops.toList i=some o:=by rfl)
  (hB:(Region.noSelect ops && (Region.free md ops listed i && (Region.ready md ops listed).contains i))=true:=by kernel_rfl) (hQ:∀c a w,Q (.panic c) (a.put o.dst undef) w->Q (.panic c) a w:=by exact fun _ _ _ h=>h) (hS:S w:=by assumption)
  (hw:Region.wanted o (yielded ops a.tmps)=false:=by rfl)
  (hp:a.put o.dst undef=a':=by (simp only [Act.put,qaC,qbn,List.set_cons_succ];with_reducible rfl))
  (h:wpAnyH P md ops Q S fuel (listed.setIfInBounds i true) a' w):wpAnyH P md ops Q S (fuel+1) listed a w:=by
 rw [qa4,qa4] at hB;exact wpAnyH_take (qh0 hi') hB.1 hB.2.1 hB.2.2 hQ (qah ⟨hw,rfl⟩) hS (by rw [hp];exact h)
theorem hC (i:Nat) {f:FuncId} {vs:Array Value} {R:Ending->World->Prop} (hc:Calls P f vs w R) (hi':nthOp ops.toList i=some o:=by rfl) (hr:decide (Region.ready md ops listed=[i])=true:=by kernel_rfl)
  (hw:Region.wanted o (yielded ops a.tmps)=true:=by rfl) (he:(execOp a.eval o).run P w=.ok (.enter f vs) w:=by (go_simp <;> with_reducible rfl))
  (h:∀e w',R e w'->∃v,e=.returned v/\S w'/\wpAnyH P md ops Q S fuel (listed.setIfInBounds i true) (a.put o.dst v) w'):wpAnyH P md ops Q S (fuel+1) listed a w :=
 qhr i hi' hr fun K hK=>by
  rw [if_pos hw];refine qnl he hc fun e w' r=>?_
  obtain⟨v,rfl,h1,h2⟩:=h e w' r;exact⟨v,rfl,hK.on S _ _ (fun _ h=>h) h1 fun _=>h2⟩
theorem hN {d:Option Tmp} {v:Value} (hp:a.put d v=a':=by (simp only [Act.put,qaC,qbn,List.set_cons_succ];with_reducible rfl)) (h:wpAnyH P md ops Q S fuel listed a' w):wpAnyH P md ops Q S fuel listed (a.put d v) w:=by rw [hp];exact h
theorem qnm {P:Program} {o:Oper} {a:Act} {w w':World} {next:Act->World->Prop} {Q:Exit->Act->World->Prop} {v:Value} (he:(execOp a.eval o).run P w=.ok (.value v) w') (h:next (a.put o.dst v) w'):o.wp P a w next Q:=by
 unfold Oper.wp;rw [he,Oper.upon_value];exact h
theorem hSg (i:Nat) {w':World} (hi':nthOp ops.toList i=some o:=by rfl) (hr:decide (Region.ready md ops listed=[i])=true:=by kernel_rfl) (hw:Region.wanted o (yielded ops a.tmps)=true:=by rfl) (hd:o.dst=none:=by rfl)
  (he:(execOp a.eval o).run P w=.ok .skip w':=by (go_simp <;> with_reducible rfl)) (h:S w'/\wpAnyH P md ops Q S fuel (listed.setIfInBounds i true) a w'):wpAnyH P md ops Q S (fuel+1) listed a w :=
 qhr i hi' hr fun K hK=>by
  rw [if_pos hw];unfold Oper.wp;rw [he,Oper.upon_skip,hd];exact hK.on S _ _ (fun _ h=>h) h.1 fun _=>h.2
theorem hE (i:Nat) {w':World} {v:Value} (hi':nthOp ops.toList i=some o:=by rfl) (hr:decide (Region.ready md ops listed=[i])=true:=by kernel_rfl) (hw:Region.wanted o (yielded ops a.tmps)=true:=by rfl)
  (he:(execOp a.eval o).run P w=.ok (.value v) w':=by (go_simp <;> first | with_reducible rfl | exact⟨rfl,rfl⟩ | rfl)) (h:S w'/\wpAnyH P md ops Q S fuel (listed.setIfInBounds i true) (a.put o.dst v) w'):wpAnyH P md ops Q S (fuel+1) listed a w :=
 qhr i hi' hr fun K hK=>by
  rw [if_pos hw];exact qnm he (hK.on S _ _ (fun _ h=>h) h.1 fun _=>h.2)
theorem qf5 {P:Program} {o:Oper} {ev:Operand->Value} {w w':World} {s x:Operand} {t ty:TypeId} {v u v':Value} (ho:o.op=.call { callee:=.builtin .append,args:=#[s,x],argTypes:=#[t,t] }) (hty:o.type=ty) (hs:ev s=v) (hx:ev x=u)
  (hr:(Builtin.append_ #[t,t] ty #[v,u]).run P w=.ok v' w'):(execOp ev o).run P w=.ok (.value v') w':=by
 subst hty;unfold execOp;simp only [ho,resolve,invoke,builtin,Sem.run_bind,Sem.run_pure,Result.andThen_ok,List.map_toArray,qbt,qbN,hs,hx,hr]
theorem hSn (i:Nat) (n:Nat) {ty:TypeId} {x y:Operand} {g:Nat} {cells old:Array Value} {t:TypeId} (hg:w.heap[g]? = some (.cells old t (0,0))) (hi':nthOp ops.toList i=some o:=by rfl) (hr:decide (Region.ready md ops listed=[i])=true:=by kernel_rfl)
  (hw:Region.wanted o (yielded ops a.tmps)=true:=by rfl) (ho:o.op=.store ty x y:=by rfl) (hd:o.dst=none:=by rfl) (hx:a.eval x=.pointer (some ⟨g,0,none⟩):=by rfl) (hy:a.eval y=.agg cells:=by rfl)
  (hi:(P.info? ty).map (·.size)=some n:=by kernel_rfl) (hold:old.size=n:=by rfl) (hcs:cells.size=n:=by rfl) (h1:cells.toList.all (·.oneCell')=true:=by rfl)
  (h:S (w.setRow g cells)/\wpAnyH P md ops Q S fuel (listed.setIfInBounds i true) a (w.setRow g cells)):wpAnyH P md ops Q S (fuel+1) listed a w :=
 qhr i hi' hr fun K hK=>by
  rw [if_pos hw];refine wp_store_row ty x y ho g cells hx hy t old hg (by rw [hcs];exact hi) (by rw [hold,hcs]) (Array.all_eq_true_iff_forall_mem.2 (fun v hv=>qa6.1 h1 v (by simpa using hv))) ?_;refine hK.on S _ _ (fun _ h=>h) h.1 fun _=>?_
  rw [hd];exact h.2
theorem hSt (i:Nat) (n:Nat) {ty:TypeId} {x y:Operand} {g:Nat} {cells old:Array Value} {t:TypeId} (hg:w.heap[g]? = some (.cells old t (0,0))) (hi':nthOp ops.toList i=some o:=by rfl) (hr:decide (Region.ready md ops listed=[i])=true:=by kernel_rfl)
  (hw:Region.wanted o (yielded ops a.tmps)=true:=by rfl) (ho:o.op=.store ty x y:=by rfl) (hd:o.dst=none:=by rfl) (hx:a.eval x=.pointer (some ⟨g,0,none⟩):=by rfl) (hy:a.eval y=.agg cells:=by rfl)
  (hi:(P.info? ty).map (·.size)=some n:=by kernel_rfl) (hold:old.size=n:=by rfl) (hcs:cells.size=n:=by rfl) (h1:cells.toList.all (·.oneCell')=true:=by rfl) (hl:decide (Region.ready md ops (listed.setIfInBounds i true)=[])=true:=by kernel_rfl)
  (h:S (w.setRow g cells)/\Q .normal a (w.setRow g cells)):wpAnyH P md ops Q S (fuel+1) listed a w :=
 qhr i hi' hr fun K hK=>by
  rw [if_pos hw];refine wp_store_row ty x y ho g cells hx hy t old hg (by rw [hcs];exact hi) (by rw [hold,hcs]) (Array.all_eq_true_iff_forall_mem.2 (fun v hv=>qa6.1 h1 v (by simpa using hv))) ?_;refine hK.on S _ _ (fun _ h=>h) h.1 fun _=>?_
  rw [hd];exact wpAnyH_done (of_decide_eq_true hl) h.2 _
def AllC (p:Nat->Prop):List Nat->Prop
 | []=>True
 | i :: l=>p i/\AllC p l
theorem AllC.get {p:Nat->Prop}:∀{l:List Nat},AllC p l->∀i∈l,p i
 | i :: _,h,j,hj=>by
  rcases qaP.1 hj with rfl | hj
  ·exact h.1
  ·exact AllC.get h.2 j hj
theorem gr (D:List (Nat×Tmp)) (rl:List (Nat×List Nat)) (T C E:List Nat) (n0 N:Nat) (F:Nat->Value->World->Prop) (A:(Nat->Value)->Act) (kl:Nat) {m:Nat} (hm:a.tmps.size=m:=by rfl) (hA:∀v,pf a v D=A v:=by (intro v;simp only [pf,Act.put,qaC,qbn,List.set_cons_succ];with_reducible rfl))
  (hst:∀i x,Stays (F i x):=by intro i x;infer_instance)
  (hB:(dagB md ops && (decide ((D.map (·.1)).Nodup) && (decide ((D.map (·.2)).Nodup) && (dstB ops D (T++(List.range ops.size).filter fun k=>decide (n0<=k)) && ((D.all fun p=>decide (D.lookup p.1=some p.2) && decide (p.2<m)) && (decide (listed.size=ops.size) && (decide (leftN ops.size (fun k=>listed.getD k false)<=fuel) &&
   (growB md ops rl T n0 && (decide (n0<=ops.size) && (decide (leftN ops.size (fun i=>decide (i<n0) || T.contains i)=kl) && (decide (listed=arr ops.size fun k=>T.contains k) && ((T.all fun k=>((nthOp ops.toList k).map fun o=>(waits md o).all fun j=>T.contains j).getD false) && (decide (arr N (fun i=>decide (i<n0) || T.contains i)=arr ops.size fun i=>decide (i<n0) || T.contains i) && ((List.range n0).all (fun i=>T.contains i || C.contains i) && E.all fun i=>decide (i<n0) && !T.contains i))))))))))))))=true:=by kernel_rfl)
  (hS:∀w',Below w.heap.size w w'->S w')
  (hstep:AllC (fun i=>∃o,nthOp ops.toList i=some o/\∀(v:Nat->Value) (w':World),Below w.heap.size w w'->AllC (fun k=>F k (v k) w') (dep rl i)->∀K,Grows F E i w' (A v) o.dst K->if Region.wanted o (yielded ops (A v).tmps)=true then Oper.wp P o (A v) w' K Q else K ((A v).put o.dst undef) w') C)
  (hend:∀(v:Nat->Value) (w':World),Below w.heap.size w w'->(∀i,i<n0->i∉T->F i (v i) w')->(∀i∈E,∀j∈E,i≠j->pv (v i)≠pv (v j))->∀f,wpAnyH P md ops Q S (f+kl) (arr N fun i=>decide (i<n0) || T.contains i) (A v) w'):wpAnyH P md ops Q S fuel listed a w:=by
 refine qkF D rl T C E n0 F kl m (arr N fun i=>decide (i<n0) || T.contains i) hm hst hB hS (fun i hi o ho v w' hb hF B hB K hK=>?_) fun v w' hb hF hE B hB f=>?_
 ·obtain⟨p,hp,h⟩:=hstep.get i hi;rw [hp] at ho;cases ho;rw [hA] at hB;subst hB;refine h v w' hb ?_ K hK;generalize dep rl i=l at hF;clear h hp hK
  induction l with
  | nil=>exact trivial
  | cons k l ih=>exact⟨hF k (qbQ ..),ih fun j hj=>hF j (qbG _ hj)⟩
 ·rw [hA] at hB;subst hB;exact hend v w' hb hF hE f
theorem gC {F:Nat->Value->World->Prop} {E:List Nat} {i:Nat} {K:Act->World->Prop} (hK:Grows F E i w a o.dst K) {f:FuncId} {vs:Array Value} {R:Ending->World->Prop} (hc:Calls P f vs w R) (hw:Region.wanted o (yielded ops a.tmps)=true:=by rfl) (he:(execOp a.eval o).run P w=.ok (.enter f vs) w:=by (go_simp <;> with_reducible rfl))
  (hE:E.contains i=false:=by rfl) (h:∀e w',R e w'->∃v,e=.returned v/\F i v w'/\Below w.heap.size w w'):if Region.wanted o (yielded ops a.tmps)=true then Oper.wp P o a w K Q else K (a.put o.dst undef) w:=by
 rw [if_pos hw];exact qnl he hc fun e w' r=>by obtain⟨v,rfl,h1,h2⟩:=h e w' r;exact⟨v,rfl,hK.to _ _ _ rfl h1 (fun h=>by rw [hE] at h;cases h) h2⟩
theorem gW {F:Nat->Value->World->Prop} {E:List Nat} {i:Nat} {K:Act->World->Prop} (hK:Grows F E i w a o.dst K) {v:Value} {w':World} (hw:Region.wanted o (yielded ops a.tmps)=true:=by rfl) (he:(execOp a.eval o).run P w=.ok (.value v) w':=by (go_simp <;> first | with_reducible rfl | exact⟨rfl,rfl⟩ | rfl))
  (hE:E.contains i=true->w.heap.size<=pv v/\pv v<w'.heap.size:=by exact fun _=>⟨qad _,by rw [qab];exact Nat.lt_succ_self _⟩) (h:F i v w'/\Below w.heap.size w w'):if Region.wanted o (yielded ops a.tmps)=true then Oper.wp P o a w K Q else K (a.put o.dst undef) w:=by
 rw [if_pos hw];unfold Oper.wp;rw [he,Oper.upon_value];exact hK.to _ _ _ rfl h.1 hE h.2
theorem gV {F:Nat->Value->World->Prop} {E:List Nat} {i:Nat} {K:Act->World->Prop} (hK:Grows F E i w a o.dst K) {v:Value} (hF:F i v w) (hw:Region.wanted o (yielded ops a.tmps)=true:=by rfl) (he:(execOp a.eval o).run P w=.ok (.value v) w:=by (go_simp <;> with_reducible rfl)) (hE:E.contains i=false:=by rfl) :
  if Region.wanted o (yielded ops a.tmps)=true then Oper.wp P o a w K Q else K (a.put o.dst undef) w:=by
 rw [if_pos hw];exact qnm he (hK.to _ _ _ rfl hF (fun h=>by rw [hE] at h;cases h) qB)
