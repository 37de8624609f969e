/- Ae, part 34: Lst Mt Dft Drf -/
import Derived.Test.YtfminfgabiipjaaGreatDoorAe0
import Derived.Test.YtfminfgabiipjaaGreatDoorAe23
import Derived.Test.YtfminfgabiipjaaGreatDoorAe33
set_option maxRecDepth 100000
set_option maxHeartbeats 16000000
namespace Go.Proofs.YtfminfgabiipjaaGreatDoor
open Go.RowKit
def qe4 (w:World) (t:Tbl) (bl wl:List FT) (e:Ending) (w':World):Prop :=
  ((¬TOk t∧e=.returned (.tuple #[.slice none 0 0,.int .i64 60])) ∨
   (TOk t∧¬(FAll bl∧FAll wl)∧e=.returned (.tuple #[.slice none 0 0,.int .i64 20])) ∨
   (TOk t∧FAll bl∧FAll wl∧¬(bl.length=t.length∧wl.length=t.length∧¬Neg wl)∧e=.returned (.tuple #[.slice none 0 0,.int .i64 2])) ∨
   (TOk t∧FAll bl∧FAll wl∧bl.length=t.length∧wl.length=t.length∧¬Neg wl ∧
     ((Sing (wid t) (normQ t bl wl t.length)∧e=.returned (.tuple #[.slice none 0 0,.int .i64 7])) ∨
      (¬Sing (wid t) (normQ t bl wl t.length)∧∃x,qb6 (wid t) (normQ t bl wl t.length) (fun r=>normQ t bl wl t.length r (wid t)) x∧Tells (wid t) x e w'))))∧Below w.heap.size w w'
theorem qgW {W:World} {ao:Option Addr} {b off n c:Nat} {l:List FT} {ao2:Option Addr} {b2 off2 n2 c2:Nat} {l2:List FT} {g:Nat} {ty:TypeId} (hg:W.heap[g]? = some (.cells #[.slice ao n c,.slice ao2 n2 c2] ty (0,0))) (hn:l.length=n) (h:FCells W ao b off l) (hn2:l2.length=n2) (h2:FCells W ao2 b2 off2 l2):TCells W (some ⟨g,0,none⟩) g 0 [l,l2]:=by
 refine⟨fun _=>rfl,fun k hk=>?_⟩
 rcases (show k=0∨k=1 by simp at hk;omega) with rfl | rfl
 ·exact⟨ao,b,off,c,by rw [show ([l,l2]:Tbl).getD 0 []=l from rfl,hn];exact cell_of_row _ _ 0 _ _ _ hg,h⟩
 ·exact⟨ao2,b2,off2,c2,by rw [show ([l,l2]:Tbl).getD 1 []=l2 from rfl,hn2];exact cell_of_row _ _ 1 _ _ _ hg,h2⟩
theorem qix {l l2:List FT}:(∀k,k<([l,l2]:Tbl).length→FAll (([l,l2]:Tbl).getD k []))↔FAll l∧FAll l2 :=
 ⟨fun h=>⟨h 0 (by simp),h 1 (by simp)⟩,fun h k hk=>by
  rcases (show k=0∨k=1 by simp at hk;omega) with rfl | rfl
  ·exact h.1
  ·exact h.2⟩
theorem qev (ao:Option Addr) (b off R c:Nat) (t:Tbl) (ao2:Option Addr) (b2 off2 m c2:Nat) (bl:List FT) (ao3:Option Addr) (b3 off3 q c3:Nat) (wl:List FT) (w:World) (hR:t.length=R) (hl:R≤4611686018427387904) (hw:∀k,k<R→(t.getD k []).length≤4611686018427387904) (hc:TCells w ao b off t)
  (hm:bl.length=m) (hl2:m≤4611686018427387904) (hc2:FCells w ao2 b2 off2 bl) (hq:wl.length=q) (hl3:q≤4611686018427387904) (hc3:FCells w ao3 b3 off3 wl) (hT:HasT w) :
  Calls Tryz.prog 22 #[.slice ao R c,.slice ao2 m c2,.slice ao3 q c3] w fun e w'=>qe4 w t bl wl e w':=by
 obtain⟨W1,hW1⟩:∃W1,W1=w.alloc (.cells #[.slice ao2 m c2,.slice ao3 q c3] 23):=⟨_,rfl⟩
 have hb1:Below w.heap.size w W1:=hW1▸qbp qB qN
 have hr1:W1.heap[w.heap.size]? = some (.cells #[.slice ao2 m c2,.slice ao3 q c3] 23 (0,0)):=by rw [hW1];exact qM _ _ _ rfl
 have HK:=qH (qcZ ao b off R c t (some ⟨w.heap.size,0,none⟩) w.heap.size 0 2 2 [bl,wl] W1 hR hl hw (hc.below hb1) rfl (by omega) (fun k hk=>by
  rcases (show k=0∨k=1 by omega) with rfl | rfl
  ·show bl.length≤_;omega
  ·show wl.length≤_;omega) (qgW hr1 hm (hc2.below hb1) hq (hc3.below hb1)))
 have HC:=qH (qA hc (qA hR (qA hc2 (qA hm (qA hc3 (qA hq hT))))))
 have HB1:=qH hb1
 clear hR hw hc hm hc2 hb1 hr1 hT hq hc3
 go_enter Tryz.func22,Tryz.ntmps22
 go_wp2_with fail
 rw [←hW1]
 clear hW1
 refine HK.out.mono ?_
 rintro e w2 ⟨cc,rfl,hcc,hb2⟩
 have HB:=qH (HB1.out.trans (hb2.mono HB1.out.size))
 clear hb2
 rcases hcc with ⟨rfl,hT⟩ | ⟨rfl,hT,hL⟩ | ⟨rfl,hT,hL⟩
 ·have HT:=qH hT
  clear hT
  go_wp2_with fail
  go_ret2
  exact⟨qaJ ⟨HT.out,rfl⟩,HB.out⟩
 ·have HT:=qH (qA hT hL)
  clear hT hL
  go_wp2_with fail
  go_ret2
  exact⟨qaA (qaJ ⟨HT.out.1,fun h=>HT.out.2 (qix.2 h),rfl⟩),HB.out⟩
 obtain⟨hLb,hLw⟩:=qix.1 hL
 have hR40:R≤40:=by have:=hT.r2;have:=HC.out.2.1;omega
 have hR1:1≤R:=by have:=hT.r1;have:=HC.out.2.1;omega
 have haw:=HC.out.1.addr (by have:=HC.out.2.1;omega)
 subst haw
 obtain⟨n,hn⟩:∃n,wid t=n:=⟨_,rfl⟩
 have hn10:n≤10:=by have:=hT.c2;omega
 have hn1:1≤n:=by have:=hT.c1;omega
 have HX:=qH (qA hT (qA hLb (qA hLw hn)))
 clear hT hL hLb hLw hn
 have bad:∀(W:World),Below w.heap.size w W→¬(bl.length=t.length∧wl.length=t.length∧¬Neg wl)→qe4 w t bl wl (.returned (.tuple #[.slice none 0 0,.int .i64 2])) W:=fun W h hn=>⟨qaA (qaA (qaJ ⟨HX.out.1,HX.out.2.1,HX.out.2.2.1,hn,rfl⟩)),h⟩
 have BAD:=qH bad
 clear bad
 by_cases e1:m=R
 case neg =>
  have e1b:((m:Int) != (R:Int))=true:=by rw [bne_iff_ne];omega
  have HE:=qH (BAD.out _ HB.out (fun h=>e1 (by rw [←HC.out.2.2.2.1,h.1,HC.out.2.1])))
  clear e1
  go_wp2_with fail
  go_ret2
  exact HE.out
 have e1b:((m:Int) != (R:Int))=false:=by simp [e1]
 by_cases e2:q=R
 case neg =>
  have e2b:((q:Int) != (R:Int))=true:=by rw [bne_iff_ne];omega
  have HE:=qH (BAD.out _ HB.out (fun h=>e2 (by rw [←HC.out.2.2.2.2.2.1,h.2.1,HC.out.2.1])))
  clear e2 e1
  go_wp2_with fail
  go_ret2
  exact HE.out
 have e2b:((q:Int) != (R:Int))=false:=by simp [e2]
 have He:=qH (qA e1 e2)
 have haw2:=HC.out.2.2.1.addr (by have:=HC.out.2.2.2.1;omega)
 subst haw2
 have haw3:=HC.out.2.2.2.2.1.addr (by have:=HC.out.2.2.2.2.2.1;omega)
 subst haw3
 have hng:=qeI (some ⟨b3,off3,none⟩) b3 off3 q c3 wl w2 HC.out.2.2.2.2.2.1 (by omega) (HC.out.2.2.2.2.1.below HB.out) HX.out.2.2.1
 have HN:=qH hng
 have hqR:(q:Int)≤R:=by omega
 clear e1 e2 hng
 go_wp2_with fail
 refine HN.out.mono ?_
 rintro e w3 ⟨x,rfl,hx,hb3⟩
 have HB3:=qH (HB.out.trans (hb3.mono HB.out.size))
 clear hb3
 cases x with
 | true =>
  have HE:=qH (BAD.out _ HB3.out (fun h=>h.2.2 (hx.1 rfl)))
  clear hx
  go_wp2_with fail
  go_ret2
  exact HE.out
 | false =>
  have hnn:¬Neg wl:=fun h=>by have:=hx.2 h;cases this
  have hno:=qih b off c t b2 off2 c2 bl b3 off3 c3 wl R n w3 HX.out.1 HC.out.2.1 HX.out.2.2.2 (HC.out.1.below HB3.out) HX.out.2.1 (by rw [HC.out.2.2.2.1];exact He.out.1) (HC.out.2.2.1.below HB3.out) HX.out.2.2.1 (by rw [HC.out.2.2.2.2.2.1];exact He.out.2) (HC.out.2.2.2.2.1.below HB3.out) hnn
  have hmR:(m:Int)=R:=by have:=He.out.1;omega
  have hqR2:(q:Int)=R:=by have:=He.out.2;omega
  obtain rfl:m=R:=He.out.1
  obtain rfl:q=m:=He.out.2
  have HNo:=qH hno
  have Hnn:=qH hnn
  clear hx hno hnn hmR hqR2 hqR
  go_wp2_with fail
  refine HNo.out.mono ?_
  rintro e w4 ⟨tb,gs,M,Z,rfl,hb4,htb,hZ,hMt,hval,hfit⟩
  have hb14:=HB3.out.trans (hb4.mono HB3.out.size)
  have hsv:=qgP tb n 63440 gs M w4 hn1 hn10 (by omega) (by omega) hMt (fun i hi=>by
   obtain⟨ps,_,h,_⟩:=hMt.rows i hi
   exact (qG h.1).1) (fun i hi j hj=>hfit i hi j hj) (HC.out.2.2.2.2.2.2.below hb14)
  have HS:=qH hsv
  have hZq:(Z:Rat)≠0:=by have:=qbj hZ;exact_mod_cast this
  have hA:∀i,i<n→∀j,j<n→castM M i j=(Z:Rat)*normQ t bl wl q i j:=fun i hi j hj=>hval i hi j (by omega)
  have hAb:∀i,i<n→castM M i n=(Z:Rat)*normQ t bl wl q i n:=fun i hi=>hval i hi n (by omega)
  have hsg:=Sing.scale (fun _=>(Z:Rat)) (fun _ _=>hZq) hA
  have hsol:∀x,qb6 n (castM M) (fun i=>castM M i n) x→qb6 n (normQ t bl wl q) (fun r=>normQ t bl wl q r n) x:=fun x hx=>qb6.scale (fun _=>(Z:Rat)) (fun _ _=>hZq) hA hAb hx
  have HZ:=qH (qA hsg (qA hsol (qA hb14 (qak HB3.out.size htb))))
  clear hsv hb4 htb hZ hMt hval hfit hZq hA hAb hsg hsol hb14
  go_wp2_with fail
  refine HS.out.mono ?_
  rintro e w5 ⟨hg5,h5⟩
  have hbb:=qdk HZ.out.2.2.1 hg5 HZ.out.2.2.2
  have FIN:qe4 w t bl wl e w5:=by
   refine⟨qaA (qaA (qaA ⟨HX.out.1,HX.out.2.1,HX.out.2.2.1,by rw [HC.out.2.2.2.1,HC.out.2.1],by rw [HC.out.2.2.2.2.2.1,HC.out.2.1],Hnn.out,?_⟩)),hbb⟩
   rw [HC.out.2.1,HX.out.2.2.2]
   rcases h5 with ⟨h,e⟩ | ⟨h,x,hx,ht⟩
   ·exact qaJ ⟨HZ.out.1.1 h,e⟩
   ·exact qaA ⟨fun hs=>h (HZ.out.1.2 hs),x,HZ.out.2.1 x hx,ht⟩
  have HF:=qH FIN
  clear FIN hbb hg5
  rcases h5 with ⟨_,rfl⟩ | ⟨_,x,_,⟨_,g,rfl,_⟩ | ⟨_,rfl⟩⟩
  all_goals
   go_wp2_with fail
   go_ret2
   exact HF.out
theorem qi6 (p1 p2 g1 g2 n1 n2 j:Nat) (m1 m2:Nat→Int) (K J:Nat) (hKJ:K+J≤274877906944) (w:World)
  (h1:w.cell? ⟨p1,0,none⟩=some (rowv g1 n1)) (h2:w.cell? ⟨p2,0,none⟩=some (rowv g2 n2)) (h3:qbL w g1 n1 m1) (h4:qbL w g2 n2 m2) (hj1:j<n1) (hj2:j<n2) (_hn1:n1≤1048576) (_hn2:n2≤1048576) (hf1:Fit (m1 j).natAbs K) (hf2:Fit (m2 j).natAbs J) :
  Calls Tryz.prog 68 #[.int .i64 j,.pointer (some ⟨p1,0,none⟩),.pointer (some ⟨p2,0,none⟩)] w fun e w'=>∃u,e=.returned u∧Below w.heap.size w w'∧IntAt w' u (m1 j*m2 j):=by
 obtain⟨W1,hW1⟩:∃W1,W1=w.alloc (.cells #[.slice none 0 0,.bool false] 105):=⟨_,rfl⟩
 have hb1:Below w.heap.size w W1:=hW1▸qbp qB qN
 have hr1:W1.heap[w.heap.size]? = some (.cells #[.slice none 0 0,.bool false] 105 (0,0)):=by rw [hW1];exact qM _ _ _ rfl
 have hib:qbJ W1 w.heap.size 0:=⟨_,_,_,_,hr1,_,rfl,MagAt.nil _⟩
 obtain⟨a2,l2,c2,b2,q0,q1,i2⟩:=h3.pair hj1
 obtain⟨a3,l3,c3,b3,q2,q3,i3⟩:=h4.pair hj2
 have cellF:∀(p:Addr) (v:Value),w.cell? p=some v→∀W,W1.grownBy W (some w.heap.size)→W.cell? p=some v:=fun p v h W hg=>by
  have hlt:=qad w _ h
  exact (qcC hg (qal hlt hb1.size) (Nat.ne_of_lt hlt)).trans ((hb1.cell hlt).trans h)
 have C1:=cellF _ _ h1
 have C2:=cellF _ _ h2
 have C3:=cellF _ _ q0
 have C4:=cellF _ _ q1
 have C5:=cellF _ _ q2
 have C6:=cellF _ _ q3
 have hji1:(j:Int)<n1:=by omega
 have hji2:(j:Int)<n2:=by omega
 have HP1:=qH (fun W (h:Below W1.heap.size W1 W)=>least.qcv (m1 j) (m2 j) K J hKJ _ _ W (i2.below (hb1.trans (h.mono hb1.size))) (i3.below (hb1.trans (h.mono hb1.size))) hf1 hf2)
 have HB1:=qH (qA hb1 hib)
 have hst:Below W1.heap.size W1 W1:=Below.refl _ _
 have hstD:Below W1.heap.size W1 W1.drew:=hst.drew
 clear cellF h1 h2 h3 h4 q0 q1 q2 q3 i2 i3 hf1 hf2 hb1 hr1 hib
 go_enter Tryz.func68,Tryz.ntmps68
 go_wp2_with fail
 rw [←hW1]
 clear hW1
 go_region_held3 (fun W=>W1.grownBy W (some w.heap.size)) (first | with_reducible exact qb8 _ _ | with_reducible exact qbu _ hstD | with_reducible exact qbu _ HB6 | exact qbs (qbs (qbu _ HB6) (least.qbv _ _ _ _)) (least.qbv _ _ _ _)) (first | (go_at_call 69;refine (HP1.out _ hstD).mono ?_;rintro e w6 ⟨u6,rfl,hb6,hu6⟩;have HB6:Below W1.heap.size W1 w6:=bjoin hstD hb6;obtain⟨a6,n6,c6,b6,rfl⟩:=least.qbt hu6;obtain⟨_,_,_,_,⟨z0,z1⟩,⟨f0,f1⟩,_⟩:=(HB1.out.2.below HB6).cells;have HX:=qH ((HB1.out.2.below HB6).row2 hu6);clear hb6 hu6))
 all_goals go_wp2_with fail
 all_goals exact bodyPost_ret (v:=.agg #[.slice a6 n6 c6,.bool b6]) (qbE rfl _ _ w.heap.size 105 _ _ rfl HX.out.1 Tryz.underlying105 rfl 2 (by kernel_rfl) rfl) rfl ⟨_,rfl,((HB1.out.1.trans (HB6.mono HB1.out.1.size)).setCell (p:=⟨w.heap.size,0,none⟩) qN _).setCell (p:=⟨w.heap.size,1,none⟩) qN _,HX.out.2⟩
def resQ (t:Tbl) (bl xl:List FT) (n i:Nat):Rat:=sumQ n (fun j=>tval t i j*lval xl j)-lval bl i
def measQ (t:Tbl) (bl wl xl:List FT) (n R:Nat):Rat:=sumQ R fun i=>lval wl i*(resQ t bl xl n i*resQ t bl xl n i)
def mval2 (t:Tbl) (bl xl:List FT) (n i:Nat):Int:=isum (fun j=>ftop (besides t bl i) j*ftop xl j) n + -(ftop (besides t bl i) n*((flcd xl:Nat):Int))
theorem qi7 {t:Tbl} {bl xl:List FT} {n i:Nat} (hf:FAll (besides t bl i)) (hl:(besides t bl i).length=n+1) (ht:(t.getD i []).length=n) (hx:FAll xl) (hxl:xl.length=n) :
  ((mval2 t bl xl n i:Int):Rat)=(flcd (besides t bl i):Rat)*(flcd xl:Rat)*resQ t bl xl n i:=by
 unfold mval2 resQ
 push_cast
 rw [qfe,qcU hf (by omega)]
 have e1:sumQ n (fun p=>(((ftop (besides t bl i) p*ftop xl p:Int)):Rat))=(flcd (besides t bl i):Rat)*(flcd xl:Rat)*sumQ n (fun j=>tval t i j*lval xl j):=by
  rw [←qbZ]
  refine qbz fun j hj=>?_
  push_cast
  rw [qcU hf (by omega),qcU hx (by omega)]
  have:lval (besides t bl i) j=tval t i j:=qdZ (by omega)
  rw [this];grind
 have e2:lval (besides t bl i) n=lval bl i:=by
  have:=qdY (l:=t.getD i []) (x:=bl.getD i fd0)
  rw [ht] at this
  exact this
 rw [e1,e2];grind
theorem qef {t:Tbl} {bl xl:List FT} {n i:Nat} (hf:FAll (besides t bl i)) (hl:(besides t bl i).length=n+1) (hn:n≤10) (hx:FAll xl) (hxl:xl.length=n) :
  Fit (isum (fun j=>ftop (besides t bl i) j*ftop xl j) n).natAbs 1621∧Fit (ftop (besides t bl i) n*((flcd xl:Nat):Int)).natAbs 1543∧Fit (mval2 t bl xl n i).natAbs 1622:=by
 have h1:Fit (isum (fun j=>ftop (besides t bl i) j*ftop xl j) n).natAbs 1621:=(qea _ 1610 n (fun j hj=>by
  rw [qaQ]
  exact ((qcm hf (m:=11) (by omega) (by omega)).mul (qcm hx (m:=11) (by omega) (by omega))).mono (by omega))).mono (by omega)
 have h2:Fit (ftop (besides t bl i) n*((flcd xl:Nat):Int)).natAbs 1543:=by
  rw [qaQ,qax]
  exact ((qcm hf (m:=11) (by omega) (by omega)).mul (qd6 hx (m:=11) (by omega))).mono (by omega)
 refine⟨h1,h2,?_⟩
 unfold mval2
 have h3:=h2.mono (show 1543≤1621 by omega)
 rw [←Int.natAbs_neg] at h3
 exact (h1.add h3).le (Int.natAbs_add_le _ _)
theorem qgC {a b:Nat} (ha:0<a) (hb:0<b):a*(a.lcm b / a)=a.lcm b∧b*(a.lcm b / b)=a.lcm b∧a.lcm b / a≤b∧a.lcm b / b≤a:=by
 have h1:=Nat.mul_div_cancel' (Nat.dvd_lcm_left a b)
 have h2:=Nat.mul_div_cancel' (Nat.dvd_lcm_right a b)
 have h3:a.lcm b≤a*b:=Nat.le_of_dvd (Nat.mul_pos ha hb) (Nat.lcm_dvd_mul _ _)
 refine⟨h1,h2,?_,?_⟩
 ·exact Nat.div_le_of_le_mul h3
 ·exact Nat.div_le_of_le_mul (by rw [qav];exact h3)
theorem Fit.zero (K:Nat):Fit 0 K:=Nat.pow_pos (by decide)
structure MSt (t:Tbl) (bl wl xl:List FT) (n i:Nat) (T:Int) (D:Nat):Prop where
 pos:0<D
 val:(T:Rat)=(D:Rat)*((flcd xl:Rat)*(flcd xl:Rat))*measQ t bl wl xl n i
 fitD:Fit D (1543*i+1)
 fitT:Fit T.natAbs (3400+1545*i)
theorem MSt.start (t:Tbl) (bl wl xl:List FT) (n:Nat):MSt t bl wl xl n 0 0 1:=⟨by decide,by simp [measQ,sumQ],by show 1<1000000000 ^ (1543*0+1);decide,Fit.zero _⟩
theorem MSt.skip {t:Tbl} {bl wl xl:List FT} {n i:Nat} {T:Int} {D:Nat} (h:MSt t bl wl xl n i T D) (hw:wnum wl i=0):MSt t bl wl xl n (i+1) T D:=by
 refine⟨h.pos,?_,h.fitD.mono (by omega),h.fitT.mono (by omega)⟩
 rw [h.val]
 congr 1
 show measQ t bl wl xl n i=measQ t bl wl xl n i+lval wl i*_
 rw [qgD hw];grind
theorem MSt.next {t:Tbl} {bl wl xl:List FT} {n i:Nat} {T:Int} {D:Nat} (h:MSt t bl wl xl n i T D) (hr:NRow t bl wl i) (hl:(besides t bl i).length=n+1) (ht:(t.getD i []).length=n) (hx:FAll xl) (hxl:xl.length=n) (hn:n≤10) :
  MSt t bl wl xl n (i+1) (T*((D.lcm (wdn t bl wl i) / D:Nat):Int)+((wnum wl i:Nat):Int)*mval2 t bl xl n i*mval2 t bl xl n i*((D.lcm (wdn t bl wl i) / wdn t bl wl i:Nat):Int)) (D.lcm (wdn t bl wl i)):=by
 obtain⟨p1,p2,p3,p4⟩:=qgC h.pos hr.d.1
 have hv:=qi7 hr.fa hl ht hx hxl
 have hfv:=(qef hr.fa hl hn hx hxl).2.2
 refine⟨Nat.lcm_pos h.pos hr.d.1,?_,?_,?_⟩
 ·have q1:(D:Rat)*((D.lcm (wdn t bl wl i) / D:Nat):Rat)=(D.lcm (wdn t bl wl i):Rat):=by exact_mod_cast p1
  have q2:((wdn t bl wl i:Nat):Rat)*((D.lcm (wdn t bl wl i) / wdn t bl wl i:Nat):Rat)=(D.lcm (wdn t bl wl i):Rat):=by exact_mod_cast p2
  have hd:((wdn t bl wl i:Nat):Rat)=(fden (wl.getD i fd0):Rat)*(flcd (besides t bl i):Rat)*(flcd (besides t bl i):Rat):=by unfold wdn;push_cast;rfl
  have hwl:(wnum wl i:Rat)=lval wl i*(fden (wl.getD i fd0):Rat):=by
   unfold lval
   rw [qf7]
   have:(ival (wl.getD i fd0).1.data.toList:Int)=(wnum wl i:Int):=by have:=hr.nn;unfold wnum;omega
   have hne:((fden (wl.getD i fd0):Nat):Rat)≠0:=by have:=qbj hr.wd.1;exact_mod_cast this
   rw [this]
   show (wnum wl i:Rat)=(wnum wl i:Rat) / ((fden (wl.getD i fd0):Nat):Rat)*_
   grind
  show _=_*(measQ t bl wl xl n i+lval wl i*(resQ t bl xl n i*resQ t bl xl n i))
  rw [hd] at q2
  clear p1 p2 p3 p4
  generalize D.lcm (wdn t bl wl i) / D=A at *
  generalize D.lcm (wdn t bl wl i) / wdn t bl wl i=B at *
  push_cast
  rw [h.val,hv]
  generalize ((D.lcm (wdn t bl wl i):Nat):Rat)=L at *
  generalize ((flcd (besides t bl i):Nat):Rat)=F at *
  generalize ((flcd xl:Nat):Rat)=U at *
  generalize ((fden (wl.getD i fd0):Nat):Rat)=E at *
  generalize resQ t bl xl n i=r at *
  generalize measQ t bl wl xl n i=M at *
  generalize lval wl i=l at *
  rw [hwl]
  have e1:(D:Rat)*(U*U)*M*A=L*(U*U)*M:=by rw [←q1];grind
  have e2:l*E*(F*U*r)*(F*U*r)*B=L*(U*U)*(l*(r*r)):=by rw [←q2];grind
  rw [e1,e2];grind
 ·exact ((h.fitD.mul hr.d.2).le (Nat.le_of_dvd (Nat.mul_pos h.pos hr.d.1) (Nat.lcm_dvd_mul _ _))).mono (by omega)
 ·have f1:Fit (T*((D.lcm (wdn t bl wl i) / D:Nat):Int)).natAbs (3400+1545*i+1543):=by
   rw [qaQ,qax]
   exact h.fitT.mul (hr.d.2.le p3)
  have f2:Fit (((wnum wl i:Nat):Int)*mval2 t bl xl n i*mval2 t bl xl n i*((D.lcm (wdn t bl wl i) / wdn t bl wl i:Nat):Int)).natAbs (67+1622+1622+(1543*i+1)):=by
   rw [qaQ,qaQ,qaQ,qax,qax]
   exact ((hr.wn.mul hfv).mul hfv).mul (h.fitD.le p4)
  exact (((f1.mono (show _≤3400+1545*i+1544 by omega)).add (f2.mono (show _≤3400+1545*i+1544 by omega))).le (Int.natAbs_add_le _ _)).mono (by omega)
end Go.Proofs.YtfminfgabiipjaaGreatDoor
namespace Go.Proofs.YtfminfgabiipjaaGreatDoor
open Go.Lib
theorem qhz (x:Nat):itxt (x:Int)=decDigits x:=by
 unfold itxt
 rw [if_neg (by omega),qax]
theorem fok_ftxt {q:Rat} (h:Short q):FOk (ftxt q).1.data.toList (ftxt q).2.data.toList:=by
 obtain⟨h1,h2⟩:=h
 rw [qdL] at h1 h2
 have e2:(ftxt q).2.data.toList=itxt (q.den:Int):=(qhz q.den).symm
 have e1:(ftxt q).1.data.toList=itxt q.num:=rfl
 have hp:=q.den_pos
 rw [e1,e2]
 refine⟨qfT h1,qfT (by rw [qax];exact h2),?_,?_⟩
 ·rw [qcH];omega
 ·rw [qcH,qcH,qax];exact q.reduced
theorem qgx (q:Rat):fval (ftxt q).1.data.toList (ftxt q).2.data.toList=q:=by
 have e2:(ftxt q).2.data.toList=itxt (q.den:Int):=(qhz q.den).symm
 have e1:(ftxt q).1.data.toList=itxt q.num:=rfl
 rw [e1,e2]
 unfold fval
 rw [qcH,qcH,qax]
 exact Rat.mkRat_self q
theorem qdG {n:Nat} {x:Nat→Rat} {i:Nat} (hi:i<n):(told n x).getD i fd0=ftxt (x i):=by
 unfold told
 rw [qaa,qaO,qbh hi];rfl
theorem qcP {n:Nat} {x:Nat→Rat} {i:Nat} (hi:i<n):lval (told n x) i=x i:=by
 unfold lval;rw [qdG hi,qgx]
theorem qb7 {n:Nat} {x:Nat→Rat} (h:qbw n x):FAll (told n x):=fun k hk=>by
 rw [qbo] at hk
 rw [qdG hk];exact fok_ftxt (h k hk)
theorem qeB {n:Nat} {x y:Nat→Rat} (h:∀i,i<n→x i=y i):told n x=told n y:=by
 unfold told
 exact List.map_congr_left fun i hi=>by rw [h i (qa1.1 hi)]
theorem qbw.congr {n:Nat} {x y:Nat→Rat} (h:qbw n x) (e:∀i,i<n→x i=y i):qbw n y:=fun i hi=>by rw [←e i hi];exact h i hi
def ttab (n m:Nat) (f:Nat→Nat→Rat):Tbl:=(List.range n).map fun i=>told m (f i)
theorem qbI (n m:Nat) (f:Nat→Nat→Rat):(ttab n m f).length=n:=by unfold ttab;rw [qaF,List.length_range]
theorem qdI {n m:Nat} {f:Nat→Nat→Rat} {i:Nat} (hi:i<n):(ttab n m f).getD i []=told m (f i):=by
 unfold ttab
 rw [qaa,qaO,qbh hi];rfl
theorem qcN {n m:Nat} {f:Nat→Nat→Rat} (h:0<n):wid (ttab n m f)=m:=by unfold wid;rw [qdI h,qbo]
theorem qc2 {n m:Nat} {f:Nat→Nat→Rat} (h1:1≤n) (h2:n≤40) (h3:1≤m) (h4:m≤10) (h:∀i,i<n→qbw m (f i)):TOk (ttab n m f):=by
 refine⟨by rw [qbI];exact h1,by rw [qbI];exact h2,by rw [qcN h1];exact h3,by rw [qcN h1];exact h4,fun k hk=>?_⟩
 rw [qbI] at hk
 rw [qcN h1,qdI hk,qbo]
 exact⟨rfl,qb7 (h k hk)⟩
theorem qgm {n m:Nat} {f:Nat→Nat→Rat} {i j:Nat} (hi:i<n) (hj:j<m):tval (ttab n m f) i j=f i j:=by
 unfold tval;rw [qdI hi,qcP hj]
def Rb (q:Rat) (N:Nat):Prop:=q.num.natAbs≤N∧q.den≤N
theorem rb_div {q:Rat} {p z:Int} {N:Nat} (hz:z≠0) (hp:p.natAbs≤N) (hzN:z.natAbs≤N) (h:q=(p:Rat) / z):Rb q N:=by
 have e:q=Rat.divInt p z:=by rw [h,Rat.divInt_eq_div]
 have hg:0<p.natAbs.gcd z.natAbs:=Nat.gcd_pos_of_pos_right _ (by omega)
 obtain⟨h1,h2⟩:=qjl p z hz
 rw [←e] at h1 h2
 have h3:q.num.natAbs=p.natAbs / p.natAbs.gcd z.natAbs:=by
  rw [h1]
  generalize p.natAbs / p.natAbs.gcd z.natAbs=A
  split <;> omega
 exact⟨by rw [h3];exact qak (qa5 _ _) hp,by rw [h2];exact qak (qa5 _ _) hzN⟩
theorem qcw {x k:Nat} (hk:0<k) (h:x<10 ^ k):(num x).size≤k:=by rw [qdL];exact qb0 k x hk h
theorem qhO {q:Rat} {N:Nat} (h:Rb q N) (hN:N<10 ^ 600):Short q :=
 ⟨qcw (by decide) (qa7 h.1 hN),qcw (by decide) (qa7 h.2 hN)⟩
theorem Rb.mono {q:Rat} {N M:Nat} (h:Rb q N) (hM:N≤M):Rb q M:=⟨qak h.1 hM,qak h.2 hM⟩
end Go.Proofs.YtfminfgabiipjaaGreatDoor
namespace Go.Proofs.YtfminfgabiipjaaGreatDoor
def Sm (q:Rat):Prop:=∃z:Int,q*60=z∧z.natAbs≤1200
theorem Sm.rb {q:Rat} (h:Sm q):Rb q 1200:=by
 obtain⟨z,hz,hle⟩:=h
 exact rb_div (p:=z) (z:=60) (by decide) hle (by decide) (by
  have e:((60:Int):Rat)=60:=rfl
  rw [e,Rat.div_def]
  have h3:(60:Rat)⁻¹*60=1:=Rat.inv_mul_cancel _ (by decide)
  grind)
theorem Sm.short {q:Rat} (h:Sm q):Short q:=qhO h.rb (by decide +kernel)
theorem Sm.zero:Sm 0:=⟨0,by rw [Rat.zero_mul];rfl,by decide⟩
end Go.Proofs.YtfminfgabiipjaaGreatDoor
