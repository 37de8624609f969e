import Derived.Test.YtplkdeknjghobaaGreatDoorBe22
set_option maxRecDepth 100000
set_option maxHeartbeats 0
namespace Go.Proofs.YtplkdeknjghobaaGreatDoor.p4
open Go.RowKit
theorem qiO (x y K:Nat) (hK:K<=1) (vm vo:Value) (w:World) (hm:MagAt w vm x) (ho:MagAt w vo y) (hx:Fit x K) (hy:Fit y K) (hy0:0<y) :
  Calls Tryz.prog 272 #[vm,vo] w fun e w'=>∃q r,e=.returned (.tuple #[q,r])/\Below w.heap.size w w'/\MagAt w' q (x / y)/\MagAt w' r (x % y)/\HiS w.heap.size q:=by
 obtain⟨am,bm,om,cm,n,M,rfl,Im,rfl⟩:=hm;obtain⟨ao,bo,oo,co,no,O,rfl,Io,rfl⟩:=ho;have hn:n<=K:=hx.len Im;have hno:no<=K:=hy.len Io;have hno0:0<no:=by
  rcases qaK no with h | h
  ·have:=(Io.nrm.zero).2 (by rw [Io.len,h]);omega
  ·exact h
 have hao:=Io.addr hno0;subst hao;have HM:=qH Im;have HO:=qH Io;have Hy0:=qH hy0;clear Im Io hx hy hy0;have h1:no=1:=by omega
 subst h1;have hco:=HO.out.cell 0 (by omega);obtain⟨d,hd⟩:=qX (dg O 0);rw [hd,qbh] at hco;have hOd:O=[d]:=by
  obtain⟨a,ha⟩:=List.length_eq_one_iff.1 HO.out.len;subst ha;rw [<-hd];rfl
 have hmv:mval O=d:=by rw [hOd];simp [mval]
 have hdl:d<10000:=by rw [<-hd];exact HO.out.dig 0
 have Hmv:=qH hmv;have hd0:0<d:=by have:=Hy0.out;omega
 rw [hmv];have HC:=qH (once_any (mval M) K d (by omega) hd0 (by omega) (.slice am n cm) w ⟨am,bm,om,cm,n,M,rfl,HM.out.len,HM.out.cap,hn,HM.out.cells,HM.out.dig,rfl⟩);obtain⟨r,hr⟩:=qX (mval M % d);have hrl:r<d:=by rw [<-hr];exact qbk _ hd0
 rw [hr] at HC ⊢;clear hd hOd hmv hr;go_enter Tryz.func272,Tryz.ntmps272
 go_wp2_with (go_at_call 290;refine HC.out.mono ?_)
 rintro e w1 ⟨q,rfl,hb,hq,hqh⟩;have HD:=qH (qfx (N:=1) (own_lit w1 r 3 rfl qN) (Dig.nil.snoc (d:=r) (by omega)) qN);have Hb:=qH hb;have Hq:=qH hq;clear hb hq
 go_wp2_with (go_at_call 271;refine (cut_digs _ 1 _ _ HD.out (by decide)).mono ?_)
 rintro e w2 ⟨u,rfl,rfl,hu⟩;go_wp2
 go_ret2
 exact⟨_,_,rfl,Hb.out.alloc Hb.out.size _,Hq.out.below (qB.alloc qN _),by simpa [mval] using hu,hqh⟩
theorem qjh (x y:Int) (K:Nat) (hK:K<=1) (v u:Value) (w:World) (hv:qb4 w v x) (hu:qb4 w u y) (hx:Fit x.natAbs K) (hy:Fit y.natAbs K) :
  Calls Tryz.prog 247 #[v,u] w fun e w'=>∃u,e=.returned u/\Below w.heap.size w w'/\qb4 w' u ((x.natAbs.gcd y.natAbs:Nat):Int):=by
 obtain⟨m,rfl,hm⟩:=hv;obtain⟨o,rfl,ho⟩:=hu;generalize decide (x<0)=b0 at *;generalize decide (y<0)=b1 at *;have HM:=qH hm;have HO:=qH ho;obtain⟨a0,bm,om,c0,n0,M,rfl,Im,hMx⟩:=hm;obtain⟨a1,bo,oo,c1,n1,O,rfl,Io,hOx⟩:=ho;obtain⟨G,hG⟩:=qX (x.natAbs.gcd y.natAbs);rw [hG];have HF:=qH (qA hx (qA hy (qA hG hK)));clear Im hMx Io hOx hx hy hG hK;obtain⟨W1,hW1⟩:=qY (((w.alloc (.cells #[.bool b0,.slice a0 n0 c0] 180)).alloc (.cells #[.bool b1,.slice a1 n1 c1] 180)).alloc (.cells #[.bool false,.slice none 0 0] 180));have hb1:Below w.heap.size w W1:=hW1▸qbS (qbS (qbS qB qN) qN) qN;have hr0:W1.heap[w.heap.size]? = some (.cells #[.bool b0,.slice a0 n0 c0] 180 (0,0)):=by rw [hW1,qL _ _ _ (by simp only [qab];omega),qL _ _ _ (by simp only [qab];omega)];exact qM _ _ _ rfl
 have hr1:W1.heap[w.heap.size+1]? = some (.cells #[.bool b1,.slice a1 n1 c1] 180 (0,0)):=by rw [hW1,qL _ _ _ (by simp only [qab];omega)];exact qM _ _ _ (by simp)
 have hr2:W1.heap[w.heap.size+1+1]? = some (.cells #[.bool false,.slice none 0 0] 180 (0,0)):=by rw [hW1];exact qM _ _ _ (by simp)
 have k01:=qC W1 _ 1 _ _ _ hr0;have k11:=qC W1 _ 1 _ _ _ hr1;have HR:=qH (qA hb1 hr2);clear hr0 hr1 hr2 hb1;go_enter Tryz.func247,Tryz.ntmps247;go_wp2_with fail;rw [<-hW1];clear hW1
 go_quiet (fail)
 go_wp2_with fail;have hgo:Hid (Below w.heap.size w (W1.drewN nq)/\(W1.drewN nq).heap[w.heap.size+1+1]? = some (.cells #[.bool false,.slice none 0 0] 180 (0,0))):=qH ⟨below_drewN HR.out.1 nq,HR.out.2⟩;obtain⟨W2,hW2⟩:=qY (W1.drewN nq);rw [<-hW2] at hgo;rw [<-hW2];clear hW2 k01 k11
 go_loopg [5,6,7,8] y.natAbs (fun b x5 x6 x7 x8 W=>∃a:Nat,Hid (MagAt W x5 a)/\Hid (MagAt W x6 b)/\Hid (Fit a K/\Fit b K/\a.gcd b=G)/\Hid (Below W2.heap.size W2 W))
 case atStart=>exact⟨x.natAbs,qH (HM.out.below hgo.out.1),qH (HO.out.below hgo.out.1),qH ⟨HF.out.1,HF.out.2.1,HF.out.2.2.1⟩,qH qB⟩
 case round =>
  obtain⟨a,ha,hb,hF,hB⟩:=hrel;have HBo:=hb.out;obtain⟨a6,b6,o6,c6,n6,B6,rfl,I6,hB6⟩:=HBo;have hn6:=qjZ I6;rw [hB6] at hn6;clear I6 hB6
  by_cases hg0:n6=0
  ·have hgk:=hn6.1 hg0;subst hg0;obtain rfl:gk=0:=hgk;have ha2:MagAt wr u5 G:=by have h:=hF.out.2.2;rw [Nat.gcd_zero_right] at h;rw [<-h];exact ha.out
   have HG:qb4 wr (.agg #[.bool false,u5]) (G:Int):=⟨u5,by rw [qU (by omega)],by simpa using ha2⟩;obtain⟨a5,b5,o5,c5,n5,B5,rfl,_,_⟩:=ha2;have hrow9:=(hB.out.block (w.heap.size+1+1) (qG hgo.out.2).1).trans hgo.out.2;have hbw9:Below w.heap.size w wr:=hgo.out.1.trans (hB.out.mono hgo.out.1.size);have hvs:=qcr (cs':=#[.bool false,.slice a5 n5 c5]) HG hrow9 (nd2 _ _ _ _);have HR:=qH (qA hrow9 (qA hbw9 (qS hbw9 (show w.heap.size<=w.heap.size+1+1 by omega) #[.bool false,.slice a5 n5 c5])));have HV:=qH hvs;clear hrow9 hbw9 hvs HG hn6
   go_wp2_with (with_reducible refine sR_ rfl 180 _ _ rfl (w.heap.size+1+1) #[.bool false,.slice a5 n5 c5] HR.out.1 2 ?_)
   exact qR (v:=.agg #[.bool false,.slice a5 n5 c5]) (rA_ rfl (w.heap.size+1+1) (qT _ _ _ _ _ _ HR.out.1) Tryz.underlying180 2) rfl ⟨_,rfl,HR.out.2.2,HV.out⟩
  ·have hgk:gk≠0:=fun h=>hg0 (hn6.2 h)
   have hni:(0:Int)<n6:=by omega
   have HD:=qH (qiO a gk K (by have:=HF.out.2.2.2;omega) u5 _ wr ha.out hb.out hF.out.1 hF.out.2.1 (by omega));have Hg0:=qH hgk;clear hn6 hg0 hgk;go_wp2_with fail;refine HD.out.mono ?_;rintro e w2 ⟨q,r,rfl,hb2,hq,hr,_⟩;have HV:=qH (qA hb2 hr);clear hb2 hr hq;go_wp2_with fail
   go_roundg (a % gk)
   case measure=>exact qbk _ (by have:=Hg0.out;omega)
   case rel=>exact⟨gk,qH (hb.out.below HV.out.1),qH HV.out.2,qH ⟨hF.out.2.1,hF.out.1.le (Nat.mod_le _ _),by rw [<-hF.out.2.2,qbO gk,<-Nat.gcd_rec,qbO]⟩,qH (hB.out.trans (HV.out.1.mono hB.out.size))⟩
theorem qgj (x y:Int) (K:Nat) (hK:K<=1) (v u:Value) (w:World) (hv:qb4 w v x) (hu:qb4 w u y) (hx:Fit x.natAbs K) (hy:Fit y.natAbs K) (hy0:0<y) (hdiv:x.natAbs % y.natAbs=0) :
  Calls Tryz.prog 248 #[v,u] w fun e w'=>∃p q,e=.returned (.tuple #[p,q])/\Below w.heap.size w w'/\qb4 w' p (if x<0 then -((x.natAbs / y.natAbs:Nat):Int) else ((x.natAbs / y.natAbs:Nat):Int))/\qb4 w' q 0/\HiP w.heap.size p:=by
 obtain⟨m,rfl,hm⟩:=hv;obtain⟨o,rfl,ho⟩:=hu;rw [qU (show ¬y<0 by omega)];have hp:=fun (W:World) (h:Below w.heap.size w W)=>qiO x.natAbs y.natAbs K hK m o W (hm.below h) (ho.below h) hx hy (by omega)
 rw [hdiv] at hp;have hq:Fit (x.natAbs / y.natAbs) K:=hx.le (qaS _ _);have hres:(if (decide (x<0) != false)=true then -((x.natAbs / y.natAbs:Nat):Int) else ((x.natAbs / y.natAbs:Nat):Int))=(if x<0 then -((x.natAbs / y.natAbs:Nat):Int) else ((x.natAbs / y.natAbs:Nat):Int)):=by
  by_cases h:x<0
  ·rw [qV h,if_pos h];rfl
  ·rw [qU h,if_neg h];rfl
 rw [<-hres];obtain⟨b0,hb0⟩:=qX (decide (x<0));rw [hb0];rw [show (b0 != false)=b0 by cases b0 <;> rfl];obtain⟨X,hX⟩:=qX ((if b0=true then -((x.natAbs / y.natAbs:Nat):Int) else ((x.natAbs / y.natAbs:Nat):Int)):Int);rw [hX];generalize x.natAbs / y.natAbs=Q at *;have HP:=qH hp;have HXX:=qH hX;have HQ:=qH hq;have hK2:=hK;obtain⟨ax,bm,om,cx,nx,M,rfl,Im,hMx⟩:=hm;obtain⟨ay,bo,oo,cy,ny,O,rfl,Io,hOx⟩:=ho;clear hX hp hq hres hb0 Im hMx Io hOx hx hy hK hdiv;obtain⟨W1,hW1⟩:=qY ((((w.alloc (.cells #[.bool b0,.slice ax nx cx] 180)).alloc (.cells #[.bool false,.slice ay ny cy] 180)).alloc (.cells #[.bool false,.slice none 0 0] 180)).alloc (.cells #[.bool false,.slice none 0 0] 180));have hb1:Below w.heap.size w W1:=hW1▸qbS (qbS (qbS (qbS qB qN) qN) qN) qN;have hr0:W1.heap[w.heap.size]? = some (.cells #[.bool b0,.slice ax nx cx] 180 (0,0)):=by rw [hW1,qL _ _ _ (by simp only [qab];omega),qL _ _ _ (by simp only [qab];omega),qL _ _ _ (by simp only [qab];omega)];exact qM _ _ _ rfl
 have hr1:W1.heap[w.heap.size+1]? = some (.cells #[.bool false,.slice ay ny cy] 180 (0,0)):=by rw [hW1,qL _ _ _ (by simp only [qab];omega),qL _ _ _ (by simp only [qab];omega)];exact qM _ _ _ (by simp)
 have hr2:W1.heap[w.heap.size+1+1]? = some (.cells #[.bool false,.slice none 0 0] 180 (0,0)):=by rw [hW1,qL _ _ _ (by simp only [qab];omega)];exact qM _ _ _ (by simp)
 have hr3:W1.heap[w.heap.size+1+1+1]? = some (.cells #[.bool false,.slice none 0 0] 180 (0,0)):=by rw [hW1];exact qM _ _ _ (by simp)
 have k01:=qC W1 _ 1 _ _ _ hr0;have k11:=qC W1 _ 1 _ _ _ hr1;have HR:=qH (qA hb1 (qA hr0 (qA hr1 (qA hr2 hr3))));clear hr0 hr1 hr2 hr3 hb1;go_enter Tryz.func248,Tryz.ntmps248;go_wp2_with fail;rw [<-hW1];clear hW1;go_wp2_with fail;refine (HP.out _ HR.out.1).mono ?_;rintro e w2 ⟨q,r,rfl,hb2,hvq,hvr,hqh⟩;clear k01 k11;have hst:Below w2.heap.size w2 w2:=Below.refl _ _;have hstD:Below w2.heap.size w2 w2.drew:=hst.drew;have hdr2:w2.drew.heap.size=w2.heap.size:=rfl;have row:∀(g:Nat) (o:Obj),W1.heap[g]? = some o->w2.heap[g]? = some o:=zkeep hb2;have R0:=row _ _ HR.out.2.1;have R1:=row _ _ HR.out.2.2.1;have l0:w.heap.size<w2.heap.size:=(qG R0).1;have l1:w.heap.size+1<w2.heap.size:=(qG R1).1;have C0:∀W,Below w2.heap.size w2 W->W.cell? ⟨w.heap.size,0,none⟩=some (.bool b0):=fun W h=>(h.cell (p:=⟨w.heap.size,0,none⟩) l0).trans (qC _ _ 0 _ _ _ R0)
 have C1:∀W,Below w2.heap.size w2 W->W.cell? ⟨w.heap.size+1,0,none⟩=some (.bool false):=fun W h=>(h.cell (p:=⟨w.heap.size+1,0,none⟩) l1).trans (qC _ _ 0 _ _ _ R1)
 have hn3:=fun (W:World) (h:Below w2.heap.size w2 W)=>qj1 Q K b0 q W ((hvq.below h).digs HQ.out) (by omega)
 have hn4:=fun (W:World) (h:Below w2.heap.size w2 W)=>qhS 0 1 b0 r W ((hvr.below h).digs (by unfold Fit;decide)) (by decide)
 rw [HXX.out] at hn3;rw [show (if b0=true then -((0:Nat):Int) else ((0:Nat):Int))=0 by split <;> rfl] at hn4;have HN3:=qH hn3;have HN4:=qH hn4;have hbw2:=HR.out.1.trans (hb2.mono HR.out.1.size);have HQH:=qH (hqh.mono HR.out.1.size);have H2:=qH (qA hbw2 (qA (row _ _ HR.out.2.2.2.1) (row _ _ HR.out.2.2.2.2)));obtain⟨aq,_,_,cq,nq0,_,rfl,_,_⟩:=hvq;obtain⟨ar,_,_,cr,nr0,_,rfl,_,_⟩:=hvr;clear hn3 hn4 R0 R1 hb2 hbw2 row hqh;go_wp2_with fail;refine wp_region_held_drew (S:=fun W=>Below w2.heap.size w2 W) (by kernel_rfl) hstD (fun hS0=>?_);refine hT 0 (h:=hT 1 (h:=hT 2 (h:=hT 3 (h:=hT 4 (h:=hT 5 (h:=hT 7 (h:=hT 8 (h:=hT 9 (h:=?_)))))))));refine gr [(6,24),(10,28),(11,8),(12,9)] [] [0,1,2,3,4,5,7,8,9] [6,10,11,12] [11,12] 13 15 (fl2 [(6,fun x W=>qb4 W x X/\HiP w.heap.size x),(10,fun x W=>qb4 W x 0),(11,ZC w2.heap.size #[.bool false,.slice none 0 0] 180),(12,ZC w2.heap.size #[.bool false,.slice none 0 0] 180)]) _ 2
  (hS:=fun w' h=>qb1 h) (hstep:=⟨⟨_,rfl,fun v w3 hb hF K hK=>?_⟩,⟨_,rfl,fun v w3 hb hF K hK=>?_⟩,⟨_,rfl,fun v w3 hb hF K hK=>?_⟩,⟨_,rfl,fun v w3 hb hF K hK=>?_⟩,trivial⟩) (hend:=fun v w3 hb hF hE f=>?_)
 ·exact gC hK (HN3.out _ (qb1 hb)) (h:=fun e w3 ⟨u,e1,h1,h2,h3⟩=>⟨u,e1,⟨h2,h3 _ HQH.out⟩,h1⟩)
 ·exact gC hK (HN4.out _ (qb1 hb)) (h:=fun e w3 ⟨u,e1,h1,h2⟩=>⟨u,e1,h2,h1⟩)
 ·exact gW hK (h:=ZC.new hb.size)
 ·exact gW hK (h:=ZC.new hb.size)
 have i3:qb4 w3 (v 6) X/\HiP w.heap.size (v 6):=hF 6 (by decide) (by decide);have i4:qb4 w3 (v 10) 0:=hF 10 (by decide) (by decide);obtain⟨g3,h3,e11,hg3⟩:ZC _ _ _ (v 11) w3:=hF 11 (by decide) (by decide);obtain⟨g4,h4,e12,hg4⟩:ZC _ _ _ (v 12) w3:=hF 12 (by decide) (by decide);have hne:g3≠g4:=by have:=hE 11 (by decide) 12 (by decide) (by decide);rwa [e11,e12] at this
 obtain⟨b3,a3,n3,c3,e6⟩:=i3.1.shape;obtain⟨b4,a4,n4,c4,e10⟩:=i4.shape;rw [e6] at i3;rw [e10] at i4;have hb4:b4=false:=by
  obtain⟨m4,hm4,_⟩:=i4;simp only [qaJ,qaL,qaH,qbm] at hm4;exact hm4.1
 subst hb4;have hb:=qb1 hb;have h4':=(setRow_other w3 g3 g4 #[.bool b3,.slice a3 n3 c3] (fun e=>hne e.symm)).trans h4;refine hSn 13 2 h3 (hx:=by exact e11) (hy:=by exact e6) (h:=⟨qS hb hg3 _,?_⟩);refine hSt 14 2 h4' (hx:=by exact e12) (hy:=by exact e10) (h:=⟨qS (qS hb hg3 _) hg4 _,?_⟩);have l1:=(qG H2.out.2.2).1;obtain⟨W5,hW5⟩:=qY ((w3.setRow g3 #[.bool b3,.slice a3 n3 c3]).setRow g4 #[.bool false,.slice a4 n4 c4]);have hb5:Below w2.heap.size w2 W5:=hW5▸qS (qS hb hg3 _) hg4 _;have K5:Kn (fun W=>Below w.heap.size w W/\W.heap[w.heap.size+1+1]? = some (.cells #[.bool false,.slice none 0 0] 180 (0,0))/\W.heap[w.heap.size+1+1+1]? = some (.cells #[.bool false,.slice none 0 0] 180 (0,0)) /\
   W.heap[g3]? = some (.cells #[.bool b3,.slice a3 n3 c3] 180 (0,0))/\W.heap[g4]? = some (.cells #[.bool false,.slice a4 n4 c4] 180 (0,0))/\qb4 W (.agg #[.bool b3,.slice a3 n3 c3]) X/\qb4 W (.agg #[.bool false,.slice a4 n4 c4]) 0) W5 :=
  .of ⟨H2.out.1.trans (hb5.mono H2.out.1.size),zkeep hb5 _ _ H2.out.2.1,zkeep hb5 _ _ H2.out.2.2,hW5▸(setRow_other _ _ _ _ hne).trans (qT _ _ _ _ _ _ h3),hW5▸qT _ _ _ _ _ _ h4',
   hW5▸qcr (qcr i3.1 h3 (nd2 _ _ _ _)) h4' (nd2 _ _ _ _),hW5▸qcr (qcr i4 h3 (nd2 _ _ _ _)) h4' (nd2 _ _ _ _)⟩
 rw [<-hW5];have HI:=qH i3.2;have k1:∀W,Rows2 g3 g4 (.cells #[.bool b3,.slice a3 n3 c3] 180 (0,0)) (.cells #[.bool false,.slice a4 n4 c4] 180 (0,0)) W->W.cell? ⟨g3,0,none⟩=some (.bool b3)/\W.cell? ⟨g3,1,none⟩=some (.slice a3 n3 c3)/\W.cell? ⟨g4,0,none⟩=some (.bool false)/\W.cell? ⟨g4,1,none⟩=some (.slice a4 n4 c4) :=
  fun W h=>⟨qC _ _ 0 _ _ _ h.1,qC _ _ 1 _ _ _ h.1,qC _ _ 0 _ _ _ h.2,qC _ _ 1 _ _ _ h.2⟩
 have hR5:Rows2 g3 g4 (.cells #[.bool b3,.slice a3 n3 c3] 180 (0,0)) (.cells #[.bool false,.slice a4 n4 c4] 180 (0,0)) W5:=⟨K5.out.2.2.2.1,K5.out.2.2.2.2.1⟩;clear C0 C1 h3 h4 h4' i3 i4 hb hb5 hF hE hW5 hS0;go_wp2_with fail;refine wp_region_held_drew (S:=Rows2 g3 g4 (.cells #[.bool b3,.slice a3 n3 c3] 180 (0,0)) (.cells #[.bool false,.slice a4 n4 c4] 180 (0,0))) (by kernel_rfl) hR5 (fun hS0=>?_);refine hT 0 (h:=hT 1 (h:=?_));have o3:=(setRow_other W5.drew (w.heap.size+1+1) (w.heap.size+1+1+1) #[.bool b3,.slice a3 n3 c3] (by omega)).trans K5.out.2.2.1;have sr:∀(W:World) (g:Nat) (cs:Array Value),Rows2 g3 g4 (.cells #[.bool b3,.slice a3 n3 c3] 180 (0,0)) (.cells #[.bool false,.slice a4 n4 c4] 180 (0,0)) W->g3≠g->g4≠g->Rows2 g3 g4 (.cells #[.bool b3,.slice a3 n3 c3] 180 (0,0)) (.cells #[.bool false,.slice a4 n4 c4] 180 (0,0)) (W.setRow g cs):=fun W g cs h h1 h2=>⟨(setRow_other _ _ _ _ h1).trans h.1,(setRow_other _ _ _ _ h2).trans h.2⟩
 refine hSn 2 2 (show W5.drew.heap[_]? = _ from K5.out.2.1) (h:=⟨sr _ _ _ hS0 (by omega) (by omega),?_⟩);refine hSt 3 2 o3 (h:=⟨sr _ _ _ (sr _ _ _ hS0 (by omega) (by omega)) (by omega) (by omega),?_⟩);go_wp2_with fail;exact qR (v:=.tuple #[.agg #[.bool b3,.slice a3 n3 c3],.agg #[.bool false,.slice a4 n4 c4]]) (qkV rfl _ _ (w.heap.size+1+1) (w.heap.size+1+1+1) 180 _ _ _ rfl rfl ((setRow_other _ _ _ _ (by omega)).trans (qT _ _ _ _ _ _ K5.out.2.1)) (qT _ _ _ _ _ _ o3) Tryz.underlying180 rfl 2 (by kernel_rfl) rfl rfl) rfl
  ⟨_,_,rfl,qS (qS K5.out.1.drew (by omega) _) (by omega) _,qcr (qcr (K5.out.2.2.2.2.2.1.below qB.drew) K5.out.2.1 (nd2 _ _ _ _)) o3 (nd2 _ _ _ _),qcr (qcr (K5.out.2.2.2.2.2.2.below qB.drew) K5.out.2.1 (nd2 _ _ _ _)) o3 (nd2 _ _ _ _),HI.out⟩
theorem qkJ (n d:Int) (hd:0<d) (K:Nat) (hK:K<=1) (v u:Value) (w:World) (hv:qb4 w v n) (hu:qb4 w u d) (fn:Fit n.natAbs K) (fd:Fit d.natAbs K) :
  Calls Tryz.prog 188 #[v,u] w fun e w'=>∃u,e=.returned u/\Below w.heap.size w w'/\qdH w' u (Rat.divInt n d)/\HiR w.heap.size u:=by
 obtain⟨q,hq⟩:=qX (Rat.divInt n d);rw [hq];have HF:=qH (qA fn (qA fd (qA hd (qA hq (qA hv hu)))));obtain⟨m,rfl,am,bm,om,cm,nm,M,rfl,_,_⟩:=hv;obtain⟨o,rfl,ao,bo,oo,co,no,O,rfl,_,_⟩:=hu;generalize hb0:decide (n<0)=b0 at *;generalize hd0:decide (d<0)=bd at *;have HB0:=qH (qA hb0 hd0);clear fn fd hb0 hd0 hq;obtain⟨W1,hW1,K1⟩:=kn3 w #[.bool b0,.slice am nm cm] 180 #[.bool bd,.slice ao no co] 180 #[.bool false,.slice none 0 0,.bool false,.slice none 0 0] 182;have k10:=qC W1 _ 0 _ _ _ K1.out.2.2.1;go_enter Tryz.func188,Tryz.ntmps188;go_upto_region 1 with fail;rw [<-hW1];clear hW1
 go_upto_if 11 with fail
 go_cut [12] from 12 (fun _ W=>∃b0 am nm cm ao no co,LowSt w q K W b0 am nm cm ao no co)
 case first =>
  have l2:=(qG K1.out.2.2.2).1;obtain rfl:bd=false:=by rw [<-HB0.out.2];exact qU (by have:=HF.out.2.2.1;omega)
  have hneg:¬d<0:=of_decide_eq_false HB0.out.2;go_wp2;go_meet;exact⟨_,_,_,_,_,_,_,⟨n,d,by omega,HF.out.2.2.2.1,HF.out.1,HF.out.2.1,HF.out.2.2.2.2.1.below K1.out.1,HF.out.2.2.2.2.2.below K1.out.1⟩,K1.out⟩
 case rest =>
  clear HF HB0 K1 k10 hd;obtain⟨b0,am,nm,cm,ao,no,co,⟨n,d,hd,hq,fn,fd,hv,hu⟩,hb,r0,r1,r2⟩:=hcut;obtain⟨l1,l2⟩:=low_num n d hd;obtain⟨G,hG⟩:=qX (n.natAbs.gcd d.natAbs);have hG0:0<G:=by rw [<-hG];exact qa8 _ (by omega)
  have hGf:Fit G K:=fd.le (by rw [<-hG];exact Nat.gcd_le_right _ (by omega));have hGn:n.natAbs % G=0:=by rw [<-hG];exact Nat.mod_eq_zero_of_dvd (qbJ _ _)
  have hGd:d.natAbs % G=0:=by rw [<-hG];exact Nat.mod_eq_zero_of_dvd (qaU _ _)
  rw [hG,hq] at l1 l2;have HG:=qH (fun (W:World) (h:Below wc.heap.size wc W)=>qjh n d K hK _ _ W (hv.below h) (hu.below h) fn fd);have HG':Hid (n.natAbs.gcd d.natAbs=G):=qH hG;have HN:=qH (fun (W:World) (g:Value) (h:Below wc.heap.size wc W) (hg:qb4 W g (G:Int))=>qgj n G K hK _ g W (hv.below h) hg fn (by simpa using hGf) (by omega) (by simpa using hGn));have HD:=qH (fun (W:World) (g:Value) (h:Below wc.heap.size wc W) (hg:qb4 W g (G:Int))=>qgj d G K hK _ g W (hu.below h) hg fd (by simpa using hGf) (by omega) (by simpa using hGd));have HL:=qH (qA l1 (qA l2 hd));have HB:=qH hb;have HR:=qH (qA (Below.refl wc.heap.size wc) (qA r0 (qA r1 r2)));clear l1 l2 hG hG0 hGf hGn hGd fn fd hv hu r0 r1 r2 hb hq
  go_wp2_with (first | (with_reducible refine lW_ rfl 180 _ rfl (w.heap.size) #[.bool b0,.slice am nm cm] HR.out.2.1 Tryz.underlying180 2 ?_) | (with_reducible refine lW_ rfl 180 _ rfl (w.heap.size+1) #[.bool false,.slice ao no co] HR.out.2.2.1 Tryz.underlying180 2 ?_))
  refine (HG.out _ qB).mono ?_;rintro e w2 ⟨vg,rfl,hb2,hvg⟩;rw [HG'.out] at hvg;obtain⟨bg,ag,ng,cg,rfl⟩:=hvg.shape;obtain⟨W2,hW2⟩:=qY (w2.alloc (.cells #[.bool bg,.slice ag ng cg] 180));have hb12:Below wc.heap.size wc W2:=hW2▸qbS hb2 qN;have hvg2:qb4 W2 (.agg #[.bool bg,.slice ag ng cg]) (G:Int):=hvg.below (hW2▸qbS qB qN);have row:∀(g:Nat) (o:Obj),wc.heap[g]? = some o->W2.heap[g]? = some o:=zkeep hb12;have rg:W2.heap[w2.heap.size]? = some (.cells #[.bool bg,.slice ag ng cg] 180 (0,0)):=by rw [hW2];exact qM _ _ _ rfl
  have H2:=qH (qA (HR.out.1.trans (hb12.mono HR.out.1.size)) (qA (row _ _ HR.out.2.1) (qA (row _ _ HR.out.2.2.1) (qA (row _ _ HR.out.2.2.2) (qA rg hvg2)))));have HW2:=qH hW2;clear hb2 hvg hb12 hvg2 row rg hW2;have F0:=H2.out.2.1;have Fg:=H2.out.2.2.2.2.1;rw [HW2.out] at F0 Fg;have H2a:=qH (qA F0 Fg);clear F0 Fg
  go_wp2_with (first | ((with_reducible refine qes rfl 180 _ _ rfl _ #[.bool bg,.slice ag ng cg] ?_ ?_ 2 ?_ ?_ ?_ ?_ ?_);(next=>rfl);(next=>rfl);(next=>kernel_rfl);(next=>rfl);(next=>rfl);(next=>rfl)) | (with_reducible refine lW_ rfl 180 _ rfl (w.heap.size) #[.bool b0,.slice am nm cm] H2a.out.1 Tryz.underlying180 2 ?_) | (with_reducible refine lW_ rfl 180 _ rfl (w2.heap.size) #[.bool bg,.slice ag ng cg] H2a.out.2 Tryz.underlying180 2 ?_))
  rw [<-HW2.out];refine (HN.out _ _ H2.out.1 H2.out.2.2.2.2.2).mono ?_;rintro e w4 ⟨p4,q4,rfl,hb4,hp4,hq4,hh4⟩;obtain⟨bp4,ap4,np4,cp4,rfl⟩:=hp4.shape;obtain⟨bq4,aq4,nq4,cq4,rfl⟩:=hq4.shape;have H4h:=qH (hh4.mono (qaj HB.out.size H2.out.1.size));clear hh4;have hb14:Below wc.heap.size wc w4:=H2.out.1.trans (hb4.mono H2.out.1.size);have row4:∀(g:Nat) (o:Obj),W2.heap[g]? = some o->w4.heap[g]? = some o:=zkeep hb4;have H4:=qH (qA hb14 (qA (row4 _ _ H2.out.2.2.1) (qA (row4 _ _ H2.out.2.2.2.1) (qA (row4 _ _ H2.out.2.2.2.2.1) (qA (H2.out.2.2.2.2.2.below hb4) (qA hp4 hq4))))));clear hb4 hp4 hq4 hb14 row4;obtain⟨W5,hW5⟩:=qY ((w4.alloc (.cells #[.bool bp4,.slice ap4 np4 cp4] 180)).alloc (.cells #[.bool bq4,.slice aq4 nq4 cq4] 180));have hb45:Below w4.heap.size w4 W5:=hW5▸qbS (qbS qB qN) qN;have row5:∀(g:Nat) (o:Obj),w4.heap[g]? = some o->W5.heap[g]? = some o:=zkeep hb45;have rp:W5.heap[w4.heap.size]? = some (.cells #[.bool bp4,.slice ap4 np4 cp4] 180 (0,0)):=by rw [hW5,qL _ _ _ (by simp only [qab];omega)];exact qM _ _ _ rfl
  have H5:=qH (qA (H4.out.1.trans (hb45.mono H4.out.1.size)) (qA (row5 _ _ H4.out.2.1) (qA (row5 _ _ H4.out.2.2.1) (qA (row5 _ _ H4.out.2.2.2.1) (qA (H4.out.2.2.2.2.1.below hb45) (qA rp (H4.out.2.2.2.2.2.1.below hb45)))))));have F1:=H5.out.2.1;have Fg:=H5.out.2.2.2.1;rw [hW5] at F1 Fg;have H5a:=qH (qA F1 Fg);have HW5:=qH hW5;clear hb45 row5 rp F1 Fg hW5
  go_wp2_with (first | (with_reducible refine lW_ rfl 180 _ rfl (w.heap.size+1) #[.bool false,.slice ao no co] H5a.out.1 Tryz.underlying180 2 ?_) | (with_reducible refine lW_ rfl 180 _ rfl (w2.heap.size) #[.bool bg,.slice ag ng cg] H5a.out.2 Tryz.underlying180 2 ?_))
  rw [<-HW5.out];refine (HD.out _ _ H5.out.1 H5.out.2.2.2.2.1).mono ?_;rintro e w6 ⟨p6,q6,rfl,hb6,hp6,hq6,hh6⟩;obtain⟨bp6,ap6,np6,cp6,rfl⟩:=hp6.shape;obtain⟨bq6,aq6,nq6,cq6,rfl⟩:=hq6.shape;have H6h:=qH (hh6.mono (qaj HB.out.size H5.out.1.size));clear hh6;obtain⟨W7,hW7⟩:=qY ((w6.alloc (.cells #[.bool bp6,.slice ap6 np6 cp6] 180)).alloc (.cells #[.bool bq6,.slice aq6 nq6 cq6] 180));have hb67:Below w6.heap.size w6 W7:=hW7▸qbS (qbS qB qN) qN;have hb57:Below W5.heap.size W5 W7:=hb6.trans (hb67.mono hb6.size);have row7:∀(g:Nat) (o:Obj),W5.heap[g]? = some o->W7.heap[g]? = some o:=zkeep hb57;have rp6:W7.heap[w6.heap.size]? = some (.cells #[.bool bp6,.slice ap6 np6 cp6] 180 (0,0)):=by rw [hW7,qL _ _ _ (by simp only [qab];omega)];exact qM _ _ _ rfl
  have hbw:Below w.heap.size w W7:=HB.out.trans ((H5.out.1.trans (hb57.mono H5.out.1.size)).mono HB.out.size);have rr:=row7 _ _ H5.out.2.2.1;have hq:=qmM (q:=q) (H5.out.2.2.2.2.2.2.below hb57) (hp6.below hb67) HL.out.1 (by rw [if_neg (show ¬d<0 by have:=HL.out.2.2;omega),qal];exact HL.out.2.1);have hbq6:bp6=false:=by
   obtain⟨m6,o6,h6,_⟩:=hq;simp only [qaJ,qaL,qaH,qbm] at h6;exact h6.2.2.1
  subst hbq6;have hqs:=qgk (cs':=#[.bool bp4,.slice ap4 np4 cp4,.bool false,.slice ap6 np6 cp6]) hq rr (nd4 _ _ _ _ _ _ _ _);have G0:=row7 _ _ H5.out.2.2.2.2.2.1;have G1:=rp6;have G2:=rr;rw [hW7] at G0 G1 G2;have H7:=qH (qA G0 (qA G1 (qA G2 (qA rr (qA hqs (qS hbw (show w.heap.size<=w.heap.size+1+1 by omega) #[.bool bp4,.slice ap4 np4 cp4,.bool false,.slice ap6 np6 cp6]))))));have HW7:=qH hW7;clear hb6 hp6 hq6 hb67 hb57 row7 rp6 hbw rr hq hqs G0 G1 G2 hW7
  go_wp2_with (first | (with_reducible refine lW_ rfl 180 _ rfl (w4.heap.size) #[.bool bp4,.slice ap4 np4 cp4] H7.out.1 Tryz.underlying180 2 ?_) | (with_reducible refine lW_ rfl 180 _ rfl (w6.heap.size) #[.bool false,.slice ap6 np6 cp6] H7.out.2.1 Tryz.underlying180 2 ?_) | (with_reducible refine sR_ rfl 182 _ _ rfl (w.heap.size+1+1) #[.bool bp4,.slice ap4 np4 cp4,.bool false,.slice ap6 np6 cp6] H7.out.2.2.1 4 ?_))
  rw [<-HW7.out];exact qR (v:=.agg #[.bool bp4,.slice ap4 np4 cp4,.bool false,.slice ap6 np6 cp6]) (rA_ rfl (w.heap.size+1+1) (qT _ _ _ _ _ _ H7.out.2.2.2.1) Tryz.underlying182 4) rfl ⟨_,rfl,H7.out.2.2.2.2.2,H7.out.2.2.2.2.1,hir_of (H4h.out _ _ rfl) (H6h.out _ _ rfl)⟩
theorem qmL (n d:Int) (hn:-10000<n/\n<10000) (hd:0<d) (hd2:d<10000) (w:World) :
  Calls Tryz.prog 116 #[.int .i64 n,.int .i64 d] w fun e w'=>∃u,e=.returned u/\Below w.heap.size w w'/\qdH w' u (Rat.divInt n d):=by
 have HN:=qH (fun (W:World)=>qjk n ⟨by omega,by omega⟩ W);have HD:=qH (fun (W:World)=>qgM d (by omega) ⟨by omega,by omega⟩ W);have HL:=qH (fun (W:World) (v u:Value) (hv:qb4 W v n) (hu:qb4 W u d)=>qkJ n d hd 1 (by decide) v u W hv hu (show n.natAbs<10000 ^ 1 by omega) (show d.natAbs<10000 ^ 1 by omega));obtain⟨W1,hW1⟩:=qY (w.alloc (.cells #[.bool false,.slice none 0 0,.bool false,.slice none 0 0] 182));have hb1:Below w.heap.size w W1:=hW1▸qbS qB qN;have hr1:W1.heap[w.heap.size]? = some (.cells #[.bool false,.slice none 0 0,.bool false,.slice none 0 0] 182 (0,0)):=by rw [hW1];exact qM _ _ _ rfl
 have H1:=qH (qA hb1 hr1);clear hb1 hr1;go_enter Tryz.func116,Tryz.ntmps116;go_wp2_with fail;rw [<-hW1];clear hW1;refine (HN.out _).mono ?_;rintro e w2 ⟨v2,rfl,hb2,hv2⟩;have H2:=qH (qA (H1.out.1.trans (hb2.mono H1.out.1.size)) (qA (zkeep hb2 _ _ H1.out.2) hv2));obtain⟨bv2,av2,nv2,cv2,rfl⟩:=hv2.shape;clear hb2 hv2;go_wp2_with fail;refine (HD.out _).mono ?_;rintro e w3 ⟨v3,rfl,hb3,hv3⟩;have H3:=qH (qA (H2.out.1.trans (hb3.mono H2.out.1.size)) (qA (zkeep hb3 _ _ H2.out.2.1) (qA (H2.out.2.2.below hb3) hv3)));obtain⟨bv3,av3,nv3,cv3,rfl⟩:=hv3.shape;clear hb3 hv3;go_wp2_with fail;refine (HL.out _ _ _ H3.out.2.2.1 H3.out.2.2.2).mono ?_;rintro e w4 ⟨v4,rfl,hb4,hv4,_⟩;obtain⟨b4,a4,n4,c4,a5,n5,c5,rfl⟩:=hv4.shape;have rr:=zkeep hb4 _ _ H3.out.2.1;have hbw:=H3.out.1.trans (hb4.mono H3.out.1.size);have hqs:=qgk (cs':=#[.bool b4,.slice a4 n4 c4,.bool false,.slice a5 n5 c5]) hv4 rr (nd4 _ _ _ _ _ _ _ _);have H4:=qH (qA rr (qA hqs (qS hbw qN #[.bool b4,.slice a4 n4 c4,.bool false,.slice a5 n5 c5])));clear hb4 hv4 rr hbw hqs
 go_wp2_with (with_reducible refine sR_ rfl 182 _ _ rfl (w.heap.size) #[.bool b4,.slice a4 n4 c4,.bool false,.slice a5 n5 c5] H4.out.1 4 ?_)
 exact qR (v:=.agg #[.bool b4,.slice a4 n4 c4,.bool false,.slice a5 n5 c5]) (rA_ rfl (w.heap.size) (qT _ _ _ _ _ _ H4.out.1) Tryz.underlying182 4) rfl ⟨_,rfl,H4.out.2.2,H4.out.2.1⟩
end Go.Proofs.YtplkdeknjghobaaGreatDoor.p4
namespace Go.Proofs.YtplkdeknjghobaaGreatDoor
open Go.RowKit
structure Dr where
 n0:Bool
 n1:List Int
 n2:Int
 d0:Bool
 d1:List Int
 d2:Int
structure DrOk (d:Dr):Prop where
 l1:d.n1.length<=9223372036854775807
 l2:d.d1.length<=9223372036854775807
 g1:∀k,0<=d.n1.getD k 0/\d.n1.getD k 0<65536
 g2:∀k,0<=d.d1.getD k 0/\d.d1.getD k 0<65536
def Dr.a (d:Dr):Int:=(small d.n0 d.n1).tmod 1000
def Dr.z (d:Dr):Int:=1+((small d.d0 d.d1).natAbs:Int) % 60
def Dr.q (d:Dr):Rat:=Rat.divInt d.a d.z
theorem Dr.a_le (d:Dr):-1000<d.a/\d.a<1000:=⟨Int.lt_tmod_of_pos _ (by decide),Int.tmod_lt_of_pos _ (by decide)⟩
theorem Dr.z_le (d:Dr):1<=d.z/\d.z<=60:=by
 unfold Dr.z;omega
theorem Dr.rb (d:Dr):Rb d.q 1000:=by
 have h1:=d.a_le;have h2:=d.z_le;refine qhC (p:=d.a) (z:=d.z) (by omega) (by omega) (by omega) ?_;unfold Dr.q;rw [Rat.divInt_eq_div]
theorem Dr.short (d:Dr):Short d.q:=qdd d.rb (by decide +kernel)
theorem qdQ (d:Dr) (a1 a2:Option Addr) (b1 o1 c1 b2 o2 c2:Nat) (w:World) (hok:DrOk d) (h1:KCells w .u16 a1 b1 o1 d.n1) (h2:KCells w .u16 a2 b2 o2 d.d1) :
  Calls Tryz.prog 63 #[.agg #[.bool d.n0,.slice a1 d.n1.length c1,.int .u16 d.n2,.bool d.d0,.slice a2 d.d1.length c2,.int .u16 d.d2]] w fun e w'=>e=.returned (fstr d.q)/\Below w.heap.size w w':=by
 obtain⟨W1,hW1,N1⟩:=nw2 w #[.bool d.n0,.slice a1 d.n1.length c1,.int .u16 d.n2,.bool d.d0,.slice a2 d.d1.length c2,.int .u16 d.d2] 128 #[.string ⟨#[]⟩,.string ⟨#[]⟩] 44;have HN:=qH (fun (W:World) (hb:Below w.heap.size w W)=>qdB d.n0 a1 b1 o1 d.n1.length c1 d.n1 d.n2 W rfl hok.l1 (h1.below hb) hok.g1);have HD:=qH (fun (W:World) (hb:Below w.heap.size w W)=>qdB d.d0 a2 b2 o2 d.d1.length c2 d.d1 d.d2 W rfl hok.l2 (h2.below hb) hok.g2);have hs1:=qke hok.g1 d.n0;have hs2:=qke hok.g2 d.d0;have ha:=d.a_le;have hz:=d.z_le;have hrb:=d.rb;have hst:=d.short;obtain⟨q,hq⟩:=qX d.q;have hqd:q=Rat.divInt d.a d.z:=by rw [<-hq];rfl
 obtain⟨x,hx⟩:=qX (small d.n0 d.n1);obtain⟨y,hy⟩:=qX (small d.d0 d.d1);have hae:d.a=x.tmod 1000:=by unfold Dr.a;rw [hx]
 have hze:d.z=1+(y.natAbs:Int) % 60:=by unfold Dr.z;rw [hy]
 rw [hx] at HN hs1;rw [hy] at HD hs2;rw [hq] at hrb hst ⊢;rw [hae,hze] at hqd;rw [hae] at ha;rw [hze] at hz;have k3:=qC _ _ 3 _ _ _ N1.out.2.1;have k4:=qC _ _ 4 _ _ _ N1.out.2.1;have k5:=qC _ _ 5 _ _ _ N1.out.2.1;have HQ:=qH (qA hqd (qA hrb hst));clear hqd hrb hst hq hx hy hae hze hok h1 h2;go_enter Tryz.func63,Tryz.ntmps63;go_upto_region 1 with fail;rw [<-hW1];clear hW1;go_wp2_with fail;refine (HD.out _ N1.out.1).mono ?_;rintro e w2 ⟨rfl,hb⟩;have K2:=N1.below hb;clear hb N1 k3 k4 k5
 go_upto_if 10 with fail
 go_cut [3] (fun x3 W=>x3=.int .i64 (y.natAbs:Int)/\Hid (W=w2))
 case first =>
  by_cases hy:y<0
  ·go_wp2;go_meet;exact⟨by congr 1;omega,qH rfl⟩
  ·go_wp2;go_meet;exact⟨by congr 1;omega,qH rfl⟩
 case rest =>
  obtain⟨rfl,hWe⟩:=hcut;obtain rfl:=hWe.out;have k0:=qC _ _ 0 _ _ _ K2.out.2.1;have k1:=qC _ _ 1 _ _ _ K2.out.2.1;have k2:=qC _ _ 2 _ _ _ K2.out.2.1;clear hWe;go_wp2_with fail;refine (HN.out _ K2.out.1).mono ?_;rintro e w3 ⟨rfl,hb⟩;have K3:=K2.below hb;clear hb K2 k0 k1 k2;go_wp2_with fail;refine (p4.qmL _ _ ⟨by omega,by omega⟩ (by omega) (by omega) _).mono ?_;rintro e w4 ⟨u,rfl,hb4,hu⟩;rw [<-HQ.out.1] at hu;have K4:=K3.below hb4;obtain⟨b4,a4,n4,c4,a5,n5,c5,rfl⟩:=hu.shape;have h5:(1000:Nat)<10000 ^ 5:=by decide
  have HO:=qH (p4.rout_any q 5 (by decide) (by decide) _ _ hu (qaF HQ.out.2.1.1 h5) (qaF HQ.out.2.1.2 h5));clear hb4 hu K3 h5;go_wp2_with fail;refine HO.out.mono ?_;rintro e w5 ⟨⟨_,rfl⟩ | ⟨hno,_⟩,hb5⟩
  ·have K5:=K4.below hb5;obtain⟨W6,hW6,N6⟩:=nw1 w5 #[.string (ftxt q).1,.string (ftxt q).2] 44;clear hb5 K4 HO;rw [qdT];go_upto_region 5 with fail;rw [<-hW6];clear hW6;have K6:=K5.below N6.out.1;have hst:=qS K6.out.1 (g:=w.heap.size+1) (qbR _) #[.string (ftxt q).1,.string (ftxt q).2];have H:=qH (qA N6.out.2 (qA K6.out.2.2 hst));clear hst K5 K6 N6
   go_wp2_with (first | (with_reducible refine lW_ rfl 44 _ rfl (w5.heap.size) #[.string (ftxt q).1,.string (ftxt q).2] H.out.1 Tryz.underlying44 2 ?_) | (with_reducible refine sR_ rfl 44 _ _ rfl (w.heap.size+1) #[.string (ftxt q).1,.string (ftxt q).2] H.out.2.1 2 ?_))
   exact qR (v:=.agg #[.string (ftxt q).1,.string (ftxt q).2]) (rA_ rfl (w.heap.size+1) (qT _ _ _ _ _ _ H.out.2.1) Tryz.underlying44 2) rfl ⟨rfl,H.out.2.2⟩
  ·exact absurd HQ.out.2.2 hno
