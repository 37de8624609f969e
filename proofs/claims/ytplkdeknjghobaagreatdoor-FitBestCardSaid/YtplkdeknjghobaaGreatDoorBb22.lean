import Derived.Test.YtplkdeknjghobaaGreatDoorBb21
set_option maxRecDepth 100000
set_option maxHeartbeats 0
namespace Go.Proofs.YtplkdeknjghobaaGreatDoor.p4
open Go.RowKit Go.Proofs.Tryz
theorem qi2 (x y K:Nat) (hK:K<=1) (vm vo:Value) (w:World) (hm:MagAt w vm x) (ho:MagAt w vo y) (hx:Fit x K) (hy:Fit y K) (V:0<y) :
  Calls prog 272 #[vm,vo] w fun e w'=>∃q r,e=.returned (.tuple #[q,r])/\Below w.heap.size w w'/\MagAt w' q (x / y)/\MagAt w' r (x % y)/\HiS w.heap.size q:=by
 obtain⟨am,bm,om,cm,n,M,rfl,Im,rfl⟩:=hm;obtain⟨ao,bo,oo,co,no,O,rfl,H,rfl⟩:=ho;have hn:n<=K:=hx.len Im;have aj:no<=K:=hy.len H;have U:0<no:=by
  rcases qaU no with h | h
  ·have:=(H.nrm.zero).2 (by rw [H.len,h]);omega
  ·exact h
 have ae:=H.addr U;subst ae;have Y:=qH Im;have HO:=qH H;have aa:=qH V;clear Im H hx hy V;have h1:no=1:=by omega
 subst h1;have af:=HO.o.cell 0 (by omega);obtain⟨d,Z⟩:=qX (dg O 0);rw [Z,qbs] at af;have I:O=[d]:=by
  obtain⟨a,ha⟩:=List.length_eq_one_iff.1 HO.o.len;subst ha;rw [<-Z];rfl
 have F:mval O=d:=by rw [I];simp [mval]
 have ai:d<10000:=by rw [<-Z];exact HO.o.dig 0
 have ah:=qH F;have J:0<d:=by have:=aa.o;omega
 rw [F];have HC:=qH (once_any (mval M) K d (by omega) J (by omega) (.slice am n cm) w ⟨am,bm,om,cm,n,M,rfl,Y.o.len,Y.o.cap,hn,Y.o.cells,Y.o.dig,rfl⟩);obtain⟨r,hr⟩:=qX (mval M % d);have ak:r<d:=by rw [<-hr];exact qbD _ J
 rw [hr] at HC ⊢;clear Z I F hr;go_enter func272,ntmps272
 go_wp2_with (go_at_call 290;refine HC.o.mono ?_)
 rintro e w1 ⟨q,rfl,hb,hq,ag⟩;have HD:=qH (qfz (N:=1) (own_lit w1 r 3 rfl qN) (Dig.nil.snoc (d:=r) (by omega)) qN);have Hb:=qH hb;have Hq:=qH hq;clear hb hq
 go_wp2_with (go_at_call 271;refine (cut_digs _ 1 _ _ HD.o (by decide)).mono ?_)
 rintro e w2 ⟨u,rfl,rfl,hu⟩;go_wp2
 go_ret2
 exact⟨_,_,rfl,Hb.o.alloc Hb.o.size _,Hq.o.below (qB.alloc qN _),by simpa [mval] using hu,ag⟩
theorem qjB (x y:Int) (K:Nat) (hK:K<=1) (v u:Value) (w:World) (hv:qb8 w v x) (hu:qb8 w u y) (hx:Fit x.natAbs K) (hy:Fit y.natAbs K) :
  Calls prog 247 #[v,u] w fun e w'=>∃u,e=.returned u/\Below w.heap.size w w'/\qb8 w' u ((x.natAbs.gcd y.natAbs:Nat):Int):=by
 obtain⟨m,rfl,hm⟩:=hv;obtain⟨o,rfl,ho⟩:=hu;generalize decide (x<0)=b0 at *;generalize decide (y<0)=b1 at *;have HM:=qH hm;have HO:=qH ho;obtain⟨a0,bm,om,c0,n0,M,rfl,Im,ay⟩:=hm;obtain⟨a1,bo,oo,c1,n1,O,rfl,Io,az⟩:=ho;obtain⟨G,hG⟩:=qX (x.natAbs.gcd y.natAbs);rw [hG];have HF:=qH (qA hx (qA hy (qA hG hK)));clear Im ay Io az hx hy hG hK;obtain⟨V,I⟩:=qY (((w.alloc (.cells #[.bool b0,.slice a0 n0 c0] 180)).alloc (.cells #[.bool b1,.slice a1 n1 c1] 180)).alloc (.cells #[.bool false,.slice none 0 0] 180));have ag:Below w.heap.size w V:=I▸qbU (qbU (qbU qB qN) qN) qN;have ai:V.heap[w.heap.size]? = some (.cells #[.bool b0,.slice a0 n0 c0] 180 (0,0)):=by rw [I,qL _ _ _ (by simp only [qab];omega),qL _ _ _ (by simp only [qab];omega)];exact qM _ _ _ rfl
 have aj:V.heap[w.heap.size+1]? = some (.cells #[.bool b1,.slice a1 n1 c1] 180 (0,0)):=by rw [I,qL _ _ _ (by simp only [qab];omega)];exact qM _ _ _ (by simp)
 have ak:V.heap[w.heap.size+1+1]? = some (.cells #[.bool false,.slice none 0 0] 180 (0,0)):=by rw [I];exact qM _ _ _ (by simp)
 have aA:=qC V _ 1 _ _ _ ai;have aB:=qC V _ 1 _ _ _ aj;have HR:=qH (qA ag ak);clear ai aj ak ag;go_enter func247,ntmps247;go_wp2_with fail;rw [<-I];clear I
 go_quiet (fail)
 go_wp2_with fail;have F:Hu (Below w.heap.size w (V.drewN nq)/\(V.drewN nq).heap[w.heap.size+1+1]? = some (.cells #[.bool false,.slice none 0 0] 180 (0,0))):=qH ⟨below_drewN HR.o.1 nq,HR.o.2⟩;obtain⟨W2,aa⟩:=qY (V.drewN nq);rw [<-aa] at F;rw [<-aa];clear aa aA aB
 go_loopg [5,6,7,8] y.natAbs (fun b x5 x6 x7 x8 W=>∃a:Nat,Hu (MagAt W x5 a)/\Hu (MagAt W x6 b)/\Hu (Fit a K/\Fit b K/\a.gcd b=G)/\Hu (Below W2.heap.size W2 W))
 case atStart=>exact⟨x.natAbs,qH (HM.o.below F.o.1),qH (HO.o.below F.o.1),qH ⟨HF.o.1,HF.o.2.1,HF.o.2.2.1⟩,qH qB⟩
 case round =>
  obtain⟨a,ha,hb,hF,hB⟩:=hrel;have av:=hb.o;obtain⟨a6,b6,o6,c6,n6,B6,rfl,I6,ae⟩:=av;have U:=qks I6;rw [ae] at U;clear I6 ae
  by_cases Y:n6=0
  ·have Z:=U.1 Y;subst Y;obtain rfl:gk=0:=Z;have af:MagAt wr u5 G:=by have h:=hF.o.2.2;rw [Nat.gcd_zero_right] at h;rw [<-h];exact ha.o
   have HG:qb8 wr (.agg #[.bool false,u5]) (G:Int):=⟨u5,by rw [qU (by omega)],by simpa using af⟩;obtain⟨a5,b5,o5,c5,n5,B5,rfl,_,_⟩:=af;have H:=(hB.o.block (w.heap.size+1+1) (qG F.o.2).1).trans F.o.2;have J:Below w.heap.size w wr:=F.o.1.trans (hB.o.mono F.o.1.size);have au:=qcr (cs':=#[.bool false,.slice a5 n5 c5]) HG H (nd2 _ _ _ _);have HR:=qH (qA H (qA J (qS J (show w.heap.size<=w.heap.size+1+1 by omega) #[.bool false,.slice a5 n5 c5])));have HV:=qH au;clear H J au HG U
   go_wp2_with (with_reducible refine sR_ rfl 180 _ _ rfl (w.heap.size+1+1) #[.bool false,.slice a5 n5 c5] HR.o.1 2 ?_)
   exact qR (v:=.agg #[.bool false,.slice a5 n5 c5]) (rA_ rfl (w.heap.size+1+1) (qT _ _ _ _ _ _ HR.o.1) underlying180 2) rfl ⟨_,rfl,HR.o.2.2,HV.o⟩
  ·have Z:gk≠0:=fun h=>Y (U.2 h)
   have aC:(0:Int)<n6:=by omega
   have HD:=qH (qi2 a gk K (by have:=HF.o.2.2.2;omega) u5 _ wr ha.o hb.o hF.o.1 hF.o.2.1 (by omega));have ax:=qH Z;clear U Y Z;go_wp2_with fail;refine HD.o.mono ?_;rintro e w2 ⟨q,r,rfl,ah,hq,hr,_⟩;have HV:=qH (qA ah hr);clear ah hr hq;go_wp2_with fail
   go_roundg (a % gk)
   case measure=>exact qbD _ (by have:=ax.o;omega)
   case rel=>exact⟨gk,qH (hb.o.below HV.o.1),qH HV.o.2,qH ⟨hF.o.2.1,hF.o.1.le (Nat.mod_le _ _),by rw [<-hF.o.2.2,Nat.gcd_comm gk,<-Nat.gcd_rec,Nat.gcd_comm]⟩,qH (hB.o.trans (HV.o.1.mono hB.o.size))⟩
theorem qgd (x y:Int) (K:Nat) (Y:K<=1) (v u:Value) (w:World) (hv:qb8 w v x) (hu:qb8 w u y) (hx:Fit x.natAbs K) (hy:Fit y.natAbs K) (aX:0<y) (af:x.natAbs % y.natAbs=0) :
  Calls prog 248 #[v,u] w fun e w'=>∃p q,e=.returned (.tuple #[p,q])/\Below w.heap.size w w'/\qb8 w' p (if x<0 then -((x.natAbs / y.natAbs:Nat):Int) else ((x.natAbs / y.natAbs:Nat):Int))/\qb8 w' q 0/\HiP w.heap.size p:=by
 obtain⟨m,rfl,hm⟩:=hv;obtain⟨o,rfl,ho⟩:=hu;rw [qU (show ¬y<0 by omega)];have hp:=fun (W:World) (h:Below w.heap.size w W)=>qi2 x.natAbs y.natAbs K Y m o W (hm.below h) (ho.below h) hx hy (by omega)
 rw [af] at hp;have hq:Fit (x.natAbs / y.natAbs) K:=hx.le (qaR _ _);have ag:(if (decide (x<0) != false)=true then -((x.natAbs / y.natAbs:Nat):Int) else ((x.natAbs / y.natAbs:Nat):Int))=(if x<0 then -((x.natAbs / y.natAbs:Nat):Int) else ((x.natAbs / y.natAbs:Nat):Int)):=by
  by_cases h:x<0
  ·rw [qV h,if_pos h];rfl
  ·rw [qU h,if_neg h];rfl
 rw [<-ag];obtain⟨b0,az⟩:=qX (decide (x<0));rw [az];rw [show (b0 != false)=b0 by cases b0 <;> rfl];obtain⟨X,hX⟩:=qX ((if b0=true then -((x.natAbs / y.natAbs:Nat):Int) else ((x.natAbs / y.natAbs:Nat):Int)):Int);rw [hX];generalize x.natAbs / y.natAbs=Q at *;have HP:=qH hp;have aN:=qH hX;have HQ:=qH hq;have aW:=Y;obtain⟨ax,bm,om,cx,nx,M,rfl,Im,aO⟩:=hm;obtain⟨ay,bo,oo,cy,ny,O,rfl,Io,aP⟩:=ho;clear hX hp hq ag az Im aO Io aP hx hy Y af;obtain⟨W1,H⟩:=qY ((((w.alloc (.cells #[.bool b0,.slice ax nx cx] 180)).alloc (.cells #[.bool false,.slice ay ny cy] 180)).alloc (.cells #[.bool false,.slice none 0 0] 180)).alloc (.cells #[.bool false,.slice none 0 0] 180));have aA:Below w.heap.size w W1:=H▸qbU (qbU (qbU (qbU qB qN) qN) qN) qN;have au:W1.heap[w.heap.size]? = some (.cells #[.bool b0,.slice ax nx cx] 180 (0,0)):=by rw [H,qL _ _ _ (by simp only [qab];omega),qL _ _ _ (by simp only [qab];omega),qL _ _ _ (by simp only [qab];omega)];exact qM _ _ _ rfl
 have av:W1.heap[w.heap.size+1]? = some (.cells #[.bool false,.slice ay ny cy] 180 (0,0)):=by rw [H,qL _ _ _ (by simp only [qab];omega),qL _ _ _ (by simp only [qab];omega)];exact qM _ _ _ (by simp)
 have aF:W1.heap[w.heap.size+1+1]? = some (.cells #[.bool false,.slice none 0 0] 180 (0,0)):=by rw [H,qL _ _ _ (by simp only [qab];omega)];exact qM _ _ _ (by simp)
 have aG:W1.heap[w.heap.size+1+1+1]? = some (.cells #[.bool false,.slice none 0 0] 180 (0,0)):=by rw [H];exact qM _ _ _ (by simp)
 have aT:=qC W1 _ 1 _ _ _ au;have aU:=qC W1 _ 1 _ _ _ av;have HR:=qH (qA aA (qA au (qA av (qA aF aG))));clear au av aF aG aA;go_enter func248,ntmps248;go_wp2_with fail;rw [<-H];clear H;go_wp2_with fail;refine (HP.o _ HR.o.1).mono ?_;rintro e F ⟨q,r,rfl,ah,aI,aJ,aD⟩;clear aT aU;have aS:Below F.heap.size F F:=Below.refl _ _;have aH:Below F.heap.size F F.drew:=aS.drew;have aV:F.drew.heap.size=F.heap.size:=rfl;have row:∀(g:Nat) (o:Obj),W1.heap[g]? = some o->F.heap[g]? = some o:=zkeep ah;have R0:=row _ _ HR.o.2.1;have R1:=row _ _ HR.o.2.2.1;have l0:w.heap.size<F.heap.size:=(qG R0).1;have l1:w.heap.size+1<F.heap.size:=(qG R1).1;have C0:∀W,Below F.heap.size F W->W.cell? ⟨w.heap.size,0,none⟩=some (.bool b0):=fun W h=>(h.cell (p:=⟨w.heap.size,0,none⟩) l0).trans (qC _ _ 0 _ _ _ R0)
 have C1:∀W,Below F.heap.size F W->W.cell? ⟨w.heap.size+1,0,none⟩=some (.bool false):=fun W h=>(h.cell (p:=⟨w.heap.size+1,0,none⟩) l1).trans (qC _ _ 0 _ _ _ R1)
 have aj:=fun (W:World) (h:Below F.heap.size F W)=>qku Q K b0 q W ((aI.below h).digs HQ.o) (by omega)
 have ak:=fun (W:World) (h:Below F.heap.size F W)=>qhV 0 1 b0 r W ((aJ.below h).digs (by unfold Fit;decide)) (by decide)
 rw [aN.o] at aj;rw [show (if b0=true then -((0:Nat):Int) else ((0:Nat):Int))=0 by split <;> rfl] at ak;have aK:=qH aj;have aL:=qH ak;have ae:=HR.o.1.trans (ah.mono HR.o.1.size);have aM:=qH (aD.mono HR.o.1.size);have H2:=qH (qA ae (qA (row _ _ HR.o.2.2.2.1) (row _ _ HR.o.2.2.2.2)));obtain⟨aq,_,_,cq,aY,_,rfl,_,_⟩:=aI;obtain⟨ar,_,_,cr,aZ,_,rfl,_,_⟩:=aJ;clear aj ak R0 R1 ah ae row aD;go_wp2_with fail;refine wp_region_held_drew (S:=fun W=>Below F.heap.size F W) (by kernel_rfl) aH (fun hS0=>?_);refine hT 0 (h:=hT 1 (h:=hT 2 (h:=hT 3 (h:=hT 4 (h:=hT 5 (h:=hT 7 (h:=hT 8 (h:=hT 9 (h:=?_)))))))));refine gr [(6,24),(10,28),(11,8),(12,9)] [] [0,1,2,3,4,5,7,8,9] [6,10,11,12] [11,12] 13 15 (fl2 [(6,fun x W=>qb8 W x X/\HiP w.heap.size x),(10,fun x W=>qb8 W x 0),(11,ZC F.heap.size #[.bool false,.slice none 0 0] 180),(12,ZC F.heap.size #[.bool false,.slice none 0 0] 180)]) _ 2
  (hS:=fun w' h=>qb4 h) (hstep:=⟨⟨_,rfl,fun v U J hF K Y=>?_⟩,⟨_,rfl,fun v U J hF K Y=>?_⟩,⟨_,rfl,fun v U J hF K Y=>?_⟩,⟨_,rfl,fun v U J hF K Y=>?_⟩,trivial⟩) (hend:=fun v U J hF hE f=>?_)
 ·exact gC Y (aK.o _ (qb4 J)) (h:=fun e U ⟨u,e1,h1,h2,h3⟩=>⟨u,e1,⟨h2,h3 _ aM.o⟩,h1⟩)
 ·exact gC Y (aL.o _ (qb4 J)) (h:=fun e U ⟨u,e1,h1,h2⟩=>⟨u,e1,h2,h1⟩)
 ·exact gW Y (h:=ZC.new J.size)
 ·exact gW Y (h:=ZC.new J.size)
 have i3:qb8 U (v 6) X/\HiP w.heap.size (v 6):=hF 6 (by decide) (by decide);have i4:qb8 U (v 10) 0:=hF 10 (by decide) (by decide);obtain⟨g3,h3,e11,ai⟩:ZC _ _ _ (v 11) U:=hF 11 (by decide) (by decide);obtain⟨g4,h4,e12,aB⟩:ZC _ _ _ (v 12) U:=hF 12 (by decide) (by decide);have hne:g3≠g4:=by have:=hE 11 (by decide) 12 (by decide) (by decide);rwa [e11,e12] at this
 obtain⟨b3,a3,n3,c3,e6⟩:=i3.1.shape;obtain⟨b4,a4,n4,c4,e10⟩:=i4.shape;rw [e6] at i3;rw [e10] at i4;have aR:b4=false:=by
  obtain⟨m4,aC,_⟩:=i4;simp only [qaP,qaV,qaN,qbw] at aC;exact aC.1
 subst aR;have J:=qb4 J;have V:=(setRow_other U g3 g4 #[.bool b3,.slice a3 n3 c3] (fun e=>hne e.symm)).trans h4;refine hSn 13 2 h3 (hx:=by exact e11) (hy:=by exact e6) (h:=⟨qS J ai _,?_⟩);refine hSt 14 2 V (hx:=by exact e12) (hy:=by exact e10) (h:=⟨qS (qS J ai _) aB _,?_⟩);have l1:=(qG H2.o.2.2).1;obtain⟨W5,I⟩:=qY ((U.setRow g3 #[.bool b3,.slice a3 n3 c3]).setRow g4 #[.bool false,.slice a4 n4 c4]);have aa:Below F.heap.size F W5:=I▸qS (qS J ai _) aB _;have Z:Kn (fun W=>Below w.heap.size w W/\W.heap[w.heap.size+1+1]? = some (.cells #[.bool false,.slice none 0 0] 180 (0,0))/\W.heap[w.heap.size+1+1+1]? = some (.cells #[.bool false,.slice none 0 0] 180 (0,0)) /\
   W.heap[g3]? = some (.cells #[.bool b3,.slice a3 n3 c3] 180 (0,0))/\W.heap[g4]? = some (.cells #[.bool false,.slice a4 n4 c4] 180 (0,0))/\qb8 W (.agg #[.bool b3,.slice a3 n3 c3]) X/\qb8 W (.agg #[.bool false,.slice a4 n4 c4]) 0) W5 :=
  .of ⟨H2.o.1.trans (aa.mono H2.o.1.size),zkeep aa _ _ H2.o.2.1,zkeep aa _ _ H2.o.2.2,I▸(setRow_other _ _ _ _ hne).trans (qT _ _ _ _ _ _ h3),I▸qT _ _ _ _ _ _ V,
   I▸qcr (qcr i3.1 h3 (nd2 _ _ _ _)) V (nd2 _ _ _ _),I▸qcr (qcr i4 h3 (nd2 _ _ _ _)) V (nd2 _ _ _ _)⟩
 rw [<-I];have HI:=qH i3.2;have k1:∀W,Rows2 g3 g4 (.cells #[.bool b3,.slice a3 n3 c3] 180 (0,0)) (.cells #[.bool false,.slice a4 n4 c4] 180 (0,0)) W->W.cell? ⟨g3,0,none⟩=some (.bool b3)/\W.cell? ⟨g3,1,none⟩=some (.slice a3 n3 c3)/\W.cell? ⟨g4,0,none⟩=some (.bool false)/\W.cell? ⟨g4,1,none⟩=some (.slice a4 n4 c4) :=
  fun W h=>⟨qC _ _ 0 _ _ _ h.1,qC _ _ 1 _ _ _ h.1,qC _ _ 0 _ _ _ h.2,qC _ _ 1 _ _ _ h.2⟩
 have aQ:Rows2 g3 g4 (.cells #[.bool b3,.slice a3 n3 c3] 180 (0,0)) (.cells #[.bool false,.slice a4 n4 c4] 180 (0,0)) W5:=⟨Z.o.2.2.2.1,Z.o.2.2.2.2.1⟩;clear C0 C1 h3 h4 V i3 i4 J aa hF hE I hS0;go_wp2_with fail;refine wp_region_held_drew (S:=Rows2 g3 g4 (.cells #[.bool b3,.slice a3 n3 c3] 180 (0,0)) (.cells #[.bool false,.slice a4 n4 c4] 180 (0,0))) (by kernel_rfl) aQ (fun hS0=>?_);refine hT 0 (h:=hT 1 (h:=?_));have o3:=(setRow_other W5.drew (w.heap.size+1+1) (w.heap.size+1+1+1) #[.bool b3,.slice a3 n3 c3] (by omega)).trans Z.o.2.2.1;have sr:∀(W:World) (g:Nat) (cs:Array Value),Rows2 g3 g4 (.cells #[.bool b3,.slice a3 n3 c3] 180 (0,0)) (.cells #[.bool false,.slice a4 n4 c4] 180 (0,0)) W->g3≠g->g4≠g->Rows2 g3 g4 (.cells #[.bool b3,.slice a3 n3 c3] 180 (0,0)) (.cells #[.bool false,.slice a4 n4 c4] 180 (0,0)) (W.setRow g cs):=fun W g cs h h1 h2=>⟨(setRow_other _ _ _ _ h1).trans h.1,(setRow_other _ _ _ _ h2).trans h.2⟩
 refine hSn 2 2 (show W5.drew.heap[_]? = _ from Z.o.2.1) (h:=⟨sr _ _ _ hS0 (by omega) (by omega),?_⟩);refine hSt 3 2 o3 (h:=⟨sr _ _ _ (sr _ _ _ hS0 (by omega) (by omega)) (by omega) (by omega),?_⟩);go_wp2_with fail;exact qR (v:=.tuple #[.agg #[.bool b3,.slice a3 n3 c3],.agg #[.bool false,.slice a4 n4 c4]]) (qlu rfl _ _ (w.heap.size+1+1) (w.heap.size+1+1+1) 180 _ _ _ rfl rfl ((setRow_other _ _ _ _ (by omega)).trans (qT _ _ _ _ _ _ Z.o.2.1)) (qT _ _ _ _ _ _ o3) underlying180 rfl 2 (by kernel_rfl) rfl rfl) rfl
  ⟨_,_,rfl,qS (qS Z.o.1.drew (by omega) _) (by omega) _,qcr (qcr (Z.o.2.2.2.2.2.1.below qB.drew) Z.o.2.1 (nd2 _ _ _ _)) o3 (nd2 _ _ _ _),qcr (qcr (Z.o.2.2.2.2.2.2.below qB.drew) Z.o.2.1 (nd2 _ _ _ _)) o3 (nd2 _ _ _ _),HI.o⟩
theorem qle (n d:Int) (hd:0<d) (K:Nat) (hK:K<=1) (v u:Value) (w:World) (hv:qb8 w v n) (hu:qb8 w u d) (fn:Fit n.natAbs K) (fd:Fit d.natAbs K) :
  Calls prog 188 #[v,u] w fun e w'=>∃u,e=.returned u/\Below w.heap.size w w'/\qdM w' u (Rat.divInt n d)/\HiR w.heap.size u:=by
 obtain⟨q,hq⟩:=qX (Rat.divInt n d);rw [hq];have HF:=qH (qA fn (qA fd (qA hd (qA hq (qA hv hu)))));obtain⟨m,rfl,am,bm,om,cm,nm,M,rfl,_,_⟩:=hv;obtain⟨o,rfl,ao,bo,oo,co,no,O,rfl,_,_⟩:=hu;generalize aP:decide (n<0)=b0 at *;generalize aT:decide (d<0)=bd at *;have aB:=qH (qA aP aT);clear fn fd aP aT hq;obtain⟨W1,aO,K1⟩:=kn3 w #[.bool b0,.slice am nm cm] 180 #[.bool bd,.slice ao no co] 180 #[.bool false,.slice none 0 0,.bool false,.slice none 0 0] 182;have bE:=qC W1 _ 0 _ _ _ K1.o.2.2.1;go_enter func188,ntmps188;go_upto_region 1 with fail;rw [<-aO];clear aO
 go_upto_if 11 with fail
 go_cut [12] from 12 (fun _ W=>∃b0 am nm cm ao no co,LowSt w q K W b0 am nm cm ao no co)
 case first =>
  have l2:=(qG K1.o.2.2.2).1;obtain rfl:bd=false:=by rw [<-aB.o.2];exact qU (by have:=HF.o.2.2.1;omega)
  have bH:¬d<0:=of_decide_eq_false aB.o.2;go_wp2;go_meet;exact⟨_,_,_,_,_,_,_,⟨n,d,by omega,HF.o.2.2.2.1,HF.o.1,HF.o.2.1,HF.o.2.2.2.2.1.below K1.o.1,HF.o.2.2.2.2.2.below K1.o.1⟩,K1.o⟩
 case rest =>
  clear HF aB K1 bE hd;obtain⟨b0,am,nm,cm,ao,no,co,⟨n,d,hd,hq,fn,fd,hv,hu⟩,hb,r0,r1,r2⟩:=hcut;obtain⟨l1,l2⟩:=low_num n d hd;obtain⟨G,hG⟩:=qX (n.natAbs.gcd d.natAbs);have bD:0<G:=by rw [<-hG];exact qba _ (by omega)
  have aD:Fit G K:=fd.le (by rw [<-hG];exact Nat.gcd_le_right _ (by omega));have aN:n.natAbs % G=0:=by rw [<-hG];exact Nat.mod_eq_zero_of_dvd (qbN _ _)
  have aM:d.natAbs % G=0:=by rw [<-hG];exact Nat.mod_eq_zero_of_dvd (qaW _ _)
  rw [hG,hq] at l1 l2;have HG:=qH (fun (W:World) (h:Below wc.heap.size wc W)=>qjB n d K hK _ _ W (hv.below h) (hu.below h) fn fd);have bi:Hu (n.natAbs.gcd d.natAbs=G):=qH hG;have HN:=qH (fun (W:World) (g:Value) (h:Below wc.heap.size wc W) (hg:qb8 W g (G:Int))=>qgd n G K hK _ g W (hv.below h) hg fn (by simpa using aD) (by omega) (by simpa using aN));have HD:=qH (fun (W:World) (g:Value) (h:Below wc.heap.size wc W) (hg:qb8 W g (G:Int))=>qgd d G K hK _ g W (hu.below h) hg fd (by simpa using aD) (by omega) (by simpa using aM));have HL:=qH (qA l1 (qA l2 hd));have HB:=qH hb;have HR:=qH (qA (Below.refl wc.heap.size wc) (qA r0 (qA r1 r2)));clear l1 l2 hG bD aD aN aM fn fd hv hu r0 r1 r2 hb hq
  go_wp2_with (first | (with_reducible refine lW_ rfl 180 _ rfl (w.heap.size) #[.bool b0,.slice am nm cm] HR.o.2.1 underlying180 2 ?_) | (with_reducible refine lW_ rfl 180 _ rfl (w.heap.size+1) #[.bool false,.slice ao no co] HR.o.2.2.1 underlying180 2 ?_))
  refine (HG.o _ qB).mono ?_;rintro e w2 ⟨vg,rfl,aQ,ay⟩;rw [bi.o] at ay;obtain⟨bg,ag,ng,cg,rfl⟩:=ay.shape;obtain⟨W2,ah⟩:=qY (w2.alloc (.cells #[.bool bg,.slice ag ng cg] 180));have ak:Below wc.heap.size wc W2:=ah▸qbU aQ qN;have aA:qb8 W2 (.agg #[.bool bg,.slice ag ng cg]) (G:Int):=ay.below (ah▸qbU qB qN);have row:∀(g:Nat) (o:Obj),wc.heap[g]? = some o->W2.heap[g]? = some o:=zkeep ak;have rg:W2.heap[w2.heap.size]? = some (.cells #[.bool bg,.slice ag ng cg] 180 (0,0)):=by rw [ah];exact qM _ _ _ rfl
  have H2:=qH (qA (HR.o.1.trans (ak.mono HR.o.1.size)) (qA (row _ _ HR.o.2.1) (qA (row _ _ HR.o.2.2.1) (qA (row _ _ HR.o.2.2.2) (qA rg aA)))));have aL:=qH ah;clear aQ ay ak aA row rg ah;have F0:=H2.o.2.1;have Fg:=H2.o.2.2.2.2.1;rw [aL.o] at F0 Fg;have aJ:=qH (qA F0 Fg);clear F0 Fg
  go_wp2_with (first | ((with_reducible refine qex rfl 180 _ _ rfl _ #[.bool bg,.slice ag ng cg] ?_ ?_ 2 ?_ ?_ ?_ ?_ ?_);(next=>rfl);(next=>rfl);(next=>kernel_rfl);(next=>rfl);(next=>rfl);(next=>rfl)) | (with_reducible refine lW_ rfl 180 _ rfl (w.heap.size) #[.bool b0,.slice am nm cm] aJ.o.1 underlying180 2 ?_) | (with_reducible refine lW_ rfl 180 _ rfl (w2.heap.size) #[.bool bg,.slice ag ng cg] aJ.o.2 underlying180 2 ?_))
  rw [<-aL.o];refine (HN.o _ _ H2.o.1 H2.o.2.2.2.2.2).mono ?_;rintro e w4 ⟨p4,q4,rfl,ax,aG,aI,aU⟩;obtain⟨J,H,Y,U,rfl⟩:=aG.shape;obtain⟨bz,bu,bF,bB,rfl⟩:=aI.shape;have aZ:=qH (aU.mono (qaj HB.o.size H2.o.1.size));clear aU;have az:Below wc.heap.size wc w4:=H2.o.1.trans (ax.mono H2.o.1.size);have ae:∀(g:Nat) (o:Obj),W2.heap[g]? = some o->w4.heap[g]? = some o:=zkeep ax;have H4:=qH (qA az (qA (ae _ _ H2.o.2.2.1) (qA (ae _ _ H2.o.2.2.2.1) (qA (ae _ _ H2.o.2.2.2.2.1) (qA (H2.o.2.2.2.2.2.below ax) (qA aG aI))))));clear ax aG aI az ae;obtain⟨W5,ai⟩:=qY ((w4.alloc (.cells #[.bool J,.slice H Y U] 180)).alloc (.cells #[.bool bz,.slice bu bF bB] 180));have F:Below w4.heap.size w4 W5:=ai▸qbU (qbU qB qN) qN;have af:∀(g:Nat) (o:Obj),w4.heap[g]? = some o->W5.heap[g]? = some o:=zkeep F;have rp:W5.heap[w4.heap.size]? = some (.cells #[.bool J,.slice H Y U] 180 (0,0)):=by rw [ai,qL _ _ _ (by simp only [qab];omega)];exact qM _ _ _ rfl
  have H5:=qH (qA (H4.o.1.trans (F.mono H4.o.1.size)) (qA (af _ _ H4.o.2.1) (qA (af _ _ H4.o.2.2.1) (qA (af _ _ H4.o.2.2.2.1) (qA (H4.o.2.2.2.2.1.below F) (qA rp (H4.o.2.2.2.2.2.1.below F)))))));have F1:=H5.o.2.1;have Fg:=H5.o.2.2.2.1;rw [ai] at F1 Fg;have aK:=qH (qA F1 Fg);have bn:=qH ai;clear F af rp F1 Fg ai
  go_wp2_with (first | (with_reducible refine lW_ rfl 180 _ rfl (w.heap.size+1) #[.bool false,.slice ao no co] aK.o.1 underlying180 2 ?_) | (with_reducible refine lW_ rfl 180 _ rfl (w2.heap.size) #[.bool bg,.slice ag ng cg] aK.o.2 underlying180 2 ?_))
  rw [<-bn.o];refine (HD.o _ _ H5.o.1 H5.o.2.2.2.2.1).mono ?_;rintro e w6 ⟨p6,q6,rfl,aF,aH,aW,aV⟩;obtain⟨aC,I,Z,V,rfl⟩:=aH.shape;obtain⟨bA,bv,bG,bC,rfl⟩:=aW.shape;have bf:=qH (aV.mono (qaj HB.o.size H5.o.1.size));clear aV;obtain⟨W7,aj⟩:=qY ((w6.alloc (.cells #[.bool aC,.slice I Z V] 180)).alloc (.cells #[.bool bA,.slice bv bG bC] 180));have au:Below w6.heap.size w6 W7:=aj▸qbU (qbU qB qN) qN;have aa:Below W5.heap.size W5 W7:=aF.trans (au.mono aF.size);have av:∀(g:Nat) (o:Obj),W5.heap[g]? = some o->W7.heap[g]? = some o:=zkeep aa;have aY:W7.heap[w6.heap.size]? = some (.cells #[.bool aC,.slice I Z V] 180 (0,0)):=by rw [aj,qL _ _ _ (by simp only [qab];omega)];exact qM _ _ _ rfl
  have aS:Below w.heap.size w W7:=HB.o.trans ((H5.o.1.trans (aa.mono H5.o.1.size)).mono HB.o.size);have rr:=av _ _ H5.o.2.2.1;have hq:=qns (q:=q) (H5.o.2.2.2.2.2.2.below aa) (aH.below au) HL.o.1 (by rw [if_neg (show ¬d<0 by have:=HL.o.2.2;omega),qam];exact HL.o.2.1);have aR:aC=false:=by
   obtain⟨m6,o6,h6,_⟩:=hq;simp only [qaP,qaV,qaN,qbw] at h6;exact h6.2.2.1
  subst aR;have aX:=qge (cs':=#[.bool J,.slice H Y U,.bool false,.slice I Z V]) hq rr (nd4 _ _ _ _ _ _ _ _);have G0:=av _ _ H5.o.2.2.2.2.2.1;have G1:=aY;have G2:=rr;rw [aj] at G0 G1 G2;have H7:=qH (qA G0 (qA G1 (qA G2 (qA rr (qA aX (qS aS (show w.heap.size<=w.heap.size+1+1 by omega) #[.bool J,.slice H Y U,.bool false,.slice I Z V]))))));have bq:=qH aj;clear aF aH aW au aa av aY aS rr hq aX G0 G1 G2 aj
  go_wp2_with (first | (with_reducible refine lW_ rfl 180 _ rfl (w4.heap.size) #[.bool J,.slice H Y U] H7.o.1 underlying180 2 ?_) | (with_reducible refine lW_ rfl 180 _ rfl (w6.heap.size) #[.bool false,.slice I Z V] H7.o.2.1 underlying180 2 ?_) | (with_reducible refine sR_ rfl 182 _ _ rfl (w.heap.size+1+1) #[.bool J,.slice H Y U,.bool false,.slice I Z V] H7.o.2.2.1 4 ?_))
  rw [<-bq.o];exact qR (v:=.agg #[.bool J,.slice H Y U,.bool false,.slice I Z V]) (rA_ rfl (w.heap.size+1+1) (qT _ _ _ _ _ _ H7.o.2.2.2.1) underlying182 4) rfl ⟨_,rfl,H7.o.2.2.2.2.2,H7.o.2.2.2.2.1,hir_of (aZ.o _ _ rfl) (bf.o _ _ rfl)⟩
theorem qnr (n d:Int) (hn:-10000<n/\n<10000) (hd:0<d) (av:d<10000) (w:World) :
  Calls prog 116 #[.int .i64 n,.int .i64 d] w fun e w'=>∃u,e=.returned u/\Below w.heap.size w w'/\qdM w' u (Rat.divInt n d):=by
 have HN:=qH (fun (W:World)=>qjH n ⟨by omega,by omega⟩ W);have HD:=qH (fun (W:World)=>qgD d (by omega) ⟨by omega,by omega⟩ W);have HL:=qH (fun (W:World) (v u:Value) (hv:qb8 W v n) (hu:qb8 W u d)=>qle n d hd 1 (by decide) v u W hv hu (show n.natAbs<10000 ^ 1 by omega) (show d.natAbs<10000 ^ 1 by omega));obtain⟨W1,F⟩:=qY (w.alloc (.cells #[.bool false,.slice none 0 0,.bool false,.slice none 0 0] 182));have Z:Below w.heap.size w W1:=F▸qbU qB qN;have af:W1.heap[w.heap.size]? = some (.cells #[.bool false,.slice none 0 0,.bool false,.slice none 0 0] 182 (0,0)):=by rw [F];exact qM _ _ _ rfl
 have H1:=qH (qA Z af);clear Z af;go_enter func116,ntmps116;go_wp2_with fail;rw [<-F];clear F;refine (HN.o _).mono ?_;rintro e w2 ⟨v2,rfl,I,O⟩;have H2:=qH (qA (H1.o.1.trans (I.mono H1.o.1.size)) (qA (zkeep I _ _ H1.o.2) O));obtain⟨ai,ag,ax,ak,rfl⟩:=O.shape;clear I O;go_wp2_with fail;refine (HD.o _).mono ?_;rintro e w3 ⟨v3,rfl,H,U⟩;have Y:=qH (qA (H2.o.1.trans (H.mono H2.o.1.size)) (qA (zkeep H _ _ H2.o.2.1) (qA (H2.o.2.2.below H) U)));obtain⟨aj,ah,ay,au,rfl⟩:=U.shape;clear H U;go_wp2_with fail;refine (HL.o _ _ _ Y.o.2.2.1 Y.o.2.2.2).mono ?_;rintro e w4 ⟨v4,rfl,J,V,_⟩;obtain⟨b4,a4,n4,c4,a5,n5,c5,rfl⟩:=V.shape;have rr:=zkeep J _ _ Y.o.2.1;have aa:=Y.o.1.trans (J.mono Y.o.1.size);have ae:=qge (cs':=#[.bool b4,.slice a4 n4 c4,.bool false,.slice a5 n5 c5]) V rr (nd4 _ _ _ _ _ _ _ _);have H4:=qH (qA rr (qA ae (qS aa qN #[.bool b4,.slice a4 n4 c4,.bool false,.slice a5 n5 c5])));clear J V rr aa ae
 go_wp2_with (with_reducible refine sR_ rfl 182 _ _ rfl (w.heap.size) #[.bool b4,.slice a4 n4 c4,.bool false,.slice a5 n5 c5] H4.o.1 4 ?_)
 exact qR (v:=.agg #[.bool b4,.slice a4 n4 c4,.bool false,.slice a5 n5 c5]) (rA_ rfl (w.heap.size) (qT _ _ _ _ _ _ H4.o.1) underlying182 4) rfl ⟨_,rfl,H4.o.2.2,H4.o.2.1⟩
end Go.Proofs.YtplkdeknjghobaaGreatDoor.p4
namespace Go.Proofs.YtplkdeknjghobaaGreatDoor
open Go.RowKit Go.Proofs.Tryz
structure Dr where
 n0:Bool
 n1:List Int
 n2:Int
 d0:Bool
 d1:List Int
 d2:Int
structure DrOk (d:Dr):Prop where
 l1:d.n1.length<=9223372036854775807
 l2:d.d1.length<=9223372036854775807
 g1:∀k,0<=d.n1.getD k 0/\d.n1.getD k 0<65536
 g2:∀k,0<=d.d1.getD k 0/\d.d1.getD k 0<65536
def Dr.a (d:Dr):Int:=(small d.n0 d.n1).tmod 1000
def Dr.z (d:Dr):Int:=1+((small d.d0 d.d1).natAbs:Int) % 60
def Dr.q (d:Dr):Rat:=Rat.divInt d.a d.z
theorem Dr.a_le (d:Dr):-1000<d.a/\d.a<1000:=⟨Int.lt_tmod_of_pos _ (by decide),Int.tmod_lt_of_pos _ (by decide)⟩
theorem Dr.z_le (d:Dr):1<=d.z/\d.z<=60:=by
 unfold Dr.z;omega
theorem Dr.rb (d:Dr):Rb d.q 1000:=by
 have F:=d.a_le;have H:=d.z_le;refine qgX (p:=d.a) (z:=d.z) (by omega) (by omega) (by omega) ?_;unfold Dr.q;rw [Rat.divInt_eq_div]
theorem Dr.short (d:Dr):Short d.q:=qdk d.rb (by decide +kernel)
theorem qnE (d:Dr) (a1 a2:Option Addr) (b1 o1 c1 b2 o2 c2:Nat) (w:World) (F:DrOk d) (h1:KCells w .u16 a1 b1 o1 d.n1) (h2:KCells w .u16 a2 b2 o2 d.d1) :
  Calls prog 63 #[.agg #[.bool d.n0,.slice a1 d.n1.length c1,.int .u16 d.n2,.bool d.d0,.slice a2 d.d1.length c2,.int .u16 d.d2]] w fun e w'=>e=.returned (fstr d.q)/\Below w.heap.size w w':=by
 obtain⟨W1,aa,N1⟩:=nw2 w #[.bool d.n0,.slice a1 d.n1.length c1,.int .u16 d.n2,.bool d.d0,.slice a2 d.d1.length c2,.int .u16 d.d2] 128 #[.string ⟨#[]⟩,.string ⟨#[]⟩] 44;have HN:=qH (fun (W:World) (J:Below w.heap.size w W)=>qjd d.n0 a1 b1 o1 d.n1.length c1 d.n1 d.n2 W rfl F.l1 (h1.below J) F.g1);have HD:=qH (fun (W:World) (J:Below w.heap.size w W)=>qjd d.d0 a2 b2 o2 d.d1.length c2 d.d1 d.d2 W rfl F.l2 (h2.below J) F.g2);have aj:=qkJ F.g1 d.n0;have ak:=qkJ F.g2 d.d0;have ha:=d.a_le;have hz:=d.z_le;have V:=d.rb;have I:=d.short;obtain⟨q,hq⟩:=qX d.q;have U:q=Rat.divInt d.a d.z:=by rw [<-hq];rfl
 obtain⟨x,hx⟩:=qX (small d.n0 d.n1);obtain⟨y,hy⟩:=qX (small d.d0 d.d1);have O:d.a=x.tmod 1000:=by unfold Dr.a;rw [hx]
 have Y:d.z=1+(y.natAbs:Int) % 60:=by unfold Dr.z;rw [hy]
 rw [hx] at HN aj;rw [hy] at HD ak;rw [hq] at V I ⊢;rw [O,Y] at U;rw [O] at ha;rw [Y] at hz;have k3:=qC _ _ 3 _ _ _ N1.o.2.1;have k4:=qC _ _ 4 _ _ _ N1.o.2.1;have k5:=qC _ _ 5 _ _ _ N1.o.2.1;have HQ:=qH (qA U (qA V I));clear U V I hq hx hy O Y F h1 h2;go_enter func63,ntmps63;go_upto_region 1 with fail;rw [<-aa];clear aa;go_wp2_with fail;refine (HD.o _ N1.o.1).mono ?_;rintro e w2 ⟨rfl,J⟩;have Z:=N1.below J;clear J N1 k3 k4 k5
 go_upto_if 10 with fail
 go_cut [3] (fun x3 W=>x3=.int .i64 (y.natAbs:Int)/\Hu (W=w2))
 case first =>
  by_cases hy:y<0
  ·go_wp2;go_meet;exact⟨by congr 1;omega,qH rfl⟩
  ·go_wp2;go_meet;exact⟨by congr 1;omega,qH rfl⟩
 case rest =>
  obtain⟨rfl,af⟩:=hcut;obtain rfl:=af.o;have k0:=qC _ _ 0 _ _ _ Z.o.2.1;have k1:=qC _ _ 1 _ _ _ Z.o.2.1;have k2:=qC _ _ 2 _ _ _ Z.o.2.1;clear af;go_wp2_with fail;refine (HN.o _ Z.o.1).mono ?_;rintro e w3 ⟨rfl,J⟩;have K3:=Z.below J;clear J Z k0 k1 k2;go_wp2_with fail;refine (p4.qnr _ _ ⟨by omega,by omega⟩ (by omega) (by omega) _).mono ?_;rintro e w4 ⟨u,rfl,ag,hu⟩;rw [<-HQ.o.1] at hu;have K4:=K3.below ag;obtain⟨b4,a4,n4,c4,a5,n5,c5,rfl⟩:=hu.shape;have h5:(1000:Nat)<10000 ^ 5:=by decide
  have HO:=qH (p4.rout_any q 5 (by decide) (by decide) _ _ hu (qaL HQ.o.2.1.1 h5) (qaL HQ.o.2.1.2 h5));clear ag hu K3 h5;go_wp2_with fail;refine HO.o.mono ?_;rintro e w5 ⟨⟨_,rfl⟩ | ⟨ai,_⟩,ah⟩
  ·have K5:=K4.below ah;obtain⟨W6,ae,N6⟩:=nw1 w5 #[.string (ftxt q).1,.string (ftxt q).2] 44;clear ah K4 HO;rw [qem];go_upto_region 5 with fail;rw [<-ae];clear ae;have K6:=K5.below N6.o.1;have I:=qS K6.o.1 (g:=w.heap.size+1) (qbB _) #[.string (ftxt q).1,.string (ftxt q).2];have H:=qH (qA N6.o.2 (qA K6.o.2.2 I));clear I K5 K6 N6
   go_wp2_with (first | (with_reducible refine lW_ rfl 44 _ rfl (w5.heap.size) #[.string (ftxt q).1,.string (ftxt q).2] H.o.1 underlying44 2 ?_) | (with_reducible refine sR_ rfl 44 _ _ rfl (w.heap.size+1) #[.string (ftxt q).1,.string (ftxt q).2] H.o.2.1 2 ?_))
   exact qR (v:=.agg #[.string (ftxt q).1,.string (ftxt q).2]) (rA_ rfl (w.heap.size+1) (qT _ _ _ _ _ _ H.o.2.1) underlying44 2) rfl ⟨rfl,H.o.2.2⟩
  ·exact absurd HQ.o.2.2 ai
