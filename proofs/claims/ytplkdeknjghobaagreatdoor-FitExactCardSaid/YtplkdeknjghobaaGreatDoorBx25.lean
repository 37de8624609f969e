import Derived.Deep.Cut
import Derived.Deep.SlicePairs
import Derived.Test.YtplkdeknjghobaaGreatDoorBx21
import Derived.Test.YtplkdeknjghobaaGreatDoorBx24
set_option maxRecDepth 100000
set_option maxHeartbeats 0
namespace Go.Proofs.YtplkdeknjghobaaGreatDoor
open Go.RowKit Go.Proofs.Tryz
def resq (m:Md) (p:Pt) (F c:Nat):Rat:=(sumQ (many F p.dev.length) fun j=>termQ F p.dev j*lval (m.row c) j)+1*(((-(p.lab c):Int):Rat) / ((100:Int):Rat))
def ResAs (w:World) (m:Md) (p:Pt) (F:Nat) (e:Ending) (J:World):Prop :=
 Below w.heap.size w J/\((∃x0 x1 G H z0 I,e=.returned (.agg #[.string x0,.string x1,.string G,.string H,.string z0,.string I])/\(∀c,c<3->Short (resq m p F c))/\(x0,x1)=ftxt (resq m p F 0)/\(G,H)=ftxt (resq m p F 1)/\(z0,I)=ftxt (resq m p F 2)) \/
  (e=thrown 6/\¬∀c,c<3->Short (resq m p F c)))
theorem many_le9 {k n:Nat} (I:1<=k/\k<=3) (F:1<=n) (H:n<=4) (G:¬(k=3/\n=4)):1<=many k n/\many k n<=9:=by
 unfold many;rcases (show k=1\/k=2\/k=3 by omega) with rfl | rfl | rfl
 ·simp;omega
 ·simp;omega
 ·rcases (show n=1\/n=2\/n=3 by omega) with rfl | rfl | rfl <;> decide
theorem qi6 (m:Md) (F n:Nat) (p:Pt) (a:Nat->Option Addr) (b' o d:Nat->Nat) (da:Option Addr) (db bn dc:Nat) (w:World) (G:MdOk m F n) (hp:PtOk p) (hn:p.dev.length=n) (hF:∀q,q<3->FCells w (a q) (b' q) (o q) (m.row q)) (hN:NCells w da db bn p.dev) (hT:HasT w) :
  Calls prog 74 #[.agg #[.int .i64 m.kind,.int .i64 m.inn,.slice (a 0) (many F n) (d 0),.slice (a 1) (many F n) (d 1),.slice (a 2) (many F n) (d 2)],.agg #[.string p.name,.slice da n dc,.int .i64 p.l0,.int .i64 p.l1,.int .i64 p.l2]] w fun e w'=>ResAs w m p F e w':=by
 have aB:F=1\/F=2\/F=3:=by have:=G.kind.2;omega
 have ah:=many_le9 G.kind.2 G.inn.2.1 G.inn.2.2 G.both;have h3:F=3->p.dev.length<=3:=fun e=>by have h3:=G.both;have h4:=G.inn.2.2;omega
 have aA:=qlr (kind:=F) (d:=p.dev) aB hp.vals h3 (by rw [hn];omega);rw [hn] at aA;have aY:qbY (many F n+1) (more (many F n) (termQ F p.dev) 1):=qhB (fun i hi=>qe5 aB hp.vals (by rw [hn];exact G.inn.2.2) h3 _ (qdQ (by rw [hn];exact hi))) qjQ;have aX:∀i,i<many F n+1->0<=more (many F n) (termQ F p.dev) 1 i:=fun i hi=>by
  unfold more;split
  ·exact (qgd aB hp.vals h3 _ (qdQ (by rw [hn];assumption))).2
  ·decide +kernel
 have aV:∀c,(p.lab c).natAbs<=12800:=fun c=>by
  have:=hp.l0;have:=hp.l1;have:=hp.l2;unfold Pt.lab;(repeat' split) <;> omega
 have bI:∀c,c<3->qbY (many F n+1) (more (many F n) (lval (m.row c)) (((-(p.lab c):Int):Rat) / ((100:Int):Rat))):=fun c hc=>by
  refine qhB ?_ (qdu (by decide) (by have:=aV c;omega) (by decide));have:=(G.rows c hc).2.short;rw [(G.rows c hc).1] at this;exact this
 have aG:∀c,(sumQ (many F n+1) fun j=>more (many F n) (termQ F p.dev) 1 j*more (many F n) (lval (m.row c)) (((-(p.lab c):Int):Rat) / ((100:Int):Rat)) j)=resq m p F c:=fun c=>by
  rw [dot_more];unfold resq;rw [hn]
 have av:∀c,c<3->m.row c=told (many F n) (lval (m.row c)):=fun c hc=>by rw [<-(G.rows c hc).1];exact (G.rows c hc).2.eq_told
 have bE:∀c,c<3->p.lab c=if c=0 then p.l0 else if c=1 then p.l1 else p.l2:=fun _ _=>rfl
 obtain⟨lb,H⟩:∃lb:Nat->Int,∀c,p.lab c=lb c:=⟨p.lab,fun _=>rfl⟩;have q0:p.l0=lb 0:=H 0;have q1:p.l1=lb 1:=H 1;have q2:p.l2=lb 2:=H 2;obtain⟨kind,O⟩:∃z,m.kind=z:=⟨_,rfl⟩;obtain⟨inn,aH⟩:∃z,m.inn=z:=⟨_,rfl⟩;obtain⟨nm,bF⟩:∃z,p.name=z:=⟨_,rfl⟩;obtain⟨N,I⟩:=qX (many F n);have aK:∀c,c<3->qbY (N+1) (more N (lval (m.row c)) (((-(lb c):Int):Rat) / ((100:Int):Rat))):=fun c hc=>by rw [<-H,<-I];exact bI c hc
 have ak:∀c,(sumQ (N+1) fun j=>more N (termQ F p.dev) 1 j*more N (lval (m.row c)) (((-(lb c):Int):Rat) / ((100:Int):Rat)) j)=resq m p F c:=fun c=>by rw [<-H,<-I];exact aG c
 have aI:∀c,(lb c).natAbs<=12800:=fun c=>by rw [<-H];exact aV c
 rw [I] at ah aA aY aX av;rw [q0,q1,q2,O,aH,bF,I];obtain⟨W3,bq,N3⟩:=nw3 w #[.int .i64 kind,.int .i64 inn,.slice (a 0) N (d 0),.slice (a 1) N (d 1),.slice (a 2) N (d 2)] 38 #[.string nm,.slice da n dc,.int .i64 (lb 0),.int .i64 (lb 1),.int .i64 (lb 2)] 55 #[.string ⟨#[]⟩,.string ⟨#[]⟩,.string ⟨#[]⟩,.string ⟨#[]⟩,.string ⟨#[]⟩,.string ⟨#[]⟩] 65;have K3:=N3.also (q:=fun W=>HasT W/\(FCells W (a 0) (b' 0) (o 0) (m.row 0)/\FCells W (a 1) (b' 1) (o 1) (m.row 1)/\FCells W (a 2) (b' 2) (o 2) (m.row 2))) ⟨hT.below N3.o.1,(hF 0 (by decide)).below N3.o.1,(hF 1 (by decide)).below N3.o.1,(hF 2 (by decide)).below N3.o.1⟩;have bf:=qH (qeF kind F (by rw [<-O];exact G.kind) da db bn n dc p.dev W3 hn G.inn.2.1 G.inn.2.2 (fun e=>by have:=h3 e;omega) (hN.below N3.o.1) hp.vals (hT.below N3.o.1));have bK:(termL F p.dev).map ftxt=told N (termQ F p.dev):=by rw [<-I,<-hn];exact (qeQ F p.dev).symm
 have bJ:((termL F p.dev).map ftxt).length=N:=by rw [qat,qd8,hn,I]
 have Y:=qH (qA aA (qA aY (qA aX (qA aK (qA ak (qA aI (qA av (qA ah (qA bK bJ)))))))));have c0:=qC _ _ 0 _ _ _ N3.o.2.1;have c1:=qC _ _ 1 _ _ _ N3.o.2.2.1;have bW:(N:Int)<=9:=by have:=ah.2;omega
 have bU:N<=9:=ah.2;clear N3 G hp hn hF hN hT aB ah h3 aA aY aX aV bI aG av bE H q0 q1 q2 O aH bF I aK ak aI bK bJ;go_enter func74,ntmps74;go_upto_region 1 with fail;rw [<-bq];clear bq;go_wp2_with fail;refine bf.o.mono ?_;rintro e w4 ⟨v,rfl,hv,aR⟩;have K4:=(K3.below aR).also (q:=fun W=>Rws W W3.heap.size 44 2 v N (fflat (told N (termQ F p.dev)))/\Below W3.heap.size W3 W) ⟨by unfold FOwn at hv;rw [Y.o.2.2.2.2.2.2.2.2.2,Y.o.2.2.2.2.2.2.2.2.1] at hv;exact hv,aR⟩;obtain⟨va,vc,rfl⟩:=K4.o.2.1.shape;clear hv aR bf c0 c1;go_wp2_with fail;obtain⟨o1,o2,ho⟩:=qb6 1;have J:=of_int 1 1 (by decide) (by decide) (by decide) w4 K4.o.1.2.1;rw [show ((1:Int):Rat) / ((1:Int):Rat)=1 by decide +kernel,ho] at J;have Ho:=qH ho;clear ho;refine J.mono ?_;rintro e w5 ⟨rfl,bA⟩;have K5:=K4.below bA;clear bA K4 J;go_wp2_with fail;refine (qct o1 o2 w5).mono ?_;rintro e w6 ⟨rfl,bB⟩;have K6:=K5.below bB;clear bB K5;have V:=qH (qA K6.o.2.1 K6.o.2.2)
 go_wp2_with (first | (at_builtin;refine qer rfl _ _ rfl V.o.2 rfl V.o.1 rfl rfl rfl (by omega) ?_;intro v' w' bG bz) | fail)
 have K7:=K3.below bz.o;obtain⟨ta,tg,tc,rfl,aO,_⟩:=qdj bG.o (by rw [qaf,qbW];rfl);rw [<-Ho.o,<-qjg] at aO;have bN:=qH aO;obtain⟨W8,bu,N8⟩:=nw1 w' #[.string ⟨#[]⟩,.string ⟨#[]⟩,.string ⟨#[]⟩,.string ⟨#[]⟩,.string ⟨#[]⟩,.string ⟨#[]⟩] 65;have bv:ARow W8 w'.heap.size []:=⟨N8.o.2,by decide⟩;have H0:=qH (qA bv N8.o.1);clear bv N8 aO bG bz K6 V K3;go_wp2_with fail;rw [<-bu];clear bu;obtain⟨M,G⟩:=qY w'.heap.size;rw [<-G] at H0 ⊢;have aM:=qH G;clear G
 go_loopw [20] (fun x20 W=>∃j:Nat,x20=.int .i64 j/\j<=3/\Hu (∃l:List FT,l.length=j/\(∀q,q<j->Short (resq m p F q)/\l.getD q fd0=ftxt (resq m p F q))/\ARow W M l/\Below w'.heap.size w' W)) (fun x20 _=>3-(intOf x20).toNat)
 case atStart=>exact⟨0,rfl,qam _,qH ⟨[],rfl,fun q hq=>absurd hq (qbM _),H0.o.1,aM.o▸H0.o.2⟩⟩
 case round =>
  obtain⟨j,rfl,hj,hI⟩:=hrel;obtain⟨l,aC,ae,hA,hB⟩:=hI.o
  by_cases aa:j<3
  ·have bV:(j:Int)<3:=by omega
   have K9:=K7.below hB;have d0:wr.cell? ⟨w.heap.size,2+j,none⟩=some (.slice (a j) N (d j)):=by
    rcases (show j=0\/j=1\/j=2 by omega) with rfl | rfl | rfl
    ·exact qC _ _ 2 _ _ _ K9.o.1.2.1
    ·exact qC _ _ 3 _ _ _ K9.o.1.2.1
    ·exact qC _ _ 4 _ _ _ K9.o.1.2.1
   have az:FCells wr (a j) (b' j) (o j) (m.row j):=by
    rcases (show j=0\/j=1\/j=2 by omega) with rfl | rfl | rfl
    ·exact K9.o.2.2.1
    ·exact K9.o.2.2.2.1
    ·exact K9.o.2.2.2.2
   rw [Y.o.2.2.2.2.2.2.1 j aa] at az;obtain⟨aj,aQ⟩:∃z,a j=z:=⟨_,rfl⟩;obtain⟨dj,bC⟩:∃z,d j=z:=⟨_,rfl⟩;rw [aQ,bC] at d0;rw [aQ] at az;obtain⟨lj,aW⟩:∃z,lb j=z:=⟨_,rfl⟩;have bS:-12800<=lj:=by have:=Y.o.2.2.2.2.2.1 j;omega
   have bT:lj<=12800:=by have:=Y.o.2.2.2.2.2.1 j;omega
   have aD:Below wr.heap.size wr (wr.alloc (.cells #[] 44)):=qB.alloc qN _;replace d0:=(aD.cell (qac wr _ d0)).trans d0;have au:Rws (wr.alloc (.cells #[] 44)) wr.heap.size 44 2 (.slice (some ⟨wr.heap.size,0,none⟩) 0 0) 0 (fflat []) :=
    ⟨rfl,qag ⟨wr.heap.size,0,#[],rfl,qae _,qM _ _ _ rfl,qae _,qam _,rfl,rfl,fun x hx=>by simp at hx⟩⟩
   have bH:=qfv 35 au (c:=dj) (m:=N) (by simp only [qab];omega) (az.below aD) (qbW _ _) (by have:=Y.o.2.2.2.2.2.2.2.1.1;omega) (by omega);rw [qaH,qbh] at bH;obtain⟨v7,w7,hr,ay,bD⟩:=bH;have aS:Below wr.heap.size wr w7:=qdB aD (fun k hk=>by have:wr.heap.size=k:=qah hk;omega) (by simp only [qab];omega) bD;obtain⟨a7,c7,rfl⟩:=ay.shape;have Z:=(K9.below aS).also (q:=fun W=>Rws W wr.heap.size 44 2 (.slice a7 N c7) N (fflat (told N (lval (m.row j))))) ay;have l0:w7.cell? ⟨w.heap.size+1,2+j,none⟩=some (.int .i64 lj):=by
    rw [<-aW];rcases (show j=0\/j=1\/j=2 by omega) with rfl | rfl | rfl
    ·exact qC _ _ 2 _ _ _ Z.o.1.1.2.2.1
    ·exact qC _ _ 3 _ _ _ Z.o.1.1.2.2.1
    ·exact qC _ _ 4 _ _ _ Z.o.1.1.2.2.1
   have U:=qH (qA aC (qA ae (qA hA (qA hB aS))));have HL:=qH aW;clear hI aC ae hA hB K9 az aQ bC aW au ay bD aD aS
   go_wp2_with ((with_reducible refine qdn rfl (.tmp 23) (.tmp 27) 35 rfl ?_ ?_ hr ?_);(next=>rfl);(next=>rfl))
   clear hr d0;go_wp2_with fail;obtain⟨y1,y2,hy⟩:=qb6 (((-lj:Int):Rat) / ((100:Int):Rat));have J:=of_int (-lj) 100 (by decide) (by omega) (by decide) w7 Z.o.1.2.1;rw [hy] at J;have Hy:=qH hy;clear hy;refine J.mono ?_;rintro e w8 ⟨rfl,aT⟩;have bg:=Z.below aT;have aL:=qH (U.o.2.2.2.2.trans (aT.mono U.o.2.2.2.2.size));clear aT Z J l0;go_wp2_with fail;refine (qct y1 y2 w8).mono ?_;rintro e w9 ⟨rfl,aU⟩;have bi:=bg.below aU;have bM:=qH (aL.o.trans (aU.mono aL.o.size));clear aU bg aL;have V:=qH bi.o.2
   go_wp2_with (first | (at_builtin;refine qer rfl _ _ rfl bM.o rfl V.o rfl rfl rfl (by omega) ?_;intro bX bP aJ ai) | fail)
   obtain⟨xa,xg,xc,rfl,aP,_⟩:=qdj aJ.o (by rw [qaf,qbW];rfl);rw [<-Hy.o,<-qjg,<-HL.o] at aP;have ag:=qH (U.o.2.2.2.1.trans (ai.o.mono U.o.2.2.2.1.size));have bO:=K7.below ag.o;have HC:=qH (qix (N+1) tg tc xg 0 xc ta xa (more N (termQ F p.dev) 1) (more N (lval (m.row j)) (((-(lb j):Int):Rat) / ((100:Int):Rat))) bP (by omega) (by omega) Y.o.2.1 Y.o.2.2.1 (Y.o.2.2.2.1 j aa) Y.o.1.2.1 Y.o.1.1 Y.o.1.2.2 (bN.o.below ag.o) aP bO.o.2.1);rw [Y.o.2.2.2.2.1 j] at HC;have bL:=qH (U.o.2.2.1.below (ai.o));have aZ:=qH (K7.o.1.1.trans (ag.o.mono K7.o.1.1.size));clear aP aJ ai bi V;go_wp2_with fail;refine HC.o.mono ?_;rintro e bY ⟨aF,h⟩;have af:=qH aF;clear aF HC;rcases h with ⟨hs,rfl⟩ | ⟨hs,rfl⟩
   ·obtain⟨z1,z2,hz⟩:=qb6 (resq m p F j);rw [hz];have aN:=bL.o.below af.o;obtain⟨⟨bQ,bR⟩,zf⟩:=aN.at (by rw [U.o.1];exact aa);have ax:=aN.set (by rw [U.o.1];exact aa) (z1,z2);rw [U.o.1] at bQ bR ax;have bZ:=zf (j*2);have cu:=zf (j*2+1);have HN:=qH (qA ax (qA (((ag.o.trans (af.o.mono ag.o.size)).setCell (p:=⟨M,j*2,none⟩) (by rw [aM.o];exact qae _) (.string z1)).setCell (p:=⟨M,j*2+1,none⟩) (by rw [aM.o];exact qae _) (.string z2)) (qA hs hz)));clear aN zf ax hs hz;go_wp2;go_roundw
    case rel =>
     refine⟨j+1,by go_num,aa,qH ⟨l++[(z1,z2)],by simp [U.o.1],fun q hq=>?_,HN.o.1,HN.o.2.1⟩⟩;rcases qaM q j with h | h
     ·rw [qaa,qar (by rw [U.o.1];exact h),<-qaa];exact U.o.2.1 q h
     ·obtain rfl:q=j:=by omega
      rw [qaa,qao (by rw [U.o.1];exact qae _),U.o.1,qaJ];exact⟨HN.o.2.2.1,HN.o.2.2.2.symm⟩
    case measure=>simp [intOf];omega
   ·have HS:=qH hs;clear hs;unfold thrown;go_wp2_with fail;exact⟨rfl,aZ.o.trans (af.o.mono aZ.o.size),qag ⟨rfl,fun h=>HS.o (h j aa)⟩⟩
  ·obtain rfl:j=3:=by omega
   obtain⟨p0,p1,p2,rfl⟩:∃p0 p1 p2,l=[p0,p1,p2]:=by
    rcases l with _ | ⟨s0,_ | ⟨s1,_ | ⟨s2,_ | ⟨s3,vs⟩⟩⟩⟩ <;> simp at aC
    exact⟨s0,s1,s2,rfl⟩
   have v0:=ae 0 (by decide);have v1:=ae 1 (by decide);have v2:=ae 2 (by decide);obtain⟨x0,x1⟩:=p0;obtain⟨x2,x3⟩:=p1;obtain⟨x4,x5⟩:=p2;have G:wr.heap[M]? = some (.cells #[.string x0,.string x1,.string x2,.string x3,.string x4,.string x5] 65 (0,0)):=hA.1;have y0:=qC _ _ 0 _ _ _ G;have y1:=qC _ _ 1 _ _ _ G;have y2:=qC _ _ 2 _ _ _ G;have y3:=qC _ _ 3 _ _ _ G;have y4:=qC _ _ 4 _ _ _ G;have y5:=qC _ _ 5 _ _ _ G;have K9:=K7.below hB;have HV:=qH (qA v0 (qA v1 v2));have Hr:=qH K9.o.1.2.2.2;have HE:=qH (qA (qT _ _ _ #[.string x0,.string x1,.string x2,.string x3,.string x4,.string x5] _ _ Hr.o) (qS K9.o.1.1 (show w.heap.size<=w.heap.size+1+1 by omega) #[.string x0,.string x1,.string x2,.string x3,.string x4,.string x5]));clear hI aC ae hA hB v0 v1 v2 G K9
   go_wp2_with ((with_reducible refine sR_ rfl 65 _ _ rfl ((w.heap.size+1+1)) #[.string x0,.string x1,.string x2,.string x3,.string x4,.string x5] Hr.o 6 ?_))
   refine qR (v:=.agg #[.string x0,.string x1,.string x2,.string x3,.string x4,.string x5]) (rA_ rfl ((w.heap.size+1+1)) HE.o.1 underlying65 6) rfl ?_;obtain⟨⟨g0,e0⟩,⟨g1,e1⟩,g2,e2⟩:=HV.o;have e0:(x0,x1)=_:=e0;have e1:(x2,x3)=_:=e1;have e2:(x4,x5)=_:=e2;refine⟨HE.o.2,qal ⟨x0,x1,x2,x3,x4,x5,rfl,fun q hq=>?_,e0,e1,e2⟩⟩;rcases (show q=0\/q=1\/q=2 by omega) with rfl | rfl | rfl
   ·exact g0
   ·exact g1
   ·exact g2
theorem qmT (i kk R pb mb b off c:Nat) (ao:Option Addr) (l:List Pt) (m:Md) (ty:TypeId) (w:World) (hR:l.length=R) (hi:i<R) (Y:PtsOk l) (hM:MdOk m kk (chans l)) (Z:w.heap[pb]? = some (.cells #[.slice ao R c] ty (0,0))) (ah:MBox w mb m (many kk (chans l))) (hP:PCells w ao b off l) (hT:HasT w) :
  Calls prog 73 #[.int .i64 (i:Int),.pointer (some ⟨mb,0,none⟩),.pointer (some ⟨pb,0,none⟩)] w fun e w'=>ResAs w m (l.getD i pt0) kk e w':=by
 have ag:=hP.addr (by omega);subst ag;have aj:(i:Int)<R:=by omega
 have ai:R<=40:=by have:=Y.r2;omega
 obtain⟨hp,G⟩:=Y.rows i (by omega);obtain⟨a,b',o,d,H,hF⟩:=ah;obtain⟨e0,⟨ra,rb,ro,rc,e1,hN⟩,e2,e3,e4⟩:=hP.cell i (by omega);rw [G] at e1;obtain⟨p,af⟩:=qX (l.getD i pt0);rw [af] at hp G e0 e2 e3 e4 hN ⊢;obtain⟨N,J⟩:=qX (many kk (chans l));obtain⟨n,hn⟩:=qX (chans l);rw [hn] at hM G e1 J H;rw [J] at H;obtain⟨W1,ae,N1⟩:=nw1 w #[.string ⟨#[]⟩,.string ⟨#[]⟩,.string ⟨#[]⟩,.string ⟨#[]⟩,.string ⟨#[]⟩,.string ⟨#[]⟩] 65;have V:=N1.o.1;have aa:=qH (qi6 m kk n p a b' o d ra rb ro rc W1.drew hM hp G (fun q hq=>((hF q hq).below V).below qB.drew) ((hN.below V).below qB.drew) ((hT.below V).below qB.drew));rw [J] at aa;have U:=N1.also (q:=fun W=>W.heap[mb]? = some (.cells #[.int .i64 m.kind,.int .i64 m.inn,.slice (a 0) N (d 0),.slice (a 1) N (d 1),.slice (a 2) N (d 2)] 38 (0,0))/\W.heap[pb]? = some (.cells #[.slice (some ⟨b,off,none⟩) R c] ty (0,0))) ⟨zkeep V _ _ H,zkeep V _ _ Z⟩;have lm:=(qG H).1;have lp:=(qG Z).1;have m0:=rowG (g0:=w.heap.size) U.o.2.1 0;have m1:=rowG (g0:=w.heap.size) U.o.2.1 1;have m2:=rowG (g0:=w.heap.size) U.o.2.1 2;have m3:=rowG (g0:=w.heap.size) U.o.2.1 3;have m4:=rowG (g0:=w.heap.size) U.o.2.1 4;have p0:=rowG (g0:=w.heap.size) U.o.2.2 0;have F:∀{x:Addr} {v:Value},w.cell? x=some v->∀W,W1.grownBy W (some w.heap.size)->W.cell? x=some v:=fun {x v} hx W h=>by
  have hl:=qac w _ hx;exact h.cell ((V.cell hl).trans hx) (fun e=>absurd (qah e) (by omega))
 have g0:=F e0;have g1:=F e1;have g2:=F e2;have g3:=F e3;have g4:=F e4;clear hN H Z hP hT hF hM hp G Y e0 e1 e2 e3 e4 F V N1 hR af hn J;go_enter func73,ntmps73;go_upto_region 1 with fail;rw [<-ae];clear ae;refine wp_region_held_drew (S:=fun W=>W1.grownBy W (some w.heap.size)) (by kernel_rfl) (keepB qB.drew) (fun hS0=>?_);refine hT 0 (h:=hT 1 (h:=hT 2 (h:=hT 3 (h:=?_))));refine hT 4 (h:=?_);refine hCx 5 aa.o (h:=?_);rintro e w2 ⟨O,h | h⟩
 ·obtain⟨x0,x1,y0,y1,z0,z1,rfl,hs⟩:=h;have HB:=qH (qb2 O);have HS:=qH hs;have K2:=U.below HB.o;clear O hs;refine qal ⟨_,rfl,keepB HB.o,hN (h:=?_)⟩;have I:=K2.o.1.2;have HE:=qH (qA (qT _ _ _ #[.string x0,.string x1,.string y0,.string y1,.string z0,.string z1] _ _ I) (qS K2.o.1.1 (qae w.heap.size) #[.string x0,.string x1,.string y0,.string y1,.string z0,.string z1]));refine hSt 6 6 I (h:=⟨qbX (keepB HB.o) (qci _ _ _),?_⟩);clear I;go_wp2_with fail;exact qR (v:=.agg #[.string x0,.string x1,.string y0,.string y1,.string z0,.string z1]) (rA_ rfl (w.heap.size) HE.o.1 underlying65 6) rfl ⟨HE.o.2,qal ⟨x0,x1,y0,y1,z0,z1,rfl,HS.o⟩⟩
 ·obtain⟨rfl,hs⟩:=h;have HB:=qH (qb2 O);have HS:=qH hs;have K2:=U.below HB.o;clear O hs;refine qag ⟨_,rfl,?_⟩;go_wp2_with fail;exact⟨rfl,K2.o.1.1,qag ⟨rfl,HS.o⟩⟩
def resA (m:Md) (l:List Pt) (F j:Nat):Rat:=resq m (l.getD (j / 3) pt0) F (j % 3)
def RsG (m:Md) (l:List Pt) (W:World) (v:Value):Prop:=PtsOk l/\∃F,MdOk m F (chans l)/\qbY (l.length*3) (resA m l F)/\∃g,v=.slice (some ⟨g,0,none⟩) l.length l.length/\FCells W (some ⟨g,0,none⟩) g 0 (told (l.length*3) (resA m l F))
def RsF (m:Md) (l:List Pt) (e:Int):Prop :=
 (¬qc4 m/\e=320)\/(qc4 m/\¬PtsOk l/\e=310)\/(qc4 m/\PtsOk l/\m.inn≠(chans l:Nat)/\e=5) \/
 (PtsOk l/\e=6/\∃F,MdOk m F (chans l)/\¬qbY (l.length*3) (resA m l F))
theorem qgP (m:Md) (l:List Pt) (F i c:Nat) (G:c<3):resA m l F (i*3+c)=resq m (l.getD i pt0) F c:=by
 unfold resA;rw [show (i*3+c) / 3=i by omega,show (i*3+c) % 3=c by omega]
theorem qmU {m:Md} {l:List Pt} {F R:Nat} {q:List FT} (J:q.length=R*3) (h:∀i,i<R->q.getD (i*3) fd0=ftxt (resq m (l.getD i pt0) F 0)/\q.getD (i*3+1) fd0=ftxt (resq m (l.getD i pt0) F 1)/\q.getD (i*3+2) fd0=ftxt (resq m (l.getD i pt0) F 2)):q=told (R*3) (resA m l F):=by
 refine qg5 J fun j O=>?_
 obtain⟨G,H,I⟩:=h (j / 3) (by omega);rcases (show j=j / 3*3\/j=j / 3*3+1\/j=j / 3*3+2 by omega) with e | e | e
 ·have:=qgP m l F (j / 3) 0 (by decide);rw [qbp,<-e] at this;rw [this,<-G,<-e]
 ·have:=qgP m l F (j / 3) 1 (by decide);rw [<-e] at this;rw [this,<-H,<-e]
 ·have:=qgP m l F (j / 3) 2 (by decide);rw [<-e] at this;rw [this,<-I,<-e]
theorem res1_any (m:Md) (R pb mb b off c:Nat) (ao:Option Addr) (l:List Pt) (a:Nat->Option Addr) (b' o d:Nat->Nat) (ty:TypeId) (w:World) (hR:l.length=R) (hl:R<=4611686018427387904) (hs:∀k,k<R->(l.getD k pt0).name.size<=4611686018427387904/\(l.getD k pt0).dev.length<=4611686018427387904) (au:∀q,q<3->(m.row q).length<=4611686018427387904)
  (ae:w.heap[pb]? = some (.cells #[.slice ao R c] ty (0,0))) (G:w.heap[mb]? = some (.cells #[.int .i64 m.kind,.int .i64 m.inn,.slice (a 0) (m.row 0).length (d 0),.slice (a 1) (m.row 1).length (d 1),.slice (a 2) (m.row 2).length (d 2)] 38 (0,0))) (hF:∀q,q<3->FCells w (a q) (b' q) (o q) (m.row q))
  (hP:PCells w ao b off l) (hT:HasT w) :
  Calls prog 70 #[.pointer (some ⟨mb,0,none⟩),.pointer (some ⟨pb,0,none⟩)] w fun e w'=>Below w.heap.size w w' /\
   ((∃(p:Option Addr) (n c:Nat),e=.returned (.slice p n c)/\RsG m l w' (.slice p n c))\/∃c,e=thrown c/\RsF m l c):=by
 have hM:MdAt w (.agg #[.int .i64 m.kind,.int .i64 m.inn,.slice (a 0) (m.row 0).length (d 0),.slice (a 1) (m.row 1).length (d 1),.slice (a 2) (m.row 2).length (d 2)]) m :=
  ⟨_,_,_,_,_,_,_,_,_,_,_,_,rfl,hF 0 (by decide),hF 1 (by decide),hF 2 (by decide)⟩
 have aa:=qiK m _ R b off c ao l w hM au hR hl hs hP;obtain⟨kind,I⟩:∃z,m.kind=z:=⟨_,rfl⟩;obtain⟨inn,Y⟩:∃z,m.inn=z:=⟨_,rfl⟩;obtain⟨L,hL⟩:∃L:Nat->Nat,∀q,(m.row q).length=L q:=⟨_,fun _=>rfl⟩;rw [I,Y,hL,hL,hL] at G aa;have ag:=qH aa;have c0:=qC _ _ 0 _ _ _ G;have c1:=qC _ _ 1 _ _ _ G;have c2:=qC _ _ 2 _ _ _ G;have c3:=qC _ _ 3 _ _ _ G;have c4:=qC _ _ 4 _ _ _ G;have p0:=qC _ _ 0 _ _ _ ae;have K0:Kn (fun W=>Below w.heap.size w W/\W.heap[mb]? = some (.cells #[.int .i64 kind,.int .i64 inn,.slice (a 0) (L 0) (d 0),.slice (a 1) (L 1) (d 1),.slice (a 2) (L 2) (d 2)] 38 (0,0))/\W.heap[pb]? = some (.cells #[.slice ao R c] ty (0,0))/\PCells W ao b off l/\HasT W) w:=.of ⟨Below.refl _ _,G,ae,hP,hT⟩;have Z:=qH (qA hR (qA I (qA Y (qA hL hF))));have az:=@hmf_ prog;clear hM aa ae G hF hP hT hR hl hs au I Y hL;go_enter func70,ntmps70;go_wp2_with fail;refine ag.o.mono ?_;rintro e w2 ⟨ai,h⟩;have U:=K0.below ai;clear ai ag c0 c1 c2 c3 c4 p0;rcases h with ⟨F,rfl⟩ | ⟨F,O,rfl⟩ | ⟨F,O,V,rfl⟩ | ⟨F,O,V,rfl⟩
 ·have H:=qH F;clear F;unfold thrown;go_wp2_with fail;exact⟨rfl,U.o.1,qag ⟨320,rfl,qal ⟨H.o,rfl⟩⟩⟩
 ·have H:=qH (qA F O);clear F O;unfold thrown;go_wp2_with fail;exact⟨rfl,U.o.1,qag ⟨310,rfl,qag (qal ⟨H.o.1,H.o.2,rfl⟩)⟩⟩
 ·have H:=qH (qA F (qA O V));clear F O V;unfold thrown;go_wp2_with fail;exact⟨rfl,U.o.1,qag ⟨5,rfl,qag (qag (qal ⟨H.o.1,H.o.2.1,H.o.2.2,rfl⟩))⟩⟩
 obtain⟨J,ah⟩:∃J,MdOk m J (chans l):=by
  obtain⟨J,n,h⟩:=F;have:=h.inn.1;obtain rfl:n=chans l:=by omega
  exact⟨J,h⟩
 have H:=qH (qA O ah);clear F O V ah;have ak:MBox w2 mb m (many J (chans l)):=by
  have F:=U.o.2.1;have av:=(H.o.2.rows 0 (by decide)).1;have ax:=(H.o.2.rows 1 (by decide)).1;have ay:=(H.o.2.rows 2 (by decide)).1;rw [<-Z.o.2.1,<-Z.o.2.2.1,<-Z.o.2.2.2.1,<-Z.o.2.2.2.1,<-Z.o.2.2.2.1,av,ax,ay] at F;exact⟨a,b',o,d,F,fun q hq=>(Z.o.2.2.2.2 q hq).below U.o.1⟩
 have hg:GivesA 73 #[.pointer (some ⟨mb,0,none⟩),.pointer (some ⟨pb,0,none⟩)] w2 R (fun i x y z=>(∀c,c<3->Short (resq m (l.getD i pt0) J c))/\x=ftxt (resq m (l.getD i pt0) J 0)/\y=ftxt (resq m (l.getD i pt0) J 1)/\z=ftxt (resq m (l.getD i pt0) J 2)) (fun i c=>(¬∀c,c<3->Short (resq m (l.getD i pt0) J c))/\c=6):=by
  intro i hi W hb;refine (qmT i J R pb mb b off c ao l m ty W Z.o.1 hi H.o.1 H.o.2 (zkeep hb _ _ U.o.2.2.1) (ak.below hb) (U.o.2.2.2.1.below hb) (U.o.2.2.2.2.below hb)).mono ?_;rintro e w' ⟨F,O⟩;refine⟨F,?_⟩;rcases O with ⟨x0,x1,y0,y1,z0,z1,rfl,V,h4,h5,h6⟩ | ⟨rfl,V⟩
  ·exact qal ⟨x0,x1,y0,y1,z0,z1,rfl,V,h4,h5,h6⟩
  ·exact qag ⟨6,rfl,V,rfl⟩
 have HG:=qH (qjB 73 #[.pointer (some ⟨mb,0,none⟩),.pointer (some ⟨pb,0,none⟩)] R (by have:=H.o.1.r2;have:=Z.o.1;omega) _ _ w2 (fun a W=>enters func73 (by kernel_rfl) (by kernel_rfl) _ W) hg);have p5:=qC _ _ 0 _ _ _ U.o.2.2.1;clear ak hg;go_wp2_with fail;refine HG.o.mono ?_;rintro e w6 ⟨aj,h⟩;have af:=qH (U.o.1.trans (aj.mono U.o.1.size));clear aj;rcases h with ⟨lq,g,F,O,rfl,h4,_⟩ | ⟨i,cc,hi,rfl,V,rfl⟩
 ·have HE:=qH (qA F (qA O h4));clear F O h4 HG;go_wp2;go_ret;have hr:=Z.o.1;refine⟨af.o,qal ⟨_,_,_,rfl,H.o.1,J,H.o.2,fun j hj=>?_,g,by rw [hr],?_⟩⟩
  ·exact (HE.o.2.1 (j / 3) (by omega)).1 (j % 3) (qbA _ (by decide))
  ·rw [hr,<-qmU HE.o.1 fun i hi=>(HE.o.2.1 i hi).2];exact HE.o.2.2
 ·have HE:=qH (qA hi V);clear hi V HG;unfold thrown;go_wp2_with fail;refine⟨rfl,af.o,qag ⟨6,rfl,qag (qag (qag ⟨H.o.1,rfl,J,H.o.2,fun h=>HE.o.2 fun c hc=>?_⟩))⟩⟩;have:=h (i*3+c) (by have:=Z.o.1;have:=HE.o.1;omega)
  rwa [qgP m l J i c hc] at this
theorem RsG.kept {m:Md} {l:List Pt} {W W':World} {v:Value} (O:∀a s,W.cell? a=some (.string s)->W'.cell? a=some (.string s)) (h:RsG m l W v):RsG m l W' v:=by
 obtain⟨F,kk,G,H,g,I,J⟩:=h;exact⟨F,kk,G,H,g,I,J.kept O⟩
def RsAs (w:World) (m:Md) (l:List Pt) (e:Ending) (F:World):Prop :=
 Below w.heap.size w F/\((∃v,e=.returned (.tuple #[v,.int .i64 0])/\RsG m l F v)\/∃c,e=.returned (.tuple #[.slice none 0 0,.int .i64 c])/\RsF m l c)
theorem qh7 (m:Md) (v:Value) (R b off c:Nat) (U:Option Addr) (l:List Pt) (w:World) (hM:MdAt w v m) (hR:l.length=R) (hl:R<=4611686018427387904) (hs:∀k,k<R->(l.getD k pt0).name.size<=4611686018427387904/\(l.getD k pt0).dev.length<=4611686018427387904) (O:∀q,q<3->(m.row q).length<=4611686018427387904) (hP:PCells w U b off l) (hT:HasT w) :
  Calls prog 21 #[v,.slice U R c] w fun e w'=>RsAs w m l e w':=by
 obtain⟨a,b',o,d,rfl,hF⟩:=hM.parts;obtain⟨W2,H,F⟩:=nw2 w #[.int .i64 m.kind,.int .i64 m.inn,.slice (a 0) (m.row 0).length (d 0),.slice (a 1) (m.row 1).length (d 1),.slice (a 2) (m.row 2).length (d 2)] 38 #[.slice U R c] 30;have aa:=@hmf_ prog;have Z:=qH (qim 70 #[.pointer (some ⟨w.heap.size,0,none⟩),.pointer (some ⟨w.heap.size+1,0,none⟩)] (RsG m l) (RsF m l) W2 (fun W=>enters func70 (by kernel_rfl) (by kernel_rfl) _ W)
  (fun W W' v hk h=>h.kept hk)
  (fun w1 I=>res1_any m R (w.heap.size+1) w.heap.size b off c U l a b' o d _ w1 hR hl hs O (zkeep I _ _ F.o.2.2) (zkeep I _ _ F.o.2.1) (fun q hq=>(hF q hq).below (F.o.1.trans (I.mono F.o.1.size))) (hP.below (F.o.1.trans (I.mono F.o.1.size))) (hT.below (F.o.1.trans (I.mono F.o.1.size)))))
 have Y:=qH F.o.1;clear hM hR hl hs O hP hT hF F;go_enter func21,ntmps21;go_upto_region 1 with fail;rw [<-H];clear H;go_wp2_with fail;refine Z.o.mono ?_;rintro e w5 ⟨J,h⟩;have G:=qH (Y.o.trans (J.mono Y.o.size));clear J Z;rcases h with ⟨p,n,c',rfl,hg⟩ | ⟨cc,rfl,hf⟩
 ·have V:=qH hg;clear hg;go_wp2_with fail
  go_ret2
  exact⟨G.o,qal ⟨_,rfl,V.o⟩⟩
 ·have V:=qH hf;clear hf;go_wp2_with fail
  go_ret2
  exact⟨G.o,qag ⟨cc,rfl,V.o⟩⟩
open Go.Lib
theorem num_d2 {u:Nat} (F:10<=u) (G:u<100):num u=⟨#[UInt8.ofNat (48+u / 10),UInt8.ofNat (48+u % 10)]⟩:=by
 unfold num;rw [qb5 F,qbZ (by omega)];rfl
theorem qiX {u:Nat} (F:100<=u) (G:u<1000):num u=⟨#[UInt8.ofNat (48+u / 10 / 10),UInt8.ofNat (48+u / 10 % 10),UInt8.ofNat (48+u % 10)]⟩:=by
 unfold num;rw [qb5 (by omega),qb5 (by omega),qbZ (by omega)];rfl
theorem ft_of {q:Rat} (z d:Nat) (G:q.num=z) (F:q.den=d):ftxt q=(num z,num d):=by
 unfold ftxt;rw [G,F,qek (by omega),qan]
theorem ft_14:ftxt (1 / 4)=(⟨#[49]⟩,⟨#[52]⟩):=qf7 1 4 (by decide +kernel) (by decide +kernel) (by decide) (by decide)
theorem ft_103:ftxt (10 / 3)=(⟨#[49,48]⟩,⟨#[51]⟩):=by rw [ft_of 10 3 (by decide +kernel) (by decide +kernel),num_d2 (by decide) (by decide),qes (by decide)];rfl
theorem ft_100:ftxt 100=(⟨#[49,48,48]⟩,⟨#[49]⟩):=by rw [ft_of 100 1 (by decide +kernel) (by decide +kernel),qiX (by decide) (by decide),qes (by decide)];rfl
theorem ft_140:ftxt 140=(⟨#[49,52,48]⟩,⟨#[49]⟩):=by rw [ft_of 140 1 (by decide +kernel) (by decide +kernel),qiX (by decide) (by decide),qes (by decide)];rfl
theorem ft_1009:ftxt (100 / 9)=(⟨#[49,48,48]⟩,⟨#[57]⟩):=by rw [ft_of 100 9 (by decide +kernel) (by decide +kernel),qiX (by decide) (by decide),qes (by decide)];rfl
theorem ft_4009:ftxt (400 / 9)=(⟨#[52,48,48]⟩,⟨#[57]⟩):=by rw [ft_of 400 9 (by decide +kernel) (by decide +kernel),qiX (by decide) (by decide),qes (by decide)];rfl
theorem ql0:ftxt (160 / 3)=(⟨#[49,54,48]⟩,⟨#[51]⟩):=by rw [ft_of 160 3 (by decide +kernel) (by decide +kernel),qiX (by decide) (by decide),qes (by decide)];rfl
theorem ft_m40:ftxt (-40)=(⟨#[45,52,48]⟩,⟨#[49]⟩):=by
 unfold ftxt;rw [show ((-40:Rat)).num = -40 by decide +kernel,show ((-40:Rat)).den=1 by decide +kernel,qgD (by decide),show ((-40:Int)).natAbs=40 from rfl,num_d2 (by decide) (by decide),qes (by decide)]
 rfl
theorem qfj (W:World) (F:List Int):NCells (W.alloc (.cells (F.map fun z=>Value.int .i64 z).toArray 3)) (some ⟨W.heap.size,0,none⟩) W.heap.size 0 F:=by
 have:=qfk (q:=F) (qM W (.cells (F.map fun z=>Value.int .i64 z).toArray 3) _ rfl) 0
 rwa [List.drop_zero] at this
theorem alloc_old (W:World) (o:Obj):Below W.heap.size W (W.alloc o):=qbS qB qN
theorem qjf (W:World) (kind:Int) (k:Nat) (dv:List Int) (n:Nat) (hn:dv.length=n) (F:qcu kind k) (J:1<=n) (U:n<=4) (O:¬(k=3/\n=4)) (Y:qcz dv) (hT:HasT W) :
  Calls prog 25 #[.int .i64 kind,.slice (some ⟨W.heap.size,0,none⟩) n n] (W.alloc (.cells (dv.map fun z=>Value.int .i64 z).toArray 3)) fun e H=>∃(p:Option Addr) (g c:Nat),e=.returned (.tuple #[.slice p (many k n) c,.int .i64 0])/\FCells H p g 0 ((termL k dv).map ftxt)/\Below W.heap.size W H:=by
 subst hn;refine (qhF kind W.heap.size 0 dv.length dv.length (some ⟨W.heap.size,0,none⟩) dv _ rfl (by omega) (qfj W dv) (hT.below (alloc_old _ _))).mono ?_;rintro e H ⟨Z,⟨v,rfl,_,_,_,k',G,_,p,g,c,rfl,V⟩ | ⟨c,rfl,h⟩⟩
 ·obtain rfl:=F.uniq G;exact⟨p,g,c,rfl,V,qc9 Z⟩
 ·exfalso;rcases h with ⟨h,_⟩ | ⟨_,⟨h,_⟩ | ⟨_,h,I,_⟩⟩
  ·exact h ⟨⟨k,F⟩,J,U⟩
  ·exact h Y
  ·exact O ⟨F.uniq h▸rfl,I⟩
theorem qng (W:World) (kind:Int) (dv:List Int) (n:Nat) (c:Int) (Y:dv.length=n) (Z:n<=1000) (V:∀e,TmF kind dv e->e=c) (hg:¬∃k,qcu kind k/\1<=n/\n<=4/\qcz dv/\¬(k=3/\n=4)) (hT:HasT W) :
  Calls prog 25 #[.int .i64 kind,.slice (some ⟨W.heap.size,0,none⟩) n n] (W.alloc (.cells (dv.map fun z=>Value.int .i64 z).toArray 3)) fun e G=>e=.returned (.tuple #[.slice none 0 0,.int .i64 c])/\Below W.heap.size W G:=by
 subst Y;refine (qhF kind W.heap.size 0 dv.length dv.length (some ⟨W.heap.size,0,none⟩) dv _ rfl (by omega) (qfj W dv) (hT.below (alloc_old _ _))).mono ?_;rintro e G ⟨U,⟨v,rfl,H,J,O,k',F,I,_⟩ | ⟨c',rfl,h⟩⟩
 ·exact absurd ⟨k',F,H,J,O,I⟩ hg
 ·rw [V _ h];exact⟨rfl,qc9 U⟩
theorem qlW (W:World) (l:List Pt) (R b off c:Nat) (G:Option Addr) (kind:Int) (F:List Int) (n:Nat) (V:F.length=n) (Y:n<=1000) (O:l.length=R) (U:R<=1000) (I:∀k,k<R->(l.getD k pt0).name.size<=1000/\(l.getD k pt0).dev.length<=1000) (J:PCells W G b off l) (hT:HasT W) :
  Calls prog 14 #[.slice G R c,.int .i64 kind,.slice (some ⟨W.heap.size,0,none⟩) n n] (W.alloc (.cells (F.map fun z=>Value.int .i64 z).toArray 3)) fun e Z=>FitAs (W.alloc (.cells (F.map fun z=>Value.int .i64 z).toArray 3)) l kind F e Z :=
 qjA R b off c W.heap.size 0 n n G (some ⟨W.heap.size,0,none⟩) l kind F _ O (by omega) (fun k H=>⟨by have:=(I k H).1;omega,by have:=(I k H).2;omega⟩) V (by omega) (J.below (alloc_old _ _)) (qfj W F) (hT.below (alloc_old _ _))
theorem qdE:∀k,k<3->(ramp.getD k pt0).name.size<=1000/\(ramp.getD k pt0).dev.length<=1000:=fun k F=>by
 rcases (show k=0\/k=1\/k=2 by omega) with rfl | rfl | rfl <;> exact⟨(by decide:1<=1000),(by decide:1<=1000)⟩
theorem MdAt.lit {W:World} {v:Value} {k n m:Nat} {x:Nat->Nat->Rat} (h:MdAt W v (mdq k n m x)):∃(a0 F a2:Option Addr) (G J c0 H O c1 I U c2:Nat),v=.agg #[.int .i64 (k:Int),.int .i64 (n:Int),.slice a0 m c0,.slice F m c1,.slice a2 m c2]/\FCells W a0 G J (told m (x 0))/\FCells W F H O (told m (x 1))/\FCells W a2 I U (told m (x 2)):=by
 obtain⟨a0,F,a2,G,J,c0,H,O,c1,I,U,c2,rfl,V,Y,Z⟩:=h;refine⟨a0,F,a2,G,J,c0,H,O,c1,I,U,c2,?_,V,Y,Z⟩
 show Value.agg #[.int .i64 (k:Int),.int .i64 (n:Int),.slice a0 (told m (x 0)).length c0,.slice F (told m (x 1)).length c1,.slice a2 (told m (x 2)).length c2]=_
 rw [qbW,qbW,qbW]
theorem qjH {k n m:Nat} {x:Nat->Nat->Rat} (G:m<=1000):∀q,q<3->((mdq k n m x).row q).length<=4611686018427387904:=fun q F=>by rw [qez F,qbW];omega
theorem qhk:∀c,c<3->elz (mdq 1 1 2 fitX1) c 0=[33333,500000,500000].getD c 0/\elz (mdq 1 1 2 fitX1) c 1=[1000000,0,0].getD c 0:=fun c F=>by
 unfold elz;rw [qez F,qcG (by decide),qcG (by decide)];rcases (show c=0\/c=1\/c=2 by omega) with rfl | rfl | rfl <;> exact⟨by decide +kernel,by decide +kernel⟩
theorem ex_elok:ElOk (mdq 1 1 2 fitX1) 1:=fun c H k I=>by
 obtain⟨F,G⟩:=qhk c H;rcases (show k=0\/k=1 by omega) with rfl | rfl
 ·rw [F];rcases (show c=0\/c=1\/c=2 by omega) with rfl | rfl | rfl <;> exact⟨by decide,by decide⟩
 ·rw [G];rcases (show c=0\/c=1\/c=2 by omega) with rfl | rfl | rfl <;> exact⟨by decide,by decide⟩
open Go.ChangeShapes Go.WideShapes Go.ChangeAt Go.Deep
section
variable {H:Type} {enc:TypeId×Value->H} {w:World} {sp:Nat->Bool} {held:Bool} {fuel:Nat} {v:Value} {x:DataW H×List MemPlace}
theorem qm7 {a:Addr} {u:Value} (h:w.cell? (a.add 0)=some u):a=⟨a.block,a.off,none⟩:=by
 obtain⟨b,off,s⟩:=a;have:=World.cell?_spot h;have e:s=none:=by simpa [Addr.add] using this
 rw [e]
theorem open_u8 {r:DataW H×List MemPlace} (h:DataW.trod enc prog w 0 sp held fuel 5 [v]=some r):∃n:Nat,v=.int .u8 (n:Int)/\n<256:=by
 obtain⟨z,e,_,F⟩:=DataW.trod_int underlying5 h;have this:0<=z/\z<=255:=by simpa [Lit.wf,IntKind.min,IntKind.max,IntKind.signed,IntKind.bits] using F
 refine⟨z.toNat,?_,by omega⟩;rw [Int.toNat_of_nonneg this.1];injection e
end
end Go.Proofs.YtplkdeknjghobaaGreatDoor
namespace Go.Proofs.YtplkdeknjghobaaGreatDoor
open Go.RowKit
theorem fct_mono {n m:Nat} (h:n<=m):fct n<=fct m:=by
 induction h with
 | refl=>exact qae _
 | step _ ih =>
  refine qaj ih ?_
  show _<=(_+1)*fct _
  exact Nat.le_mul_of_pos_left _ (Nat.succ_pos _)
def fitS:Nat:=26214400
def fitB:Nat:=362387865600
def QB:Nat:=fct 10*fitB ^ 10
def PB:Nat:=fct 11*fitB ^ 11
theorem qhi {n m:Nat} (h:n<=m):fct n*fitB ^ n<=fct m*fitB ^ m:=Nat.mul_le_mul (fct_mono h) (qaX (by decide) h)
def qd9 (l:List Pt):Prop:=l.length<=12/\∀i,i<l.length->∀j,∃m:Nat,m<=8/\(l.getD i pt0).dev.getD j 0=1250*m
def W9 (F:List Int) (n:Nat):Prop:=∀i,i<n->0<=F.getD i 0/\F.getD i 0<=9
theorem W9.cd {F:List Int} {n i:Nat} (h:W9 F n) (G:i<n):Cd (wq F i) 1 9:=by
 obtain⟨H,I⟩:=h i G;exact (Cd.int (F.getD i 0)).mono (by omega)
theorem PtsOk.lab_cd {l:List Pt} (h:PtsOk l) (c:Nat) {i:Nat} (H:i<l.length):Cd (labq l c i) 100 12800:=by
 have F:=(h.rows i H).1;have:=F.l0;have:=F.l1;have:=F.l2;have G:((l.getD i pt0).lab c).natAbs<=12800:=by unfold Pt.lab;(repeat' split) <;> omega
 exact (Cd.frac ((l.getD i pt0).lab c) 100).mono G
theorem PtsOk.term_cd {l:List Pt} (h:PtsOk l) (G:qd9 l) {k:Nat} (I:1<=k/\k<=3) (H:¬(k=3/\chans l=4)) {i:Nat} (F:i<l.length) (j:Nat):Cd (tqf l k i j) 512 512:=by
 have:=(h.rows i F).2;have:=h.n4;exact termQ_cd (E:=8) (by decide) (dq_cd8 (G.2 i F)) (by omega) j
def fitE (l:List Pt) (k:Nat) (F:List Int) (r c:Nat):Rat:=if c<many k (chans l) then nq l k F 0 r c else nq l k F (c-many k (chans l)) r (many k (chans l))
theorem fitE_cd {l:List Pt} (h:PtsOk l) (H:qd9 l) {k:Nat} (U:1<=k/\k<=3) (J:¬(k=3/\chans l=4)) {I:List Int} (Y:W9 I l.length) {r c:Nat} (V:r<many k (chans l)):Cd (fitE l k I r c) fitS fitB:=by
 unfold fitE;have G:=H.1
 by_cases O:c<many k (chans l)
 ·rw [if_pos O];unfold nq normR;have:=Cd.sum (n:=l.length) (f:=fun i=>wq I i*(gR (many k (chans l)) (tqf l k) (labq l 0) i r*gR (many k (chans l)) (tqf l k) (labq l 0) i c)) (D:=1*(512*512)) (N:=9*(512*512)) fun i F=>by
   unfold gR;rw [if_pos V,if_pos O];exact (Y.cd F).mul ((h.term_cd H U J F r).mul (h.term_cd H U J F c) (by decide) (by decide)) (by decide) (by decide)
  have:=(this.up 100 (by omega) (by omega)).mono (M:=fitB) (by
   have:l.length*(9*(512*512))<=12*(9*(512*512)):=qa5 _ G;unfold fitB;omega)
  exact this
 ·rw [if_neg O];unfold nq normR;have:=Cd.sum (n:=l.length) (f:=fun i=>wq I i*(gR (many k (chans l)) (tqf l k) (labq l (c-many k (chans l))) i r*gR (many k (chans l)) (tqf l k) (labq l (c-many k (chans l))) i (many k (chans l)))) (D:=1*(512*100)) (N:=9*(512*12800)) fun i F=>by
   unfold gR;rw [if_pos V,if_neg (qbz _)];exact (Y.cd F).mul ((h.term_cd H U J F r).mul (h.lab_cd _ F) (by decide) (by decide)) (by decide) (by decide)
  have:=(this.up 512 (by omega) (by omega)).mono (M:=fitB) (by
   have:l.length*(9*(512*12800))<=12*(9*(512*12800)):=qa5 _ G;unfold fitB;omega)
  exact this
theorem nq_same {l:List Pt} {k:Nat} {H:List Int} {c c' r j:Nat} (G:r<many k (chans l)) (F:j<many k (chans l)):nq l k H c r j=nq l k H c' r j:=by
 unfold nq normR;refine qbV fun i _=>?_
 unfold gR;rw [if_pos G,if_pos F,if_pos G,if_pos F]
open Go.Proofs.Tryz
def patD (z:Int):Int:=((z.natAbs % 9*1250:Nat):Int)
def nmL:List ByteArray:=[⟨#[112,48]⟩,⟨#[112,49]⟩,⟨#[112,50]⟩,⟨#[112,51]⟩,⟨#[112,52]⟩,⟨#[112,53]⟩,⟨#[112,54]⟩,⟨#[112,55]⟩,⟨#[112,56]⟩,⟨#[112,57]⟩,⟨#[112,49,48]⟩,⟨#[112,49,49]⟩]
def nmD (i:Nat):ByteArray:=nmL.getD i ⟨#[112]⟩
theorem nm_eq (i:Nat) (F:i<12):⟨#[112]⟩++num i=nmD i:=by
 rcases (show i=0\/i=1\/i=2\/i=3\/i=4\/i=5\/i=6\/i=7\/i=8\/i=9\/i=10\/i=11 by omega) with rfl | rfl | rfl | rfl | rfl | rfl | rfl | rfl | rfl | rfl | rfl | rfl
 all_goals first
  | (unfold num;rw [qbZ (by decide)];rfl)
  | (unfold num;rw [qb5 (by decide),qbZ (by decide)];rfl)
theorem nm_name:∀i,i<12->qhf (nmD i):=fun i F=>by
 rcases (show i=0\/i=1\/i=2\/i=3\/i=4\/i=5\/i=6\/i=7\/i=8\/i=9\/i=10\/i=11 by omega) with rfl | rfl | rfl | rfl | rfl | rfl | rfl | rfl | rfl | rfl | rfl | rfl
 all_goals exact⟨by decide,by decide,by decide⟩
theorem nm_apart:∀i k,k<i->i<12->nmD k≠nmD i:=by
 have h:∀i,i<12->∀k,k<i->nmD k≠nmD i:=by decide
 exact fun i k G F=>h i F k G
def ptD (n i:Nat) (F:List Int):Pt:=⟨nmD i,(List.range n).map fun k=>patD (F.getD k 0),5000+(F.getD 4 0).tmod 5000,(F.getD 5 0).tmod 12700,(F.getD 6 0).tmod 12700⟩
def ptE (n:Nat):Pt:=⟨⟨#[112]⟩,List.replicate n 0,0,0,0⟩
def ptsD (n:Nat) (L:List (List Int)):List Pt:=if L.length=0 then [ptE n] else (List.range (min L.length 12)).map fun i=>ptD n i (L.getD i [])
theorem qmM (z:Int):0<=patD z/\patD z<=10000:=by unfold patD;omega
theorem qmP {n i k:Nat} {F:List Int} (G:k<n):(ptD n i F).dev.getD k 0=patD (F.getD k 0):=by
 show ((List.range n).map _).getD k 0=_
 rw [qaa,qau,qbf G];rfl
theorem qen (n i:Nat) (F:List Int):(ptD n i F).dev.length=n:=by show ((List.range n).map _).length=n;simp
theorem ptD_ok {n i:Nat} {F:List Int} (H:1<=n) (I:n<=4) (J:i<12):PtOk (ptD n i F) where
 name:=nm_name i J
 n1:=by rw [qen];exact H
 n4:=by rw [qen];exact I
 vals:=fun k G=>by rw [qen] at G;rw [qmP G];exact qmM _
 l0:=by
  have a:=Int.lt_tmod_of_pos (F.getD 4 0) (show (0:Int)<5000 by decide);have b:=Int.tmod_lt_of_pos (F.getD 4 0) (show (0:Int)<5000 by decide)
  show 0<=5000+(F.getD 4 0).tmod 5000/\5000+(F.getD 4 0).tmod 5000<=10000
  omega
 l1:=by
  have a:=Int.lt_tmod_of_pos (F.getD 5 0) (show (0:Int)<12700 by decide);have b:=Int.tmod_lt_of_pos (F.getD 5 0) (show (0:Int)<12700 by decide)
  show -12800<=(F.getD 5 0).tmod 12700/\(F.getD 5 0).tmod 12700<=12700
  omega
 l2:=by
  have a:=Int.lt_tmod_of_pos (F.getD 6 0) (show (0:Int)<12700 by decide);have b:=Int.tmod_lt_of_pos (F.getD 6 0) (show (0:Int)<12700 by decide)
  show -12800<=(F.getD 6 0).tmod 12700/\(F.getD 6 0).tmod 12700<=12700
  omega
theorem qmQ (n k:Nat):(ptE n).dev.getD k 0=0:=by
 show (List.replicate n (0:Int)).getD k 0=0
 rw [qaa,qbd];split <;> rfl
theorem ptE_ok {n:Nat} (F:1<=n) (G:n<=4):PtOk (ptE n) where
 name:=show qhf ⟨#[112]⟩ from ⟨by decide,by decide,by decide⟩
 n1:=by show 1<=(List.replicate n (0:Int)).length;rw [qa8];exact F
 n4:=by show (List.replicate n (0:Int)).length<=4;rw [qa8];exact G
 vals:=fun k _=>by rw [qmQ];exact⟨by decide,by decide⟩
 l0:=show (0:Int)<=0/\(0:Int)<=10000 from by decide
 l1:=show (-12800:Int)<=0/\(0:Int)<=12700 from by decide
 l2:=show (-12800:Int)<=0/\(0:Int)<=12700 from by decide
theorem qgb (n:Nat) (L:List (List Int)):1<=(ptsD n L).length/\(ptsD n L).length<=12:=by
 unfold ptsD;split
 ·exact⟨qae 1,show 1<=12 from by decide⟩
 ·rw [qat,qbI];omega
theorem qgL {n:Nat} {L:List (List Int)} {i:Nat} (F:i<(ptsD n L).length):(L.length=0/\i=0/\(ptsD n L).getD i pt0=ptE n)\/(L.length≠0/\i<12/\(ptsD n L).getD i pt0=ptD n i (L.getD i [])):=by
 unfold ptsD at F ⊢;split
 ·rename_i h;rw [if_pos h] at F;obtain rfl:i=0:=by have:i<1:=F;omega
  exact .inl ⟨h,rfl,rfl⟩
 ·rename_i h;rw [if_neg h,qat,qbI] at F;refine .inr ⟨h,by omega,?_⟩;rw [qaa,qau,qbf F];rfl
theorem qku (n:Nat) (L:List (List Int)) {i:Nat} (F:i<(ptsD n L).length):((ptsD n L).getD i pt0).dev.length=n:=by
 rcases qgL F with ⟨_,_,e⟩ | ⟨_,_,e⟩
 ·rw [e];exact qa8
 ·rw [e];exact qen _ _ _
theorem qhz (n:Nat) (L:List (List Int)):chans (ptsD n L)=n:=qku n L (qgb n L).1
theorem ptsD_ok {n:Nat} (L:List (List Int)) (G:1<=n) (H:n<=4):PtsOk (ptsD n L) where
 r1:=(qgb n L).1
 r2:=by have:=(qgb n L).2;omega
 rows:=fun k F=>⟨by
  rcases qgL F with ⟨_,_,e⟩ | ⟨_,h,e⟩
  ·rw [e];exact ptE_ok G H
  ·rw [e];exact ptD_ok G H h,by rw [qhz];exact qku n L F⟩
 apart:=fun i k F I=>by
  rcases qgL I with ⟨_,h,_⟩ | ⟨J,h,e⟩
  ·omega
  ·rcases qgL (Nat.lt_trans F I) with ⟨G,_,_⟩ | ⟨_,_,e2⟩
   ·exact absurd G J
   ·rw [e,e2];exact nm_apart i k F h
theorem qi1 {n:Nat} (L:List (List Int)):qd9 (ptsD n L):=⟨(qgb n L).2,fun i F j=>by
 rcases qgL F with ⟨_,_,e⟩ | ⟨_,_,e⟩
 ·rw [e,qmQ];exact⟨0,by decide,rfl⟩
 ·rw [e];rcases qaM j n with hj | hj
  ·rw [qmP hj];refine⟨((L.getD i []).getD j 0).natAbs % 9,by omega,?_⟩;unfold patD;omega
  ·refine⟨0,by decide,?_⟩;rw [qaa,qaA (by rw [qen];exact hj)];rfl⟩
theorem qfL {I:Array Oper} {rest:List Oper} {o:Oper} {a:Act} {w:World} {Q:Exit->Act->World->Prop} (O:o.guard=none) (s x:Operand)
  (Y:o.op=.call { callee:=.builtin .append,args:=#[s,x],argTypes:=#[32,32] }) {B:Nat} {v:Value} {l:List Int} {z:Int} (H:IOwn w B v l) (hB:B<=w.heap.size) (hs:a.eval s=v) {g:Nat} (hx:a.eval x=.slice (some ⟨g,0,none⟩) 1 1) (hg:g=w.heap.size) (hn:l.length<1000000)
  (h:∀F G,Hu (IOwn G B F (l++[z]))->Hu (F.ownBlock=v.ownBlock/\(w.alloc (.cells #[.int .i64 z] 3)).grownBy G v.ownBlock\/F.ownBlock=some (w.alloc (.cells #[.int .i64 z] 3)).heap.size/\(w.alloc (.cells #[.int .i64 z] 3)).grownBy G none)->wpList prog I Q rest (a.put o.dst F) G) :
  wpList prog I Q (o :: rest) a (w.alloc (.cells #[.int .i64 z] 3)):=by
 subst hg;have J:Below w.heap.size w (w.alloc (.cells #[.int .i64 z] 3)):=qbS qB qN;obtain⟨F,G,Z,U,V⟩:=qky o.type (H.below J) (by simp only [qab];omega) (qfk (q:=[z]) (qM w (.cells #[.int .i64 z] 3) _ rfl) 0) (c:=1) rfl (Nat.zero_lt_one) (by show l.length+1<=_;omega);exact qdn O s x _ Y hs hx Z (h F G (qH U) (qH V))
open Go.Lib
theorem qje {k:Nat} {dv:List Int} {l:List Rat} {n:Nat} (h:termL k dv=l) (F:l.length=n):(termL k dv).map ftxt=told n (fv l):=by
 rw [h,<-F,qnj]
theorem vals_two {y z:Int} (h:0<=y/\y<=10000) (G:0<=z/\z<=10000):qcz [y,z]:=fun k F=>by
 have F:k<2:=F;rcases (show k=0\/k=1 by omega) with rfl | rfl
 ·exact h
 ·exact G
theorem ex_tm1 (W:World) (hT:HasT W):Calls prog 25 #[.int .i64 3,.slice (some ⟨W.heap.size,0,none⟩) 2 2] (W.alloc (.cells #[.int .i64 5000,.int .i64 10000] 3)) fun e F=>∃(p:Option Addr) (g c:Nat),e=.returned (.tuple #[.slice p 4 c,.int .i64 0])/\FCells F p g 0 (told 4 (fv [1,1 / 2,1,1 / 2]))/\Below W.heap.size W F:=by
 refine (qjf W 3 3 [5000,10000] 2 rfl kind3 (by decide) (by decide) (by decide) (vals_two (by decide) (by decide)) hT).mono ?_;rintro e F ⟨p,g,c,rfl,G,H⟩;rw [qje (l:=[1,1 / 2,1,1 / 2]) (n:=4) (by decide +kernel) rfl] at G;exact⟨p,g,c,rfl,G,H⟩
theorem ex_tm2 (W:World) (hT:HasT W):Calls prog 25 #[.int .i64 2,.slice (some ⟨W.heap.size,0,none⟩) 1 1] (W.alloc (.cells #[.int .i64 5000] 3)) fun e F=>∃(p:Option Addr) (g c:Nat),e=.returned (.tuple #[.slice p 3 c,.int .i64 0])/\FCells F p g 0 (told 3 (fv [1,1 / 2,1 / 4]))/\Below W.heap.size W F:=by
 refine (qjf W 2 2 [5000] 1 rfl kind2 (by decide) (by decide) (by decide) (qfA (by decide)) hT).mono ?_;rintro e F ⟨p,g,c,rfl,G,H⟩;rw [qje (l:=[1,1 / 2,1 / 4]) (n:=3) (by decide +kernel) rfl] at G;exact⟨p,g,c,rfl,G,H⟩
theorem ex_tm3 (W:World) (hT:HasT W):Calls prog 25 #[.int .i64 4,.slice (some ⟨W.heap.size,0,none⟩) 1 1] (W.alloc (.cells #[.int .i64 0] 3)) fun e G=>e=.returned (.tuple #[.slice none 0 0,.int .i64 2])/\Below W.heap.size W G:=by
 have F:¬∃k,qcu 4 k:=fun⟨k,h⟩=>by have:=h.1;have:=h.2;omega
 refine qng W 4 [0] 1 2 rfl (by decide) (fun e h=>?_) (fun⟨k,h,_⟩=>F ⟨k,h⟩) hT;rcases h with ⟨_,h⟩ | ⟨⟨h,_⟩,_⟩
 ·exact h
 ·exact absurd h F
theorem ex_f1 (W:World) (g c:Nat) (H:PCells W (some ⟨g,0,none⟩) g 0 ramp) (hT:HasT W):Calls prog 14 #[.slice (some ⟨g,0,none⟩) 3 c,.int .i64 1,.slice (some ⟨W.heap.size,0,none⟩) 3 3] (W.alloc (.cells #[.int .i64 1,.int .i64 1,.int .i64 1] 3)) fun e F=>∃v,e=.returned (.tuple #[v,.int .i64 0])/\MdAt F v (mdq 1 1 2 fitX1)/\Below W.heap.size W F:=by
 refine (qlW W ramp 3 g 0 c _ 1 [1,1,1] 3 rfl (by decide) rfl (by decide) qdE H hT).mono ?_;intro e F h;obtain⟨I,v,he,G⟩:=ex_fit1 h;exact⟨v,he,G,qc9 I⟩
theorem ex_f2 (W:World) (g c:Nat) (H:PCells W (some ⟨g,0,none⟩) g 0 ramp) (hT:HasT W):Calls prog 14 #[.slice (some ⟨g,0,none⟩) 3 c,.int .i64 2,.slice (some ⟨W.heap.size,0,none⟩) 3 3] (W.alloc (.cells #[.int .i64 1,.int .i64 1,.int .i64 1] 3)) fun e F=>∃v,e=.returned (.tuple #[v,.int .i64 0])/\MdAt F v (mdq 2 1 3 fitX2)/\Below W.heap.size W F:=by
 refine (qlW W ramp 3 g 0 c _ 2 [1,1,1] 3 rfl (by decide) rfl (by decide) qdE H hT).mono ?_;intro e F h;obtain⟨I,v,he,G⟩:=ex_fit2 h;exact⟨v,he,G,qc9 I⟩
theorem ex_f3 (w:World) (g F c:Nat) (I:PCells w (some ⟨g,0,none⟩) g 0 ramp) (hN:w.heap[F]? = some (.cells #[.int .i64 1,.int .i64 1,.int .i64 0] 3 (0,0))) (hT:HasT w):Calls prog 14 #[.slice (some ⟨g,0,none⟩) 3 c,.int .i64 2,.slice (some ⟨F,0,none⟩) 3 3] w fun e H=>e=.returned (.tuple #[mdv0,.int .i64 7])/\Below w.heap.size w H:=by
 have hN:=qfk (q:=[1,1,0]) hN 0;refine (qjA 3 g 0 c F 0 3 3 (some ⟨g,0,none⟩) (some ⟨F,0,none⟩) ramp 2 [1,1,0] w rfl (by decide) (fun k G=>⟨by have:=(qdE k G).1;omega,by have:=(qdE k G).2;omega⟩) rfl (by decide) I hN hT).mono ?_;intro e H h;obtain⟨J,he⟩:=ex_fit3 h;exact⟨he,J⟩
theorem ex_a1 (W:World) (v:Value) (G:MdAt W v (mdq 1 1 2 fitX1)) (hT:HasT W):Calls prog 22 #[v,.slice (some ⟨W.heap.size,0,none⟩) 1 1] (W.alloc (.cells #[.int .i64 5000] 3)) fun e F=>e=.returned (.tuple #[.agg #[.string ⟨#[49,54,48]⟩,.string ⟨#[51]⟩,.string ⟨#[48]⟩,.string ⟨#[49]⟩,.string ⟨#[48]⟩,.string ⟨#[49]⟩],.int .i64 0])/\Below W.heap.size W F:=by
 refine (qii (mdq 1 1 2 fitX1) v 1 W.heap.size 0 1 (some ⟨W.heap.size,0,none⟩) [5000] _ (G.below (alloc_old _ _)) rfl (by decide) (qjH (by decide)) (qfj W [5000]) (hT.below (alloc_old _ _))).mono ?_;intro e F h;obtain⟨H,he⟩:=ex_apply h;exact⟨he,qc9 H⟩
theorem ex_s1 (w:World) (v:Value) (g c:Nat) (I:MdAt w v (mdq 1 1 2 fitX1)) (J:PCells w (some ⟨g,0,none⟩) g 0 ramp) (hT:HasT w):Calls prog 33 #[v,.slice (some ⟨g,0,none⟩) 3 c] w fun e F=>∃g,e=.returned (.tuple #[.slice (some ⟨g,0,none⟩) 3 3,.int .i64 0])/\FCells F (some ⟨g,0,none⟩) g 0 (told 3 (fv [100 / 9,400 / 9,100 / 9]))/\Below w.heap.size w F:=by
 refine (qgV (mdq 1 1 2 fitX1) v 3 g 0 c (some ⟨g,0,none⟩) ramp w I rfl (by decide) (fun k G=>⟨by have:=(qdE k G).1;omega,by have:=(qdE k G).2;omega⟩) (qjH (by decide)) J hT).mono ?_;intro e F h;obtain⟨O,g,he,H⟩:=qkO h;exact⟨g,he,H,O⟩
theorem IOwn.cells {W:World} {B:Nat} {v:Value} {l:List Int} (h:IOwn W B v l) (H:0<l.length):∃g c,v=.slice (some ⟨g,0,none⟩) l.length c/\NCells W (some ⟨g,0,none⟩) g 0 l:=by
 have F:=h;rcases h.2 with ⟨_,h⟩ | ⟨g,cap,cur,rfl,_,_,_⟩
 ·omega
 ·refine⟨g,cap,rfl,fun _=>rfl,fun k G=>?_⟩;have:=World.ownsRow.cells F (g:=g) rfl k (.int .i64 (l.getD k 0)) (by rw [qau,qaa,qad G];rfl)
  rwa [Addr.add_mid] at this
theorem qli {W:World} {B j:Nat} {v:Value} {e:TypeId} {G:List Value} (h:W.ownsRow B e 1 v j G) (H:0<j):∃g c,v=.slice (some ⟨g,0,none⟩) j c/\∀k,k<j->W.cell? ⟨g,k,none⟩=some (G.getD k undef):=by
 have F:=h;rcases h.2 with ⟨_,h⟩ | ⟨g,cap,cur,rfl,_,_,_⟩
 ·omega
 ·refine⟨g,cap,rfl,fun k I=>?_⟩;have J:=h.1;have:=F.cells (g:=g) rfl k (G.getD k undef) (by rw [qaa,qad (by omega)];rfl)
  rwa [Addr.add_mid,qaH] at this
theorem eq_ints (H J c I O d:Nat) (F G:List Int) (n m:Nat) (w:World) (hn:F.length=n) (Z:G.length=m) (ae:n<=1000000) (aa:m<=1000000) (V:NCells w (some ⟨H,J,none⟩) H J F) (Y:NCells w (some ⟨I,O,none⟩) I O G) :
  Calls prog 43 #[.slice (some ⟨H,J,none⟩) n c,.slice (some ⟨I,O,none⟩) m d] w fun e U=>e=.returned (.bool (F == G))/\Below w.heap.size w U:=by
 subst hn Z;refine (Tryz.slices_Equal_int H J F.length c I O G.length d F G w qN qN (by omega) (by omega) V.cell Y.cell).mono ?_;rintro e U ⟨rfl,q,rfl⟩;rw [qbg,qbg];exact⟨rfl,below_drewN qB q⟩
theorem qlN (W:World) (G H c:Nat) (F:List Int) (n:Nat) (I:F.length=n) (V:n<=1000) (O:NCells W (some ⟨G,H,none⟩) G H F) :
  Calls prog 43 #[.slice (some ⟨G,H,none⟩) n c,.slice (some ⟨W.heap.size,0,none⟩) n n] (W.alloc (.cells (F.map fun z=>Value.int .i64 z).toArray 3)) fun e J=>e=.returned (.bool true)/\Below W.heap.size W J:=by
 refine (eq_ints G H c W.heap.size 0 n F F n n _ I I (by omega) (by omega) (O.below (alloc_old _ _)) (qfj W F)).mono ?_;rintro e J ⟨rfl,U⟩;exact⟨by simp,qc9 U⟩
instance stays_sc2 {g off:Nat} {L:List ByteArray}:Stays fun W=>SCells W g off L:=⟨fun h F=>h.below F⟩
instance stays_isat {b:Nat} {L:List ByteArray}:Stays fun W=>IsAt W b L:=⟨fun h F=>h.below F⟩
def SC (s:ByteArray) (z:Value) (W:World):Prop:=∃g:Nat,z=.slice (some ⟨g,0,none⟩) 1 1/\W.heap[g]? = some (.cells #[.string s] 9 (0,0))
def QC (x1 x2:ByteArray) (z:Value) (W:World):Prop:=∃g c:Nat,z=.slice (some ⟨g,0,none⟩) 1 c/\(W.cell? ⟨g,0,none⟩=some (.string x1)/\W.cell? ⟨g,1,none⟩=some (.string x2))
def PC (x1 x2:ByteArray) (z:Value) (W:World):Prop:=∃g:Nat,z=.pointer (some ⟨g,0,none⟩)/\(W.cell? ⟨g,0,none⟩=some (.string x1)/\W.cell? ⟨g,1,none⟩=some (.string x2))
instance stays_sc {s:ByteArray} {z:Value}:Stays (SC s z):=⟨fun⟨g,F,G⟩ hb=>⟨g,F,zkeep hb _ _ G⟩⟩
instance stays_qc {x1 x2:ByteArray} {z:Value}:Stays (QC x1 x2 z):=⟨fun {W _} ⟨g,c,H,F,G⟩ hb=>⟨g,c,H,(hb.cell (qac W _ F)).trans F,(hb.cell (qac W _ G)).trans G⟩⟩
instance stays_pcx {x1 x2:ByteArray} {z:Value}:Stays (PC x1 x2 z):=⟨fun {W _} ⟨g,H,F,G⟩ hb=>⟨g,H,(hb.cell (qac W _ F)).trans F,(hb.cell (qac W _ G)).trans G⟩⟩
theorem q1_at (w:World) (g:Nat) (s x1 x2:ByteArray) (r:Rat) (hg:w.heap[g]? = some (.cells #[.string s] 9 (0,0))) (h:qf s=ftxt r) (hx:ftxt r=(x1,x2)) (V:s.size<=65536) :
  Calls prog 24 #[.slice (some ⟨g,0,none⟩) 1 1] w fun e F=>∃g c,e=.returned (.slice (some ⟨g,0,none⟩) 1 c)/\(F.cell? ⟨g,0,none⟩=some (.string x1)/\F.cell? ⟨g,1,none⟩=some (.string x2))/\Below w.heap.size w F:=by
 refine (q_at 1 (L:=[s]) (l:=[r]) (SCells.row (L:=[s]) hg) rfl rfl (by decide) (by rw [qbw,qbL,qbw,qbL,h]) (fun t U=>by rw [qas.1 U];exact V)).mono ?_;rintro e F ⟨ao,g,c,rfl,I,O⟩;have J:=I.addr (by rw [qbW];decide);subst J;obtain⟨G,H⟩:=I.cell 0 (by rw [qbW];decide);rw [qdg (by decide),show fv [r] 0=r from rfl,hx] at G H;exact⟨g,c,rfl,⟨G,H⟩,O⟩
theorem ex_e1 (w:World) (v:Value) (hM:MdAt w v (mdq 1 1 2 fitX1)) (hT:HasT w) (hE:HasE w):Calls prog 28 #[v] w fun e F=>∃(gr J g0 c0 g1 c1 go I:Nat),
  e=.returned (.tuple #[.agg #[.int .i64 2,.slice none 0 0,.slice (some ⟨gr,0,none⟩) 3 J,.slice (some ⟨go,0,none⟩) 3 I,.slice none 0 0,.int .i64 0,.slice none 0 0,.slice none 0 0,.int .i64 0,.int .i64 0],.int .i64 0]) /\
  (F.cell? ⟨gr,0,none⟩=some (.slice (some ⟨g0,0,none⟩) 1 c0)/\F.cell? ⟨gr,1,none⟩=some (.slice (some ⟨g1,0,none⟩) 1 c1)/\NCells F (some ⟨g0,0,none⟩) g0 0 [1000000]/\NCells F (some ⟨g1,0,none⟩) g1 0 [0]/\NCells F (some ⟨go,0,none⟩) go 0 [33333,500000,500000])/\Below w.heap.size w F:=by
 refine (qjx (mdq 1 1 2 fitX1) v w hM (qjH (by decide)) hT hE).mono ?_;rintro e F ⟨hb,⟨v,rfl,n,O,_,B,vr,vo,rfl,ho,vs,hr,hv⟩ | ⟨c,rfl,h⟩⟩
 ·obtain rfl:=(qiL.uniq O).2;have e0:elOff (mdq 1 1 2 fitX1) 3=[33333,500000,500000]:=by
   show [elz _ 0 0,elz _ 1 0,elz _ 2 0]=_
   rw [(qhk 0 (by decide)).1,(qhk 1 (by decide)).1,(qhk 2 (by decide)).1];rfl
  have e1:elRow (mdq 1 1 2 fitX1) 1 0=[1000000]:=by
   show [elz _ 0 1]=_
   rw [(qhk 0 (by decide)).2];rfl
  have e2:elRow (mdq 1 1 2 fitX1) 1 1=[0]:=by
   show [elz _ 1 1]=_
   rw [(qhk 1 (by decide)).2];rfl
  rw [e0] at ho;have h0:=(hv 0 (by decide)).1;have G:=(hv 1 (by decide)).1;rw [e1] at h0;rw [e2] at G;obtain⟨go,I,rfl,Y⟩:=IOwn.cells ho (by decide);obtain⟨gr,J,rfl,H⟩:=qli hr (by decide);obtain⟨g0,c0,Z,U⟩:=IOwn.cells h0 (by decide);obtain⟨g1,c1,aa,V⟩:=IOwn.cells G (by decide);have r0:=H 0 (by decide);have r1:=H 1 (by decide);rw [Z] at r0;rw [aa] at r1;exact⟨gr,J,g0,c0,g1,c1,go,I,rfl,⟨r0,r1,U,V,Y⟩,hb⟩
 ·exfalso;rcases h with ⟨h,_⟩ | ⟨_,h,_⟩ | ⟨n,O,h2,_⟩
  ·exact h ⟨_,_,qiL⟩
  ·exact h rfl
  ·obtain rfl:=(qiL.uniq O).2;exact h2 ex_elok
theorem eq_3f (w:World):(Op.equalIn 10000 65 (.agg #[.string ⟨#[49,54,48]⟩,.string ⟨#[51]⟩,.string ⟨#[48]⟩,.string ⟨#[49]⟩,.string ⟨#[48]⟩,.string ⟨#[49]⟩]) (.agg #[.string ⟨#[49,54,48]⟩,.string ⟨#[51]⟩,.string ⟨#[48]⟩,.string ⟨#[49]⟩,.string ⟨#[48]⟩,.string ⟨#[49]⟩])).run prog w=.ok true w:=by kernel_rfl
theorem conv4s (F G H I:UInt8) (J n1 O U:Int) (V:J=(F.toNat:Nat)) (Y:n1=(G.toNat:Nat)) (Z:O=(H.toNat:Nat)) (h3:U=(I.toNat:Nat)) (W:World) :
  (convert 302 9 (.slice (some ⟨W.heap.size,0,none⟩) 4 4)).run prog (W.alloc (.cells #[.int .u8 J,.int .u8 n1,.int .u8 O,.int .u8 U] 5))=.ok (.string ⟨#[F,G,H,I]⟩) (W.alloc (.cells #[.int .u8 J,.int .u8 n1,.int .u8 O,.int .u8 U] 5)):=by
 subst V Y Z h3;refine run_convert_bytes_back (P:=prog) _ 302 9 5 ⟨W.heap.size,0,none⟩ 4 [F,G,H,I] underlying302 underlying5 underlying9 ?_;intro j hj;have hg:=heap_alloc_new W (.cells #[.int .u8 (F.toNat:Nat),.int .u8 (G.toNat:Nat),.int .u8 (H.toNat:Nat),.int .u8 (I.toNat:Nat)] 5)
 match j,hj with
 | 0,_=>exact qC _ _ 0 _ _ _ hg
 | 1,_=>exact qC _ _ 1 _ _ _ hg
 | 2,_=>exact qC _ _ 2 _ _ _ hg
 | 3,_=>exact qC _ _ 3 _ _ _ hg
def g4 (i:Nat):ByteArray:=⟨#[48,48,UInt8.ofNat (48+i / 10),UInt8.ofNat (48+i % 10)]⟩
theorem qmH {n:Nat} (h:n<12):(UInt8.ofNat (48+n)).toNat=48+n:=by
 rcases (show n=0\/n=1\/n=2\/n=3\/n=4\/n=5\/n=6\/n=7\/n=8\/n=9\/n=10\/n=11 by omega) with rfl | rfl | rfl | rfl | rfl | rfl | rfl | rfl | rfl | rfl | rfl | rfl <;> rfl
theorem fourS (i:Nat) (O:i<12) (w:World):Calls prog 274 #[.int .i64 (i:Int)] w fun e J=>e=.returned (.string (g4 i))/\Below w.heap.size w J:=by
 obtain⟨b,H⟩:=qX (i / 10);obtain⟨c,I⟩:=qX (i % 10);have F:=conv4s 48 48 (UInt8.ofNat (48+b)) (UInt8.ofNat (48+c)) 48 48 (48+(b:Int)) (48+(c:Int)) rfl rfl (by rw [qmH (by omega)];omega) (by rw [qmH (by omega)];omega);have hg:g4 i=⟨#[48,48,UInt8.ofNat (48+b),UInt8.ofNat (48+c)]⟩:=by unfold g4;rw [H,I]
 rw [<-hg] at F;have Y:(i:Int) / 1000=0:=by omega
 have t2:(i:Int) / 100=0:=by omega
 have t4:(i:Int) / 10=b:=by omega
 have t5:(b:Int) % 10=b:=by omega
 have Z:(i:Int) % 10=c:=by omega
 have U:b<2:=by omega
 have V:c<10:=by omega
 clear H I hg;generalize g4 i=G at *;go_enter func274,ntmps274;go_wp2;go_ret;exact⟨rfl,qbS qB qN⟩
def PlS (W:World) (v:Value) (i:Nat):Prop:=∃(F:Option Addr) (n c:Nat),v=.agg #[.bool false,.slice F n c]/\((i=0/\n=0)\/(i≠0/\n=1/\∃g,F=some ⟨g,0,none⟩/\W.cell? ⟨g,0,none⟩=some (.int .i64 (i:Int))))
theorem cutS0 (w:World):Calls prog 271 #[.slice none 0 0] w fun e F=>e=.returned (.slice none 0 0)/\F=w:=by
 go_enter func271,ntmps271;go_wp2_with fail
 go_loopw [3] (fun x3 W=>x3=.int .i64 0/\W=w) (fun _ _=>0)
 case atStart=>exact⟨rfl,rfl⟩
 case round =>
  obtain⟨rfl,rfl⟩:=hrel;go_wp2;go_ret;exact⟨rfl,rfl⟩
theorem cutS1 (g c:Nat) (z:Int) (J:z≠0) (V:1<=c) (I:c<=9223372036854775807) (w:World) (G:w.cell? ⟨g,0,none⟩=some (.int .i64 z)):Calls prog 271 #[.slice (some ⟨g,0,none⟩) 1 c] w fun e U=>e=.returned (.slice (some ⟨g,0,none⟩) 1 c)/\U=w:=by
 have O:(z == 0)=false:=by rw [beq_eq_false_iff_ne];exact J
 have H:=qH G;clear G;go_enter func271,ntmps271;go_wp2_with fail
 go_loopw [3] (fun x3 W=>x3=.int .i64 1/\Hu (W=w)) (fun _ _=>0)
 case atStart=>exact⟨rfl,qH rfl⟩
 case round =>
  obtain⟨rfl,F⟩:=hrel;have F:=F.o.symm;subst F;have G:=H.o;go_wp2;go_ret;exact⟨rfl,rfl⟩
theorem madeS (F:Option Addr) (n c:Nat) (w:World) (_hn:n<=1) (J:∀W,Below w.heap.size w W->Calls prog 271 #[.slice F n c] W fun e I=>e=.returned (.slice F n c)/\I=W) :
  Calls prog 241 #[.bool false,.slice F n c] w fun e I=>e=.returned (.agg #[.bool false,.slice F n c])/\Below w.heap.size w I:=by
 obtain⟨U,G,H⟩:=nw1 w #[.bool false,.slice none 0 0] 180;have O:=qH (J U H.o.1);clear J;go_enter func241,ntmps241;go_upto_region 1 with fail;rw [<-G];clear G;go_wp2_with fail;refine O.o.mono ?_;rintro e Y ⟨rfl,V⟩;subst V
 go_wp2_with ((with_reducible refine sR_ rfl 180 _ _ rfl (w.heap.size) #[.bool false,.slice F n c] H.o.2 2 ?_))
 exact qR (v:=.agg #[.bool false,.slice F n c]) (rA_ rfl (w.heap.size) (qT _ _ _ _ _ _ H.o.2) underlying180 2) rfl ⟨rfl,qS H.o.1 qN _⟩
theorem integerS (i:Nat) (hi:i<12) (w:World):Calls prog 189 #[.int .i64 (i:Int)] w fun e w'=>∃v,e=.returned v/\PlS w' v i/\Below w.heap.size w w':=by
 obtain⟨F,aa,K1⟩:=nw1 w #[.bool false,.slice none 0 0] 180;have h0:¬(i:Int)<0:=by omega
 go_enter func189,ntmps189;go_upto_region 1 with fail;rw [<-aa];clear aa;go_wp2_with fail
 go_loopw [0,3] (fun x0 x3 W=>(x0=.int .i64 (i:Int)/\x3=.slice none 0 0/\Hu (W=F))\/(i≠0/\x0=.int .i64 0/\Hu (IOwn W F.heap.size x3 [(i:Int)]/\Below F.heap.size F W))) (fun x0 _ _=>(RowKit.intOf x0).toNat)
 case atStart=>exact .inl ⟨rfl,rfl,qH rfl⟩
 case round =>
  rcases hrel with ⟨rfl,rfl,J⟩ | ⟨ah,rfl,hI⟩
  ·have J:=J.o.symm;subst J
   by_cases hz:i=0
   ·have HC:=qH (madeS none 0 0 F (by decide) (fun W _=>cutS0 W));subst hz;go_wp2_with fail;refine HC.o.mono ?_;rintro e w2 ⟨rfl,G⟩;have Z:=K1.below G;clear G
    go_wp2_with ((with_reducible refine sR_ rfl 180 _ _ rfl (w.heap.size) #[.bool false,.slice none 0 0] Z.o.2 2 ?_))
    exact qR (v:=.agg #[.bool false,.slice none 0 0]) (rA_ rfl (w.heap.size) (qT _ _ _ _ _ _ Z.o.2) underlying180 2) rfl ⟨_,rfl,⟨none,0,0,rfl,.inl ⟨rfl,rfl⟩⟩,qS Z.o.1 qN _⟩
   ·have hne:((i:Int) != 0)=true:=by rw [bne_iff_ne];omega
    have m1:(i:Int) % 10000=i:=by omega
    have m2:(i:Int) / 10000=0:=by omega
    have ai:IOwn F F.heap.size (.slice none 0 0) []:=⟨rfl,.inl ⟨rfl,rfl⟩⟩;have HN:=qH hz;clear hz
    go_wp2_with (first | (at_builtin;refine qfL rfl _ _ rfl ai qN rfl rfl rfl (by decide) ?_;intro v' w' aj ae;have af:Hu (Below F.heap.size F w'):=qH (qdB (B:=F.heap.size) (qbS qB qN) (fun q hq=>by cases hq) (by simp only [qab];omega) ae.o);clear ae) | fail)
    go_roundw
    case rel=>exact .inr ⟨HN.o,rfl,qH ⟨aj.o,af.o⟩⟩
    case measure=>have:=HN.o;simp [RowKit.intOf];omega
  ·obtain⟨g,c,e,hN⟩:=IOwn.cells hI.o.1 Nat.zero_lt_one;have U:1<=c/\c<=9223372036854775807:=by
    rcases hI.o.1.2 with ⟨e2,h⟩ | ⟨g',cap,cur,e2,_,_,h1,h2,_⟩
    ·cases h
    ·rw [e] at e2;injection e2 with _ _ e3;subst e3;unfold maxLen at h2;exact⟨h1,by omega⟩
   have H:wr.cell? ⟨g,0,none⟩=some (.int .i64 (i:Int)):=hN.cell 0 Nat.zero_lt_one;have Z:=K1.below hI.o.2;have V:=(qac wr _ H:g<_);have ag:w.heap.size<g\/w.heap.size=g\/g<w.heap.size:=by omega
   have HC:=qH (madeS (some ⟨g,0,none⟩) 1 c wr (by decide) (fun W G=>cutS1 g c i (by omega) U.1 U.2 W ((G.cell (p:=⟨g,0,none⟩) V).trans H)));have HH:=qH (qA H (qA V hI.o.1));rw [show [(i:Int)].length=1 from rfl] at e;subst e;clear hI hN U H V ag;go_wp2_with fail;refine HC.o.mono ?_;rintro e w2 ⟨rfl,G⟩;have K3:=Z.below G;have Y:=HH.o.2.2.below G;have O:=(G.cell (p:=⟨g,0,none⟩) HH.o.2.1).trans HH.o.1;have I:g≠w.heap.size:=fun e=>by
    subst e;have:=qC _ _ 0 _ _ _ K3.o.2;rw [O] at this;cases this
   have HE:=qH (qA O I);clear G Y O I Z
   go_wp2_with ((with_reducible refine sR_ rfl 180 _ _ rfl (w.heap.size) #[.bool false,.slice (some ⟨g,0,none⟩) 1 c] K3.o.2 2 ?_))
   exact qR (v:=.agg #[.bool false,.slice (some ⟨g,0,none⟩) 1 c]) (rA_ rfl (w.heap.size) (qT _ _ _ _ _ _ K3.o.2) underlying180 2) rfl ⟨_,rfl,⟨some ⟨g,0,none⟩,1,c,rfl,.inr ⟨ah,rfl,g,rfl,(World.cell?_of_block (setRow_other _ _ _ _ HE.o.2)).trans HE.o.1⟩⟩,qS K3.o.1 qN _⟩
def z4 (i:Nat):Nat:=if i<10 then 3 else 2
theorem qmv {a:ByteArray} (h:a.size≠0):a.toList.isEmpty=false:=by
 rw [ByteArray.toList_eq];cases e:a.data.toList with
 | nil=>exact absurd (show a.size=0 by show a.data.size=0;rw [<-Array.length_toList,e];rfl) h
 | cons x l=>rfl
theorem ext4 (i:Nat) (G:i<12) (F:i≠0):(g4 i).extract (z4 i) (g4 i).size=num i:=by
 unfold num;rcases (show i=1\/i=2\/i=3\/i=4\/i=5\/i=6\/i=7\/i=8\/i=9\/i=10\/i=11 by omega) with rfl | rfl | rfl | rfl | rfl | rfl | rfl | rfl | rfl | rfl | rfl <;> first | (rw [qbZ (by decide)];rfl) | (rw [qb5 (by decide),qbZ (by decide)];rfl)
theorem textS (i:Nat) (hi:i<12) (v:Value) (w:World) (hv:PlS w v i):Calls prog 251 #[v] w fun e w'=>e=.returned (.string (num i))/\Below w.heap.size w w':=by
 obtain⟨ao,n,c,rfl,h⟩:=hv;obtain⟨J,G,I⟩:=nw1 w #[.bool false,.slice ao n c] 180;rcases h with ⟨rfl,rfl⟩ | ⟨Z,rfl,g,rfl,Y⟩
 ·have c0:=qC _ _ 0 _ _ _ I.o.2;have c1:=qC _ _ 1 _ _ _ I.o.2;go_enter func251,ntmps251;go_upto_region 1 with fail;rw [<-G];clear G;go_wp2_with fail
  go_loopw [3,4] (fun x3 x4 W=>x3=.string ⟨#[]⟩/\x4=.int .i64 (-1)/\Hu (W=J)) (fun _ _ _=>0)
  case atStart=>exact⟨rfl,rfl,qH rfl⟩
  case round =>
   obtain⟨rfl,rfl,F⟩:=hrel;have F:=F.o.symm;subst F;go_wp2_with fail
   go_loopw [5] (fun x5 W=>x5=.int .i64 0/\Hu (W=J)) (fun _ _=>0)
   case atStart=>exact⟨rfl,qH rfl⟩
   case round =>
    obtain⟨rfl,F⟩:=hrel;have F:=F.o.symm;subst F;go_wp2;go_ret;exact⟨by unfold num;rw [qbZ (by decide)];rfl,I.o.1⟩
 ·have HF:=qH fun W=>fourS i hi W
  have U:=(I.o.1.cell (qac w _ Y)).trans Y;have c0:=qC _ _ 0 _ _ _ I.o.2;have c1:=qC _ _ 1 _ _ _ I.o.2;have H:=qH (qA U (qA c0 c1));clear Y U c0 c1;go_enter func251,ntmps251;go_upto_region 1 with fail;rw [<-G];clear G;have c1:=H.o.2.2;go_wp2_with fail;clear c1
  go_loopw [3,4] (fun x3 x4 W=>(x3=.string ⟨#[]⟩/\x4=.int .i64 0\/x3=.string (g4 i)/\x4=.int .i64 (-1))/\Hu (Below J.heap.size J W)) (fun _ x4 _=>(RowKit.intOf x4+1).toNat)
  case atStart=>exact⟨.inl ⟨rfl,rfl⟩,qH qB⟩
  case round =>
   obtain⟨hx,O⟩:=hrel;have c1:=(O.o.cell (qac J _ H.o.2.2)).trans H.o.2.2;have cv:=(O.o.cell (qac J _ H.o.1)).trans H.o.1;have c0:=(O.o.cell (qac J _ H.o.2.1)).trans H.o.2.1;rcases hx with ⟨rfl,rfl⟩ | ⟨rfl,rfl⟩
   ·have ae:∀W,(Op.stringOp .add ⟨#[]⟩ (g4 i)).run prog W=.ok (.string (g4 i)) W:=fun W=>by
     have h:=run_string_add_sum (P:=prog) W ⟨#[]⟩ (g4 i) (by have h1:(⟨#[]⟩:ByteArray).size=0:=rfl;have h2:(g4 i).size=4:=rfl;omega);have e:(⟨#[]⟩:ByteArray)++g4 i=g4 i:=by rcases (show i=1\/i=2\/i=3\/i=4\/i=5\/i=6\/i=7\/i=8\/i=9\/i=10\/i=11 by omega) with rfl | rfl | rfl | rfl | rfl | rfl | rfl | rfl | rfl | rfl | rfl <;> rfl
     rwa [e] at h
    go_wp2_with fail;refine (HF.o _).mono ?_;rintro e w2 ⟨rfl,hb⟩;have HB:=qH (O.o.trans (hb.mono O.o.size));clear hb c1 cv c0;go_wp2;go_roundw
    case rel=>exact⟨.inr ⟨rfl,rfl⟩,HB⟩
    case measure=>simp [RowKit.intOf]
   ·go_wp2_with fail;have HK:=qH (I.o.1.trans (O.o.mono I.o.1.size));clear c1 cv;have K0:=qH c0;clear c0 O HF H
    go_loopw [5] (fun x5 W=>∃k:Nat,x5=.int .i64 (k:Int)/\k<=z4 i/\Hu (W=wr)) (fun x5 _=>4-(RowKit.intOf x5).toNat)
    case atStart=>exact⟨0,rfl,qam _,qH rfl⟩
    case round =>
     obtain⟨k,rfl,V,F⟩:=hrel;have F:=F.o.symm;subst F;have c0:_=some (Value.bool false):=K0.o;clear K0;have aa:k<=3:=by unfold z4 at V;split at V <;> omega
     rcases (show i=1\/i=2\/i=3\/i=4\/i=5\/i=6\/i=7\/i=8\/i=9\/i=10\/i=11 by omega) with rfl | rfl | rfl | rfl | rfl | rfl | rfl | rfl | rfl | rfl | rfl
     all_goals rcases (show k=0\/k=1\/k=2\/k=3 by omega) with rfl | rfl | rfl | rfl
     all_goals try exact absurd V (by decide)
     all_goals clear V aa
     all_goals go_wp2_with fail
     all_goals first
      | exact⟨⟨1,rfl,by decide,qH trivial⟩,by decide⟩
      | exact⟨⟨2,rfl,by decide,qH trivial⟩,by decide⟩
      | exact⟨⟨3,rfl,by decide,qH trivial⟩,by decide⟩
      | skip
     all_goals go_ret
     all_goals first | exact⟨congrArg (fun s=>Ending.returned (Value.string s)) (ext4 _ hi Z),HK.o⟩ | exact absurd ‹((g4 _).extract _ _).toList.isEmpty=true› (by rw [qmv (by decide)];decide)
theorem qmF (i:Nat) (F:i<12):(num i).size<=4:=by
 rcases (show i=0\/i=1\/i=2\/i=3\/i=4\/i=5\/i=6\/i=7\/i=8\/i=9\/i=10\/i=11 by omega) with rfl | rfl | rfl | rfl | rfl | rfl | rfl | rfl | rfl | rfl | rfl | rfl <;> (unfold num;first | (rw [qbZ (by decide)];decide) | (rw [qb5 (by decide),qbZ (by decide)];decide))
theorem outS (i:Nat) (Y:i<12) (v:Value) (w:World) (hv:PlS w v i):Calls prog 194 #[v] w fun e w'=>e=.returned (.tuple #[.string (num i),.int .i64 0])/\Below w.heap.size w w':=by
 obtain⟨ao,n,c,rfl,h⟩:=hv;obtain⟨O,F,H⟩:=nw1 w #[.bool false,.slice ao n c] 180;have G:PlS O (.agg #[.bool false,.slice ao n c]) i:=⟨ao,n,c,rfl,h.imp id fun⟨a,b,g,e,V⟩=>⟨a,b,g,e,(H.o.1.cell (qac w _ V)).trans V⟩⟩;have HT:=qH (textS i Y _ O G);have I:=qmF i Y;have Z:¬(((num i).size:Nat):Int) > 600:=by omega
 clear G h I;generalize num i=S at *;go_enter func194,ntmps194;go_upto_region 1 with fail;rw [<-F];clear F
 go_wp2_with ((with_reducible refine lW_ rfl 180 _ rfl (w.heap.size) #[.bool false,.slice ao n c] H.o.2 underlying180 2 ?_))
 refine HT.o.mono ?_;rintro e w2 ⟨rfl,U⟩;have J:=H.below U;have c0:=qC _ _ 0 _ _ _ J.o.2;clear U H;go_wp2_with fail
 go_ret2
 exact⟨rfl,J.o.1⟩
