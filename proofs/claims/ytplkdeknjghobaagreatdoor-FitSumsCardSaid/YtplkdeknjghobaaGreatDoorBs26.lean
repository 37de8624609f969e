import Derived.Deep.Cut
import Derived.Deep.SlicePairs
import Derived.Test.YtplkdeknjghobaaGreatDoorBs22
import Derived.Test.YtplkdeknjghobaaGreatDoorBs25
set_option maxRecDepth 100000
set_option maxHeartbeats 0
namespace Go.Proofs.YtplkdeknjghobaaGreatDoor
open Go.RowKit
def resq (m:Md) (p:Pt) (kk c:Nat):Rat:=(sumQ (many kk p.dev.length) fun j=>termQ kk p.dev j*lval (m.row c) j)+1*(((-(p.lab c):Int):Rat) / ((100:Int):Rat))
def ResAs (w:World) (m:Md) (p:Pt) (kk:Nat) (e:Ending) (w':World):Prop :=
 Below w.heap.size w w'/\((∃x0 x1 y0 y1 z0 z1,e=.returned (.agg #[.string x0,.string x1,.string y0,.string y1,.string z0,.string z1])/\(∀c,c<3->Short (resq m p kk c))/\(x0,x1)=ftxt (resq m p kk 0)/\(y0,y1)=ftxt (resq m p kk 1)/\(z0,z1)=ftxt (resq m p kk 2)) \/
  (e=thrown 6/\¬∀c,c<3->Short (resq m p kk c)))
theorem many_le9 {k n:Nat} (hk:1<=k/\k<=3) (h1:1<=n) (h4:n<=4) (h3:¬(k=3/\n=4)):1<=many k n/\many k n<=9:=by
 unfold many;rcases (show k=1\/k=2\/k=3 by omega) with rfl | rfl | rfl
 ·simp;omega
 ·simp;omega
 ·rcases (show n=1\/n=2\/n=3 by omega) with rfl | rfl | rfl <;> decide
theorem qiV (m:Md) (kk n:Nat) (p:Pt) (a:Nat->Option Addr) (b' o d:Nat->Nat) (da:Option Addr) (db do' dc:Nat) (w:World) (hM:MdOk m kk n) (hp:PtOk p) (hn:p.dev.length=n) (hF:∀q,q<3->FCells w (a q) (b' q) (o q) (m.row q)) (hN:NCells w da db do' p.dev) (hT:HasT w) :
  Calls Tryz.prog 74 #[.agg #[.int .i64 m.kind,.int .i64 m.inn,.slice (a 0) (many kk n) (d 0),.slice (a 1) (many kk n) (d 1),.slice (a 2) (many kk n) (d 2)],.agg #[.string p.name,.slice da n dc,.int .i64 p.l0,.int .i64 p.l1,.int .i64 p.l2]] w fun e w'=>ResAs w m p kk e w':=by
 have hkl:kk=1\/kk=2\/kk=3:=by have:=hM.kind.2;omega
 have hNb:=many_le9 hM.kind.2 hM.inn.2.1 hM.inn.2.2 hM.both;have h3:kk=3->p.dev.length<=3:=fun e=>by have h3:=hM.both;have h4:=hM.inn.2.2;omega
 have hTS:=qlc (kind:=kk) (d:=p.dev) hkl hp.vals h3 (by rw [hn];omega);rw [hn] at hTS;have hts:qbX (many kk n+1) (more (many kk n) (termQ kk p.dev) 1):=qhE (fun i hi=>qe8 hkl hp.vals (by rw [hn];exact hM.inn.2.2) h3 _ (qdL (by rw [hn];exact hi))) qjG;have htp:∀i,i<many kk n+1->0<=more (many kk n) (termQ kk p.dev) 1 i:=fun i hi=>by
  unfold more;split
  ·exact (qgr hkl hp.vals h3 _ (qdL (by rw [hn];assumption))).2
  ·decide +kernel
 have hlb:∀c,(p.lab c).natAbs<=12800:=fun c=>by
  have:=hp.l0;have:=hp.l1;have:=hp.l2;unfold Pt.lab;(repeat' split) <;> omega
 have hrs:∀c,c<3->qbX (many kk n+1) (more (many kk n) (lval (m.row c)) (((-(p.lab c):Int):Rat) / ((100:Int):Rat))):=fun c hc=>by
  refine qhE ?_ (qdx (by decide) (by have:=hlb c;omega) (by decide));have:=(hM.rows c hc).2.short;rw [(hM.rows c hc).1] at this;exact this
 have hdot:∀c,(sumQ (many kk n+1) fun j=>more (many kk n) (termQ kk p.dev) 1 j*more (many kk n) (lval (m.row c)) (((-(p.lab c):Int):Rat) / ((100:Int):Rat)) j)=resq m p kk c:=fun c=>by
  rw [dot_more];unfold resq;rw [hn]
 have hrow:∀c,c<3->m.row c=told (many kk n) (lval (m.row c)):=fun c hc=>by rw [<-(hM.rows c hc).1];exact (hM.rows c hc).2.eq_told
 have hlab:∀c,c<3->p.lab c=if c=0 then p.l0 else if c=1 then p.l1 else p.l2:=fun _ _=>rfl
 obtain⟨lb,hlbe⟩:∃lb:Nat->Int,∀c,p.lab c=lb c:=⟨p.lab,fun _=>rfl⟩;have q0:p.l0=lb 0:=hlbe 0;have q1:p.l1=lb 1:=hlbe 1;have q2:p.l2=lb 2:=hlbe 2;obtain⟨kind,hkind⟩:∃z,m.kind=z:=⟨_,rfl⟩;obtain⟨inn,hinn⟩:∃z,m.inn=z:=⟨_,rfl⟩;obtain⟨nm,hnm⟩:∃z,p.name=z:=⟨_,rfl⟩;obtain⟨N,hNN⟩:∃N,many kk n=N:=⟨_,rfl⟩;have hrsl:∀c,c<3->qbX (N+1) (more N (lval (m.row c)) (((-(lb c):Int):Rat) / ((100:Int):Rat))):=fun c hc=>by rw [<-hlbe,<-hNN];exact hrs c hc
 have hdotl:∀c,(sumQ (N+1) fun j=>more N (termQ kk p.dev) 1 j*more N (lval (m.row c)) (((-(lb c):Int):Rat) / ((100:Int):Rat)) j)=resq m p kk c:=fun c=>by rw [<-hlbe,<-hNN];exact hdot c
 have hlbl:∀c,(lb c).natAbs<=12800:=fun c=>by rw [<-hlbe];exact hlb c
 rw [hNN] at hNb hTS hts htp hrow;rw [q0,q1,q2,hkind,hinn,hnm,hNN];obtain⟨W3,hW3,N3⟩:=nw3 w #[.int .i64 kind,.int .i64 inn,.slice (a 0) N (d 0),.slice (a 1) N (d 1),.slice (a 2) N (d 2)] 38 #[.string nm,.slice da n dc,.int .i64 (lb 0),.int .i64 (lb 1),.int .i64 (lb 2)] 55 #[.string ⟨#[]⟩,.string ⟨#[]⟩,.string ⟨#[]⟩,.string ⟨#[]⟩,.string ⟨#[]⟩,.string ⟨#[]⟩] 65;have K3:=N3.also (q:=fun W=>HasT W/\(FCells W (a 0) (b' 0) (o 0) (m.row 0)/\FCells W (a 1) (b' 1) (o 1) (m.row 1)/\FCells W (a 2) (b' 2) (o 2) (m.row 2))) ⟨hT.below N3.out.1,(hF 0 (by decide)).below N3.out.1,(hF 1 (by decide)).below N3.out.1,(hF 2 (by decide)).below N3.out.1⟩;have HTm:=qH (qeF kind kk (by rw [<-hkind];exact hM.kind) da db do' n dc p.dev W3 hn hM.inn.2.1 hM.inn.2.2 (fun e=>by have:=h3 e;omega) (hN.below N3.out.1) hp.vals (hT.below N3.out.1));have htt:(termL kk p.dev).map ftxt=told N (termQ kk p.dev):=by rw [<-hNN,<-hn];exact (qd7 kk p.dev).symm
 have htl:((termL kk p.dev).map ftxt).length=N:=by rw [qax,qd6,hn,hNN]
 have HX:=qH (qA hTS (qA hts (qA htp (qA hrsl (qA hdotl (qA hlbl (qA hrow (qA hNb (qA htt htl)))))))));have c0:=qC _ _ 0 _ _ _ N3.out.2.1;have c1:=qC _ _ 1 _ _ _ N3.out.2.2.1;have hn4:(N:Int)<=9:=by have:=hNb.2;omega
 have hn4':N<=9:=hNb.2;clear N3 hM hp hn hF hN hT hkl hNb h3 hTS hts htp hlb hrs hdot hrow hlab hlbe q0 q1 q2 hkind hinn hnm hNN hrsl hdotl hlbl htt htl;go_enter Tryz.func74,Tryz.ntmps74;go_upto_region 1 with fail;rw [<-hW3];clear hW3;go_wp2_with fail;refine HTm.out.mono ?_;rintro e w4 ⟨v,rfl,hv,hb4⟩;have K4:=(K3.below hb4).also (q:=fun W=>Rws W W3.heap.size 44 2 v N (fflat (told N (termQ kk p.dev)))/\Below W3.heap.size W3 W) ⟨by unfold FOwn at hv;rw [HX.out.2.2.2.2.2.2.2.2.2,HX.out.2.2.2.2.2.2.2.2.1] at hv;exact hv,hb4⟩;obtain⟨va,vc,rfl⟩:=K4.out.2.1.shape;clear hv hb4 HTm c0 c1;go_wp2_with fail;obtain⟨o1,o2,ho⟩:=qb5 1;have hOf:=of_int 1 1 (by decide) (by decide) (by decide) w4 K4.out.1.2.1;rw [show ((1:Int):Rat) / ((1:Int):Rat)=1 by decide +kernel,ho] at hOf;have Ho:=qH ho;clear ho;refine hOf.mono ?_;rintro e w5 ⟨rfl,hb5⟩;have K5:=K4.below hb5;clear hb5 K4 hOf;go_wp2_with fail;refine (qct o1 o2 w5).mono ?_;rintro e w6 ⟨rfl,hb6⟩;have K6:=K5.below hb6;clear hb6 K5;have HOw:=qH (qA K6.out.2.1 K6.out.2.2)
 go_wp2_with (first | (at_builtin;refine qer rfl _ _ rfl HOw.out.2 rfl HOw.out.1 rfl rfl rfl (by omega) ?_;intro v' w' ho' hb') | fail)
 have K7:=K3.below hb'.out;obtain⟨ta,tg,tc,rfl,hTF,_⟩:=qdl ho'.out (by rw [qae,qbV];rfl);rw [<-Ho.out,<-qi7] at hTF;have HTF:=qH hTF;obtain⟨W8,hW8,N8⟩:=nw1 w' #[.string ⟨#[]⟩,.string ⟨#[]⟩,.string ⟨#[]⟩,.string ⟨#[]⟩,.string ⟨#[]⟩,.string ⟨#[]⟩] 65;have har:ARow W8 w'.heap.size []:=⟨N8.out.2,by decide⟩;have H0:=qH (qA har N8.out.1);clear har N8 hTF ho' hb' K6 HOw K3;go_wp2_with fail;rw [<-hW8];clear hW8;obtain⟨M,hM⟩:∃M,M=w'.heap.size:=⟨_,rfl⟩;rw [<-hM] at H0 ⊢;have HMM:=qH hM;clear hM
 go_loopw [20] (fun x20 W=>∃j:Nat,x20=.int .i64 j/\j<=3/\Hid (∃l:List FT,l.length=j/\(∀q,q<j->Short (resq m p kk q)/\l.getD q fd0=ftxt (resq m p kk q))/\ARow W M l/\Below w'.heap.size w' W)) (fun x20 _=>3-(intOf x20).toNat)
 case atStart=>exact⟨0,rfl,qal _,qH ⟨[],rfl,fun q hq=>absurd hq (qbM _),H0.out.1,HMM.out▸H0.out.2⟩⟩
 case round =>
  obtain⟨j,rfl,hj,hI⟩:=hrel;obtain⟨l,hll,hlv,hA,hB⟩:=hI.out
  by_cases hj3:j<3
  ·have hji:(j:Int)<3:=by omega
   have K9:=K7.below hB;have d0:wr.cell? ⟨w.heap.size,2+j,none⟩=some (.slice (a j) N (d j)):=by
    rcases (show j=0\/j=1\/j=2 by omega) with rfl | rfl | rfl
    ·exact qC _ _ 2 _ _ _ K9.out.1.2.1
    ·exact qC _ _ 3 _ _ _ K9.out.1.2.1
    ·exact qC _ _ 4 _ _ _ K9.out.1.2.1
   have hFj:FCells wr (a j) (b' j) (o j) (m.row j):=by
    rcases (show j=0\/j=1\/j=2 by omega) with rfl | rfl | rfl
    ·exact K9.out.2.2.1
    ·exact K9.out.2.2.2.1
    ·exact K9.out.2.2.2.2
   rw [HX.out.2.2.2.2.2.2.1 j hj3] at hFj;obtain⟨aj,haj⟩:∃z,a j=z:=⟨_,rfl⟩;obtain⟨dj,hdj⟩:∃z,d j=z:=⟨_,rfl⟩;rw [haj,hdj] at d0;rw [haj] at hFj;obtain⟨lj,hlj⟩:∃z,lb j=z:=⟨_,rfl⟩;have hlj1:-12800<=lj:=by have:=HX.out.2.2.2.2.2.1 j;omega
   have hlj2:lj<=12800:=by have:=HX.out.2.2.2.2.2.1 j;omega
   have hzb:Below wr.heap.size wr (wr.alloc (.cells #[] 44)):=qB.alloc qN _;replace d0:=(hzb.cell (qac wr _ d0)).trans d0;have hown0:Rws (wr.alloc (.cells #[] 44)) wr.heap.size 44 2 (.slice (some ⟨wr.heap.size,0,none⟩) 0 0) 0 (fflat []) :=
    ⟨rfl,qah ⟨wr.heap.size,0,#[],rfl,qad _,qM _ _ _ rfl,qad _,qal _,rfl,rfl,fun x hx=>by simp at hx⟩⟩
   have hrf:=qfz 35 hown0 (c:=dj) (m:=N) (by simp only [qab];omega) (hFj.below hzb) (qbV _ _) (by have:=HX.out.2.2.2.2.2.2.2.1.1;omega) (by omega);rw [qaI,qbi] at hrf;obtain⟨v7,w7,hr,own7,hk7⟩:=hrf;have hb7:Below wr.heap.size wr w7:=qdA hzb (fun k hk=>by have:wr.heap.size=k:=qai hk;omega) (by simp only [qab];omega) hk7;obtain⟨a7,c7,rfl⟩:=own7.shape;have K10:=(K9.below hb7).also (q:=fun W=>Rws W wr.heap.size 44 2 (.slice a7 N c7) N (fflat (told N (lval (m.row j))))) own7;have l0:w7.cell? ⟨w.heap.size+1,2+j,none⟩=some (.int .i64 lj):=by
    rw [<-hlj];rcases (show j=0\/j=1\/j=2 by omega) with rfl | rfl | rfl
    ·exact qC _ _ 2 _ _ _ K10.out.1.1.2.2.1
    ·exact qC _ _ 3 _ _ _ K10.out.1.1.2.2.1
    ·exact qC _ _ 4 _ _ _ K10.out.1.1.2.2.1
   have HI:=qH (qA hll (qA hlv (qA hA (qA hB hb7))));have HL:=qH hlj;clear hI hll hlv hA hB K9 hFj haj hdj hlj hown0 own7 hk7 hzb hb7
   go_wp2_with ((with_reducible refine qdp rfl (.tmp 23) (.tmp 27) 35 rfl ?_ ?_ hr ?_);(next=>rfl);(next=>rfl))
   clear hr d0;go_wp2_with fail;obtain⟨y1,y2,hy⟩:=qb5 (((-lj:Int):Rat) / ((100:Int):Rat));have hOf:=of_int (-lj) 100 (by decide) (by omega) (by decide) w7 K10.out.1.2.1;rw [hy] at hOf;have Hy:=qH hy;clear hy;refine hOf.mono ?_;rintro e w8 ⟨rfl,hb8⟩;have K11:=K10.below hb8;have HB8:=qH (HI.out.2.2.2.2.trans (hb8.mono HI.out.2.2.2.2.size));clear hb8 K10 hOf l0;go_wp2_with fail;refine (qct y1 y2 w8).mono ?_;rintro e w9 ⟨rfl,hb9⟩;have K12:=K11.below hb9;have HB9:=qH (HB8.out.trans (hb9.mono HB8.out.size));clear hb9 K11 HB8;have HOw:=qH K12.out.2
   go_wp2_with (first | (at_builtin;refine qer rfl _ _ rfl HB9.out rfl HOw.out rfl rfl rfl (by omega) ?_;intro v10 w10 ho10 hb10) | fail)
   obtain⟨xa,xg,xc,rfl,hXF,_⟩:=qdl ho10.out (by rw [qae,qbV];rfl);rw [<-Hy.out,<-qi7,<-HL.out] at hXF;have HBw:=qH (HI.out.2.2.2.1.trans (hb10.out.mono HI.out.2.2.2.1.size));have K13:=K7.below HBw.out;have HC:=qH (qiq (N+1) tg tc xg 0 xc ta xa (more N (termQ kk p.dev) 1) (more N (lval (m.row j)) (((-(lb j):Int):Rat) / ((100:Int):Rat))) w10 (by omega) (by omega) HX.out.2.1 HX.out.2.2.1 (HX.out.2.2.2.1 j hj3) HX.out.1.2.1 HX.out.1.1 HX.out.1.2.2 (HTF.out.below HBw.out) hXF K13.out.2.1);rw [HX.out.2.2.2.2.1 j] at HC;have HAr:=qH (HI.out.2.2.1.below (hb10.out));have HB0:=qH (K7.out.1.1.trans (HBw.out.mono K7.out.1.1.size));clear hXF ho10 hb10 K12 HOw;go_wp2_with fail;refine HC.out.mono ?_;rintro e w11 ⟨hb11,h⟩;have HB11:=qH hb11;clear hb11 HC;rcases h with ⟨hs,rfl⟩ | ⟨hs,rfl⟩
   ·obtain⟨z1,z2,hz⟩:=qb5 (resq m p kk j);rw [hz];have hAc:=HAr.out.below HB11.out;obtain⟨⟨z00,z01⟩,zf⟩:=hAc.at (by rw [HI.out.1];exact hj3);have hset:=hAc.set (by rw [HI.out.1];exact hj3) (z1,z2);rw [HI.out.1] at z00 z01 hset;have zf0:=zf (j*2);have zf1:=zf (j*2+1);have HN:=qH (qA hset (qA (((HBw.out.trans (HB11.out.mono HBw.out.size)).setCell (p:=⟨M,j*2,none⟩) (by rw [HMM.out];exact qad _) (.string z1)).setCell (p:=⟨M,j*2+1,none⟩) (by rw [HMM.out];exact qad _) (.string z2)) (qA hs hz)));clear hAc zf hset hs hz;go_wp2;go_roundw
    case rel =>
     refine⟨j+1,by go_num,hj3,qH ⟨l++[(z1,z2)],by simp [HI.out.1],fun q hq=>?_,HN.out.1,HN.out.2.1⟩⟩;rcases qaH q j with h | h
     ·rw [qaa,qas (by rw [HI.out.1];exact h),<-qaa];exact HI.out.2.1 q h
     ·obtain rfl:q=j:=by omega
      rw [qaa,qap (by rw [HI.out.1];exact qad _),HI.out.1,qaF];exact⟨HN.out.2.2.1,HN.out.2.2.2.symm⟩
    case measure=>simp [intOf];omega
   ·have HS:=qH hs;clear hs;unfold thrown;go_wp2_with fail;exact⟨rfl,HB0.out.trans (HB11.out.mono HB0.out.size),qah ⟨rfl,fun h=>HS.out (h j hj3)⟩⟩
  ·obtain rfl:j=3:=by omega
   obtain⟨p0,p1,p2,rfl⟩:∃p0 p1 p2,l=[p0,p1,p2]:=by
    rcases l with _ | ⟨s0,_ | ⟨s1,_ | ⟨s2,_ | ⟨s3,vs⟩⟩⟩⟩ <;> simp at hll
    exact⟨s0,s1,s2,rfl⟩
   have v0:=hlv 0 (by decide);have v1:=hlv 1 (by decide);have v2:=hlv 2 (by decide);obtain⟨x0,x1⟩:=p0;obtain⟨x2,x3⟩:=p1;obtain⟨x4,x5⟩:=p2;have hM:wr.heap[M]? = some (.cells #[.string x0,.string x1,.string x2,.string x3,.string x4,.string x5] 65 (0,0)):=hA.1;have y0:=qC _ _ 0 _ _ _ hM;have y1:=qC _ _ 1 _ _ _ hM;have y2:=qC _ _ 2 _ _ _ hM;have y3:=qC _ _ 3 _ _ _ hM;have y4:=qC _ _ 4 _ _ _ hM;have y5:=qC _ _ 5 _ _ _ hM;have K9:=K7.below hB;have HV:=qH (qA v0 (qA v1 v2));have Hr:=qH K9.out.1.2.2.2;have HE:=qH (qA (qT _ _ _ #[.string x0,.string x1,.string x2,.string x3,.string x4,.string x5] _ _ Hr.out) (qS K9.out.1.1 (show w.heap.size<=w.heap.size+1+1 by omega) #[.string x0,.string x1,.string x2,.string x3,.string x4,.string x5]));clear hI hll hlv hA hB v0 v1 v2 hM K9
   go_wp2_with ((with_reducible refine sR_ rfl 65 _ _ rfl ((w.heap.size+1+1)) #[.string x0,.string x1,.string x2,.string x3,.string x4,.string x5] Hr.out 6 ?_))
   refine qR (v:=.agg #[.string x0,.string x1,.string x2,.string x3,.string x4,.string x5]) (rA_ rfl ((w.heap.size+1+1)) HE.out.1 Tryz.underlying65 6) rfl ?_;obtain⟨⟨g0,e0⟩,⟨g1,e1⟩,g2,e2⟩:=HV.out;have e0:(x0,x1)=_:=e0;have e1:(x2,x3)=_:=e1;have e2:(x4,x5)=_:=e2;refine⟨HE.out.2,qan ⟨x0,x1,x2,x3,x4,x5,rfl,fun q hq=>?_,e0,e1,e2⟩⟩;rcases (show q=0\/q=1\/q=2 by omega) with rfl | rfl | rfl
   ·exact g0
   ·exact g1
   ·exact g2
theorem qmJ (i kk R pb mb b off c:Nat) (ao:Option Addr) (l:List Pt) (m:Md) (ty:TypeId) (w:World) (hR:l.length=R) (hi:i<R) (hok:PtsOk l) (hM:MdOk m kk (chans l)) (hpb:w.heap[pb]? = some (.cells #[.slice ao R c] ty (0,0))) (hmb:MBox w mb m (many kk (chans l))) (hP:PCells w ao b off l) (hT:HasT w) :
  Calls Tryz.prog 73 #[.int .i64 (i:Int),.pointer (some ⟨mb,0,none⟩),.pointer (some ⟨pb,0,none⟩)] w fun e w'=>ResAs w m (l.getD i pt0) kk e w':=by
 have hao:=hP.addr (by omega);subst hao;have hii:(i:Int)<R:=by omega
 have hR4:R<=40:=by have:=hok.r2;omega
 obtain⟨hp,hch⟩:=hok.rows i (by omega);obtain⟨a,b',o,d,hmr,hF⟩:=hmb;obtain⟨e0,⟨ra,rb,ro,rc,e1,hN⟩,e2,e3,e4⟩:=hP.cell i (by omega);rw [hch] at e1;obtain⟨p,hpe⟩:∃p,l.getD i pt0=p:=⟨_,rfl⟩;rw [hpe] at hp hch e0 e2 e3 e4 hN ⊢;obtain⟨N,hNN⟩:∃N,many kk (chans l)=N:=⟨_,rfl⟩;obtain⟨n,hn⟩:∃n,chans l=n:=⟨_,rfl⟩;rw [hn] at hM hch e1 hNN hmr;rw [hNN] at hmr;obtain⟨W1,hW1,N1⟩:=nw1 w #[.string ⟨#[]⟩,.string ⟨#[]⟩,.string ⟨#[]⟩,.string ⟨#[]⟩,.string ⟨#[]⟩,.string ⟨#[]⟩] 65;have hb:=N1.out.1;have HRs:=qH (qiV m kk n p a b' o d ra rb ro rc W1.drew hM hp hch (fun q hq=>((hF q hq).below hb).below qB.drew) ((hN.below hb).below qB.drew) ((hT.below hb).below qB.drew));rw [hNN] at HRs;have K1:=N1.also (q:=fun W=>W.heap[mb]? = some (.cells #[.int .i64 m.kind,.int .i64 m.inn,.slice (a 0) N (d 0),.slice (a 1) N (d 1),.slice (a 2) N (d 2)] 38 (0,0))/\W.heap[pb]? = some (.cells #[.slice (some ⟨b,off,none⟩) R c] ty (0,0))) ⟨zkeep hb _ _ hmr,zkeep hb _ _ hpb⟩;have lm:=(qG hmr).1;have lp:=(qG hpb).1;have m0:=rowG (g0:=w.heap.size) K1.out.2.1 0;have m1:=rowG (g0:=w.heap.size) K1.out.2.1 1;have m2:=rowG (g0:=w.heap.size) K1.out.2.1 2;have m3:=rowG (g0:=w.heap.size) K1.out.2.1 3;have m4:=rowG (g0:=w.heap.size) K1.out.2.1 4;have p0:=rowG (g0:=w.heap.size) K1.out.2.2 0;have lift:∀{x:Addr} {v:Value},w.cell? x=some v->∀W,W1.grownBy W (some w.heap.size)->W.cell? x=some v:=fun {x v} hx W h=>by
  have hl:=qac w _ hx;exact h.cell ((hb.cell hl).trans hx) (fun e=>absurd (qai e) (by omega))
 have g0:=lift e0;have g1:=lift e1;have g2:=lift e2;have g3:=lift e3;have g4:=lift e4;clear hN hmr hpb hP hT hF hM hp hch hok e0 e1 e2 e3 e4 lift hb N1 hR hpe hn hNN;go_enter Tryz.func73,Tryz.ntmps73;go_upto_region 1 with fail;rw [<-hW1];clear hW1;refine wp_region_held_drew (S:=fun W=>W1.grownBy W (some w.heap.size)) (by kernel_rfl) (keepB qB.drew) (fun hS0=>?_);refine hT 0 (h:=hT 1 (h:=hT 2 (h:=hT 3 (h:=?_))));refine hT 4 (h:=?_);refine hCx 5 HRs.out (h:=?_);rintro e w2 ⟨hb2,h | h⟩
 ·obtain⟨x0,x1,y0,y1,z0,z1,rfl,hs⟩:=h;have HB:=qH (qb0 hb2);have HS:=qH hs;have K2:=K1.below HB.out;clear hb2 hs;refine qan ⟨_,rfl,keepB HB.out,hN (h:=?_)⟩;have hrow:=K2.out.1.2;have HE:=qH (qA (qT _ _ _ #[.string x0,.string x1,.string y0,.string y1,.string z0,.string z1] _ _ hrow) (qS K2.out.1.1 (qad w.heap.size) #[.string x0,.string x1,.string y0,.string y1,.string z0,.string z1]));refine hSt 6 6 hrow (h:=⟨qbS (keepB HB.out) (qci _ _ _),?_⟩);clear hrow;go_wp2_with fail;exact qR (v:=.agg #[.string x0,.string x1,.string y0,.string y1,.string z0,.string z1]) (rA_ rfl (w.heap.size) HE.out.1 Tryz.underlying65 6) rfl ⟨HE.out.2,qan ⟨x0,x1,y0,y1,z0,z1,rfl,HS.out⟩⟩
 ·obtain⟨rfl,hs⟩:=h;have HB:=qH (qb0 hb2);have HS:=qH hs;have K2:=K1.below HB.out;clear hb2 hs;refine qah ⟨_,rfl,?_⟩;go_wp2_with fail;exact⟨rfl,K2.out.1.1,qah ⟨rfl,HS.out⟩⟩
def resA (m:Md) (l:List Pt) (kk j:Nat):Rat:=resq m (l.getD (j / 3) pt0) kk (j % 3)
def RsG (m:Md) (l:List Pt) (W:World) (v:Value):Prop:=PtsOk l/\∃kk,MdOk m kk (chans l)/\qbX (l.length*3) (resA m l kk)/\∃g,v=.slice (some ⟨g,0,none⟩) l.length l.length/\FCells W (some ⟨g,0,none⟩) g 0 (told (l.length*3) (resA m l kk))
def RsF (m:Md) (l:List Pt) (e:Int):Prop :=
 (¬qc9 m/\e=320)\/(qc9 m/\¬PtsOk l/\e=310)\/(qc9 m/\PtsOk l/\m.inn≠(chans l:Nat)/\e=5) \/
 (PtsOk l/\e=6/\∃kk,MdOk m kk (chans l)/\¬qbX (l.length*3) (resA m l kk))
theorem qgV (m:Md) (l:List Pt) (kk i c:Nat) (hc:c<3):resA m l kk (i*3+c)=resq m (l.getD i pt0) kk c:=by
 unfold resA;rw [show (i*3+c) / 3=i by omega,show (i*3+c) % 3=c by omega]
theorem qmK {m:Md} {l:List Pt} {kk R:Nat} {q:List FT} (hq:q.length=R*3) (h:∀i,i<R->q.getD (i*3) fd0=ftxt (resq m (l.getD i pt0) kk 0)/\q.getD (i*3+1) fd0=ftxt (resq m (l.getD i pt0) kk 1)/\q.getD (i*3+2) fd0=ftxt (resq m (l.getD i pt0) kk 2)):q=told (R*3) (resA m l kk):=by
 refine qhc hq fun j hj=>?_
 obtain⟨h0,h1,h2⟩:=h (j / 3) (by omega);rcases (show j=j / 3*3\/j=j / 3*3+1\/j=j / 3*3+2 by omega) with e | e | e
 ·have:=qgV m l kk (j / 3) 0 (by decide);rw [qbg,<-e] at this;rw [this,<-h0,<-e]
 ·have:=qgV m l kk (j / 3) 1 (by decide);rw [<-e] at this;rw [this,<-h1,<-e]
 ·have:=qgV m l kk (j / 3) 2 (by decide);rw [<-e] at this;rw [this,<-h2,<-e]
theorem res1_any (m:Md) (R pb mb b off c:Nat) (ao:Option Addr) (l:List Pt) (a:Nat->Option Addr) (b' o d:Nat->Nat) (ty:TypeId) (w:World) (hR:l.length=R) (hl:R<=4611686018427387904) (hs:∀k,k<R->(l.getD k pt0).name.size<=4611686018427387904/\(l.getD k pt0).dev.length<=4611686018427387904) (hml:∀q,q<3->(m.row q).length<=4611686018427387904)
  (hpb:w.heap[pb]? = some (.cells #[.slice ao R c] ty (0,0))) (hmb:w.heap[mb]? = some (.cells #[.int .i64 m.kind,.int .i64 m.inn,.slice (a 0) (m.row 0).length (d 0),.slice (a 1) (m.row 1).length (d 1),.slice (a 2) (m.row 2).length (d 2)] 38 (0,0))) (hF:∀q,q<3->FCells w (a q) (b' q) (o q) (m.row q))
  (hP:PCells w ao b off l) (hT:HasT w) :
  Calls Tryz.prog 70 #[.pointer (some ⟨mb,0,none⟩),.pointer (some ⟨pb,0,none⟩)] w fun e w'=>Below w.heap.size w w' /\
   ((∃(p:Option Addr) (n c:Nat),e=.returned (.slice p n c)/\RsG m l w' (.slice p n c))\/∃c,e=thrown c/\RsF m l c):=by
 have hM:MdAt w (.agg #[.int .i64 m.kind,.int .i64 m.inn,.slice (a 0) (m.row 0).length (d 0),.slice (a 1) (m.row 1).length (d 1),.slice (a 2) (m.row 2).length (d 2)]) m :=
  ⟨_,_,_,_,_,_,_,_,_,_,_,_,rfl,hF 0 (by decide),hF 1 (by decide),hF 2 (by decide)⟩
 have hMt:=qiD m _ R b off c ao l w hM hml hR hl hs hP;obtain⟨kind,hkind⟩:∃z,m.kind=z:=⟨_,rfl⟩;obtain⟨inn,hinn⟩:∃z,m.inn=z:=⟨_,rfl⟩;obtain⟨L,hL⟩:∃L:Nat->Nat,∀q,(m.row q).length=L q:=⟨_,fun _=>rfl⟩;rw [hkind,hinn,hL,hL,hL] at hmb hMt;have HMt:=qH hMt;have c0:=qC _ _ 0 _ _ _ hmb;have c1:=qC _ _ 1 _ _ _ hmb;have c2:=qC _ _ 2 _ _ _ hmb;have c3:=qC _ _ 3 _ _ _ hmb;have c4:=qC _ _ 4 _ _ _ hmb;have p0:=qC _ _ 0 _ _ _ hpb;have K0:Kn (fun W=>Below w.heap.size w W/\W.heap[mb]? = some (.cells #[.int .i64 kind,.int .i64 inn,.slice (a 0) (L 0) (d 0),.slice (a 1) (L 1) (d 1),.slice (a 2) (L 2) (d 2)] 38 (0,0))/\W.heap[pb]? = some (.cells #[.slice ao R c] ty (0,0))/\PCells W ao b off l/\HasT W) w:=.of ⟨Below.refl _ _,hmb,hpb,hP,hT⟩;have HX:=qH (qA hR (qA hkind (qA hinn (qA hL hF))));have hmf:=@hmf_ Tryz.prog;clear hM hMt hpb hmb hF hP hT hR hl hs hml hkind hinn hL;go_enter Tryz.func70,Tryz.ntmps70;go_wp2_with fail;refine HMt.out.mono ?_;rintro e w2 ⟨hb2,h⟩;have K2:=K0.below hb2;clear hb2 HMt c0 c1 c2 c3 c4 p0;rcases h with ⟨h1,rfl⟩ | ⟨h1,h2,rfl⟩ | ⟨h1,h2,h3,rfl⟩ | ⟨h1,h2,h3,rfl⟩
 ·have H:=qH h1;clear h1;unfold thrown;go_wp2_with fail;exact⟨rfl,K2.out.1,qah ⟨320,rfl,qan ⟨H.out,rfl⟩⟩⟩
 ·have H:=qH (qA h1 h2);clear h1 h2;unfold thrown;go_wp2_with fail;exact⟨rfl,K2.out.1,qah ⟨310,rfl,qah (qan ⟨H.out.1,H.out.2,rfl⟩)⟩⟩
 ·have H:=qH (qA h1 (qA h2 h3));clear h1 h2 h3;unfold thrown;go_wp2_with fail;exact⟨rfl,K2.out.1,qah ⟨5,rfl,qah (qah (qan ⟨H.out.1,H.out.2.1,H.out.2.2,rfl⟩))⟩⟩
 obtain⟨kk,hMd⟩:∃kk,MdOk m kk (chans l):=by
  obtain⟨kk,n,h⟩:=h1;have:=h.inn.1;obtain rfl:n=chans l:=by omega
  exact⟨kk,h⟩
 have H:=qH (qA h2 hMd);clear h1 h2 h3 hMd;have hbx:MBox w2 mb m (many kk (chans l)):=by
  have h1:=K2.out.2.1;have hl0:=(H.out.2.rows 0 (by decide)).1;have hl1:=(H.out.2.rows 1 (by decide)).1;have hl2:=(H.out.2.rows 2 (by decide)).1;rw [<-HX.out.2.1,<-HX.out.2.2.1,<-HX.out.2.2.2.1,<-HX.out.2.2.2.1,<-HX.out.2.2.2.1,hl0,hl1,hl2] at h1;exact⟨a,b',o,d,h1,fun q hq=>(HX.out.2.2.2.2 q hq).below K2.out.1⟩
 have hg:GivesA 73 #[.pointer (some ⟨mb,0,none⟩),.pointer (some ⟨pb,0,none⟩)] w2 R (fun i x y z=>(∀c,c<3->Short (resq m (l.getD i pt0) kk c))/\x=ftxt (resq m (l.getD i pt0) kk 0)/\y=ftxt (resq m (l.getD i pt0) kk 1)/\z=ftxt (resq m (l.getD i pt0) kk 2)) (fun i c=>(¬∀c,c<3->Short (resq m (l.getD i pt0) kk c))/\c=6):=by
  intro i hi W hb;refine (qmJ i kk R pb mb b off c ao l m ty W HX.out.1 hi H.out.1 H.out.2 (zkeep hb _ _ K2.out.2.2.1) (hbx.below hb) (K2.out.2.2.2.1.below hb) (K2.out.2.2.2.2.below hb)).mono ?_;rintro e w' ⟨h1,h2⟩;refine⟨h1,?_⟩;rcases h2 with ⟨x0,x1,y0,y1,z0,z1,rfl,h3,h4,h5,h6⟩ | ⟨rfl,h3⟩
  ·exact qan ⟨x0,x1,y0,y1,z0,z1,rfl,h3,h4,h5,h6⟩
  ·exact qah ⟨6,rfl,h3,rfl⟩
 have HG:=qH (qjs 73 #[.pointer (some ⟨mb,0,none⟩),.pointer (some ⟨pb,0,none⟩)] R (by have:=H.out.1.r2;have:=HX.out.1;omega) _ _ w2 (fun a W=>enters Tryz.func73 (by kernel_rfl) (by kernel_rfl) _ W) hg);have p5:=qC _ _ 0 _ _ _ K2.out.2.2.1;clear hbx hg;go_wp2_with fail;refine HG.out.mono ?_;rintro e w6 ⟨hb6,h⟩;have HB6:=qH (K2.out.1.trans (hb6.mono K2.out.1.size));clear hb6;rcases h with ⟨lq,g,h1,h2,rfl,h4,_⟩ | ⟨i,cc,hi,rfl,h3,rfl⟩
 ·have HE:=qH (qA h1 (qA h2 h4));clear h1 h2 h4 HG;go_wp2;go_ret;have hr:=HX.out.1;refine⟨HB6.out,qan ⟨_,_,_,rfl,H.out.1,kk,H.out.2,fun j hj=>?_,g,by rw [hr],?_⟩⟩
  ·exact (HE.out.2.1 (j / 3) (by omega)).1 (j % 3) (qbp _ (by decide))
  ·rw [hr,<-qmK HE.out.1 fun i hi=>(HE.out.2.1 i hi).2];exact HE.out.2.2
 ·have HE:=qH (qA hi h3);clear hi h3 HG;unfold thrown;go_wp2_with fail;refine⟨rfl,HB6.out,qah ⟨6,rfl,qah (qah (qah ⟨H.out.1,rfl,kk,H.out.2,fun h=>HE.out.2 fun c hc=>?_⟩))⟩⟩;have:=h (i*3+c) (by have:=HX.out.1;have:=HE.out.1;omega)
  rwa [qgV m l kk i c hc] at this
theorem RsG.kept {m:Md} {l:List Pt} {W W':World} {v:Value} (hk:∀a s,W.cell? a=some (.string s)->W'.cell? a=some (.string s)) (h:RsG m l W v):RsG m l W' v:=by
 obtain⟨h1,kk,h2,h3,g,h4,h5⟩:=h;exact⟨h1,kk,h2,h3,g,h4,h5.kept hk⟩
def RsAs (w:World) (m:Md) (l:List Pt) (e:Ending) (w':World):Prop :=
 Below w.heap.size w w'/\((∃v,e=.returned (.tuple #[v,.int .i64 0])/\RsG m l w' v)\/∃c,e=.returned (.tuple #[.slice none 0 0,.int .i64 c])/\RsF m l c)
theorem qh2 (m:Md) (v:Value) (R b off c:Nat) (ao:Option Addr) (l:List Pt) (w:World) (hM:MdAt w v m) (hR:l.length=R) (hl:R<=4611686018427387904) (hs:∀k,k<R->(l.getD k pt0).name.size<=4611686018427387904/\(l.getD k pt0).dev.length<=4611686018427387904) (hml:∀q,q<3->(m.row q).length<=4611686018427387904) (hP:PCells w ao b off l) (hT:HasT w) :
  Calls Tryz.prog 21 #[v,.slice ao R c] w fun e w'=>RsAs w m l e w':=by
 obtain⟨a,b',o,d,rfl,hF⟩:=hM.parts;obtain⟨W2,hW2,K2⟩:=nw2 w #[.int .i64 m.kind,.int .i64 m.inn,.slice (a 0) (m.row 0).length (d 0),.slice (a 1) (m.row 1).length (d 1),.slice (a 2) (m.row 2).length (d 2)] 38 #[.slice ao R c] 30;have hmf:=@hmf_ Tryz.prog;have HG:=qH (qig 70 #[.pointer (some ⟨w.heap.size,0,none⟩),.pointer (some ⟨w.heap.size+1,0,none⟩)] (RsG m l) (RsF m l) W2 (fun W=>enters Tryz.func70 (by kernel_rfl) (by kernel_rfl) _ W)
  (fun W W' v hk h=>h.kept hk)
  (fun w1 hb=>res1_any m R (w.heap.size+1) w.heap.size b off c ao l a b' o d _ w1 hR hl hs hml (zkeep hb _ _ K2.out.2.2) (zkeep hb _ _ K2.out.2.1) (fun q hq=>(hF q hq).below (K2.out.1.trans (hb.mono K2.out.1.size))) (hP.below (K2.out.1.trans (hb.mono K2.out.1.size))) (hT.below (K2.out.1.trans (hb.mono K2.out.1.size)))))
 have HB:=qH K2.out.1;clear hM hR hl hs hml hP hT hF K2;go_enter Tryz.func21,Tryz.ntmps21;go_upto_region 1 with fail;rw [<-hW2];clear hW2;go_wp2_with fail;refine HG.out.mono ?_;rintro e w5 ⟨hb5,h⟩;have HB5:=qH (HB.out.trans (hb5.mono HB.out.size));clear hb5 HG;rcases h with ⟨p,n,c',rfl,hg⟩ | ⟨cc,rfl,hf⟩
 ·have HE:=qH hg;clear hg;go_wp2_with fail
  go_ret2
  exact⟨HB5.out,qan ⟨_,rfl,HE.out⟩⟩
 ·have HE:=qH hf;clear hf;go_wp2_with fail
  go_ret2
  exact⟨HB5.out,qah ⟨cc,rfl,HE.out⟩⟩
open Go.Lib
theorem num_d2 {u:Nat} (h1:10<=u) (h2:u<100):num u=⟨#[UInt8.ofNat (48+u / 10),UInt8.ofNat (48+u % 10)]⟩:=by
 unfold num;rw [qb4 h1,qbW (by omega)];rfl
theorem qiL {u:Nat} (h1:100<=u) (h2:u<1000):num u=⟨#[UInt8.ofNat (48+u / 10 / 10),UInt8.ofNat (48+u / 10 % 10),UInt8.ofNat (48+u % 10)]⟩:=by
 unfold num;rw [qb4 (by omega),qb4 (by omega),qbW (by omega)];rfl
theorem ft_of {q:Rat} (z d:Nat) (hz:q.num=z) (hd:q.den=d):ftxt q=(num z,num d):=by
 unfold ftxt;rw [hz,hd,frac.qeU (by omega),qao]
theorem ft_14:ftxt (1 / 4)=(⟨#[49]⟩,⟨#[52]⟩):=qgh 1 4 (by decide +kernel) (by decide +kernel) (by decide) (by decide)
theorem ft_103:ftxt (10 / 3)=(⟨#[49,48]⟩,⟨#[51]⟩):=by rw [ft_of 10 3 (by decide +kernel) (by decide +kernel),num_d2 (by decide) (by decide),qes (by decide)];rfl
theorem ft_100:ftxt 100=(⟨#[49,48,48]⟩,⟨#[49]⟩):=by rw [ft_of 100 1 (by decide +kernel) (by decide +kernel),qiL (by decide) (by decide),qes (by decide)];rfl
theorem ft_140:ftxt 140=(⟨#[49,52,48]⟩,⟨#[49]⟩):=by rw [ft_of 140 1 (by decide +kernel) (by decide +kernel),qiL (by decide) (by decide),qes (by decide)];rfl
theorem ft_1009:ftxt (100 / 9)=(⟨#[49,48,48]⟩,⟨#[57]⟩):=by rw [ft_of 100 9 (by decide +kernel) (by decide +kernel),qiL (by decide) (by decide),qes (by decide)];rfl
theorem ft_4009:ftxt (400 / 9)=(⟨#[52,48,48]⟩,⟨#[57]⟩):=by rw [ft_of 400 9 (by decide +kernel) (by decide +kernel),qiL (by decide) (by decide),qes (by decide)];rfl
theorem qlP:ftxt (160 / 3)=(⟨#[49,54,48]⟩,⟨#[51]⟩):=by rw [ft_of 160 3 (by decide +kernel) (by decide +kernel),qiL (by decide) (by decide),qes (by decide)];rfl
theorem ft_m40:ftxt (-40)=(⟨#[45,52,48]⟩,⟨#[49]⟩):=by
 unfold ftxt;rw [show ((-40:Rat)).num = -40 by decide +kernel,show ((-40:Rat)).den=1 by decide +kernel,frac.qgt (by decide),show ((-40:Int)).natAbs=40 from rfl,num_d2 (by decide) (by decide),qes (by decide)]
 rfl
theorem qfk (W:World) (ws:List Int):NCells (W.alloc (.cells (ws.map fun z=>Value.int .i64 z).toArray 3)) (some ⟨W.heap.size,0,none⟩) W.heap.size 0 ws:=by
 have:=qfl (q:=ws) (qM W (.cells (ws.map fun z=>Value.int .i64 z).toArray 3) _ rfl) 0
 rwa [List.drop_zero] at this
theorem alloc_old (W:World) (o:Obj):Below W.heap.size W (W.alloc o):=qbQ qB qN
theorem qi6 (W:World) (kind:Int) (k:Nat) (dv:List Int) (n:Nat) (hn:dv.length=n) (hk:qcv kind k) (h1:1<=n) (h4:n<=4) (h3:¬(k=3/\n=4)) (hV:qcB dv) (hT:HasT W) :
  Calls Tryz.prog 25 #[.int .i64 kind,.slice (some ⟨W.heap.size,0,none⟩) n n] (W.alloc (.cells (dv.map fun z=>Value.int .i64 z).toArray 3)) fun e w'=>∃(p:Option Addr) (g c:Nat),e=.returned (.tuple #[.slice p (many k n) c,.int .i64 0])/\FCells w' p g 0 ((termL k dv).map ftxt)/\Below W.heap.size W w':=by
 subst hn;refine (qfU kind W.heap.size 0 dv.length dv.length (some ⟨W.heap.size,0,none⟩) dv _ rfl (by omega) (qfk W dv) (hT.below (alloc_old _ _))).mono ?_;rintro e w' ⟨hb,⟨v,rfl,_,_,_,k',hk',_,p,g,c,rfl,hF⟩ | ⟨c,rfl,h⟩⟩
 ·obtain rfl:=hk.uniq hk';exact⟨p,g,c,rfl,hF,qdc hb⟩
 ·exfalso;rcases h with ⟨h,_⟩ | ⟨_,⟨h,_⟩ | ⟨_,h,h',_⟩⟩
  ·exact h ⟨⟨k,hk⟩,h1,h4⟩
  ·exact h hV
  ·exact h3 ⟨hk.uniq h▸rfl,h'⟩
theorem qm3 (W:World) (kind:Int) (dv:List Int) (n:Nat) (c:Int) (hn:dv.length=n) (hn2:n<=1000) (hf:∀e,TmF kind dv e->e=c) (hg:¬∃k,qcv kind k/\1<=n/\n<=4/\qcB dv/\¬(k=3/\n=4)) (hT:HasT W) :
  Calls Tryz.prog 25 #[.int .i64 kind,.slice (some ⟨W.heap.size,0,none⟩) n n] (W.alloc (.cells (dv.map fun z=>Value.int .i64 z).toArray 3)) fun e w'=>e=.returned (.tuple #[.slice none 0 0,.int .i64 c])/\Below W.heap.size W w':=by
 subst hn;refine (qfU kind W.heap.size 0 dv.length dv.length (some ⟨W.heap.size,0,none⟩) dv _ rfl (by omega) (qfk W dv) (hT.below (alloc_old _ _))).mono ?_;rintro e w' ⟨hb,⟨v,rfl,h1,h4,hV,k',hk',h3,_⟩ | ⟨c',rfl,h⟩⟩
 ·exact absurd ⟨k',hk',h1,h4,hV,h3⟩ hg
 ·rw [hf _ h];exact⟨rfl,qdc hb⟩
theorem qlK (W:World) (l:List Pt) (R b off c:Nat) (ao:Option Addr) (kind:Int) (ws:List Int) (n:Nat) (hn:ws.length=n) (hn2:n<=1000) (hR:l.length=R) (hR2:R<=1000) (hs:∀k,k<R->(l.getD k pt0).name.size<=1000/\(l.getD k pt0).dev.length<=1000) (hP:PCells W ao b off l) (hT:HasT W) :
  Calls Tryz.prog 14 #[.slice ao R c,.int .i64 kind,.slice (some ⟨W.heap.size,0,none⟩) n n] (W.alloc (.cells (ws.map fun z=>Value.int .i64 z).toArray 3)) fun e w'=>FitAs (W.alloc (.cells (ws.map fun z=>Value.int .i64 z).toArray 3)) l kind ws e w' :=
 qjr R b off c W.heap.size 0 n n ao (some ⟨W.heap.size,0,none⟩) l kind ws _ hR (by omega) (fun k hk=>⟨by have:=(hs k hk).1;omega,by have:=(hs k hk).2;omega⟩) hn (by omega) (hP.below (alloc_old _ _)) (qfk W ws) (hT.below (alloc_old _ _))
theorem qdC:∀k,k<3->(ramp.getD k pt0).name.size<=1000/\(ramp.getD k pt0).dev.length<=1000:=fun k hk=>by
 rcases (show k=0\/k=1\/k=2 by omega) with rfl | rfl | rfl <;> exact⟨(by decide:1<=1000),(by decide:1<=1000)⟩
theorem MdAt.lit {W:World} {v:Value} {k n m:Nat} {x:Nat->Nat->Rat} (h:MdAt W v (mdq k n m x)):∃(a0 a1 a2:Option Addr) (b0 o0 c0 b1 o1 c1 b2 o2 c2:Nat),v=.agg #[.int .i64 (k:Int),.int .i64 (n:Int),.slice a0 m c0,.slice a1 m c1,.slice a2 m c2]/\FCells W a0 b0 o0 (told m (x 0))/\FCells W a1 b1 o1 (told m (x 1))/\FCells W a2 b2 o2 (told m (x 2)):=by
 obtain⟨a0,a1,a2,b0,o0,c0,b1,o1,c1,b2,o2,c2,rfl,h0,h1,h2⟩:=h;refine⟨a0,a1,a2,b0,o0,c0,b1,o1,c1,b2,o2,c2,?_,h0,h1,h2⟩
 show Value.agg #[.int .i64 (k:Int),.int .i64 (n:Int),.slice a0 (told m (x 0)).length c0,.slice a1 (told m (x 1)).length c1,.slice a2 (told m (x 2)).length c2]=_
 rw [qbV,qbV,qbV]
theorem qjy {k n m:Nat} {x:Nat->Nat->Rat} (hm:m<=1000):∀q,q<3->((mdq k n m x).row q).length<=4611686018427387904:=fun q hq=>by rw [qe7 hq,qbV];omega
theorem qho:∀c,c<3->elz (mdq 1 1 2 fitX1) c 0=[33333,500000,500000].getD c 0/\elz (mdq 1 1 2 fitX1) c 1=[1000000,0,0].getD c 0:=fun c hc=>by
 unfold elz;rw [qe7 hc,qcT (by decide),qcT (by decide)];rcases (show c=0\/c=1\/c=2 by omega) with rfl | rfl | rfl <;> exact⟨by decide +kernel,by decide +kernel⟩
theorem ex_elok:ElOk (mdq 1 1 2 fitX1) 1:=fun c hc k hk=>by
 obtain⟨h0,h1⟩:=qho c hc;rcases (show k=0\/k=1 by omega) with rfl | rfl
 ·rw [h0];rcases (show c=0\/c=1\/c=2 by omega) with rfl | rfl | rfl <;> exact⟨by decide,by decide⟩
 ·rw [h1];rcases (show c=0\/c=1\/c=2 by omega) with rfl | rfl | rfl <;> exact⟨by decide,by decide⟩
open Go.ChangeShapes Go.WideShapes Go.ChangeAt Go.Deep
section
variable {H:Type} {enc:TypeId×Value->H} {w:World} {sp:Nat->Bool} {held:Bool} {fuel:Nat} {v:Value} {x:DataW H×List MemPlace}
theorem qg5 {a:Addr} {u:Value} (h:w.cell? (a.add 0)=some u):a=⟨a.block,a.off,none⟩:=by
 obtain⟨b,off,s⟩:=a;have:=World.cell?_spot h;have e:s=none:=by simpa [Addr.add] using this
 rw [e]
theorem qmz (h:DataW.trod enc Tryz.prog w 0 sp held fuel 28 [v]=some x):∃(a:Option Addr) (b off c:Nat) (l:List Int),v=.slice a l.length c/\l.length<=maxLen/\KCells w .u16 a b off l/\∀k,0<=l.getD k 0/\l.getD k 0<65536:=by
 rcases open_slice1 Tryz.underlying28 (by kernel_rfl) h with ⟨hcs,_⟩ | ⟨a,len,cap,m,n,V,D,Pl,hcs,_,hl,hm,hmm,_,hx⟩
 ·exact⟨none,0,0,0,[],by injection hcs,by decide,⟨fun h=>absurd h (by decide),fun k h=>absurd h (by simp)⟩,fun k=>by simp⟩
 ·have hlm:len<=m:=by rw [hmm];split <;> omega
  have each:∀i,i<len->∃z:Int,V i=.int .u16 z/\0<=z/\z<65536:=fun i hi=>by
   obtain⟨z,e,_,hw⟩:=DataW.trod_int Tryz.underlying109 (hx i (by omega)).2;have h2:0<=z/\z<=65535:=by simpa [Lit.wf,IntKind.min,IntKind.max,IntKind.signed,IntKind.bits] using hw
   exact⟨z,by injection e,h2.1,by omega⟩
  obtain⟨Y,hY⟩:=choose_lt each;have hg:∀k,k<len->((List.range len).map Y).getD k 0=Y k:=fun k hk=>by
   rw [qaa,qaB,qbn hk];rfl
  have hln:((List.range len).map Y).length=len:=by rw [qax,qbG]
  refine⟨some a,a.block,a.off,cap,(List.range len).map Y,by rw [hln];injection hcs,by rw [hln];omega,⟨fun h0=>?_,fun k hk=>?_⟩,fun k=>?_⟩
  ·rw [hln] at h0;exact congrArg some (qg5 (hx 0 (by omega)).1)
  ·rw [hln] at hk;rw [hg k hk];have h0:=(hx k (by omega)).1;rw [qg5 (a:=a) (hx 0 (by omega)).1,Addr.add_mid,(hY k hk).1] at h0;exact h0
  ·rcases qaH k len with hk | hk
   ·rw [hg k hk];exact (hY k hk).2
   ·rw [qaa,qaN (by rw [hln];exact hk)];exact⟨Int.le_refl _,by decide⟩
theorem open_u8 {r:DataW H×List MemPlace} (h:DataW.trod enc Tryz.prog w 0 sp held fuel 5 [v]=some r):∃n:Nat,v=.int .u8 (n:Int)/\n<256:=by
 obtain⟨z,e,_,hw⟩:=DataW.trod_int Tryz.underlying5 h;have this:0<=z/\z<=255:=by simpa [Lit.wf,IntKind.min,IntKind.max,IntKind.signed,IntKind.bits] using hw
 refine⟨z.toNat,?_,by omega⟩;rw [Int.toNat_of_nonneg this.1];injection e
end
end Go.Proofs.YtplkdeknjghobaaGreatDoor
namespace Go.Proofs.YtplkdeknjghobaaGreatDoor
open Go.RowKit
theorem fct_mono {n m:Nat} (h:n<=m):fct n<=fct m:=by
 induction h with
 | refl=>exact qad _
 | step _ ih =>
  refine qaj ih ?_
  show _<=(_+1)*fct _
  exact Nat.le_mul_of_pos_left _ (Nat.succ_pos _)
def fitS:Nat:=26214400
def fitB:Nat:=362387865600
def QB:Nat:=fct 10*fitB ^ 10
def PB:Nat:=fct 11*fitB ^ 11
theorem qeJ {n m:Nat} (h:n<=m):fct n*fitB ^ n<=fct m*fitB ^ m:=Nat.mul_le_mul (fct_mono h) (qaX (by decide) h)
def qe2 (l:List Pt):Prop:=l.length<=12/\∀i,i<l.length->∀j,∃m:Nat,m<=8/\(l.getD i pt0).dev.getD j 0=1250*m
def W9 (ws:List Int) (n:Nat):Prop:=∀i,i<n->0<=ws.getD i 0/\ws.getD i 0<=9
theorem W9.cd {ws:List Int} {n i:Nat} (h:W9 ws n) (hi:i<n):Cd (wq ws i) 1 9:=by
 obtain⟨h1,h2⟩:=h i hi;exact (Cd.int (ws.getD i 0)).mono (by omega)
theorem PtsOk.lab_cd {l:List Pt} (h:PtsOk l) (c:Nat) {i:Nat} (hi:i<l.length):Cd (labq l c i) 100 12800:=by
 have hp:=(h.rows i hi).1;have:=hp.l0;have:=hp.l1;have:=hp.l2;have hb:((l.getD i pt0).lab c).natAbs<=12800:=by unfold Pt.lab;(repeat' split) <;> omega
 exact (Cd.frac ((l.getD i pt0).lab c) 100).mono hb
theorem PtsOk.term_cd {l:List Pt} (h:PtsOk l) (h8:qe2 l) {k:Nat} (hk:1<=k/\k<=3) (h3:¬(k=3/\chans l=4)) {i:Nat} (hi:i<l.length) (j:Nat):Cd (tqf l k i j) 512 512:=by
 have:=(h.rows i hi).2;have:=h.n4;exact termQ_cd (E:=8) (by decide) (dq_cd8 (h8.2 i hi)) (by omega) j
def fitE (l:List Pt) (k:Nat) (ws:List Int) (r c:Nat):Rat:=if c<many k (chans l) then nq l k ws 0 r c else nq l k ws (c-many k (chans l)) r (many k (chans l))
theorem qlJ {l:List Pt} (h:PtsOk l) (h8:qe2 l) {k:Nat} (hk:1<=k/\k<=3) (h3:¬(k=3/\chans l=4)) {ws:List Int} (hw:W9 ws l.length) {r c:Nat} (hr:r<many k (chans l)):Cd (fitE l k ws r c) fitS fitB:=by
 unfold fitE;have h12:=h8.1
 by_cases hc:c<many k (chans l)
 ·rw [if_pos hc];unfold nq normR;have:=Cd.sum (n:=l.length) (f:=fun i=>wq ws i*(gR (many k (chans l)) (tqf l k) (labq l 0) i r*gR (many k (chans l)) (tqf l k) (labq l 0) i c)) (D:=1*(512*512)) (N:=9*(512*512)) fun i hi=>by
   unfold gR;rw [if_pos hr,if_pos hc];exact (hw.cd hi).mul ((h.term_cd h8 hk h3 hi r).mul (h.term_cd h8 hk h3 hi c) (by decide) (by decide)) (by decide) (by decide)
  have:=(this.up 100 (by omega) (by omega)).mono (M:=fitB) (by
   have:l.length*(9*(512*512))<=12*(9*(512*512)):=qaR _ h12;unfold fitB;omega)
  exact this
 ·rw [if_neg hc];unfold nq normR;have:=Cd.sum (n:=l.length) (f:=fun i=>wq ws i*(gR (many k (chans l)) (tqf l k) (labq l (c-many k (chans l))) i r*gR (many k (chans l)) (tqf l k) (labq l (c-many k (chans l))) i (many k (chans l)))) (D:=1*(512*100)) (N:=9*(512*12800)) fun i hi=>by
   unfold gR;rw [if_pos hr,if_neg (qbz _)];exact (hw.cd hi).mul ((h.term_cd h8 hk h3 hi r).mul (h.lab_cd _ hi) (by decide) (by decide)) (by decide) (by decide)
  have:=(this.up 512 (by omega) (by omega)).mono (M:=fitB) (by
   have:l.length*(9*(512*12800))<=12*(9*(512*12800)):=qaR _ h12;unfold fitB;omega)
  exact this
theorem qmm {l:List Pt} {k:Nat} {ws:List Int} {c c' r j:Nat} (hr:r<many k (chans l)) (hj:j<many k (chans l)):nq l k ws c r j=nq l k ws c' r j:=by
 unfold nq normR;refine qbU fun i _=>?_
 unfold gR;rw [if_pos hr,if_pos hj,if_pos hr,if_pos hj]
theorem qlL {l:List Pt} (h:PtsOk l) (h8:qe2 l) {k:Nat} (hk:1<=k/\k<=3) (h3:¬(k=3/\chans l=4)) {ws:List Int} (hw:W9 ws l.length) {x:Nat->Nat->Rat} (hs:¬Sing (many k (chans l)) (nq l k ws 0)) (hx:∀c,c<3->FitX l k ws c (x c)) :
  ∃D:Nat,D≠0/\D<=QB/\∀c,c<3->∀i,i<many k (chans l)->Cd (x c i) D PB:=by
 obtain⟨n,hn⟩:∃n,many k (chans l)=n:=⟨_,rfl⟩;have hn10:n<=10:=by rw [<-hn];exact (qe6 (kind:=k) ⟨rfl,hk⟩ h.n1 h.n4 h3).2
 have hE:∀r c,∃a:Int,r<n->fitE l k ws r c=(a:Rat) / (fitS:Rat)/\a.natAbs<=fitB:=fun r c=>by
  by_cases hr:r<n
  ·obtain⟨a,e,ha⟩:=qlJ h h8 hk h3 hw (c:=c) (by rw [hn];exact hr);exact⟨a,fun _=>⟨e,ha⟩⟩
  ·exact⟨0,fun h=>absurd h hr⟩
 obtain⟨A,hA⟩:∃A:Nat->Nat->Int,∀r c,r<n->fitE l k ws r c=(A r c:Rat) / (fitS:Rat)/\(A r c).natAbs<=fitB:=⟨fun r c=>(hE r c).choose,fun r c=>(hE r c).choose_spec⟩;have hS:(fitS:Rat)≠0:=qeh (by decide);have hcast:∀r c,r<n->castM A r c=(fitS:Rat)*fitE l k ws r c:=fun r c hr=>by
  rw [(hA r c hr).1]
  show (A r c:Rat)=_
  generalize (fitS:Rat)=S at *
  grind
 have hl:∀r j,r<n->j<n->castM A r j=(fitS:Rat)*nq l k ws 0 r j:=fun r j hr hj=>by
  rw [hcast r j hr];unfold fitE;rw [hn,if_pos hj]
 have hsA:¬Sing n (castM A):=fun hsg=>hs (by
  rw [hn];obtain⟨y,hy,h0⟩:=hsg;refine⟨y,hy,fun i hi=>?_⟩;have:=h0 i hi;rw [qbU fun j hj=>show castM A i j*y j=(fitS:Rat)*(nq l k ws 0 i j*y j) by rw [hl i j hi hj,Rat.mul_assoc],qcc] at this;rcases Rat.mul_eq_zero.1 this with e | e
  ·exact absurd e hS
  ·exact e)
 obtain⟨q,p,hq,hqB,hp⟩:=qiZ (R:=n) (m:=3) (B:=fitB) (A:=A) (x:=x) (by decide) (fun i j hi _=>(hA i j hi).2) hsA fun c hc i hi=>by
  have hx:=hx c hc i (by rw [hn];exact hi);rw [hn] at hx;rw [qbU fun j hj=>show castM A i j*x c j=(fitS:Rat)*(nq l k ws c i j*x c j) by rw [hl i j hi hj,qmm (c:=0) (c':=c) (by rw [hn];exact hi) (by rw [hn];exact hj),Rat.mul_assoc],qcc,hx]
  show (fitS:Rat)*nq l k ws c i n=castM A i (n+c)
  rw [hcast i (n+c) hi];unfold fitE;rw [hn,if_neg (by omega),Nat.add_sub_cancel_left]
 refine⟨q.natAbs,by omega,qaj hqB (qeJ hn10),fun c hc i hi=>?_⟩;rw [hn] at hi;obtain⟨e,hb⟩:=hp c hc i hi;have hb:(p c i).natAbs<=PB:=qaj hb (qeJ (by omega));have hqr:(q:Rat)≠0:=fun e=>hq (by exact_mod_cast e)
 rcases Int.natAbs_eq q with hq2 | hq2
 ·refine⟨p c i,?_,hb⟩;rw [e];have:(q:Rat)=(q.natAbs:Rat):=by rw [<-Rat.intCast_natCast,<-hq2]
  rw [<-this]
 ·refine⟨-(p c i),?_,by rw [qbb];exact hb⟩;rw [e];have:(q:Rat) = -(q.natAbs:Rat):=by rw [<-Rat.intCast_natCast,<-Rat.intCast_neg,<-hq2]
  rw [Rat.intCast_neg];generalize (q.natAbs:Rat)=Q at *;rw [this];have:Q≠0:=fun e=>hqr (by rw [this,e];rfl)
  grind
theorem qb_600:QB<10 ^ 600:=by decide +kernel
def patD (z:Int):Int:=((z.natAbs % 9*1250:Nat):Int)
def nmL:List ByteArray:=[⟨#[112,48]⟩,⟨#[112,49]⟩,⟨#[112,50]⟩,⟨#[112,51]⟩,⟨#[112,52]⟩,⟨#[112,53]⟩,⟨#[112,54]⟩,⟨#[112,55]⟩,⟨#[112,56]⟩,⟨#[112,57]⟩,⟨#[112,49,48]⟩,⟨#[112,49,49]⟩]
def nmD (i:Nat):ByteArray:=nmL.getD i ⟨#[112]⟩
theorem nm_eq (i:Nat) (hi:i<12):⟨#[112]⟩++num i=nmD i:=by
 rcases (show i=0\/i=1\/i=2\/i=3\/i=4\/i=5\/i=6\/i=7\/i=8\/i=9\/i=10\/i=11 by omega) with rfl | rfl | rfl | rfl | rfl | rfl | rfl | rfl | rfl | rfl | rfl | rfl
 all_goals first
  | (unfold num;rw [qbW (by decide)];rfl)
  | (unfold num;rw [qb4 (by decide),qbW (by decide)];rfl)
theorem nm_name:∀i,i<12->qhk (nmD i):=fun i hi=>by
 rcases (show i=0\/i=1\/i=2\/i=3\/i=4\/i=5\/i=6\/i=7\/i=8\/i=9\/i=10\/i=11 by omega) with rfl | rfl | rfl | rfl | rfl | rfl | rfl | rfl | rfl | rfl | rfl | rfl
 all_goals exact⟨by decide,by decide,by decide⟩
theorem nm_apart:∀i k,k<i->i<12->nmD k≠nmD i:=by
 have h:∀i,i<12->∀k,k<i->nmD k≠nmD i:=by decide
 exact fun i k hk hi=>h i hi k hk
def ptD (n i:Nat) (zs:List Int):Pt:=⟨nmD i,(List.range n).map fun k=>patD (zs.getD k 0),5000+(zs.getD 4 0).tmod 5000,(zs.getD 5 0).tmod 12700,(zs.getD 6 0).tmod 12700⟩
def ptE (n:Nat):Pt:=⟨⟨#[112]⟩,List.replicate n 0,0,0,0⟩
def ptsD (n:Nat) (L:List (List Int)):List Pt:=if L.length=0 then [ptE n] else (List.range (min L.length 12)).map fun i=>ptD n i (L.getD i [])
theorem qmC (z:Int):0<=patD z/\patD z<=10000:=by unfold patD;omega
theorem qmF {n i k:Nat} {zs:List Int} (hk:k<n):(ptD n i zs).dev.getD k 0=patD (zs.getD k 0):=by
 show ((List.range n).map _).getD k 0=_
 rw [qaa,qaB,qbn hk];rfl
theorem qel (n i:Nat) (zs:List Int):(ptD n i zs).dev.length=n:=by show ((List.range n).map _).length=n;simp
theorem ptD_ok {n i:Nat} {zs:List Int} (h1:1<=n) (h4:n<=4) (hi:i<12):PtOk (ptD n i zs) where
 name:=nm_name i hi
 n1:=by rw [qel];exact h1
 n4:=by rw [qel];exact h4
 vals:=fun k hk=>by rw [qel] at hk;rw [qmF hk];exact qmC _
 l0:=by
  have a:=Int.lt_tmod_of_pos (zs.getD 4 0) (show (0:Int)<5000 by decide);have b:=Int.tmod_lt_of_pos (zs.getD 4 0) (show (0:Int)<5000 by decide)
  show 0<=5000+(zs.getD 4 0).tmod 5000/\5000+(zs.getD 4 0).tmod 5000<=10000
  omega
 l1:=by
  have a:=Int.lt_tmod_of_pos (zs.getD 5 0) (show (0:Int)<12700 by decide);have b:=Int.tmod_lt_of_pos (zs.getD 5 0) (show (0:Int)<12700 by decide)
  show -12800<=(zs.getD 5 0).tmod 12700/\(zs.getD 5 0).tmod 12700<=12700
  omega
 l2:=by
  have a:=Int.lt_tmod_of_pos (zs.getD 6 0) (show (0:Int)<12700 by decide);have b:=Int.tmod_lt_of_pos (zs.getD 6 0) (show (0:Int)<12700 by decide)
  show -12800<=(zs.getD 6 0).tmod 12700/\(zs.getD 6 0).tmod 12700<=12700
  omega
theorem qmG (n k:Nat):(ptE n).dev.getD k 0=0:=by
 show (List.replicate n (0:Int)).getD k 0=0
 rw [qaa,qbf];split <;> rfl
theorem ptE_ok {n:Nat} (h1:1<=n) (h4:n<=4):PtOk (ptE n) where
 name:=show qhk ⟨#[112]⟩ from ⟨by decide,by decide,by decide⟩
 n1:=by show 1<=(List.replicate n (0:Int)).length;rw [qaO];exact h1
 n4:=by show (List.replicate n (0:Int)).length<=4;rw [qaO];exact h4
 vals:=fun k _=>by rw [qmG];exact⟨by decide,by decide⟩
 l0:=show (0:Int)<=0/\(0:Int)<=10000 from by decide
 l1:=show (-12800:Int)<=0/\(0:Int)<=12700 from by decide
 l2:=show (-12800:Int)<=0/\(0:Int)<=12700 from by decide
theorem qgp (n:Nat) (L:List (List Int)):1<=(ptsD n L).length/\(ptsD n L).length<=12:=by
 unfold ptsD;split
 ·exact⟨qad 1,show 1<=12 from by decide⟩
 ·rw [qax,qbG];omega
theorem qgR {n:Nat} {L:List (List Int)} {i:Nat} (hi:i<(ptsD n L).length):(L.length=0/\i=0/\(ptsD n L).getD i pt0=ptE n)\/(L.length≠0/\i<12/\(ptsD n L).getD i pt0=ptD n i (L.getD i [])):=by
 unfold ptsD at hi ⊢;split
 ·rename_i h;rw [if_pos h] at hi;obtain rfl:i=0:=by have:i<1:=hi;omega
  exact .inl ⟨h,rfl,rfl⟩
 ·rename_i h;rw [if_neg h,qax,qbG] at hi;refine .inr ⟨h,by omega,?_⟩;rw [qaa,qaB,qbn hi];rfl
theorem qkh (n:Nat) (L:List (List Int)) {i:Nat} (hi:i<(ptsD n L).length):((ptsD n L).getD i pt0).dev.length=n:=by
 rcases qgR hi with ⟨_,_,e⟩ | ⟨_,_,e⟩
 ·rw [e];exact qaO
 ·rw [e];exact qel _ _ _
theorem qhC (n:Nat) (L:List (List Int)):chans (ptsD n L)=n:=qkh n L (qgp n L).1
theorem ptsD_ok {n:Nat} (L:List (List Int)) (h1:1<=n) (h4:n<=4):PtsOk (ptsD n L) where
 r1:=(qgp n L).1
 r2:=by have:=(qgp n L).2;omega
 rows:=fun k hk=>⟨by
  rcases qgR hk with ⟨_,_,e⟩ | ⟨_,h,e⟩
  ·rw [e];exact ptE_ok h1 h4
  ·rw [e];exact ptD_ok h1 h4 h,by rw [qhC];exact qkh n L hk⟩
 apart:=fun i k hk hi=>by
  rcases qgR hi with ⟨_,h,_⟩ | ⟨h0,h,e⟩
  ·omega
  ·rcases qgR (Nat.lt_trans hk hi) with ⟨h1,_,_⟩ | ⟨_,_,e2⟩
   ·exact absurd h1 h0
   ·rw [e,e2];exact nm_apart i k hk h
theorem qiP {n:Nat} (L:List (List Int)):qe2 (ptsD n L):=⟨(qgp n L).2,fun i hi j=>by
 rcases qgR hi with ⟨_,_,e⟩ | ⟨_,_,e⟩
 ·rw [e,qmG];exact⟨0,by decide,rfl⟩
 ·rw [e];rcases qaH j n with hj | hj
  ·rw [qmF hj];refine⟨((L.getD i []).getD j 0).natAbs % 9,by omega,?_⟩;unfold patD;omega
  ·refine⟨0,by decide,?_⟩;rw [qaa,qaN (by rw [qel];exact hj)];rfl⟩
theorem qfW {ops:Array Oper} {rest:List Oper} {o:Oper} {a:Act} {w:World} {Q:Exit->Act->World->Prop} (hgd:o.guard=none) (s x:Operand)
  (ho:o.op=.call { callee:=.builtin .append,args:=#[s,x],argTypes:=#[32,32] }) {B:Nat} {v:Value} {l:List Int} {z:Int} (hown:IOwn w B v l) (hB:B<=w.heap.size) (hs:a.eval s=v) {g:Nat} (hx:a.eval x=.slice (some ⟨g,0,none⟩) 1 1) (hg:g=w.heap.size) (hn:l.length<1000000)
  (h:∀v' w',Hid (IOwn w' B v' (l++[z]))->Hid (v'.ownBlock=v.ownBlock/\(w.alloc (.cells #[.int .i64 z] 3)).grownBy w' v.ownBlock\/v'.ownBlock=some (w.alloc (.cells #[.int .i64 z] 3)).heap.size/\(w.alloc (.cells #[.int .i64 z] 3)).grownBy w' none)->wpList Tryz.prog ops Q rest (a.put o.dst v') w') :
  wpList Tryz.prog ops Q (o :: rest) a (w.alloc (.cells #[.int .i64 z] 3)):=by
 subst hg;have hba:Below w.heap.size w (w.alloc (.cells #[.int .i64 z] 3)):=qbQ qB qN;obtain⟨v',w',hr,h1,h2⟩:=qkl o.type (hown.below hba) (by simp only [qab];omega) (qfl (q:=[z]) (qM w (.cells #[.int .i64 z] 3) _ rfl) 0) (c:=1) rfl (Nat.zero_lt_one) (by show l.length+1<=_;omega);exact qdp hgd s x _ ho hs hx hr (h v' w' (qH h1) (qH h2))
open Go.Lib
theorem qi5 {k:Nat} {dv:List Int} {l:List Rat} {n:Nat} (h:termL k dv=l) (hn:l.length=n):(termL k dv).map ftxt=told n (fv l):=by
 rw [h,<-hn,qm6]
theorem vals_two {y z:Int} (h:0<=y/\y<=10000) (h2:0<=z/\z<=10000):qcB [y,z]:=fun k hk=>by
 have hk:k<2:=hk;rcases (show k=0\/k=1 by omega) with rfl | rfl
 ·exact h
 ·exact h2
theorem ex_tm1 (W:World) (hT:HasT W):Calls Tryz.prog 25 #[.int .i64 3,.slice (some ⟨W.heap.size,0,none⟩) 2 2] (W.alloc (.cells #[.int .i64 5000,.int .i64 10000] 3)) fun e w'=>∃(p:Option Addr) (g c:Nat),e=.returned (.tuple #[.slice p 4 c,.int .i64 0])/\FCells w' p g 0 (told 4 (fv [1,1 / 2,1,1 / 2]))/\Below W.heap.size W w':=by
 refine (qi6 W 3 3 [5000,10000] 2 rfl kind3 (by decide) (by decide) (by decide) (vals_two (by decide) (by decide)) hT).mono ?_;rintro e w' ⟨p,g,c,rfl,hF,hb⟩;rw [qi5 (l:=[1,1 / 2,1,1 / 2]) (n:=4) (by decide +kernel) rfl] at hF;exact⟨p,g,c,rfl,hF,hb⟩
theorem ex_tm2 (W:World) (hT:HasT W):Calls Tryz.prog 25 #[.int .i64 2,.slice (some ⟨W.heap.size,0,none⟩) 1 1] (W.alloc (.cells #[.int .i64 5000] 3)) fun e w'=>∃(p:Option Addr) (g c:Nat),e=.returned (.tuple #[.slice p 3 c,.int .i64 0])/\FCells w' p g 0 (told 3 (fv [1,1 / 2,1 / 4]))/\Below W.heap.size W w':=by
 refine (qi6 W 2 2 [5000] 1 rfl kind2 (by decide) (by decide) (by decide) (qfG (by decide)) hT).mono ?_;rintro e w' ⟨p,g,c,rfl,hF,hb⟩;rw [qi5 (l:=[1,1 / 2,1 / 4]) (n:=3) (by decide +kernel) rfl] at hF;exact⟨p,g,c,rfl,hF,hb⟩
theorem ex_tm3 (W:World) (hT:HasT W):Calls Tryz.prog 25 #[.int .i64 4,.slice (some ⟨W.heap.size,0,none⟩) 1 1] (W.alloc (.cells #[.int .i64 0] 3)) fun e w'=>e=.returned (.tuple #[.slice none 0 0,.int .i64 2])/\Below W.heap.size W w':=by
 have hn:¬∃k,qcv 4 k:=fun⟨k,h⟩=>by have:=h.1;have:=h.2;omega
 refine qm3 W 4 [0] 1 2 rfl (by decide) (fun e h=>?_) (fun⟨k,h,_⟩=>hn ⟨k,h⟩) hT;rcases h with ⟨_,h⟩ | ⟨⟨h,_⟩,_⟩
 ·exact h
 ·exact absurd h hn
theorem ex_f1 (W:World) (g c:Nat) (hP:PCells W (some ⟨g,0,none⟩) g 0 ramp) (hT:HasT W):Calls Tryz.prog 14 #[.slice (some ⟨g,0,none⟩) 3 c,.int .i64 1,.slice (some ⟨W.heap.size,0,none⟩) 3 3] (W.alloc (.cells #[.int .i64 1,.int .i64 1,.int .i64 1] 3)) fun e w'=>∃v,e=.returned (.tuple #[v,.int .i64 0])/\MdAt w' v (mdq 1 1 2 fitX1)/\Below W.heap.size W w':=by
 refine (qlK W ramp 3 g 0 c _ 1 [1,1,1] 3 rfl (by decide) rfl (by decide) qdC hP hT).mono ?_;intro e w' h;obtain⟨hb,v,he,hM⟩:=ex_fit1 h;exact⟨v,he,hM,qdc hb⟩
theorem ex_f2 (W:World) (g c:Nat) (hP:PCells W (some ⟨g,0,none⟩) g 0 ramp) (hT:HasT W):Calls Tryz.prog 14 #[.slice (some ⟨g,0,none⟩) 3 c,.int .i64 2,.slice (some ⟨W.heap.size,0,none⟩) 3 3] (W.alloc (.cells #[.int .i64 1,.int .i64 1,.int .i64 1] 3)) fun e w'=>∃v,e=.returned (.tuple #[v,.int .i64 0])/\MdAt w' v (mdq 2 1 3 fitX2)/\Below W.heap.size W w':=by
 refine (qlK W ramp 3 g 0 c _ 2 [1,1,1] 3 rfl (by decide) rfl (by decide) qdC hP hT).mono ?_;intro e w' h;obtain⟨hb,v,he,hM⟩:=ex_fit2 h;exact⟨v,he,hM,qdc hb⟩
theorem ex_f3 (w:World) (g g2 c:Nat) (hP:PCells w (some ⟨g,0,none⟩) g 0 ramp) (hN:w.heap[g2]? = some (.cells #[.int .i64 1,.int .i64 1,.int .i64 0] 3 (0,0))) (hT:HasT w):Calls Tryz.prog 14 #[.slice (some ⟨g,0,none⟩) 3 c,.int .i64 2,.slice (some ⟨g2,0,none⟩) 3 3] w fun e w'=>e=.returned (.tuple #[mdv0,.int .i64 7])/\Below w.heap.size w w':=by
 have hN:=qfl (q:=[1,1,0]) hN 0;refine (qjr 3 g 0 c g2 0 3 3 (some ⟨g,0,none⟩) (some ⟨g2,0,none⟩) ramp 2 [1,1,0] w rfl (by decide) (fun k hk=>⟨by have:=(qdC k hk).1;omega,by have:=(qdC k hk).2;omega⟩) rfl (by decide) hP hN hT).mono ?_;intro e w' h;obtain⟨hb,he⟩:=ex_fit3 h;exact⟨he,hb⟩
theorem ex_a1 (W:World) (v:Value) (hM:MdAt W v (mdq 1 1 2 fitX1)) (hT:HasT W):Calls Tryz.prog 22 #[v,.slice (some ⟨W.heap.size,0,none⟩) 1 1] (W.alloc (.cells #[.int .i64 5000] 3)) fun e w'=>e=.returned (.tuple #[.agg #[.string ⟨#[49,54,48]⟩,.string ⟨#[51]⟩,.string ⟨#[48]⟩,.string ⟨#[49]⟩,.string ⟨#[48]⟩,.string ⟨#[49]⟩],.int .i64 0])/\Below W.heap.size W w':=by
 refine (qlk (mdq 1 1 2 fitX1) v 1 W.heap.size 0 1 (some ⟨W.heap.size,0,none⟩) [5000] _ (hM.below (alloc_old _ _)) rfl (by decide) (qjy (by decide)) (qfk W [5000]) (hT.below (alloc_old _ _))).mono ?_;intro e w' h;obtain⟨hb,he⟩:=ex_apply h;exact⟨he,qdc hb⟩
theorem ex_s1 (w:World) (v:Value) (g c:Nat) (hM:MdAt w v (mdq 1 1 2 fitX1)) (hP:PCells w (some ⟨g,0,none⟩) g 0 ramp) (hT:HasT w):Calls Tryz.prog 33 #[v,.slice (some ⟨g,0,none⟩) 3 c] w fun e w'=>∃g,e=.returned (.tuple #[.slice (some ⟨g,0,none⟩) 3 3,.int .i64 0])/\FCells w' (some ⟨g,0,none⟩) g 0 (told 3 (fv [100 / 9,400 / 9,100 / 9]))/\Below w.heap.size w w':=by
 refine (qjH (mdq 1 1 2 fitX1) v 3 g 0 c (some ⟨g,0,none⟩) ramp w hM rfl (by decide) (fun k hk=>⟨by have:=(qdC k hk).1;omega,by have:=(qdC k hk).2;omega⟩) (qjy (by decide)) hP hT).mono ?_;intro e w' h;obtain⟨hb,g,he,hF⟩:=qkE h;exact⟨g,he,hF,hb⟩
theorem IOwn.cells {W:World} {B:Nat} {v:Value} {l:List Int} (h:IOwn W B v l) (h0:0<l.length):∃g c,v=.slice (some ⟨g,0,none⟩) l.length c/\NCells W (some ⟨g,0,none⟩) g 0 l:=by
 have hown:=h;rcases h.2 with ⟨_,h⟩ | ⟨g,cap,cur,rfl,_,_,_⟩
 ·omega
 ·refine⟨g,cap,rfl,fun _=>rfl,fun k hk=>?_⟩;have:=World.ownsRow.cells hown (g:=g) rfl k (.int .i64 (l.getD k 0)) (by rw [qaB,qaa,qaf hk];rfl)
  rwa [Addr.add_mid] at this
theorem qk3 {W:World} {B j:Nat} {v:Value} {e:TypeId} {vs:List Value} (h:W.ownsRow B e 1 v j vs) (h0:0<j):∃g c,v=.slice (some ⟨g,0,none⟩) j c/\∀k,k<j->W.cell? ⟨g,k,none⟩=some (vs.getD k undef):=by
 have hown:=h;rcases h.2 with ⟨_,h⟩ | ⟨g,cap,cur,rfl,_,_,_⟩
 ·omega
 ·refine⟨g,cap,rfl,fun k hk=>?_⟩;have hl:=h.1;have:=hown.cells (g:=g) rfl k (vs.getD k undef) (by rw [qaa,qaf (by omega)];rfl)
  rwa [Addr.add_mid,qaI] at this
theorem eq_ints (b1 o1 c b2 o2 d:Nat) (xs ys:List Int) (n m:Nat) (w:World) (hn:xs.length=n) (hm:ys.length=m) (hn2:n<=1000000) (hm2:m<=1000000) (h1:NCells w (some ⟨b1,o1,none⟩) b1 o1 xs) (h2:NCells w (some ⟨b2,o2,none⟩) b2 o2 ys) :
  Calls Tryz.prog 43 #[.slice (some ⟨b1,o1,none⟩) n c,.slice (some ⟨b2,o2,none⟩) m d] w fun e w'=>e=.returned (.bool (xs == ys))/\Below w.heap.size w w':=by
 subst hn hm;refine (Tryz.slices_Equal_int b1 o1 xs.length c b2 o2 ys.length d xs ys w qN qN (by omega) (by omega) h1.cell h2.cell).mono ?_;rintro e w' ⟨rfl,q,rfl⟩;rw [qbh,qbh];exact⟨rfl,below_drewN qB q⟩
theorem qlC (W:World) (b1 o1 c:Nat) (xs:List Int) (n:Nat) (hn:xs.length=n) (hn2:n<=1000) (h1:NCells W (some ⟨b1,o1,none⟩) b1 o1 xs) :
  Calls Tryz.prog 43 #[.slice (some ⟨b1,o1,none⟩) n c,.slice (some ⟨W.heap.size,0,none⟩) n n] (W.alloc (.cells (xs.map fun z=>Value.int .i64 z).toArray 3)) fun e w'=>e=.returned (.bool true)/\Below W.heap.size W w':=by
 refine (eq_ints b1 o1 c W.heap.size 0 n xs xs n n _ hn hn (by omega) (by omega) (h1.below (alloc_old _ _)) (qfk W xs)).mono ?_;rintro e w' ⟨rfl,hb⟩;exact⟨by simp,qdc hb⟩
instance stays_sc2 {g off:Nat} {L:List ByteArray}:Stays fun W=>SCells W g off L:=⟨fun h hb=>h.below hb⟩
instance stays_isat {b:Nat} {L:List ByteArray}:Stays fun W=>IsAt W b L:=⟨fun h hb=>h.below hb⟩
def SC (s:ByteArray) (z:Value) (W:World):Prop:=∃g:Nat,z=.slice (some ⟨g,0,none⟩) 1 1/\W.heap[g]? = some (.cells #[.string s] 9 (0,0))
def QC (x1 x2:ByteArray) (z:Value) (W:World):Prop:=∃g c:Nat,z=.slice (some ⟨g,0,none⟩) 1 c/\(W.cell? ⟨g,0,none⟩=some (.string x1)/\W.cell? ⟨g,1,none⟩=some (.string x2))
def PC (x1 x2:ByteArray) (z:Value) (W:World):Prop:=∃g:Nat,z=.pointer (some ⟨g,0,none⟩)/\(W.cell? ⟨g,0,none⟩=some (.string x1)/\W.cell? ⟨g,1,none⟩=some (.string x2))
instance stays_sc {s:ByteArray} {z:Value}:Stays (SC s z):=⟨fun⟨g,h1,h2⟩ hb=>⟨g,h1,zkeep hb _ _ h2⟩⟩
instance stays_qc {x1 x2:ByteArray} {z:Value}:Stays (QC x1 x2 z):=⟨fun {W _} ⟨g,c,h1,h2,h3⟩ hb=>⟨g,c,h1,(hb.cell (qac W _ h2)).trans h2,(hb.cell (qac W _ h3)).trans h3⟩⟩
instance stays_pcx {x1 x2:ByteArray} {z:Value}:Stays (PC x1 x2 z):=⟨fun {W _} ⟨g,h1,h2,h3⟩ hb=>⟨g,h1,(hb.cell (qac W _ h2)).trans h2,(hb.cell (qac W _ h3)).trans h3⟩⟩
theorem q1_at (w:World) (g:Nat) (s x1 x2:ByteArray) (r:Rat) (hg:w.heap[g]? = some (.cells #[.string s] 9 (0,0))) (h:qf s=ftxt r) (hx:ftxt r=(x1,x2)) (hz:s.size<=65536) :
  Calls Tryz.prog 24 #[.slice (some ⟨g,0,none⟩) 1 1] w fun e w'=>∃g c,e=.returned (.slice (some ⟨g,0,none⟩) 1 c)/\(w'.cell? ⟨g,0,none⟩=some (.string x1)/\w'.cell? ⟨g,1,none⟩=some (.string x2))/\Below w.heap.size w w':=by
 refine (q_at 1 (L:=[s]) (l:=[r]) (SCells.row (L:=[s]) hg) rfl rfl (by decide) (by rw [qbx,qbJ,qbx,qbJ,h]) (fun t ht=>by rw [qar.1 ht];exact hz)).mono ?_;rintro e w' ⟨ao,g,c,rfl,hF,hb⟩;have ha:=hF.addr (by rw [qbV];decide);subst ha;obtain⟨h0,h1⟩:=hF.cell 0 (by rw [qbV];decide);rw [qdj (by decide),show fv [r] 0=r from rfl,hx] at h0 h1;exact⟨g,c,rfl,⟨h0,h1⟩,hb⟩
theorem ex_e1 (w:World) (v:Value) (hM:MdAt w v (mdq 1 1 2 fitX1)) (hT:HasT w) (hE:HasE w):Calls Tryz.prog 28 #[v] w fun e w'=>∃(gr cr g0 c0 g1 c1 go co:Nat),
  e=.returned (.tuple #[.agg #[.int .i64 2,.slice none 0 0,.slice (some ⟨gr,0,none⟩) 3 cr,.slice (some ⟨go,0,none⟩) 3 co,.slice none 0 0,.int .i64 0,.slice none 0 0,.slice none 0 0,.int .i64 0,.int .i64 0],.int .i64 0]) /\
  (w'.cell? ⟨gr,0,none⟩=some (.slice (some ⟨g0,0,none⟩) 1 c0)/\w'.cell? ⟨gr,1,none⟩=some (.slice (some ⟨g1,0,none⟩) 1 c1)/\NCells w' (some ⟨g0,0,none⟩) g0 0 [1000000]/\NCells w' (some ⟨g1,0,none⟩) g1 0 [0]/\NCells w' (some ⟨go,0,none⟩) go 0 [33333,500000,500000])/\Below w.heap.size w w':=by
 refine (qjo (mdq 1 1 2 fitX1) v w hM (qjy (by decide)) hT hE).mono ?_;rintro e w' ⟨hb,⟨v,rfl,n,h1,_,B,vr,vo,rfl,ho,vs,hr,hv⟩ | ⟨c,rfl,h⟩⟩
 ·obtain rfl:=(qiE.uniq h1).2;have e0:elOff (mdq 1 1 2 fitX1) 3=[33333,500000,500000]:=by
   show [elz _ 0 0,elz _ 1 0,elz _ 2 0]=_
   rw [(qho 0 (by decide)).1,(qho 1 (by decide)).1,(qho 2 (by decide)).1];rfl
  have e1:elRow (mdq 1 1 2 fitX1) 1 0=[1000000]:=by
   show [elz _ 0 1]=_
   rw [(qho 0 (by decide)).2];rfl
  have e2:elRow (mdq 1 1 2 fitX1) 1 1=[0]:=by
   show [elz _ 1 1]=_
   rw [(qho 1 (by decide)).2];rfl
  rw [e0] at ho;have h0:=(hv 0 (by decide)).1;have h1':=(hv 1 (by decide)).1;rw [e1] at h0;rw [e2] at h1';obtain⟨go,co,rfl,hNo⟩:=IOwn.cells ho (by decide);obtain⟨gr,cr,rfl,hcr⟩:=qk3 hr (by decide);obtain⟨g0,c0,hg0,hN0⟩:=IOwn.cells h0 (by decide);obtain⟨g1,c1,hg1,hN1⟩:=IOwn.cells h1' (by decide);have r0:=hcr 0 (by decide);have r1:=hcr 1 (by decide);rw [hg0] at r0;rw [hg1] at r1;exact⟨gr,cr,g0,c0,g1,c1,go,co,rfl,⟨r0,r1,hN0,hN1,hNo⟩,hb⟩
 ·exfalso;rcases h with ⟨h,_⟩ | ⟨_,h,_⟩ | ⟨n,h1,h2,_⟩
  ·exact h ⟨_,_,qiE⟩
  ·exact h rfl
  ·obtain rfl:=(qiE.uniq h1).2;exact h2 ex_elok
theorem eq_3f (w:World):(Op.equalIn 10000 65 (.agg #[.string ⟨#[49,54,48]⟩,.string ⟨#[51]⟩,.string ⟨#[48]⟩,.string ⟨#[49]⟩,.string ⟨#[48]⟩,.string ⟨#[49]⟩]) (.agg #[.string ⟨#[49,54,48]⟩,.string ⟨#[51]⟩,.string ⟨#[48]⟩,.string ⟨#[49]⟩,.string ⟨#[48]⟩,.string ⟨#[49]⟩])).run Tryz.prog w=.ok true w:=by kernel_rfl
