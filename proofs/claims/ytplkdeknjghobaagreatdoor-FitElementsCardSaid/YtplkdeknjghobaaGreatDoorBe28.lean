import Derived.Test.YtplkdeknjghobaaGreatDoorBe27
set_option maxRecDepth 100000
set_option maxHeartbeats 0
namespace Go.Proofs.YtplkdeknjghobaaGreatDoor
open Go.RowKit
theorem qmk (kd inn:Nat) (L:List Dr) (v:Value) (w:World) (hv:MoAt w v kd inn L) :
  Calls Tryz.prog 16 #[v] w fun e w'=>∃u,e=.returned u/\MdAt w' u (moM kd inn L)/\Below w.heap.size w w':=by
 obtain⟨ao,b,off,cd,rfl,hkd,hin,hL,hC⟩:=hv;obtain⟨W1,hW1,N1⟩:=nw2 w #[.int .u8 (kd:Int),.int .u8 (inn:Int),.slice ao L.length cd] 27 #[.int .i64 0,.int .i64 0,.slice none 0 0,.slice none 0 0,.slice none 0 0] 38;have K1:=N1.also (q:=fun W=>DrCells W ao b off L) (hC.below N1.out.1);have k0:=qC _ _ 0 _ _ _ N1.out.2.1;have k1:=qC _ _ 1 _ _ _ N1.out.2.1;have hm1:(kd:Int) % 3=((kd % 3:Nat):Int):=by omega
 have hm2:(inn:Int) % 4=((inn % 4:Nat):Int):=by omega
 obtain⟨x,hx⟩:=qX (kd % 3);obtain⟨y,hy⟩:=qX (inn % 4);have hx3:x<3:=by omega
 have hy4:y<4:=by omega
 obtain⟨k,hk⟩:=qX (mok kd);obtain⟨n,hn⟩:=qX (mon kd inn);have hkr:=mok_le kd;have hnr:=qml kd inn;have key:(x=2/\y=3/\k=3/\n=2)\/(x=2/\y≠3/\k=3/\n=1+y)\/(x≠2/\k=1+x/\n=1+y):=by
  have e1:k=1+x:=by rw [<-hk];unfold mok;omega
  by_cases h3:x=2
  ·by_cases h4:y=3
   ·exact .inl ⟨h3,h4,by omega,by rw [<-hn];unfold mon;rw [if_pos ⟨by rw [hk];omega,by omega⟩]⟩
   ·exact .inr (.inl ⟨h3,h4,by omega,by rw [<-hn];unfold mon;rw [if_neg (by omega),hy]⟩)
  ·exact .inr (.inr ⟨h3,e1,by rw [<-hn];unfold mon;rw [if_neg (by rw [hk];omega),hy]⟩)
 have hmod:moM kd inn L=mdq k n (many k n) (mox L):=by unfold moM;rw [hk,hn]
 rw [hk] at hkr;rw [hn] at hnr;rw [hmod];obtain⟨M,hM⟩:=qX (many k n);have hM1:0<M:=by
  rw [<-hM];unfold many;split
  ·omega
  ·split
   ·omega
   ·exact Nat.two_pow_pos n
 have hM16:M<=16:=by rw [<-hM];exact many_16 k n hnr.2
 have HMM:=qH hM;rw [hM];have HL:=qH (qA hL (qA hkr hnr));clear N1 hC hk hn hmod hM hL hkr hnr;go_enter Tryz.func16,Tryz.ntmps16;go_upto_region 1 with fail;rw [<-hW1];clear hW1;obtain⟨W2,hW2,N2⟩:=nw1 W1 #[.int .i64 (1+(x:Int)),.int .i64 (1+(y:Int)),.slice none 0 0,.slice none 0 0,.slice none 0 0] 38;go_upto_region 2 with fail;rw [<-hW2];have r0:=qC _ _ 0 _ _ _ N2.out.2;have r1:=qC _ _ 1 _ _ _ N2.out.2;have f1:=qF _ _ 1 _ _ N2.out.2;clear hW2 k0 k1;have HN2:=N2.out;clear hx hy hm1 hm2 HN2
 go_cut [25] (fun x25 W=>x25=.bool (decide (x=2/\y=3))/\Hid (W=W2))
 case first =>
  rcases key with ⟨rfl,rfl,rfl,rfl⟩ | ⟨rfl,hy3,rfl,rfl⟩ | ⟨hx2,rfl,rfl⟩
  ·go_wp2;go_meet;exact⟨rfl,qH rfl⟩
  ·have hy1:¬(1+(y:Int)=4):=by omega
   go_wp2;go_meet;exact⟨congrArg Value.bool (by simp [hy3];omega),qH rfl⟩
  ·have hx1:¬(1+(x:Int)=3):=by omega
   have e:decide (x=2/\y=3)=false:=qU (fun h=>hx2 h.1);go_wp2;go_meet;exact⟨congrArg Value.bool e.symm,qH rfl⟩
 case rest =>
 obtain⟨rfl,hWe⟩:=hcut;have hWe:=hWe.out.symm;subst hWe;have key2:(decide (x=2/\y=3)=true/\k=3/\n=2)\/(decide (x=2/\y=3)=false/\k=1+x/\n=1+y):=by
  rcases key with ⟨rfl,rfl,rfl,rfl⟩ | ⟨rfl,hy3,rfl,rfl⟩ | ⟨hx2,rfl,rfl⟩
  ·exact .inl ⟨rfl,rfl,rfl⟩
  ·exact .inr ⟨qU (fun h=>hy3 h.2),rfl,rfl⟩
  ·exact .inr ⟨qU (fun h=>hx2 h.1),rfl,rfl⟩
 have hx2:decide (x=2/\y=3)=true->x=2:=fun h=>(of_decide_eq_true h).1
 obtain⟨c,hc⟩:=qX (decide (x=2/\y=3));rw [hc] at key2 hx2 ⊢;clear hc key
 go_upto_if 25 with fail
 go_cut [3] (fun x3 W=>x3=.pointer (some ⟨W1.heap.size,0,none⟩)/\Kn (fun W=>Below W1.heap.size W1 W/\W.heap[W1.heap.size]? = some (.cells #[.int .i64 (k:Int),.int .i64 (n:Int),.slice none 0 0,.slice none 0 0,.slice none 0 0] 38 (0,0))) W)
 case first =>
  rcases key2 with ⟨rfl,rfl,rfl⟩ | ⟨rfl,rfl,rfl⟩
  ·obtain rfl:=hx2 rfl;go_wp2;go_meet;exact⟨rfl,.of ⟨N2.out.1.setCell (p:=⟨W1.heap.size,1,none⟩) qN _,heap_setCell_same _ _ 1 _ _ _ N2.out.2⟩⟩
  ·go_wp2;go_meet;exact⟨rfl,.of ⟨N2.out.1,by have:=N2.out.2;simpa using this⟩⟩
 case rest =>
  obtain⟨rfl,H3⟩:=hcut;clear key2 hx2 f1 N2 r0 r1;have KC:=qH K1.out.2;have H4:=qH (qmH (M:=M) (L:=L) H3.out.1 H3.out.2);go_wp2_with fail
  go_loopw [4] (fun x4 W=>∃i:Nat,x4=.int .i64 (i:Int)/\i<=3/\Hid (OutSt W1 W k n M i L)) (fun x4 _=>3-(intOf x4).toNat)
  case atStart=>exact⟨0,rfl,qam _,H4⟩
  case round =>
   obtain⟨i,rfl,hi,hO⟩:=hrel
   by_cases hi3:i<3
   ·have hii:(i:Int)<3:=by omega
    obtain⟨vs0,hm0⟩:=hO.out;have H5:=qH hm0;clear hm0;go_wp2_with fail;obtain⟨B,hB⟩:=qX wr.heap.size;rw [hB] at H5;clear hB
    go_loopw [5] (fun x5 W=>∃j:Nat,x5=.int .i64 (j:Int)/\j<=M/\Hid (∃vs,MoSt W1 W B k n M i j vs L)) (fun x5 _=>M-(intOf x5).toNat)
    case atStart=>exact⟨0,rfl,qam _,qH ⟨vs0,H5.out⟩⟩
    case round =>
     obtain⟨j,rfl,hj,hI⟩:=hrel;obtain⟨vs,hm⟩:=hI.out;have r0:=qC _ _ 0 _ _ _ hm.row;have r1:=qC _ _ 1 _ _ _ hm.row;have HM:=qH hm;clear hm hI;go_wp2_with fail;refine (qmN k n HL.out.2.1 HL.out.2.2 _).mono ?_;rintro e W ⟨rfl,hWr⟩;subst hWr;rw [HMM.out];clear r0 r1
     by_cases hjM:j<M
     ·have hji:(j:Int)<(M:Int):=by omega
      obtain⟨W5,hW5,N5⟩:=nw1 W #[.string ⟨#[49]⟩,.string ⟨#[49]⟩] 44;go_upto_region 11 with fail;rw [<-hW5];clear hW5;have hB5:=HM.out.old.trans (N5.out.1.mono HM.out.old.size);have k2:=qC _ _ 2 _ _ _ (zkeep hB5 _ _ K1.out.1.2.1)
      go_upto_if 44 with fail
      go_cut [6] (fun x6 W'=>x6=.pointer (some ⟨W.heap.size,0,none⟩)/\Kn (fun W'=>Below W.heap.size W W'/\W'.heap[W.heap.size]? = some (.cells #[.string (ftxt (mox L i j)).1,.string (ftxt (mox L i j)).2] 44 (0,0))) W')
      case first =>
       by_cases hL0:L.length=0
       ·have e:mox L i j=1:=by unfold mox;rw [if_pos hL0]
        have hL1:¬(L.length:Int) > 0:=by omega
        clear hL0;go_wp2;go_meet;rw [e,ft_1];exact⟨rfl,.of N5.out⟩
       ·have hL1:(L.length:Int) > 0:=by omega
        obtain⟨m,hm⟩:=qX ((9*i+j) % min L.length 30);have hm2:m<L.length:=by rw [<-hm];exact qag (qbk _ (by omega)) (Nat.min_le_left _ _)
        have hmx:mox L i j=(L.getD m dr0).q:=by unfold mox;rw [if_neg hL0,hm]
        have hmn:(min (L.length:Int) 30)=((min L.length 30:Nat):Int):=by omega
        have hmt:(9*(i:Int)+(j:Int)).tmod (min (L.length:Int) 30)=(m:Int):=by
         rw [hmn,Int.tmod_eq_emod_of_nonneg (by omega),<-hm,Int.natCast_emod];congr 1
        rw [hmn] at hmt;have hLn:¬L=[]:=fun e=>by rw [e] at hL1;simp at hL1
        have hw9:IntKind.i64.wrap (9*(i:Int))=9*(i:Int):=by simp [IntKind.wrap,IntKind.bits,IntKind.signed];omega
        have hw10:IntKind.i64.wrap (9*(i:Int)+(j:Int))=9*(i:Int)+(j:Int):=by simp [IntKind.wrap,IntKind.bits,IntKind.signed];omega
        have hDr:=KC.out.cell m hm2;have hok:=KC.out.ok m hm2;obtain rfl:=KC.out.addr (by omega);obtain⟨dd,hdd⟩:=qX (L.getD m dr0);rw [hdd] at hDr hok hmx;have hbl:b<W1.heap.size:=by obtain⟨_,_,_,_,_,_,_,_,⟨h,_⟩,_⟩:=hDr;exact qac W1 _ h
        have hlt:=HM.out.old.size;have hwl:w.heap.size<W1.heap.size:=(qG K1.out.1.2.1).1;obtain⟨p1,q1,o1,z1,p2,q2,o2,z2,⟨d0,d1,d2,d3,d4,d5⟩,hk1,hk2⟩:=hDr.below hB5;have hne:∀W',W5.grownBy W' (some W.heap.size)->∀(t:Nat) (u:Value),W5.cell? ⟨b,t,none⟩=some u->W'.cell? ⟨b,t,none⟩=some u:=fun W' h t u hc=>h.cell hc (fun e=>by have:b=W.heap.size:=qai e;omega)
        have g2:=rowG (g0:=W.heap.size) (zkeep hB5 _ _ K1.out.1.2.1) 2;have x0:=fun W' h=>hne W' h _ _ d0
        have x1:=fun W' h=>hne W' h _ _ d1
        have x2:=fun W' h=>hne W' h _ _ d2
        have x3:=fun W' h=>hne W' h _ _ d3
        have x4:=fun W' h=>hne W' h _ _ d4
        have x5:=fun W' h=>hne W' h _ _ d5
        have hml:(m:Int)<(L.length:Int):=by omega
        clear hne hm hdd hL0;go_upto_region 12 with fail;refine wp_region_held_drew (S:=fun W'=>W5.grownBy W' (some W.heap.size)) (by kernel_rfl) (keepB qB.drew) (fun hS0=>?_);refine hT 0 (h:=hT 1 (h:=hT 2 (h:=hT 3 (h:=hT 4 (h:=hT 5 (h:=hT 6 (h:=hT 7 (h:=hT 8 (h:=hT 9 (h:=?_))))))))));refine hT 10 (v:=.int .i64 (m:Int)) (h:=?_);refine hT 11 (h:=hT 12 (h:=?_));refine hC 13 (qdQ dd p1 p2 q1 o1 z1 q2 o2 z2 _ hok (hk1.below qB.drew) (hk2.below qB.drew)) (h:=?_);rintro e w6 ⟨rfl,hb6⟩;rw [qdT,<-hmx];have K6:=N5.below (qb1 hb6);refine⟨_,rfl,qgO hb6,hN (h:=?_)⟩;refine hSt 14 2 K6.out.2 (h:=⟨qbU (qgO hb6) (qb5 _ _ _),?_⟩);go_wp2;go_meet;exact⟨rfl,.of ⟨qS K6.out.1 qN _,qT _ _ _ _ _ _ K6.out.2⟩⟩
      case rest =>
       obtain⟨rfl,Kc⟩:=hcut;have HMc:=qH (HM.out.below Kc.out.1);obtain⟨y1,y2,hy⟩:=qb6 (mox L i j);rw [hy] at Kc;have HY:=qH hy;clear hy N5 k2 hB5 HM;go_upto_region 13 with fail;refine wp_region_held_drew (S:=fun _=>True) (by kernel_rfl) trivial (fun hS0=>?_);refine hT 0 (h:=hT 1 (h:=hT 2 (h:=hT 3 (h:=hT 8 (h:=?_)))));refine Go.Proofs.YtplkdeknjghobaaGreatDoor.gr [(4,63),(5,64),(6,65)] [(6,[5])] [0,1,2,3,8] [4,5,6] [] 7 11 (fl2 [(4,fun z _=>z=vs i),(5,fun z _=>z=.agg #[.string y1,.string y2]),(6,fun z W'=>∃g6:Nat,W'.heap[g6]? = some (.cells #[.string y1,.string y2] 44 (0,0))/\z=.slice (some ⟨g6,0,none⟩) 1 1)]) _ 3
        (hS:=fun _ _=>trivial) (hstep:=⟨⟨_,rfl,fun v w3 hb hF K hK=>?_⟩,⟨_,rfl,fun v w3 hb hF K hK=>?_⟩,⟨_,rfl,fun v w3 hb hF K hK=>?_⟩,trivial⟩) (hend:=fun v w3 hb hF _ fu=>?_)
       ·have h0:=HMc.out.cell hi3 (qb1 hb);exact gV hK rfl
       ·have hr:=zkeep (qb1 hb) _ _ Kc.out.2;have h0:=qC _ _ 0 _ _ _ hr;have h1:=qC _ _ 1 _ _ _ hr;exact gV hK rfl
       ·have e5:v 5=_:=hF.1;rw [e5] at hK ⊢;exact gW hK (h:=⟨⟨w3.heap.size,qM _ _ _ rfl,rfl⟩,qbS qB qN⟩)
       have e4:v 4=_:=hF 4 (by decide) (by decide);obtain⟨g6,hg6,e6⟩:∃g:Nat,_:=hF 6 (by decide) (by decide);have hM3:=HMc.out.below (qb1 hb);obtain⟨v',w4,hr,hown,hk4⟩:=qfD 35 (m:=1) (c:=1) (l2:=[(y1,y2)]) (hM3.own hi3) hM3.base.2 (qlF hg6) rfl (by decide) (by omega);rw [<-HY.out,<-qhh] at hown;obtain⟨a7,c7,rfl⟩:=hown.shape;obtain⟨⟨b1,f1⟩,hM5⟩:=hM3.push hi3 hown hk4;rw [e4,e6];refine hE 7 (he:=by exact qf5 rfl rfl rfl rfl hr) (h:=⟨trivial,hN (h:=?_)⟩);refine hT 9 (hS:=trivial) (h:=?_);refine hSg 10 (h:=⟨trivial,?_⟩);have H9:=qH hM5;refine wpAnyH_done (by kernel_rfl) ?_ _;clear hM5 b1 f1 hown hk4 hr hM3 e4 e6 hg6 hF hb hS0;go_wp2;go_roundw
       case rel=>exact⟨j+1,by go_num,hjM,qH ⟨_,H9.out⟩⟩
       case measure=>simp [intOf];omega
     ·have hji:¬(j:Int)<(M:Int):=by omega
      obtain rfl:j=M:=by omega
      go_wp2;go_roundw
      case rel=>exact⟨i+1,by go_num,hi3,qH (HM.out.next hi3 hM1)⟩
      case measure=>simp [intOf];omega
   ·obtain rfl:i=3:=by omega
    obtain⟨a0,a1,a2,c0,c1,c2,hr,hold,hmd⟩:=hO.out.model;have rr:=zkeep hold _ _ K1.out.1.2.2;have hmd2:=hmd.kept (qdP (cs:=#[.int .i64 (k:Int),.int .i64 (n:Int),.slice a0 M c0,.slice a1 M c1,.slice a2 M c2]) rr (by simp));have hbw:=qS (K1.out.1.1.trans (hold.mono K1.out.1.1.size)) (g:=w.heap.size+1) (qbR _) #[.int .i64 (k:Int),.int .i64 (n:Int),.slice a0 M c0,.slice a1 M c1,.slice a2 M c2];have HE:=qH (qA hr (qA rr (qA hmd2 hbw)));clear hr hold hmd rr hmd2 hbw hO
    go_wp2_with (first | (with_reducible refine lW_ rfl 38 _ rfl (W1.heap.size) #[.int .i64 (k:Int),.int .i64 (n:Int),.slice a0 M c0,.slice a1 M c1,.slice a2 M c2] HE.out.1 Tryz.underlying38 5 ?_) | (with_reducible refine sR_ rfl 38 _ _ rfl (w.heap.size+1) #[.int .i64 (k:Int),.int .i64 (n:Int),.slice a0 M c0,.slice a1 M c1,.slice a2 M c2] HE.out.2.1 5 ?_))
    exact qR (v:=.agg #[.int .i64 (k:Int),.int .i64 (n:Int),.slice a0 M c0,.slice a1 M c1,.slice a2 M c2]) (rA_ rfl (w.heap.size+1) (qT _ _ _ _ _ _ HE.out.2.1) Tryz.underlying38 5) rfl ⟨_,rfl,HE.out.2.2.1,HE.out.2.2.2⟩
open Go.Lib
theorem qi2 {k:Nat} {dv:List Int} {l:List Rat} {n:Nat} (h:termL k dv=l) (hn:l.length=n):(termL k dv).map ftxt=told n (fv l):=by
 rw [h,<-hn,qnb]
theorem vals_two {y z:Int} (h:0<=y/\y<=10000) (h2:0<=z/\z<=10000):qcO [y,z]:=fun k hk=>by
 have hk:k<2:=hk;rcases (show k=0\/k=1 by omega) with rfl | rfl
 ·exact h
 ·exact h2
theorem ex_tm1 (W:World) (hT:HasT W):Calls Tryz.prog 25 #[.int .i64 3,.slice (some ⟨W.heap.size,0,none⟩) 2 2] (W.alloc (.cells #[.int .i64 5000,.int .i64 10000] 3)) fun e w'=>∃(p:Option Addr) (g c:Nat),e=.returned (.tuple #[.slice p 4 c,.int .i64 0])/\FCells w' p g 0 (told 4 (fv [1,1 / 2,1,1 / 2]))/\Below W.heap.size W w':=by
 refine (qi3 W 3 3 [5000,10000] 2 rfl kind3 (by decide) (by decide) (by decide) (vals_two (by decide) (by decide)) hT).mono ?_;rintro e w' ⟨p,g,c,rfl,hF,hb⟩;rw [qi2 (l:=[1,1 / 2,1,1 / 2]) (n:=4) (by decide +kernel) rfl] at hF;exact⟨p,g,c,rfl,hF,hb⟩
theorem ex_tm2 (W:World) (hT:HasT W):Calls Tryz.prog 25 #[.int .i64 2,.slice (some ⟨W.heap.size,0,none⟩) 1 1] (W.alloc (.cells #[.int .i64 5000] 3)) fun e w'=>∃(p:Option Addr) (g c:Nat),e=.returned (.tuple #[.slice p 3 c,.int .i64 0])/\FCells w' p g 0 (told 3 (fv [1,1 / 2,1 / 4]))/\Below W.heap.size W w':=by
 refine (qi3 W 2 2 [5000] 1 rfl kind2 (by decide) (by decide) (by decide) (qfM (by decide)) hT).mono ?_;rintro e w' ⟨p,g,c,rfl,hF,hb⟩;rw [qi2 (l:=[1,1 / 2,1 / 4]) (n:=3) (by decide +kernel) rfl] at hF;exact⟨p,g,c,rfl,hF,hb⟩
theorem ex_tm3 (W:World) (hT:HasT W):Calls Tryz.prog 25 #[.int .i64 4,.slice (some ⟨W.heap.size,0,none⟩) 1 1] (W.alloc (.cells #[.int .i64 0] 3)) fun e w'=>e=.returned (.tuple #[.slice none 0 0,.int .i64 2])/\Below W.heap.size W w':=by
 have hn:¬∃k,qcC 4 k:=fun⟨k,h⟩=>by have:=h.1;have:=h.2;omega
 refine qm8 W 4 [0] 1 2 rfl (by decide) (fun e h=>?_) (fun⟨k,h,_⟩=>hn ⟨k,h⟩) hT;rcases h with ⟨_,h⟩ | ⟨⟨h,_⟩,_⟩
 ·exact h
 ·exact absurd h hn
theorem ex_f1 (W:World) (g c:Nat) (hP:PCells W (some ⟨g,0,none⟩) g 0 ramp) (hT:HasT W):Calls Tryz.prog 14 #[.slice (some ⟨g,0,none⟩) 3 c,.int .i64 1,.slice (some ⟨W.heap.size,0,none⟩) 3 3] (W.alloc (.cells #[.int .i64 1,.int .i64 1,.int .i64 1] 3)) fun e w'=>∃v,e=.returned (.tuple #[v,.int .i64 0])/\MdAt w' v (mdq 1 1 2 fitX1)/\Below W.heap.size W w':=by
 refine (qlN W ramp 3 g 0 c _ 1 [1,1,1] 3 rfl (by decide) rfl (by decide) qdF hP hT).mono ?_;intro e w' h;obtain⟨hb,v,he,hM⟩:=ex_fit1 h;exact⟨v,he,hM,qdf hb⟩
theorem ex_f2 (W:World) (g c:Nat) (hP:PCells W (some ⟨g,0,none⟩) g 0 ramp) (hT:HasT W):Calls Tryz.prog 14 #[.slice (some ⟨g,0,none⟩) 3 c,.int .i64 2,.slice (some ⟨W.heap.size,0,none⟩) 3 3] (W.alloc (.cells #[.int .i64 1,.int .i64 1,.int .i64 1] 3)) fun e w'=>∃v,e=.returned (.tuple #[v,.int .i64 0])/\MdAt w' v (mdq 2 1 3 fitX2)/\Below W.heap.size W w':=by
 refine (qlN W ramp 3 g 0 c _ 2 [1,1,1] 3 rfl (by decide) rfl (by decide) qdF hP hT).mono ?_;intro e w' h;obtain⟨hb,v,he,hM⟩:=ex_fit2 h;exact⟨v,he,hM,qdf hb⟩
theorem ex_f3 (w:World) (g g2 c:Nat) (hP:PCells w (some ⟨g,0,none⟩) g 0 ramp) (hN:w.heap[g2]? = some (.cells #[.int .i64 1,.int .i64 1,.int .i64 0] 3 (0,0))) (hT:HasT w):Calls Tryz.prog 14 #[.slice (some ⟨g,0,none⟩) 3 c,.int .i64 2,.slice (some ⟨g2,0,none⟩) 3 3] w fun e w'=>e=.returned (.tuple #[mdv0,.int .i64 7])/\Below w.heap.size w w':=by
 have hN:=qgr (q:=[1,1,0]) hN 0;refine (qlM 3 g 0 c g2 0 3 3 (some ⟨g,0,none⟩) (some ⟨g2,0,none⟩) ramp 2 [1,1,0] w rfl (by decide) (fun k hk=>⟨by have:=(qdF k hk).1;omega,by have:=(qdF k hk).2;omega⟩) rfl (by decide) hP hN hT).mono ?_;intro e w' h;obtain⟨hb,he⟩:=ex_fit3 h;exact⟨he,hb⟩
theorem ex_a1 (W:World) (v:Value) (hM:MdAt W v (mdq 1 1 2 fitX1)) (hT:HasT W):Calls Tryz.prog 22 #[v,.slice (some ⟨W.heap.size,0,none⟩) 1 1] (W.alloc (.cells #[.int .i64 5000] 3)) fun e w'=>e=.returned (.tuple #[.agg #[.string ⟨#[49,54,48]⟩,.string ⟨#[51]⟩,.string ⟨#[48]⟩,.string ⟨#[49]⟩,.string ⟨#[48]⟩,.string ⟨#[49]⟩],.int .i64 0])/\Below W.heap.size W w':=by
 refine (qlf (mdq 1 1 2 fitX1) v 1 W.heap.size 0 1 (some ⟨W.heap.size,0,none⟩) [5000] _ (hM.below (alloc_old _ _)) rfl (by decide) (qjq (by decide)) (qfl W [5000]) (hT.below (alloc_old _ _))).mono ?_;intro e w' h;obtain⟨hb,he⟩:=ex_apply h;exact⟨he,qdf hb⟩
theorem ex_s1 (w:World) (v:Value) (g c:Nat) (hM:MdAt w v (mdq 1 1 2 fitX1)) (hP:PCells w (some ⟨g,0,none⟩) g 0 ramp) (hT:HasT w):Calls Tryz.prog 33 #[v,.slice (some ⟨g,0,none⟩) 3 c] w fun e w'=>∃g,e=.returned (.tuple #[.slice (some ⟨g,0,none⟩) 3 3,.int .i64 0])/\FCells w' (some ⟨g,0,none⟩) g 0 (told 3 (fv [100 / 9,400 / 9,100 / 9]))/\Below w.heap.size w w':=by
 refine (qjA (mdq 1 1 2 fitX1) v 3 g 0 c (some ⟨g,0,none⟩) ramp w hM rfl (by decide) (fun k hk=>⟨by have:=(qdF k hk).1;omega,by have:=(qdF k hk).2;omega⟩) (qjq (by decide)) hP hT).mono ?_;intro e w' h;obtain⟨hb,g,he,hF⟩:=qkt h;exact⟨g,he,hF,hb⟩
theorem IOwn.cells {W:World} {B:Nat} {v:Value} {l:List Int} (h:IOwn W B v l) (h0:0<l.length):∃g c,v=.slice (some ⟨g,0,none⟩) l.length c/\NCells W (some ⟨g,0,none⟩) g 0 l:=by
 have hown:=h;rcases h.2 with ⟨_,h⟩ | ⟨g,cap,cur,rfl,_,_,_⟩
 ·omega
 ·refine⟨g,cap,rfl,fun _=>rfl,fun k hk=>?_⟩;have:=World.ownsRow.cells hown (g:=g) rfl k (.int .i64 (l.getD k 0)) (by rw [qaM,qaa,qae hk];rfl)
  rwa [Addr.add_mid] at this
theorem qhD {W:World} {B j:Nat} {v:Value} {e:TypeId} {vs:List Value} (h:W.ownsRow B e 1 v j vs) (h0:0<j):∃g c,v=.slice (some ⟨g,0,none⟩) j c/\∀k,k<j->W.cell? ⟨g,k,none⟩=some (vs.getD k undef):=by
 have hown:=h;rcases h.2 with ⟨_,h⟩ | ⟨g,cap,cur,rfl,_,_,_⟩
 ·omega
 ·refine⟨g,cap,rfl,fun k hk=>?_⟩;have hl:=h.1;have:=hown.cells (g:=g) rfl k (vs.getD k undef) (by rw [qaa,qae (by omega)];rfl)
  rwa [Addr.add_mid,qaO] at this
theorem eq_ints (b1 o1 c b2 o2 d:Nat) (xs ys:List Int) (n m:Nat) (w:World) (hn:xs.length=n) (hm:ys.length=m) (hn2:n<=1000000) (hm2:m<=1000000) (h1:NCells w (some ⟨b1,o1,none⟩) b1 o1 xs) (h2:NCells w (some ⟨b2,o2,none⟩) b2 o2 ys) :
  Calls Tryz.prog 43 #[.slice (some ⟨b1,o1,none⟩) n c,.slice (some ⟨b2,o2,none⟩) m d] w fun e w'=>e=.returned (.bool (xs == ys))/\Below w.heap.size w w':=by
 subst hn hm;refine (Tryz.slices_Equal_int b1 o1 xs.length c b2 o2 ys.length d xs ys w qN qN (by omega) (by omega) h1.cell h2.cell).mono ?_;rintro e w' ⟨rfl,q,rfl⟩;rw [qbi,qbi];exact⟨rfl,below_drewN qB q⟩
theorem qlC (W:World) (b1 o1 c:Nat) (xs:List Int) (n:Nat) (hn:xs.length=n) (hn2:n<=1000) (h1:NCells W (some ⟨b1,o1,none⟩) b1 o1 xs) :
  Calls Tryz.prog 43 #[.slice (some ⟨b1,o1,none⟩) n c,.slice (some ⟨W.heap.size,0,none⟩) n n] (W.alloc (.cells (xs.map fun z=>Value.int .i64 z).toArray 3)) fun e w'=>e=.returned (.bool true)/\Below W.heap.size W w':=by
 refine (eq_ints b1 o1 c W.heap.size 0 n xs xs n n _ hn hn (by omega) (by omega) (h1.below (alloc_old _ _)) (qfl W xs)).mono ?_;rintro e w' ⟨rfl,hb⟩;exact⟨by simp,qdf hb⟩
instance stays_sc2 {g off:Nat} {L:List ByteArray}:Stays fun W=>SCells W g off L:=⟨fun h hb=>h.below hb⟩
instance stays_isat {b:Nat} {L:List ByteArray}:Stays fun W=>IsAt W b L:=⟨fun h hb=>h.below hb⟩
def SC (s:ByteArray) (z:Value) (W:World):Prop:=∃g:Nat,z=.slice (some ⟨g,0,none⟩) 1 1/\W.heap[g]? = some (.cells #[.string s] 9 (0,0))
def QC (x1 x2:ByteArray) (z:Value) (W:World):Prop:=∃g c:Nat,z=.slice (some ⟨g,0,none⟩) 1 c/\(W.cell? ⟨g,0,none⟩=some (.string x1)/\W.cell? ⟨g,1,none⟩=some (.string x2))
def PC (x1 x2:ByteArray) (z:Value) (W:World):Prop:=∃g:Nat,z=.pointer (some ⟨g,0,none⟩)/\(W.cell? ⟨g,0,none⟩=some (.string x1)/\W.cell? ⟨g,1,none⟩=some (.string x2))
instance stays_sc {s:ByteArray} {z:Value}:Stays (SC s z):=⟨fun⟨g,h1,h2⟩ hb=>⟨g,h1,zkeep hb _ _ h2⟩⟩
instance stays_qc {x1 x2:ByteArray} {z:Value}:Stays (QC x1 x2 z):=⟨fun {W _} ⟨g,c,h1,h2,h3⟩ hb=>⟨g,c,h1,(hb.cell (qac W _ h2)).trans h2,(hb.cell (qac W _ h3)).trans h3⟩⟩
instance stays_pcx {x1 x2:ByteArray} {z:Value}:Stays (PC x1 x2 z):=⟨fun {W _} ⟨g,h1,h2,h3⟩ hb=>⟨g,h1,(hb.cell (qac W _ h2)).trans h2,(hb.cell (qac W _ h3)).trans h3⟩⟩
theorem q1_at (w:World) (g:Nat) (s x1 x2:ByteArray) (r:Rat) (hg:w.heap[g]? = some (.cells #[.string s] 9 (0,0))) (h:qf s=ftxt r) (hx:ftxt r=(x1,x2)) (hz:s.size<=65536) :
  Calls Tryz.prog 24 #[.slice (some ⟨g,0,none⟩) 1 1] w fun e w'=>∃g c,e=.returned (.slice (some ⟨g,0,none⟩) 1 c)/\(w'.cell? ⟨g,0,none⟩=some (.string x1)/\w'.cell? ⟨g,1,none⟩=some (.string x2))/\Below w.heap.size w w':=by
 refine (q_at 1 (L:=[s]) (l:=[r]) (SCells.row (L:=[s]) hg) rfl rfl (by decide) (by rw [qbt,qbN,qbt,qbN,h]) (fun t ht=>by rw [qap.1 ht];exact hz)).mono ?_;rintro e w' ⟨ao,g,c,rfl,hF,hb⟩;have ha:=hF.addr (by rw [qbW];decide);subst ha;obtain⟨h0,h1⟩:=hF.cell 0 (by rw [qbW];decide);rw [qdr (by decide),show fv [r] 0=r from rfl,hx] at h0 h1;exact⟨g,c,rfl,⟨h0,h1⟩,hb⟩
theorem ex_e1 (w:World) (v:Value) (hM:MdAt w v (mdq 1 1 2 fitX1)) (hT:HasT w) (hE:HasE w):Calls Tryz.prog 28 #[v] w fun e w'=>∃(gr cr g0 c0 g1 c1 go co:Nat),
  e=.returned (.tuple #[.agg #[.int .i64 2,.slice none 0 0,.slice (some ⟨gr,0,none⟩) 3 cr,.slice (some ⟨go,0,none⟩) 3 co,.slice none 0 0,.int .i64 0,.slice none 0 0,.slice none 0 0,.int .i64 0,.int .i64 0],.int .i64 0]) /\
  (w'.cell? ⟨gr,0,none⟩=some (.slice (some ⟨g0,0,none⟩) 1 c0)/\w'.cell? ⟨gr,1,none⟩=some (.slice (some ⟨g1,0,none⟩) 1 c1)/\NCells w' (some ⟨g0,0,none⟩) g0 0 [1000000]/\NCells w' (some ⟨g1,0,none⟩) g1 0 [0]/\NCells w' (some ⟨go,0,none⟩) go 0 [33333,500000,500000])/\Below w.heap.size w w':=by
 refine (qgH (mdq 1 1 2 fitX1) v w hM (qjq (by decide)) hT hE).mono ?_;rintro e w' ⟨hb,⟨v,rfl,n,h1,_,B,vr,vo,rfl,ho,vs,hr,hv⟩ | ⟨c,rfl,h⟩⟩
 ·obtain rfl:=(qiB.uniq h1).2;have e0:elOff (mdq 1 1 2 fitX1) 3=[33333,500000,500000]:=by
   show [elz _ 0 0,elz _ 1 0,elz _ 2 0]=_
   rw [(qhq 0 (by decide)).1,(qhq 1 (by decide)).1,(qhq 2 (by decide)).1];rfl
  have e1:elRow (mdq 1 1 2 fitX1) 1 0=[1000000]:=by
   show [elz _ 0 1]=_
   rw [(qhq 0 (by decide)).2];rfl
  have e2:elRow (mdq 1 1 2 fitX1) 1 1=[0]:=by
   show [elz _ 1 1]=_
   rw [(qhq 1 (by decide)).2];rfl
  rw [e0] at ho;have h0:=(hv 0 (by decide)).1;have h1':=(hv 1 (by decide)).1;rw [e1] at h0;rw [e2] at h1';obtain⟨go,co,rfl,hNo⟩:=IOwn.cells ho (by decide);obtain⟨gr,cr,rfl,hcr⟩:=qhD hr (by decide);obtain⟨g0,c0,hg0,hN0⟩:=IOwn.cells h0 (by decide);obtain⟨g1,c1,hg1,hN1⟩:=IOwn.cells h1' (by decide);have r0:=hcr 0 (by decide);have r1:=hcr 1 (by decide);rw [hg0] at r0;rw [hg1] at r1;exact⟨gr,cr,g0,c0,g1,c1,go,co,rfl,⟨r0,r1,hN0,hN1,hNo⟩,hb⟩
 ·exfalso;rcases h with ⟨h,_⟩ | ⟨_,h,_⟩ | ⟨n,h1,h2,_⟩
  ·exact h ⟨_,_,qiB⟩
  ·exact h rfl
  ·obtain rfl:=(qiB.uniq h1).2;exact h2 ex_elok
theorem eq_3f (w:World):(Op.equalIn 10000 65 (.agg #[.string ⟨#[49,54,48]⟩,.string ⟨#[51]⟩,.string ⟨#[48]⟩,.string ⟨#[49]⟩,.string ⟨#[48]⟩,.string ⟨#[49]⟩]) (.agg #[.string ⟨#[49,54,48]⟩,.string ⟨#[51]⟩,.string ⟨#[48]⟩,.string ⟨#[49]⟩,.string ⟨#[48]⟩,.string ⟨#[49]⟩])).run Tryz.prog w=.ok true w:=by kernel_rfl
theorem cmp_le {p q:Rat} (h:p<=q):cmp3 (p.num*(q.den:Int) + -(q.num*(p.den:Int))) 0<=0:=by
 have h1:=(Rat.le_iff p q).1 h;generalize p.num*(q.den:Int)=X at *;generalize q.num*(p.den:Int)=Y at *;unfold cmp3;split
 ·omega
 ·split <;> omega
theorem cmpq_le {p q:Rat} (hp:Short p) (hq:Short q) (h:p<=q) (w:World) :
  Calls Tryz.prog 17 #[.agg #[.string (ftxt p).1,.string (ftxt p).2],.agg #[.string (ftxt q).1,.string (ftxt q).2]] w fun e w'=>∃c:Int,e=.returned (.tuple #[.int .i64 c,.int .i64 0])/\c<=0/\Below w.heap.size w w':=by
 refine (qjT _ _ _ _ w).mono ?_;rintro e w' ⟨⟨_,rfl⟩ | ⟨hn,_⟩,hb⟩
 ·have e1:fval (ftxt p).1.data.toList (ftxt p).2.data.toList=p:=qcD p;have e2:fval (ftxt q).1.data.toList (ftxt q).2.data.toList=q:=qcD q;rw [e1,e2];exact⟨_,rfl,cmp_le h,hb⟩
 ·exact absurd ⟨qcZ hp,qcZ hq⟩ hn
theorem addq {p q:Rat} (sp:Short p) (sq:Short q) (sz:Short (p+q)) (w:World) (hT:HasT w) :
  Calls Tryz.prog 27 #[.agg #[.string (ftxt p).1,.string (ftxt p).2],.agg #[.string (ftxt q).1,.string (ftxt q).2]] w fun e w'=>e=.returned (.tuple #[.agg #[.string (ftxt (p+q)).1,.string (ftxt (p+q)).2],.int .i64 0])/\Below w.heap.size w w':=by
 refine (fadd_any _ _ _ _ w hT).mono ?_;rintro e w' ⟨⟨_,h⟩ | ⟨h,_⟩,hb⟩
 ·rw [qcD,qcD] at h;rcases h with ⟨_,h⟩ | ⟨h,_⟩
  ·exact⟨h,hb⟩
  ·exact absurd sz h
 ·exact absurd ⟨qcZ sp,qcZ sq⟩ h
def adN (i k:Nat):Int:=if k=0/\0<i then 128 else 0
def elDN (i:Nat):Int:=if i=0 then 100 else 256
def eOne (z:Int):Rat:=(z:Rat) / ((1:Int):Rat)
def eBy (i:Nat):Rat:=((1000000:Int):Rat) / (elDN i:Rat)
def eHalf:Rat:=((1:Int):Rat) / ((2:Int):Rat)
def eS (q:Rat) (i k:Nat):Rat:=q+eOne (adN i k)
def eW (q:Rat) (i k:Nat):Rat:=eS q i k*eBy i
def eO (q:Rat) (i k:Nat) (z:Int):Rat:=eOne z-eW q i k
theorem qkk {q:Rat} (h:Short q):Short (absR q):=by
 unfold absR;split
 ·unfold Short at h ⊢
  show (num (-q.num).natAbs).size<=600/\_
  rw [qa9];exact h
 ·exact h
theorem absR_le {q c:Rat} (h1:q<=c) (h2:-q<=c):absR q<=c:=by unfold absR;split <;> assumption
theorem qlw (z:Int):Cd (eOne z) 1 z.natAbs:=⟨z,rfl,qad _⟩
theorem qlx (z:Int):eOne z=(z:Rat):=by unfold eOne;rw [show ((1:Int):Rat)=1 from rfl];grind
theorem rb_cd {q:Rat} {N:Nat} (h:Rb q N):Cd q q.den N:=⟨q.num,by
 have e:=Rat.num_divInt_den q;rw [Rat.divInt_eq_div,Rat.intCast_natCast] at e;exact e.symm,h.1⟩
theorem eBy_cd (i:Nat):∃D,(D=100\/D=256)/\Cd (eBy i) D 1000000:=by
 unfold eBy elDN;split
 ·exact⟨100,.inl rfl,1000000,rfl,by decide⟩
 ·exact⟨256,.inr rfl,1000000,rfl,by decide⟩
theorem adN_le (i k:Nat):0<=adN i k/\adN i k<=128:=by unfold adN;split <;> decide
theorem eW_eq (q:Rat) (i k:Nat):eW q i k=q*((elN i:Nat):Rat) / ((elD i:Nat):Rat)+((if k=0 then elM i else 0:Int):Rat):=by
 unfold eW eS;rw [qlx];unfold eBy adN elDN elN elD elM
 by_cases hi:i=0
 ·subst hi;rw [if_pos rfl,if_pos rfl,if_pos rfl,if_pos rfl,if_neg (by omega)];have e:((if k=0 then (0:Int) else 0:Int):Rat)=0:=by split <;> rfl
  rw [e,show ((0:Int):Rat)=0 from rfl,show ((1000000:Int):Rat)=1000000 from rfl,show ((100:Int):Rat)=100 from rfl,show ((10000:Nat):Rat)=10000 from rfl,show ((1:Nat):Rat)=1 from rfl]
  grind
 ·rw [if_neg hi,if_neg hi,if_neg hi,if_neg hi];rw [show ((1000000:Int):Rat)=1000000 from rfl,show ((256:Int):Rat)=256 from rfl,show ((15625:Nat):Rat)=15625 from rfl,show ((4:Nat):Rat)=4 from rfl]
  by_cases hk:k=0
  ·rw [if_pos ⟨hk,by omega⟩,if_pos hk,show ((128:Int):Rat)=128 from rfl,show ((500000:Int):Rat)=500000 from rfl]
   grind
  ·rw [if_neg (fun h=>hk h.1),if_neg hk,show ((0:Int):Rat)=0 from rfl]
   grind
theorem qkA (y:Rat):((y+1 / 2).floor:Rat)-y<=1 / 2/\y-((y+1 / 2).floor:Rat)<=1 / 2:=by
 have h1:(((y+1 / 2).floor:Int):Rat)<=y+1 / 2:=Rat.le_floor_iff.1 (Int.le_refl _);have h2:y+1 / 2<(((y+1 / 2).floor+1:Int):Rat):=Rat.floor_lt_iff.1 (by omega);rw [Rat.intCast_add,show ((1:Int):Rat)=1 from rfl] at h2;generalize (((y+1 / 2).floor:Int):Rat)=F at *
 constructor <;> grind
theorem eHalf_eq:eHalf=1 / 2:=rfl
theorem qkG:Short eHalf:=qdd (N:=2) ⟨by decide +kernel,by decide +kernel⟩ (by decide +kernel)
structure ElLaw (q:Rat) (i k:Nat) (z:Int):Prop where
 s0:Short q
 sb:Short (eBy i)
 sa:Short (eOne (adN i k))
 s1:Short (eS q i k)
 s2:Short (eW q i k)
 sz:Short (eOne z)
 s3:Short (eO q i k z)
 le:absR (eO q i k z)<=eHalf
theorem el_law {q:Rat} {i k:Nat} {z:Int} (hq:Rb q 1000) (hz:z=nearT q (elN i) (elD i)+(if k=0 then elM i else 0)) (hs:qgD z):ElLaw q i k z:=by
 have hN:(1000000000:Nat)<10 ^ 600:=by decide +kernel
 have hN2:(1000000000000000000:Nat)<10 ^ 600:=by decide +kernel
 obtain⟨D,hD,hby⟩:=eBy_cd i;have hD1:D≠0/\D<=256:=by omega
 have hc:=rb_cd hq;have hd:=hq.2;have hd0:=q.den_nz;generalize q.den=d at hc hd hd0;have had:=adN_le i k;have h0:=qlw (adN i k);have h1:=h0.up d (by decide) hd0;rw [qbx] at h1;have h2:Cd (eS q i k) d 129000:=(hc.add h1).mono (by
  have:(adN i k).natAbs*d<=128*1000:=Nat.mul_le_mul (by omega) hd;omega)
 have h3:Cd (eW q i k) (d*D) (129000*1000000):=h2.mul hby hd0 hD1.1;have hdD:d*D<=1000*256:=Nat.mul_le_mul hd hD1.2;have hdD0:d*D≠0:=Nat.mul_ne_zero hd0 hD1.1;have h4:=qlw z;have h5:=h4.up (d*D) (by decide) hdD0;rw [qbx] at h5;have hz9:z.natAbs<=1000000000:=by have:=hs.1;have:=hs.2;omega
 have h6:Cd (eO q i k z) (d*D) 1000000000000000:=(h5.sub h3).mono (by
  have:z.natAbs*(d*D)<=1000000000*256000:=Nat.mul_le_mul hz9 hdD;omega)
 refine⟨qdd hq (by decide +kernel),hby.short hD1.1 (by decide +kernel) (by omega),h0.short (by decide) (by omega) (by omega),h2.short hd0 (by omega) (by omega),h3.short hdD0 (by omega) (by omega),h4.short (by decide) (by omega) (by omega),h6.short hdD0 (by omega) (by omega),?_⟩;have e:eO q i k z=((nearT q (elN i) (elD i):Int):Rat)-q*((elN i:Nat):Rat) / ((elD i:Nat):Rat):=by
  unfold eO;rw [eW_eq,qlx,hz,Rat.intCast_add]
  grind
 rw [e,eHalf_eq];have:=qkA (q*((elN i:Nat):Rat) / ((elD i:Nat):Rat));unfold nearT;refine absR_le this.1 ?_;have:=this.2
 grind
structure EIn (W:World) (m:Md) (n gr go:Nat):Prop where
 rows:∀i,i<3->∃g c,W.cell? ⟨gr,i,none⟩=some (.slice (some ⟨g,0,none⟩) n c)/\∀k,k<n->W.cell? ⟨g,k,none⟩=some (.int .i64 (elz m i (k+1)))
 offs:∀i,i<3->W.cell? ⟨go,i,none⟩=some (.int .i64 (elz m i 0))
theorem EIn.below {W W':World} {m:Md} {n gr go:Nat} (h:EIn W m n gr go) (hb:Below W.heap.size W W'):EIn W' m n gr go :=
 ⟨fun i hi=>by
  obtain⟨g,c,h1,h2⟩:=h.rows i hi;exact⟨g,c,(hb.cell (qac W _ h1)).trans h1,fun k hk=>(hb.cell (qac W _ (h2 k hk))).trans (h2 k hk)⟩,
 fun i hi=>(hb.cell (qac W _ (h.offs i hi))).trans (h.offs i hi)⟩
instance stays_ein {m:Md} {n gr go:Nat}:Stays fun W=>EIn W m n gr go:=⟨fun h hb=>h.below hb⟩
theorem el_at {w:World} {m:Md} {n:Nat} {e:Ending} {w':World} (hm:MdOk m 1 n) (h:ElAs w m e w'):Below w.heap.size w w' /\
  ((∃gr cr go co,e=.returned (.tuple #[.agg #[.int .i64 2,.slice none 0 0,.slice (some ⟨gr,0,none⟩) 3 cr,.slice (some ⟨go,0,none⟩) 3 co,.slice none 0 0,.int .i64 0,.slice none 0 0,.slice none 0 0,.int .i64 0,.int .i64 0],.int .i64 0])/\EIn w' m n gr go/\ElOk m n) \/
   e=.returned (.tuple #[.agg #[.int .i64 0,.slice none 0 0,.slice none 0 0,.slice none 0 0,.slice none 0 0,.int .i64 0,.slice none 0 0,.slice none 0 0,.int .i64 0,.int .i64 0],.int .i64 6])):=by
 have hn1:=hm.inn.2.1;obtain⟨hb,⟨v,rfl,n',h1,hel,B,vr,vo,rfl,ho,vs,hr,hv⟩ | ⟨c,rfl,h⟩⟩:=h
 ·obtain rfl:=(hm.uniq h1).2;refine⟨hb,.inl ?_⟩;obtain⟨go,co,rfl,hNo⟩:=IOwn.cells ho (by rw [qdZ];decide);rw [qdZ];obtain⟨gr,cr,rfl,hcr⟩:=qhD hr (by decide);refine⟨gr,cr,go,co,rfl,⟨fun i hi=>?_,fun i hi=>?_⟩,hel⟩
  ·obtain⟨g0,c0,hg0,hN0⟩:=IOwn.cells (hv i hi).1 (by rw [qdI];omega);have h0:=hcr i hi;rw [hg0,qdI] at h0;refine⟨g0,c0,h0,fun k hk=>?_⟩;have:=hN0.cell k (by rw [qdI];exact hk);rw [qaO,qaa,qae (by rw [qdI];exact hk)] at this;rw [qjS] at this;exact this
  ·have:=hNo.cell i (by rw [qdZ];exact hi);rw [qaO] at this;rw [this];rcases (show i=0\/i=1\/i=2 by omega) with rfl | rfl | rfl <;> rfl
 ·refine⟨hb,.inr ?_⟩;rcases h with ⟨h,_⟩ | ⟨_,h,_⟩ | ⟨_,_,_,rfl⟩
  ·exact absurd ⟨_,_,hm⟩ h
  ·exact absurd hm.kind.1 (by simpa using h)
  ·rfl
structure OwK (w0 W:World):Prop where
 kb:Below w0.heap.size w0 W
 kt:HasT W
 ke:HasE W
theorem OwK.below {w0 W W':World} (h:OwK w0 W) (hb:Below W.heap.size W W'):OwK w0 W':=⟨h.kb.trans (hb.mono h.kb.size),h.kt.below hb,h.ke.below hb⟩
theorem qnk (w0:World) (hT:HasT w0) (hE:HasE w0):Calls Tryz.prog 11 #[] w0 fun e w'=>e=.returned (.bool true)/\Below w0.heap.size w0 w':=by
 have KO:OwK w0 w0:=⟨Below.refl _ _,hT,hE⟩;clear hT hE;go_enter Tryz.func11,Tryz.ntmps11;go_wp2_with fail;refine (qiz _ [⟨#[49]⟩,⟨#[49,47,50]⟩,⟨#[49]⟩,⟨#[49,47,50]⟩] 4 rfl).mono ?_;rintro e w1 ⟨bI1,rfl,hi,hb⟩;have I1:=qH hi;replace KO:=KO.below hb;clear hb hi;go_wp2_with fail;refine (ex_tm1 _ KO.kt).mono ?_;rintro e w2 ⟨pF1,gF1,cF1,rfl,hf,hb⟩;have F1:=qH hf;replace KO:=KO.below hb;replace I1:=qH (I1.out.below hb);clear hb hf;go_wp2_with fail;refine (qfR (L:=[⟨#[49]⟩,⟨#[49,47,50]⟩,⟨#[49]⟩,⟨#[49,47,50]⟩]) (l:=[(1:Rat),1 / 2,1,1 / 2]) I1.out rfl rfl (by decide) (by simp only [qbt,qbN,ft_1,ft_12];decide +kernel) (by decide) F1.out).mono ?_;rintro e w3 ⟨rfl,hb⟩;replace KO:=KO.below hb;replace I1:=qH (I1.out.below hb);replace F1:=qH (F1.out.below hb);clear hb I1 F1;go_wp2_with fail;refine (qiz _ [⟨#[49]⟩,⟨#[49,47,50]⟩,⟨#[49,47,52]⟩] 3 rfl).mono ?_;rintro e w4 ⟨bI2,rfl,hi,hb⟩;have I2:=qH hi;replace KO:=KO.below hb;clear hb hi;go_wp2_with fail;refine (ex_tm2 _ KO.kt).mono ?_;rintro e w5 ⟨pF2,gF2,cF2,rfl,hf,hb⟩;have F2:=qH hf;replace KO:=KO.below hb;replace I2:=qH (I2.out.below hb);clear hb hf;go_wp2_with fail;refine (qfR (L:=[⟨#[49]⟩,⟨#[49,47,50]⟩,⟨#[49,47,52]⟩]) (l:=[(1:Rat),1 / 2,1 / 4]) I2.out rfl rfl (by decide) (by simp only [qbt,qbN,ft_1,ft_12,ft_14];decide +kernel) (by decide) F2.out).mono ?_;rintro e w6 ⟨rfl,hb⟩;replace KO:=KO.below hb;replace I2:=qH (I2.out.below hb);replace F2:=qH (F2.out.below hb);clear hb I2 F2;go_wp2_with fail;refine (none_any 2 _).mono ?_;rintro e w7 ⟨bI3,rfl,hb,hi⟩;have I3:=qH hi;replace KO:=KO.below hb;clear hb hi;go_wp2_with fail;refine (ex_tm3 _ KO.kt).mono ?_;rintro e w8 ⟨rfl,hb⟩;replace KO:=KO.below hb;replace I3:=qH (zkeep hb _ _ I3.out);clear hb;go_wp2_with fail;refine (qmt 2 _ _ I3.out).mono ?_;rintro e w9 ⟨rfl,hw⟩;subst hw;clear I3;go_wp2_with fail;refine (qgz _).mono ?_;rintro e w10 ⟨gP,rfl,hp,hb⟩;have P1:=qH hp;replace KO:=KO.below hb;clear hb hp;go_wp2_with fail;refine (ex_f1 _ gP 3 P1.out KO.kt).mono ?_;rintro e w11 ⟨v1,rfl,hm,hb⟩;have M1:=qH hm;replace KO:=KO.below hb;replace P1:=qH (P1.out.below hb);clear hb hm P1;obtain⟨a0,a1,a2,b0,o0,c0,b1,o1,c1,b2,o2,c2,rfl,hx0,hx1,hx2⟩:=M1.out.lit;clear hx0 hx1 hx2;obtain⟨Vm,hVm,Nm⟩:=nw1 w11 #[.int .i64 1,.int .i64 1,.slice a0 2 c0,.slice a1 2 c1,.slice a2 2 c2] 38;go_upto_region 3 with fail;rw [<-hVm];have hb:=Nm.out.1;have Rm:=qH Nm.out.2;clear hVm Nm;replace KO:=KO.below hb;replace M1:=qH (M1.out.below hb);clear hb;go_wp2_with fail;refine (qgz _).mono ?_;rintro e w12 ⟨gP2,rfl,hp,hb⟩;have P2:=qH hp;replace KO:=KO.below hb;replace M1:=qH (M1.out.below hb);replace Rm:=qH (zkeep hb _ _ Rm.out);clear hb hp;go_wp2_with fail;refine (ex_f2 _ gP2 3 P2.out KO.kt).mono ?_;rintro e w13 ⟨v2,rfl,hm,hb⟩;have M2:=qH hm;replace KO:=KO.below hb;replace M1:=qH (M1.out.below hb);replace Rm:=qH (zkeep hb _ _ Rm.out);replace P2:=qH (P2.out.below hb);clear hb hm P2;obtain⟨d0,d1,d2,e0,f0,k0,e1,f1,k1,e2,f2,k2,rfl,hx0,hx1,hx2⟩:=M2.out.lit;clear hx0 hx1 hx2;obtain⟨Vs,hVs,Ns⟩:=nw1 w13 #[.int .i64 2,.int .i64 1,.slice d0 3 k0,.slice d1 3 k1,.slice d2 3 k2] 38;go_upto_region 4 with fail;rw [<-hVs];have hb:=Ns.out.1;have Rs:=qH Ns.out.2;clear hVs Ns;replace KO:=KO.below hb;replace M1:=qH (M1.out.below hb);replace Rm:=qH (zkeep hb _ _ Rm.out);replace M2:=qH (M2.out.below hb);clear hb;obtain⟨xa0,xa1,xa2,xb0,xo0,xc0,xb1,xo1,xc1,xb2,xo2,xc2,hxe,X0,X1,_⟩:=M1.out.lit;simp only [qaJ,qaL,qaH,qbE,and_true,true_and] at hxe;obtain⟨⟨rfl,rfl⟩,⟨rfl,rfl⟩,rfl,rfl⟩:=hxe;obtain⟨ya0,ya1,ya2,yb0,yo0,yc0,yb1,yo1,yc1,yb2,yo2,yc2,hye,Y0,_,_⟩:=M2.out.lit;simp only [qaJ,qaL,qaH,qbE,and_true,true_and] at hye;obtain⟨⟨rfl,rfl⟩,⟨rfl,rfl⟩,rfl,rfl⟩:=hye;rw [show told 2 (fitX1 0)=told 2 (fv [10 / 3,100]) from rfl] at X0;rw [show told 2 (fitX1 1)=told 2 (fv [0,0]) from rfl] at X1;rw [show told 3 (fitX2 0)=told 3 (fv [0,140,-40]) from rfl] at Y0;have HXY:=qH (qA X0 (qA X1 Y0));have HW4:=qH (Below.refl Vs.heap.size Vs);have lm:=(qG Rm.out).1;have ls:=(qG Rs.out).1;have m2:=rowC (B:=Vs.heap.size) Rm.out 2;have m3:=rowC (B:=Vs.heap.size) Rm.out 3;have s2:=rowC (B:=Vs.heap.size) Rs.out 2;clear X0 X1 Y0;refine wp_region_held_drew (S:=fun W=>Below Vs.heap.size Vs W) (by kernel_rfl) qB.drew (fun hS0=>?_);refine hT 0 (h:=hT 1 (h:=hT 2 (h:=hT 3 (h:=hT 4 (h:=hT 5 (h:=?_))))));have hVb:Below Vs.heap.size Vs Vs.drew:=qB.drew;refine hT 6 (hS:=hVb) (h:=hT 7 (hS:=hVb) (h:=hT 8 (hS:=hVb) (h:=?_)));refine hE 9 (h:=⟨qbS hVb qN,hN (h:=?_)⟩);refine hC 10 (q_lit _ [⟨#[49,48,47,51]⟩,⟨#[49,48,48]⟩] [(10 / 3:Rat),100] 2 rfl rfl (by decide) (by simp only [qbt,qbN,ft_100,ft_103];decide +kernel) (by decide)) (h:=?_);rintro e u0 ⟨qa0,qg0,qc0,rfl,hq0,hbq0⟩;have hU0:Below Vs.heap.size Vs u0:=hVb.trans (hbq0.mono hVb.size);refine⟨_,rfl,hU0,hN (h:=?_)⟩;refine hC 11 (qfE _ _ _ 2 c0 _ _ _ _ 2 qc0 _ u0 (qbW _ _) (by decide) (HXY.out.1.below hU0) (qbW _ _) (by decide) hq0) (h:=?_);rintro e t0 ⟨ok0,rfl,hok0,hbt0⟩;obtain rfl:ok0=true:=hok0.2 rfl;have hT0:Below Vs.heap.size Vs t0:=hU0.trans (hbt0.mono hU0.size);refine⟨_,rfl,hT0,hN (h:=?_)⟩;clear hq0 hbq0 hok0 hbt0 hU0;refine hT 12 (hS:=hT0) (h:=hT 13 (hS:=hT0) (h:=hT 14 (hS:=hT0) (h:=hT 15 (hS:=hT0) (h:=hT 16 (hS:=hT0) (h:=?_)))));refine hE 17 (h:=⟨qbS hT0 qN,hN (h:=?_)⟩);refine hC 18 (q_lit _ [⟨#[48]⟩,⟨#[48]⟩] [(0:Rat),0] 2 rfl rfl (by decide) (by simp only [qbt,qbN,ft_0];decide +kernel) (by decide)) (h:=?_);rintro e u1 ⟨qa1,qg1,qc1,rfl,hq1,hbq1⟩;have hU1:Below Vs.heap.size Vs u1:=hT0.trans (hbq1.mono hT0.size);refine⟨_,rfl,hU1,hN (h:=?_)⟩;refine hC 19 (qfE _ _ _ 2 c1 _ _ _ _ 2 qc1 _ u1 (qbW _ _) (by decide) (HXY.out.2.1.below hU1) (qbW _ _) (by decide) hq1) (h:=?_);rintro e t1 ⟨ok1,rfl,hok1,hbt1⟩;obtain rfl:ok1=true:=hok1.2 rfl;have hT1:Below Vs.heap.size Vs t1:=hU1.trans (hbt1.mono hU1.size);refine⟨_,rfl,hT1,hN (h:=?_)⟩;clear hq1 hbq1 hok1 hbt1 hU1;refine hT 20 (hS:=hT1) (h:=hT 21 (hS:=hT1) (h:=hT 22 (hS:=hT1) (h:=hT 23 (hS:=hT1) (h:=hT 24 (hS:=hT1) (h:=hT 25 (hS:=hT1) (h:=hT 26 (hS:=hT1) (h:=hT 27 (hS:=hT1) (h:=hT 28 (hS:=hT1) (h:=?_)))))))));refine hE 29 (h:=⟨qbS hT1 qN,hN (h:=?_)⟩);refine hC 30 (q_lit _ [⟨#[48]⟩,⟨#[49,52,48]⟩,⟨#[45,52,48]⟩] [(0:Rat),140,-40] 3 rfl rfl (by decide) (by simp only [qbt,qbN,ft_0,ft_140,ft_m40];decide +kernel) (by decide)) (h:=?_);rintro e u2 ⟨qa2,qg2,qc2,rfl,hq2,hbq2⟩;have hU2:Below Vs.heap.size Vs u2:=hT1.trans (hbq2.mono hT1.size);refine⟨_,rfl,hU2,hN (h:=?_)⟩;refine hC 31 (qfE _ _ _ 3 k0 _ _ _ _ 3 qc2 _ u2 (qbW _ _) (by decide) (HXY.out.2.2.below hU2) (qbW _ _) (by decide) hq2) (h:=?_);rintro e t2 ⟨ok2,rfl,hok2,hbt2⟩;obtain rfl:ok2=true:=hok2.2 rfl;have hT2:Below Vs.heap.size Vs t2:=hU2.trans (hbt2.mono hU2.size);refine⟨_,rfl,hT2,hN (h:=?_)⟩;clear hq2 hbq2 hok2 hbt2 hU2;refine hT 32 (hS:=hT2) (h:=hT 33 (hS:=hT2) (h:=?_));refine gr [(34,80),(35,81),(36,82),(37,83),(38,84),(39,85),(40,86)] [(37,[35,36]),(38,[37]),(39,[37]),(40,[34,38,39])] [0,1,2,3,4,5,6,7,8,9,10,11,12,13,14,15,16,17,18,19,20,21,22,23,24,25,26,27,28,29,30,31,32,33] [34,35,36,37,38,39,40] [] 41 43 (fl2 [(34,fun z W=>∃b:Nat,z=.func (.func 121) #[] #[.pointer (some ⟨b,0,none⟩)]/\W.heap[b]? = some (.cells #[.int .i64 7] 39 (0,0))),(35,fun z W=>∃g:Nat,z=.slice (some ⟨g,0,none⟩) 3 3/\PCells W (some ⟨g,0,none⟩) g 0 ramp),(36,fun z W=>∃g:Nat,z=.slice (some ⟨g,0,none⟩) 3 3/\W.heap[g]? = some (.cells #[.int .i64 1,.int .i64 1,.int .i64 0] 3 (0,0))),(37,fun z _=>z=.tuple #[mdv0,.int .i64 7]),(38,fun z _=>z=mdv0),(39,fun z _=>z=.int .i64 7),(40,fun z _=>z=.bool true)]) _ 2
  (hS:=fun w' h=>hT2.trans (h.mono hT2.size)) (hstep:=⟨⟨_,rfl,fun v w3 hb hF K hK=>?_⟩,⟨_,rfl,fun v w3 hb hF K hK=>?_⟩,⟨_,rfl,fun v w3 hb hF K hK=>?_⟩,⟨_,rfl,fun v w3 hb hF K hK=>?_⟩,⟨_,rfl,fun v w3 hb hF K hK=>?_⟩,⟨_,rfl,fun v w3 hb hF K hK=>?_⟩,⟨_,rfl,fun v w3 hb hF K hK=>?_⟩,trivial⟩) (hend:=fun v w3 hb hF _ fu=>?_)
 ·exact gC hK (qlE 7 w3) (h:=fun e w4 ⟨b,e1,h1,h2⟩=>⟨_,e1,⟨b,rfl,h2⟩,h1⟩)
 ·exact gC hK (qgz w3) (h:=fun e w4 ⟨g,e1,h1,h2⟩=>⟨_,e1,⟨g,rfl,h1⟩,h2⟩)
 ·exact gW hK (h:=⟨⟨w3.heap.size,rfl,qM _ _ _ rfl⟩,qbS qB qN⟩)
 ·obtain⟨g5,e35,h5⟩:∃g:Nat,_:=hF.1;obtain⟨g6,e36,h6⟩:∃g:Nat,_:=hF.2.1;exact gC hK (ex_f3 w3 g5 g6 3 h5 h6 ((KO.kt.below hT2).below hb)) (h:=fun e w4 ⟨e1,h1⟩=>⟨_,e1,rfl,h1⟩)
 ·have e37:v 37=_:=hF.1;exact gV hK rfl
 ·have e37:v 37=_:=hF.1;exact gV hK rfl
 ·obtain⟨b4,e34,h4⟩:∃b:Nat,_:=hF.1;have e38:v 38=_:=hF.2.1;have e39:v 39=_:=hF.2.2.1;exact gC hK (qku 7 b4 w3 h4) (h:=fun e w4 ⟨e1,h1⟩=>⟨_,e1,rfl,h1⟩)
 have e40:v 40=_:=hF 40 (by decide) (by decide);have hV5:Below Vs.heap.size Vs w3:=hT2.trans (hb.mono hT2.size);rw [e40];clear e40 hF hb;refine hT 41 (hS:=hV5) (h:=hT 42 (hS:=hV5) (h:=?_));refine wpAnyH_done (by kernel_rfl) ?_ _;have hb:=hV5;clear HXY HW4 lm ls m2 m3 s2 hS0 hVb hT0 hT1 hT2 hV5 M2 Rs;replace KO:=KO.below hb;replace M1:=qH (M1.out.below hb);replace Rm:=qH (zkeep hb _ _ Rm.out);clear hb;have y0:=qC _ _ 0 _ _ _ Rm.out;have y1:=qC _ _ 1 _ _ _ Rm.out;have y2:=qC _ _ 2 _ _ _ Rm.out;have y3:=qC _ _ 3 _ _ _ Rm.out;have y4:=qC _ _ 4 _ _ _ Rm.out;go_wp2_with fail;refine (ex_a1 _ _ M1.out KO.kt).mono ?_;rintro e w14 ⟨rfl,hb⟩;replace KO:=KO.below hb;replace M1:=qH (M1.out.below hb);replace Rm:=qH (zkeep hb _ _ Rm.out);clear hb y0 y1 y2 y3 y4;obtain⟨Va,hVa,Na⟩:=nw1 w14 #[.string ⟨#[49,54,48]⟩,.string ⟨#[51]⟩,.string ⟨#[48]⟩,.string ⟨#[49]⟩,.string ⟨#[48]⟩,.string ⟨#[49]⟩] 65;go_upto_region 6 with fail;rw [<-hVa];have hb:=Na.out.1;have Ra:=qH Na.out.2;clear hVa Na;replace KO:=KO.below hb;replace M1:=qH (M1.out.below hb);replace Rm:=qH (zkeep hb _ _ Rm.out);clear hb;have y0:=qC _ _ 0 _ _ _ Rm.out;have y1:=qC _ _ 1 _ _ _ Rm.out;have y2:=qC _ _ 2 _ _ _ Rm.out;have y3:=qC _ _ 3 _ _ _ Rm.out;have y4:=qC _ _ 4 _ _ _ Rm.out;go_wp2_with fail;refine (ex_e1 _ _ M1.out KO.kt KO.ke).mono ?_;rintro e w15 ⟨gr,cr,g0,c0x,g1,c1x,go,co,rfl,hel,hb⟩;have EL:=qH hel;replace KO:=KO.below hb;replace M1:=qH (M1.out.below hb);replace Rm:=qH (zkeep hb _ _ Rm.out);replace Ra:=qH (zkeep hb _ _ Ra.out);clear hb hel y0 y1 y2 y3 y4;obtain⟨Ve,hVe,Ne⟩:=nw1 w15 #[.int .i64 2,.slice none 0 0,.slice (some ⟨gr,0,none⟩) 3 cr,.slice (some ⟨go,0,none⟩) 3 co,.slice none 0 0,.int .i64 0,.slice none 0 0,.slice none 0 0,.int .i64 0,.int .i64 0] 82;go_upto_region 7 with fail;rw [<-hVe];have hb:=Ne.out.1;have Re:=qH Ne.out.2;clear hVe Ne;replace KO:=KO.below hb;replace M1:=qH (M1.out.below hb);replace Rm:=qH (zkeep hb _ _ Rm.out);replace Ra:=qH (zkeep hb _ _ Ra.out);replace EL:=qH (qA ((hb.cell (qac _ _ EL.out.1)).trans EL.out.1) (qA ((hb.cell (qac _ _ EL.out.2.1)).trans EL.out.2.1) (qA (EL.out.2.2.1.below hb) (qA (EL.out.2.2.2.1.below hb) (EL.out.2.2.2.2.below hb)))));clear hb;simp only [List.append_eq,List.cons_append,qbq];have la:=(qG Ra.out).1;have lm:=(qG Rm.out).1;have le:=(qG Re.out).1;have a0x:=rowC (B:=Ve.heap.size) Ra.out 0;have a1x:=rowC (B:=Ve.heap.size) Ra.out 1;have a2x:=rowC (B:=Ve.heap.size) Ra.out 2;have a3x:=rowC (B:=Ve.heap.size) Ra.out 3;have a4x:=rowC (B:=Ve.heap.size) Ra.out 4;have a5x:=rowC (B:=Ve.heap.size) Ra.out 5;have y0:=rowC (B:=Ve.heap.size) Rm.out 0;have y1:=rowC (B:=Ve.heap.size) Rm.out 1;have y2:=rowC (B:=Ve.heap.size) Rm.out 2;have y3:=rowC (B:=Ve.heap.size) Rm.out 3;have y4:=rowC (B:=Ve.heap.size) Rm.out 4;have x0:=rowC (B:=Ve.heap.size) Re.out 0;have x2:=rowC (B:=Ve.heap.size) Re.out 2;have x3:=rowC (B:=Ve.heap.size) Re.out 3;have r0:∀W,Below Ve.heap.size Ve W->W.cell? ⟨gr,0,none⟩=some (.slice (some ⟨g0,0,none⟩) 1 c0x):=fun W h=>(h.cell (qac Ve _ EL.out.1)).trans EL.out.1
 have r1:∀W,Below Ve.heap.size Ve W->W.cell? ⟨gr,1,none⟩=some (.slice (some ⟨g1,0,none⟩) 1 c1x):=fun W h=>(h.cell (qac Ve _ EL.out.2.1)).trans EL.out.2.1
 refine wp_region_held_drew (S:=fun W=>Below Ve.heap.size Ve W) (by kernel_rfl) qB.drew (fun hS0=>?_);refine hT 0 (h:=hT 1 (h:=hT 2 (h:=?_)));refine Go.Proofs.YtplkdeknjghobaaGreatDoor.gr [(3,102),(4,103),(5,104),(6,105),(7,106),(8,107),(9,108),(10,109),(11,110),(12,111),(13,112),(14,113),(15,114),(16,115)] [(4,[3]),(5,[4]),(6,[5]),(8,[7]),(9,[8]),(10,[9]),(12,[11]),(13,[12]),(14,[13]),(15,[6,10,14]),(16,[15])] [0,1,2] [3,4,5,6,7,8,9,10,11,12,13,14,15,16] [] 17 70 (fl2 [(3,SC ⟨#[49,54,48,47,51]⟩),(4,QC ⟨#[49,54,48]⟩ ⟨#[51]⟩),(5,PC ⟨#[49,54,48]⟩ ⟨#[51]⟩),(6,fun z _=>z=.agg #[.string ⟨#[49,54,48]⟩,.string ⟨#[51]⟩]),(7,SC ⟨#[48]⟩),(8,QC ⟨#[48]⟩ ⟨#[49]⟩),(9,PC ⟨#[48]⟩ ⟨#[49]⟩),(10,fun z _=>z=.agg #[.string ⟨#[48]⟩,.string ⟨#[49]⟩]),(11,SC ⟨#[48]⟩),(12,QC ⟨#[48]⟩ ⟨#[49]⟩),(13,PC ⟨#[48]⟩ ⟨#[49]⟩),(14,fun z _=>z=.agg #[.string ⟨#[48]⟩,.string ⟨#[49]⟩]),(15,fun z _=>z=.agg #[.string ⟨#[49,54,48]⟩,.string ⟨#[51]⟩,.string ⟨#[48]⟩,.string ⟨#[49]⟩,.string ⟨#[48]⟩,.string ⟨#[49]⟩]),(16,fun z _=>z=.bool true)]) _ 53
  (hS:=fun w' h=>qb1 h) (hstep:=⟨⟨_,rfl,fun v w3 hb hF K hK=>?_⟩,⟨_,rfl,fun v w3 hb hF K hK=>?_⟩,⟨_,rfl,fun v w3 hb hF K hK=>?_⟩,⟨_,rfl,fun v w3 hb hF K hK=>?_⟩,⟨_,rfl,fun v w3 hb hF K hK=>?_⟩,⟨_,rfl,fun v w3 hb hF K hK=>?_⟩,⟨_,rfl,fun v w3 hb hF K hK=>?_⟩,⟨_,rfl,fun v w3 hb hF K hK=>?_⟩,⟨_,rfl,fun v w3 hb hF K hK=>?_⟩,⟨_,rfl,fun v w3 hb hF K hK=>?_⟩,⟨_,rfl,fun v w3 hb hF K hK=>?_⟩,⟨_,rfl,fun v w3 hb hF K hK=>?_⟩,⟨_,rfl,fun v w3 hb hF K hK=>?_⟩,⟨_,rfl,fun v w3 hb hF K hK=>?_⟩,trivial⟩) (hend:=fun v w3 hb hF _ fu=>?_)
 ·exact gW hK (h:=⟨⟨w3.heap.size,rfl,qM _ _ _ rfl⟩,qbS qB qN⟩)
 ·obtain⟨g5,eg,h5⟩:SC ⟨#[49,54,48,47,51]⟩ _ w3:=hF.1;exact gC hK (q1_at w3 g5 ⟨#[49,54,48,47,51]⟩ _ _ (160 / 3:Rat) h5 (by rw [qlR];decide +kernel) qlR (by decide)) (h:=fun e w4 ⟨g,c,e1,h1,h2⟩=>⟨_,e1,⟨g,c,rfl,h1⟩,h2⟩)
 ·obtain⟨g5,c5,eg,h5⟩:QC ⟨#[49,54,48]⟩ ⟨#[51]⟩ _ w3:=hF.1;exact gV hK ⟨g5,rfl,h5⟩
 ·obtain⟨g5,eg,h5,h6⟩:PC ⟨#[49,54,48]⟩ ⟨#[51]⟩ _ w3:=hF.1;exact gV hK rfl
 ·exact gW hK (h:=⟨⟨w3.heap.size,rfl,qM _ _ _ rfl⟩,qbS qB qN⟩)
 ·obtain⟨g5,eg,h5⟩:SC ⟨#[48]⟩ _ w3:=hF.1;exact gC hK (q1_at w3 g5 ⟨#[48]⟩ _ _ (0:Rat) h5 (by rw [ft_0];decide +kernel) ft_0 (by decide)) (h:=fun e w4 ⟨g,c,e1,h1,h2⟩=>⟨_,e1,⟨g,c,rfl,h1⟩,h2⟩)
 ·obtain⟨g5,c5,eg,h5⟩:QC ⟨#[48]⟩ ⟨#[49]⟩ _ w3:=hF.1;exact gV hK ⟨g5,rfl,h5⟩
 ·obtain⟨g5,eg,h5,h6⟩:PC ⟨#[48]⟩ ⟨#[49]⟩ _ w3:=hF.1;exact gV hK rfl
 ·exact gW hK (h:=⟨⟨w3.heap.size,rfl,qM _ _ _ rfl⟩,qbS qB qN⟩)
 ·obtain⟨g5,eg,h5⟩:SC ⟨#[48]⟩ _ w3:=hF.1;exact gC hK (q1_at w3 g5 ⟨#[48]⟩ _ _ (0:Rat) h5 (by rw [ft_0];decide +kernel) ft_0 (by decide)) (h:=fun e w4 ⟨g,c,e1,h1,h2⟩=>⟨_,e1,⟨g,c,rfl,h1⟩,h2⟩)
 ·obtain⟨g5,c5,eg,h5⟩:QC ⟨#[48]⟩ ⟨#[49]⟩ _ w3:=hF.1;exact gV hK ⟨g5,rfl,h5⟩
 ·obtain⟨g5,eg,h5,h6⟩:PC ⟨#[48]⟩ ⟨#[49]⟩ _ w3:=hF.1;exact gV hK rfl
 ·have e6:v 6=_:=hF.1;have e10:v 10=_:=hF.2.1;have e14:v 14=_:=hF.2.2.1;exact gV hK rfl
 ·have e15:v 15=_:=hF.1;exact gV hK (he:=by go_simp;rw [eq_3f];rfl) rfl
 have e16:v 16=_:=hF 16 (by decide) (by decide);rw [e16];have hA:Below Ve.heap.size Ve w3:=qb1 hb;clear e16 hF hb;refine hT 17 (hS:=hA) (h:=hT 18 (hS:=hA) (h:=hT 19 (hS:=hA) (h:=hT 20 (hS:=hA) (h:=hT 21 (hS:=hA) (h:=hT 22 (hS:=hA) (h:=hT 25 (hS:=hA) (h:=?_)))))));refine Go.Proofs.YtplkdeknjghobaaGreatDoor.gr [(23,122),(24,123),(26,125),(27,126),(28,127),(29,128),(30,129)] [(24,[23]),(27,[26]),(28,[27]),(29,[27]),(30,[24,28,29])] [0,1,2,3,4,5,6,7,8,9,10,11,12,13,14,15,16,17,18,19,20,21,22,25] [23,24,26,27,28,29,30] [] 31 70 (fl2 [(23,fun z W=>∃g:Nat,z=.slice (some ⟨g,0,none⟩) 3 3/\SCells W g 0 [⟨#[49,48,48,47,57]⟩,⟨#[52,48,48,47,57]⟩,⟨#[49,48,48,47,57]⟩]),(24,fun z W=>∃b:Nat,z=.func (.func 120) #[] #[.pointer (some ⟨b,0,none⟩)]/\IsAt W b [⟨#[49,48,48,47,57]⟩,⟨#[52,48,48,47,57]⟩,⟨#[49,48,48,47,57]⟩]),(26,fun z W=>∃g:Nat,z=.slice (some ⟨g,0,none⟩) 3 3/\PCells W (some ⟨g,0,none⟩) g 0 ramp),(27,fun z W=>∃g:Nat,z=.tuple #[.slice (some ⟨g,0,none⟩) 3 3,.int .i64 0]/\FCells W (some ⟨g,0,none⟩) g 0 (told 3 (fv [(100 / 9:Rat),400 / 9,100 / 9]))),(28,fun z W=>∃g:Nat,z=.slice (some ⟨g,0,none⟩) 3 3/\FCells W (some ⟨g,0,none⟩) g 0 (told 3 (fv [(100 / 9:Rat),400 / 9,100 / 9]))),(29,fun z _=>z=.int .i64 0),(30,fun z _=>z=.bool true)]) _ 39
  (hS:=fun w' h=>hA.trans (h.mono hA.size)) (hstep:=⟨⟨_,rfl,fun v w3 hb hF K hK=>?_⟩,⟨_,rfl,fun v w3 hb hF K hK=>?_⟩,⟨_,rfl,fun v w3 hb hF K hK=>?_⟩,⟨_,rfl,fun v w3 hb hF K hK=>?_⟩,⟨_,rfl,fun v w3 hb hF K hK=>?_⟩,⟨_,rfl,fun v w3 hb hF K hK=>?_⟩,⟨_,rfl,fun v w3 hb hF K hK=>?_⟩,trivial⟩) (hend:=fun v w4 hb hF _ fu=>?_)
 ·exact gW hK (h:=⟨⟨w3.heap.size,rfl,SCells.row (L:=[⟨#[49,48,48,47,57]⟩,⟨#[52,48,48,47,57]⟩,⟨#[49,48,48,47,57]⟩]) (qM _ _ _ rfl)⟩,qbS qB qN⟩)
 ·obtain⟨g5,eg,h5⟩:∃g:Nat,_:=hF.1;exact gC hK (qiy g5 [⟨#[49,48,48,47,57]⟩,⟨#[52,48,48,47,57]⟩,⟨#[49,48,48,47,57]⟩] w3 h5) (h:=fun e w4 ⟨b,e1,h1,h2⟩=>⟨_,e1,⟨b,rfl,h2⟩,h1⟩)
 ·exact gC hK (qgz w3) (h:=fun e w4 ⟨g,e1,h1,h2⟩=>⟨_,e1,⟨g,rfl,h1⟩,h2⟩)
 ·obtain⟨g5,eg,h5⟩:∃g:Nat,_:=hF.1;exact gC hK (ex_s1 w3 _ g5 3 ((M1.out.below hA).below hb) h5 ((KO.kt.below hA).below hb)) (h:=fun e w4 ⟨g,e1,h1,h2⟩=>⟨_,e1,⟨g,rfl,h1⟩,h2⟩)
 ·obtain⟨g5,eg,h5⟩:∃g:Nat,_:=hF.1;exact gV hK ⟨g5,rfl,h5⟩
 ·obtain⟨g5,eg,h5⟩:∃g:Nat,_:=hF.1;exact gV hK rfl
 ·obtain⟨b5,eb,h5⟩:∃b:Nat,_:=hF.1;obtain⟨g6,eg,h6⟩:∃g:Nat,_:=hF.2.1;have e29:v 29=_:=hF.2.2.1;exact gC hK (qfR (L:=[⟨#[49,48,48,47,57]⟩,⟨#[52,48,48,47,57]⟩,⟨#[49,48,48,47,57]⟩]) (l:=[(100 / 9:Rat),400 / 9,100 / 9]) (c:=3) h5 rfl rfl (by decide) (by simp only [qbt,qbN,ft_1009,ft_4009];decide +kernel) (by decide) h6) (h:=fun e w4 ⟨e1,h1⟩=>⟨_,e1,rfl,h1⟩)
 have e30:v 30=_:=hF 30 (by decide) (by decide);rw [e30];have hB:Below Ve.heap.size Ve w4:=hA.trans (hb.mono hA.size);clear e30 hF hb;refine hT 31 (hS:=hB) (h:=hT 32 (hS:=hB) (h:=hT 33 (hS:=hB) (h:=hT 34 (hS:=hB) (h:=hT 35 (hS:=hB) (h:=hT 36 (hS:=hB) (h:=hT 37 (hS:=hB) (h:=hT 38 (hS:=hB) (h:=hT 39 (hS:=hB) (h:=hT 40 (hS:=hB) (h:=hT 41 (hS:=hB) (h:=hT 42 (hS:=hB) (h:=hT 43 (hS:=hB) (h:=hT 44 (hS:=hB) (h:=hT 45 (hS:=hB) (h:=hT 46 (hS:=hB) (h:=hT 47 (hS:=hB) (h:=hT 48 (hS:=hB) (h:=hT 49 (hS:=hB) (h:=hT 50 (hS:=hB) (h:=hT 51 (hS:=hB) (h:=?_)))))))))))))))))))));refine hE 52 (h:=⟨qbS hB qN,hN (h:=?_)⟩);refine hC 53 (qlC _ g0 0 c0x [1000000] 1 rfl (by decide) (EL.out.2.2.1.below hB)) (h:=?_);rintro e w5 ⟨rfl,hb⟩;have hC5:Below Ve.heap.size Ve w5:=hB.trans (hb.mono hB.size);clear hb;refine⟨_,rfl,hC5,hN (h:=?_)⟩;refine hT 54 (hS:=hC5) (h:=hT 55 (hS:=hC5) (h:=hT 56 (hS:=hC5) (h:=hT 57 (hS:=hC5) (h:=hT 58 (hS:=hC5) (h:=hT 59 (hS:=hC5) (h:=?_))))));refine hE 60 (h:=⟨qbS hC5 qN,hN (h:=?_)⟩);refine hC 61 (qlC _ g1 0 c1x [0] 1 rfl (by decide) (EL.out.2.2.2.1.below hC5)) (h:=?_);rintro e w6 ⟨rfl,hb⟩;have hC6:Below Ve.heap.size Ve w6:=hC5.trans (hb.mono hC5.size);clear hb;refine⟨_,rfl,hC6,hN (h:=?_)⟩;refine hT 62 (hS:=hC6) (h:=hT 63 (hS:=hC6) (h:=hT 64 (hS:=hC6) (h:=hT 65 (hS:=hC6) (h:=?_))));refine hE 66 (h:=⟨qbS hC6 qN,hN (h:=?_)⟩);refine hC 67 (qlC _ go 0 co [33333,500000,500000] 3 rfl (by decide) (EL.out.2.2.2.2.below hC6)) (h:=?_);rintro e w7 ⟨rfl,hb⟩;have hC7:Below Ve.heap.size Ve w7:=hC6.trans (hb.mono hC6.size);clear hb;refine⟨_,rfl,hC7,hN (h:=?_)⟩;refine hT 68 (hS:=hC7) (h:=hT 69 (hS:=hC7) (h:=?_));refine wpAnyH_done (by kernel_rfl) ?_ _;have KE:=qH (KO.kb.trans (hC7.mono KO.kb.size));go_wp2;go_ret;exact⟨rfl,KE.out⟩
end Go.Proofs.YtplkdeknjghobaaGreatDoor
namespace Go.Proofs.YtplkdeknjghobaaGreatDoor
open Go.RowKit
theorem qgI (kd inn:Nat) (L:List Dr) (v:Value) (w0:World) (hv:MoAt w0 v kd inn L) (hT:HasT w0) (hE:HasE w0) :
  Calls Tryz.prog 7 #[v] w0 fun e w'=>e=.returned (.bool true)/\Below w0.heap.size w0 w':=by
 obtain⟨ao,b,off,cd,rfl,hkd,hin,hL,hC⟩:=hv;obtain⟨W1,hW1,K1⟩:=nw1 w0 #[.int .u8 (kd:Int),.int .u8 (inn:Int),.slice ao L.length cd] 27;have H0:=qH (qA hC (qA hT hE));have HL:=qH (qA hL hin);clear hC hT hE hL hin hkd;go_enter Tryz.func7,Tryz.ntmps7;go_upto_region 1 with fail;rw [<-hW1];clear hW1;go_wp2_with fail;refine (qnk W1 (H0.out.2.1.below K1.out.1) (H0.out.2.2.below K1.out.1)).mono ?_;rintro e w2 ⟨rfl,hb⟩;have K2:=K1.below hb;clear hb K1;have f0:=qF _ _ 0 _ _ K2.out.2;have c0:=qC _ _ 0 _ _ _ K2.out.2;obtain⟨W3,hW3⟩:=qY (w2.setCell ⟨w0.heap.size,0,none⟩ (.int .u8 0));have K3:Kn (fun W=>Below w0.heap.size w0 W/\W.heap[w0.heap.size]? = some (.cells #[.int .u8 0,.int .u8 (inn:Int),.slice ao L.length cd] 27 (0,0))) W3:=.of
  ⟨hW3▸K2.out.1.setCell (p:=⟨w0.heap.size,0,none⟩) qN _,hW3▸heap_setCell_same _ _ 0 _ _ _ K2.out.2⟩
 go_upto_region 4 with fail;rw [<-hW3];clear hW3 f0 c0 K2
 go_wp2_with ((with_reducible refine lW_ rfl 27 _ rfl (w0.heap.size) #[.int .u8 0,.int .u8 (inn:Int),.slice ao L.length cd] K3.out.2 Tryz.underlying27 3 ?_))
 refine (qmk 0 inn L _ W3 ⟨ao,b,off,cd,rfl,by decide,HL.out.2,HL.out.1,H0.out.1.below K3.out.1⟩).mono ?_;rintro e w4 ⟨u,rfl,hM,hb⟩;have K4:=K3.below hb;clear hb K3;have hmo:=moM_ok 0 inn L;obtain⟨n,hn⟩:=qX (mon 0 inn);have hmq:moM 0 inn L=mdq 1 n (n+1) (mox L):=by unfold moM;rw [hn];show mdq 1 n (1+n) _=_;rw [Nat.add_comm]
 have hmo:MdOk (moM 0 inn L) 1 n:=by rw [hn] at hmo;exact hmo
 obtain⟨a,b',o,d,rfl,hF⟩:=hM.parts;have hrow:∀c,c<3->(moM 0 inn L).row c=told (n+1) (mox L c):=fun c hc=>by rw [hmq];exact qfT hc
 have hlen:∀c,c<3->((moM 0 inn L).row c).length=n+1:=fun c hc=>by rw [hrow c hc,qbW]
 have hki:(moM 0 inn L).kind=1:=by rw [hmq];rfl
 have hin':(moM 0 inn L).inn=(n:Int):=by rw [hmq];rfl
 have helz:∀i k,i<3->k<n+1->elz (moM 0 inn L) i k=nearT (mox L i k) (elN i) (elD i)+(if k=0 then elM i else 0):=fun i k hi hk=>by
  unfold elz;rw [hrow i hi,qcW hk]
 obtain⟨m,hm⟩:=qX (moM 0 inn L);rw [hm] at hmo hM hF hrow hlen hki hin' helz ⊢;rw [hki,hin',hlen 0 (by decide),hlen 1 (by decide),hlen 2 (by decide)] at hM ⊢;obtain⟨W5,hW5,N5⟩:=nw1 w4 #[.int .i64 1,.int .i64 (n:Int),.slice (a 0) (n+1) (d 0),.slice (a 1) (n+1) (d 1),.slice (a 2) (n+1) (d 2)] 38;have hn14:=hmo.inn.2;have HM:=qH (qA hmo (qA (hM.below N5.out.1) (qA hlen helz)));have HF:=qH fun (i:Nat) (hi:i<3)=>(show FCells w4 (a i) (b' i) (o i) (told (n+1) (mox L i)) from hrow i hi▸hF i hi)
 have K5:=(K4.below N5.out.1).also (q:=fun W=>Below w4.heap.size w4 W/\W.heap[w4.heap.size]? = some (.cells #[.int .i64 1,.int .i64 (n:Int),.slice (a 0) (n+1) (d 0),.slice (a 1) (n+1) (d 1),.slice (a 2) (n+1) (d 2)] 38 (0,0))) N5.out;clear hmo hM hF hrow hlen hki hin' helz hm hmq hn K4 N5;go_upto_region 5 with fail;rw [<-hW5];clear hW5
 go_wp2_with ((with_reducible refine lW_ rfl 38 _ rfl (w4.heap.size) #[.int .i64 1,.int .i64 (n:Int),.slice (a 0) (n+1) (d 0),.slice (a 1) (n+1) (d 1),.slice (a 2) (n+1) (d 2)] K5.out.2.2 Tryz.underlying38 5 ?_))
 refine (qgH m _ W5 HM.out.2.1 (fun q hq=>by rw [HM.out.2.2.1 q hq];omega) (H0.out.2.1.below K5.out.1.1) (H0.out.2.2.below K5.out.1.1)).mono ?_;intro e w6 hEl;obtain⟨hb6,h⟩:=el_at HM.out.1 hEl;have K6:=K5.below hb6;clear hEl hb6 K5;rcases h with ⟨gr,cr,go,co,rfl,hEI,hOk⟩ | rfl
 case inr =>
  have HB:=qH (qbS (o:=.cells #[.int .i64 0,.slice none 0 0,.slice none 0 0,.slice none 0 0,.slice none 0 0,.int .i64 0,.slice none 0 0,.slice none 0 0,.int .i64 0,.int .i64 0] 82) K6.out.1.1 (qaj qN qN));go_wp2;go_ret;exact⟨rfl,HB.out⟩
 obtain⟨W7,hW7,N7⟩:=nw1 w6 #[.int .i64 2,.slice none 0 0,.slice (some ⟨gr,0,none⟩) 3 cr,.slice (some ⟨go,0,none⟩) 3 co,.slice none 0 0,.int .i64 0,.slice none 0 0,.slice none 0 0,.int .i64 0,.int .i64 0] 82;have K7:=(K6.below N7.out.1).also (q:=fun W=>W.heap[w6.heap.size]? = some (.cells #[.int .i64 2,.slice none 0 0,.slice (some ⟨gr,0,none⟩) 3 cr,.slice (some ⟨go,0,none⟩) 3 co,.slice none 0 0,.int .i64 0,.slice none 0 0,.slice none 0 0,.int .i64 0,.int .i64 0] 82 (0,0))/\EIn W m n gr go) ⟨N7.out.2,hEI.below N7.out.1⟩;have HOk:=qH hOk;clear hOk hEI N7 K6;go_upto_region 6 with fail;rw [<-hW7];clear hW7;have e2:=qC _ _ 2 _ _ _ K7.out.2.1;have e3:=qC _ _ 3 _ _ _ K7.out.2.1;go_wp2_with fail;refine (of_int 1 2 (by decide) (by decide) (by decide) W7 (H0.out.2.1.below K7.out.1.1.1)).mono ?_;rintro e w8 ⟨rfl,hb⟩;have K8:=K7.below hb;clear hb K7 e2 e3;rw [show ((1:Int):Rat) / ((2:Int):Rat)=eHalf from rfl];obtain⟨h1,h2,hh⟩:=qb6 eHalf;rw [hh];obtain⟨W9,hW9,N9⟩:=nw1 w8 #[.string h1,.string h2] 44;have K9:=(K8.below N9.out.1).also (q:=fun W=>W.heap[w8.heap.size]? = some (.cells #[.string h1,.string h2] 44 (0,0))) N9.out.2;have HH:=qH hh;clear hh K8 N9;go_upto_region 9 with fail;rw [<-hW9];clear hW9;have c2:=qC _ _ 2 _ _ _ K9.out.1.1.2.2;have c3:=qC _ _ 3 _ _ _ K9.out.1.1.2.2;have c4:=qC _ _ 4 _ _ _ K9.out.1.1.2.2;go_wp2_with fail;clear c2 c3 c4
 go_loopw [59] (fun x59 W=>∃i:Nat,x59=.int .i64 (i:Int)/\i<=3/\Hid (Below W9.heap.size W9 W)) (fun x59 _=>3-(intOf x59).toNat)
 case atStart=>exact⟨0,rfl,qam _,qH qB⟩
 case round =>
  obtain⟨i,rfl,hi,HB1⟩:=hrel;have Kr:=K9.below HB1.out
  by_cases hi3:i<3
  case neg =>
   obtain rfl:i=3:=by omega
   go_wp2;go_ret;exact⟨rfl,Kr.out.1.1.1.1⟩
  have hii:(i:Int)<3:=by omega
  obtain⟨aj,haj⟩:∃z,a i=z:=⟨_,rfl⟩;obtain⟨dj,hdj⟩:∃z,d i=z:=⟨_,rfl⟩;have hxj:∀W,(Instr.index 36 (.agg #[.slice (a 0) (n+1) (d 0),.slice (a 1) (n+1) (d 1),.slice (a 2) (n+1) (d 2)]) (.int .i64 (i:Int))).run Tryz.prog W=.ok (.slice aj (n+1) dj) W:=fun W=>by
   rw [<-haj,<-hdj];rcases (show i=0\/i=1\/i=2 by omega) with rfl | rfl | rfl <;> kernel_rfl
  have hFj:=HF.out i hi3;rw [haj] at hFj;obtain rfl:=hFj.addr (by rw [qbW];omega);have HFj:=qH hFj;obtain⟨gx,cx,hgx,hgk⟩:=Kr.out.1.2.2.rows i hi3;have e2:=qC _ _ 2 _ _ _ Kr.out.1.2.1;have hnn:(n:Int)+1-1=(n:Int):=by omega
  clear hFj haj hdj hgk;go_wp2_with fail;clear e2 hgx hnn
  go_loopw [75] (fun x75 W=>∃k:Nat,x75=.int .i64 (k:Int)/\k<=n+1/\Hid (Below W9.heap.size W9 W)) (fun x75 _=>n+1-(intOf x75).toNat)
  case atStart=>exact⟨0,rfl,qam _,HB1⟩
  case round =>
   obtain⟨k,rfl,hk,hB⟩:=hrel;have Kq:=K9.below hB.out;have HB:=hB;clear hB
   by_cases hkn:k<n+1
   case neg =>
    have hki:¬(k:Int)<(n:Int)+1:=by omega
    go_wp2;go_roundw
    case rel=>exact⟨i+1,by go_num,hi3,HB⟩
    case measure=>simp [intOf];omega
   have hki:(k:Int)<(n:Int)+1:=by omega
   obtain⟨q,hq⟩:=qX (mox L i k);obtain⟨z,hz⟩:=qX (elz m i k);have hlaw:ElLaw q i k z:=el_law (by rw [<-hq];exact mox_rb L i k) (by rw [<-hz,<-hq];exact HM.out.2.2.2 i k hi3 hkn) (by rw [<-hz];exact HOk.out i hi3 k hkn);have hzs:qgD z:=by rw [<-hz];exact HOk.out i hi3 k hkn
   obtain⟨y1,y2,hy⟩:=qb6 q;have hcl:=(HFj.out.below Kq.out.1.1.2.1).cell k (by rw [qbW];exact hkn);rw [qdr hkn,hq,hy] at hcl;obtain⟨hcl1,hcl2⟩:=hcl;have hcl1:wr.cell? ⟨b' i,o i+k*2,none⟩=some (.string y1):=hcl1;have hcl2:wr.cell? ⟨b' i,o i+k*2+1,none⟩=some (.string y2):=hcl2;obtain⟨WA,hWA,NA⟩:=nw1 wr #[.string y1,.string y2] 44;have KA:=(Kq.below NA.out.1).also (q:=fun W=>W.heap[wr.heap.size]? = some (.cells #[.string y1,.string y2] 44 (0,0))) NA.out.2;have HBA:Hid (Below W9.heap.size W9 WA):=qH (HB.out.trans (NA.out.1.mono HB.out.size));have HZ:=qH (qA hlaw (qA hy (qA hzs hz)));clear hlaw hy hz hzs hq NA Kq;go_upto_region 17 with fail;rw [<-hWA];clear hWA hcl1 hcl2;have e2:=qC _ _ 2 _ _ _ KA.out.1.1.2.1;have e3:=qC _ _ 3 _ _ _ KA.out.1.1.2.1;have o3:=KA.out.1.1.2.2.offs i hi3;obtain⟨gx,cx,hgx,hgk⟩:=KA.out.1.1.2.2.rows i hi3
   go_upto_if 86 with fail
   go_cut [12,13] (fun x12 x13 W=>x12=.int .i64 z/\x13=.int .i64 (adN i k)/\Hid (W=WA))
   case first =>
    by_cases hk0:k=0
    ·subst hk0;have ez:elz m i 0=z:=HZ.out.2.2.2;rw [ez] at o3
     by_cases hi0:i=0
     ·subst hi0;go_wp2;go_meet;exact⟨rfl,rfl,qH rfl⟩
     ·have hi1:(i:Int) > 0:=by omega
      have ea:adN i 0=128:=by unfold adN;rw [if_pos ⟨rfl,by omega⟩]
      go_wp2;go_meet;exact⟨rfl,congrArg (Value.int .i64) ea.symm,qH rfl⟩
    ·have hk1:(k:Int) > 0:=by omega
     have hk2:(k:Int)-1=((k-1:Nat):Int):=by omega
     have ez:elz m i (k-1+1)=z:=by rw [show k-1+1=k by omega];exact HZ.out.2.2.2
     have hgk1:=hgk (k-1) (by omega);rw [ez] at hgk1;have ea:adN i k=0:=by unfold adN;rw [if_neg (fun h=>hk0 h.1)]
     have hkb:k-1<n:=by omega
     clear hgk ez;obtain⟨k1,hk1e⟩:=qX (k-1);rw [hk1e] at hgk1 hk2 hkb;clear hk1e;go_wp2;go_meet;exact⟨rfl,congrArg (Value.int .i64) ea.symm,qH rfl⟩
   case rest =>
    obtain⟨rfl,rfl,hWe⟩:=hcut;have hWe:=hWe.out.symm;subst hWe;clear e2 e3 o3 hgx hgk;have hix:∀W,(Instr.index 53 (.agg #[.int .i64 100,.int .i64 256,.int .i64 256]) (.int .i64 (i:Int))).run Tryz.prog W=.ok (.int .i64 (elDN i)) W:=fun W=>by
     rcases (show i=0\/i=1\/i=2 by omega) with rfl | rfl | rfl <;> kernel_rfl
    have had:=adN_le i k;have hdn:0<elDN i/\elDN i<=256:=by unfold elDN;split <;> decide
    have hz9:=HZ.out.2.2.1;obtain⟨A,hA⟩:=qX (adN i k);obtain⟨D,hD⟩:=qX (elDN i);rw [hD] at hix hdn;rw [hA] at had ⊢;have HT0:Hid (∀W,Below w0.heap.size w0 W->HasT W):=qH fun W hb=>H0.out.2.1.below hb
    have hby0:((1000000:Int):Rat) / (D:Rat)=eBy i:=by unfold eBy;rw [hD]
    have had0:((A:Int):Rat) / ((1:Int):Rat)=eOne (adN i k):=by rw [hA];rfl
    have HBY:=qH fun (W:World) (hb:Below w0.heap.size w0 W)=>of_int 1000000 D hdn.1 (by decide) (by omega) W (HT0.out W hb)
    have HAD:=qH fun (W:World) (hb:Below w0.heap.size w0 W)=>of_int A 1 (by decide) ⟨by omega,by omega⟩ (by decide) W (HT0.out W hb)
    rw [hby0] at HBY;rw [had0] at HAD;have HZN:=qH fun (W:World) (hb:Below w0.heap.size w0 W)=>of_int z 1 (by decide) ⟨by have:=hz9.1;omega,by have:=hz9.2;omega⟩ (by decide) W (HT0.out W hb)
    have HS:=qH fun (W:World) (hb:Below w0.heap.size w0 W)=>addq (p:=q) (q:=eOne (adN i k)) HZ.out.1.s0 HZ.out.1.sa HZ.out.1.s1 W (HT0.out W hb)
    have HMU:=qH fun (W:World) (hb:Below w0.heap.size w0 W)=>mulq (p:=eS q i k) (q:=eBy i) HZ.out.1.s1 HZ.out.1.sb HZ.out.1.s2 W (HT0.out W hb)
    have HSB:=qH fun (W:World) (hb:Below w0.heap.size w0 W)=>subq (p:=eOne z) (q:=eW q i k) HZ.out.1.sz HZ.out.1.s2 HZ.out.1.s3 W (HT0.out W hb)
    have HAB:=qH fun (W:World) (hb:Below w0.heap.size w0 W)=>absq (q:=eO q i k z) HZ.out.1.s3 W (HT0.out W hb)
    have HCM:=qH fun (W:World)=>cmpq_le (p:=absR (eO q i k z)) (q:=eHalf) (qkk HZ.out.1.s3) qkG HZ.out.1.le W
    rw [show ((z:Int):Rat) / ((1:Int):Rat)=eOne z from rfl] at HZN;rw [show q+eOne (adN i k)=eS q i k from rfl] at HS;rw [show eS q i k*eBy i=eW q i k from rfl] at HMU;rw [show eOne z-eW q i k=eO q i k z from rfl] at HSB;clear hz9 hdn hA hD hby0 had0 had;obtain⟨by1,by2,hby⟩:=qb6 (eBy i);obtain⟨ad1,ad2,had'⟩:=qb6 (eOne (adN i k));obtain⟨su1,su2,hsu⟩:=qb6 (eS q i k);obtain⟨wa1,wa2,hwa⟩:=qb6 (eW q i k);obtain⟨zn1,zn2,hzn⟩:=qb6 (eOne z);obtain⟨of1,of2,hof⟩:=qb6 (eO q i k z);obtain⟨ab1,ab2,hab⟩:=qb6 (absR (eO q i k z));rw [hby] at HBY HMU;rw [had'] at HAD HS;rw [HZ.out.2.1,hsu] at HS;rw [hsu,hwa] at HMU;rw [hzn] at HZN HSB;rw [hwa,hof] at HSB;rw [hof,hab] at HAB;rw [hab,HH.out] at HCM;clear hby had' hsu hwa hzn hof hab;have rA:=qH KA.out.2;have rH:=qH KA.out.1.2;have KB:Hid (Below W9.heap.size W9 WA/\Below w0.heap.size w0 WA):=qH ⟨HBA.out,KA.out.1.1.1.1.1⟩;clear KA HBA;go_wp2_with fail;refine (HBY.out WA KB.out.2).mono ?_;rintro e v1 ⟨rfl,hb⟩;replace rA:=qH (zkeep hb _ _ rA.out);replace rH:=qH (zkeep hb _ _ rH.out);replace KB:=qH (qA (KB.out.1.trans (hb.mono KB.out.1.size)) (KB.out.2.trans (hb.mono KB.out.2.size)));clear hb;obtain⟨V1,hV,N⟩:=nw1 v1 #[.string by1,.string by2] 44;go_upto_region 23 with fail;rw [<-hV];replace rA:=qH (zkeep N.out.1 _ _ rA.out);replace rH:=qH (zkeep N.out.1 _ _ rH.out);have rB:=qH N.out.2;replace KB:=qH (qA (KB.out.1.trans (N.out.1.mono KB.out.1.size)) (KB.out.2.trans (N.out.1.mono KB.out.2.size)));clear hV N;go_wp2_with fail;refine (HAD.out V1 KB.out.2).mono ?_;rintro e v2 ⟨rfl,hb⟩;replace rA:=qH (zkeep hb _ _ rA.out);replace rH:=qH (zkeep hb _ _ rH.out);replace rB:=qH (zkeep hb _ _ rB.out);replace KB:=qH (qA (KB.out.1.trans (hb.mono KB.out.1.size)) (KB.out.2.trans (hb.mono KB.out.2.size)));clear hb;obtain⟨V2,hV,N⟩:=nw1 v2 #[.string ad1,.string ad2] 44;go_upto_region 24 with fail;rw [<-hV];replace rA:=qH (zkeep N.out.1 _ _ rA.out);replace rH:=qH (zkeep N.out.1 _ _ rH.out);replace rB:=qH (zkeep N.out.1 _ _ rB.out);have rM:=qH N.out.2;replace KB:=qH (qA (KB.out.1.trans (N.out.1.mono KB.out.1.size)) (KB.out.2.trans (N.out.1.mono KB.out.2.size)));clear hV N;have rA0:=qC _ _ 0 _ _ _ rA.out;have rA1:=qC _ _ 1 _ _ _ rA.out;have rM0:=qC _ _ 0 _ _ _ rM.out;have rM1:=qC _ _ 1 _ _ _ rM.out;go_wp2_with fail;refine (HS.out V2 KB.out.2).mono ?_;rintro e v3 ⟨rfl,hb⟩;replace rA:=qH (zkeep hb _ _ rA.out);replace rH:=qH (zkeep hb _ _ rH.out);replace rB:=qH (zkeep hb _ _ rB.out);replace rM:=qH (zkeep hb _ _ rM.out);replace KB:=qH (qA (KB.out.1.trans (hb.mono KB.out.1.size)) (KB.out.2.trans (hb.mono KB.out.2.size)));clear hb rA0 rA1 rM0 rM1;obtain⟨V3,hV,N⟩:=nw1 v3 #[.string su1,.string su2] 44;go_upto_region 25 with fail;rw [<-hV];have lrSrA:wr.heap.size<v3.heap.size:=(qG rA.out).1;have lrSrH:w8.heap.size<v3.heap.size:=(qG rH.out).1;have lrSrB:v1.heap.size<v3.heap.size:=(qG rB.out).1;have lrSrM:v2.heap.size<v3.heap.size:=(qG rM.out).1;have zrS:=KB.out.1.size;have yrS:=KB.out.2.size;replace rA:=qH (zkeep N.out.1 _ _ rA.out);replace rH:=qH (zkeep N.out.1 _ _ rH.out);replace rB:=qH (zkeep N.out.1 _ _ rB.out);replace rM:=qH (zkeep N.out.1 _ _ rM.out);have rS:=qH N.out.2;replace KB:=qH (qA (KB.out.1.trans (N.out.1.mono KB.out.1.size)) (KB.out.2.trans (N.out.1.mono KB.out.2.size)));clear hV N;have rB0:=qC _ _ 0 _ _ _ rB.out;have rB1:=qC _ _ 1 _ _ _ rB.out;have rS0:=qC _ _ 0 _ _ _ rS.out;have rS1:=qC _ _ 1 _ _ _ rS.out;go_wp2_with fail;refine (HMU.out V3 KB.out.2).mono ?_;rintro e v4 ⟨rfl,hb⟩;replace rA:=qH (zkeep hb _ _ rA.out);replace rH:=qH (zkeep hb _ _ rH.out);replace rB:=qH (zkeep hb _ _ rB.out);replace rM:=qH (zkeep hb _ _ rM.out);replace rS:=qH (zkeep hb _ _ rS.out);replace KB:=qH (qA (KB.out.1.trans (hb.mono KB.out.1.size)) (KB.out.2.trans (hb.mono KB.out.2.size)));clear hb rS0 rS1 rB0 rB1;obtain⟨V4,hV⟩:∃V,V=v4.setRow v3.heap.size #[.string wa1,.string wa2]:=⟨_,rfl⟩
    go_upto_region 26 with ((with_reducible refine sR_ rfl 44 _ _ rfl (v3.heap.size) #[.string wa1,.string wa2] rS.out 2 ?_))
    rw [<-hV];replace rA:=qH (hV▸(setRow_other _ _ _ _ (by omega)).trans rA.out);replace rH:=qH (hV▸(setRow_other _ _ _ _ (by omega)).trans rH.out);replace rB:=qH (hV▸(setRow_other _ _ _ _ (by omega)).trans rB.out);replace rM:=qH (hV▸(setRow_other _ _ _ _ (by omega)).trans rM.out);replace rS:=qH (hV▸qT _ _ _ _ _ _ rS.out);replace KB:=qH (qA (hV▸qS KB.out.1 zrS #[.string wa1,.string wa2]) (hV▸qS KB.out.2 yrS #[.string wa1,.string wa2]));clear hV lrSrA lrSrH lrSrB lrSrM zrS yrS;go_wp2_with fail;refine (HZN.out V4 KB.out.2).mono ?_;rintro e v5 ⟨rfl,hb⟩;replace rA:=qH (zkeep hb _ _ rA.out);replace rH:=qH (zkeep hb _ _ rH.out);replace rB:=qH (zkeep hb _ _ rB.out);replace rM:=qH (zkeep hb _ _ rM.out);replace rS:=qH (zkeep hb _ _ rS.out);replace KB:=qH (qA (KB.out.1.trans (hb.mono KB.out.1.size)) (KB.out.2.trans (hb.mono KB.out.2.size)));clear hb;obtain⟨V5,hV,N⟩:=nw1 v5 #[.string zn1,.string zn2] 44;go_upto_region 27 with fail;rw [<-hV];replace rA:=qH (zkeep N.out.1 _ _ rA.out);replace rH:=qH (zkeep N.out.1 _ _ rH.out);replace rB:=qH (zkeep N.out.1 _ _ rB.out);replace rM:=qH (zkeep N.out.1 _ _ rM.out);replace rS:=qH (zkeep N.out.1 _ _ rS.out);have rZ:=qH N.out.2;replace KB:=qH (qA (KB.out.1.trans (N.out.1.mono KB.out.1.size)) (KB.out.2.trans (N.out.1.mono KB.out.2.size)));clear hV N;have rS0:=qC _ _ 0 _ _ _ rS.out;have rS1:=qC _ _ 1 _ _ _ rS.out;have rZ0:=qC _ _ 0 _ _ _ rZ.out;have rZ1:=qC _ _ 1 _ _ _ rZ.out;go_wp2_with fail;refine (HSB.out V5 KB.out.2).mono ?_;rintro e v6 ⟨rfl,hb⟩;replace rA:=qH (zkeep hb _ _ rA.out);replace rH:=qH (zkeep hb _ _ rH.out);replace rB:=qH (zkeep hb _ _ rB.out);replace rM:=qH (zkeep hb _ _ rM.out);replace rS:=qH (zkeep hb _ _ rS.out);replace rZ:=qH (zkeep hb _ _ rZ.out);replace KB:=qH (qA (KB.out.1.trans (hb.mono KB.out.1.size)) (KB.out.2.trans (hb.mono KB.out.2.size)));clear hb rZ0 rZ1 rS0 rS1;obtain⟨V6,hV,N⟩:=nw1 v6 #[.string of1,.string of2] 44;go_upto_region 28 with fail;rw [<-hV];have lrOrA:wr.heap.size<v6.heap.size:=(qG rA.out).1;have lrOrH:w8.heap.size<v6.heap.size:=(qG rH.out).1;have lrOrB:v1.heap.size<v6.heap.size:=(qG rB.out).1;have lrOrM:v2.heap.size<v6.heap.size:=(qG rM.out).1;have lrOrS:v3.heap.size<v6.heap.size:=(qG rS.out).1;have lrOrZ:v5.heap.size<v6.heap.size:=(qG rZ.out).1;have zrO:=KB.out.1.size;have yrO:=KB.out.2.size;replace rA:=qH (zkeep N.out.1 _ _ rA.out);replace rH:=qH (zkeep N.out.1 _ _ rH.out);replace rB:=qH (zkeep N.out.1 _ _ rB.out);replace rM:=qH (zkeep N.out.1 _ _ rM.out);replace rS:=qH (zkeep N.out.1 _ _ rS.out);replace rZ:=qH (zkeep N.out.1 _ _ rZ.out);have rO:=qH N.out.2;replace KB:=qH (qA (KB.out.1.trans (N.out.1.mono KB.out.1.size)) (KB.out.2.trans (N.out.1.mono KB.out.2.size)));clear hV N;have rO0:=qC _ _ 0 _ _ _ rO.out;have rO1:=qC _ _ 1 _ _ _ rO.out;go_wp2_with fail;refine (HAB.out V6 KB.out.2).mono ?_;rintro e v7 ⟨rfl,hb⟩;replace rA:=qH (zkeep hb _ _ rA.out);replace rH:=qH (zkeep hb _ _ rH.out);replace rB:=qH (zkeep hb _ _ rB.out);replace rM:=qH (zkeep hb _ _ rM.out);replace rS:=qH (zkeep hb _ _ rS.out);replace rZ:=qH (zkeep hb _ _ rZ.out);replace rO:=qH (zkeep hb _ _ rO.out);replace KB:=qH (qA (KB.out.1.trans (hb.mono KB.out.1.size)) (KB.out.2.trans (hb.mono KB.out.2.size)));clear hb rO0 rO1;obtain⟨V7,hV⟩:∃V,V=v7.setRow v6.heap.size #[.string ab1,.string ab2]:=⟨_,rfl⟩
    go_upto_region 29 with ((with_reducible refine sR_ rfl 44 _ _ rfl (v6.heap.size) #[.string ab1,.string ab2] rO.out 2 ?_))
    rw [<-hV];replace rA:=qH (hV▸(setRow_other _ _ _ _ (by omega)).trans rA.out);replace rH:=qH (hV▸(setRow_other _ _ _ _ (by omega)).trans rH.out);replace rB:=qH (hV▸(setRow_other _ _ _ _ (by omega)).trans rB.out);replace rM:=qH (hV▸(setRow_other _ _ _ _ (by omega)).trans rM.out);replace rS:=qH (hV▸(setRow_other _ _ _ _ (by omega)).trans rS.out);replace rZ:=qH (hV▸(setRow_other _ _ _ _ (by omega)).trans rZ.out);replace rO:=qH (hV▸qT _ _ _ _ _ _ rO.out);replace KB:=qH (qA (hV▸qS KB.out.1 zrO #[.string ab1,.string ab2]) (hV▸qS KB.out.2 yrO #[.string ab1,.string ab2]));clear hV lrOrA lrOrH lrOrB lrOrM lrOrS lrOrZ zrO yrO;have rH0:=qC _ _ 0 _ _ _ rH.out;have rH1:=qC _ _ 1 _ _ _ rH.out;have rO0:=qC _ _ 0 _ _ _ rO.out;have rO1:=qC _ _ 1 _ _ _ rO.out;go_wp2_with fail;refine (HCM.out V7).mono ?_;rintro e v8 ⟨cc,rfl,hcc,hb⟩;replace rA:=qH (zkeep hb _ _ rA.out);replace rH:=qH (zkeep hb _ _ rH.out);replace rB:=qH (zkeep hb _ _ rB.out);replace rM:=qH (zkeep hb _ _ rM.out);replace rS:=qH (zkeep hb _ _ rS.out);replace rZ:=qH (zkeep hb _ _ rZ.out);replace rO:=qH (zkeep hb _ _ rO.out);replace KB:=qH (qA (KB.out.1.trans (hb.mono KB.out.1.size)) (KB.out.2.trans (hb.mono KB.out.2.size)));clear hb rO0 rO1 rH0 rH1;have hc0:¬cc > 0:=by omega
    go_wp2;go_roundw
    case rel=>exact⟨k+1,by go_num,hkn,qH KB.out.1⟩
    case measure=>simp [intOf];omega
end Go.Proofs.YtplkdeknjghobaaGreatDoor
section
namespace Go.Proofs.YtplkdeknjghobaaGreatDoor
open Go.ChangeShapes Go.WideShapes Go.ChangeAt Go.RowKit
open Go.ChangeMaps (open_string shut_string)
namespace LfitElements
theorem lifted (os:Os) (started:os.Started) (H:Type) (enc:TypeId×Value->H) :
  ReturnsInHanded {} Tryz.checked os 7 .any (fun w args=>(Rows.fitElementsSpec.pre enc Tryz.prog Tryz.f7 [] false w args/\laidMetH Tryz.prog laidK w)/\sizedMet enc Tryz.prog Tryz.f7 (OpenSpec.ofChange Rows.fitElementsSpec) false w args)
   (Rows.fitElementsSpec.post enc Tryz.prog Tryz.f7 false true false false):=by
 refine returnsInHanded_of_change_and (C:=Tryz.checked) (X:=fun w _=>laidMetH Tryz.prog laidK w) (fun _ _ _ hh h=>h.of_heap hh) Tryz.own started (by kernel_rfl) Tryz.func7
  (ChangeSpec.witness_shaped (enc:=enc) (C:=Tryz.checked) (os:=os) (X:=fun w _=>laidMetH Tryz.prog laidK w) false (World.laidAll Tryz.prog os laidK) #[.agg #[.int .u8 0,.int .u8 0,.slice none 0 0]] 8 (World.laidAll_os _ _ _) (World.shaped_of_ZipB (by kernel_rfl) (by kernel_rfl)) (by kernel_rfl) (by kernel_rfl) (by kernel_rfl) (by rw [MakeChecks.laidMetH_plain _ _ _ (by kernel_rfl)];exact laidMet_laidAll _ (by kernel_rfl) (by kernel_rfl))) ?_
 intro W base args ds gs before hval0 hW _ hsz hL _;have hval:∀(j:Nat) t v,Tryz.f7.params[j]? = some t->args[j]? = some v->Value.okWide Tryz.prog W .any base t v:=hval0;have hW':=hW;obtain⟨p,q,hA0,hV,rfl,hfz,hnd⟩:=hW;have hA:DataW.TrodAll enc Tryz.prog W 0 (fun _=>true) true Tryz.f7.params.toList args.toList ds p:=hA0;rw [Tryz.params7] at hA hval;obtain⟨v0,d0,rfl,rfl,h0⟩:=trodAll_one hA;obtain⟨rfl,rfl⟩:=trodVars_none hV;have k0:=h0;have lt0:∀x∈p,x.block<W.heap.size:=by obtain⟨m,hm⟩:=k0;exact DataW.trod_lt m _ _ _ hm
 obtain⟨kd,inn,L,hM0⟩:=open_mo (hval 0 27 v0 rfl rfl) h0;clear hA0 hval0 hsz;simp only [List.append_nil] at hW';refine (qgI kd inn L _ W hM0 (qmC hL).1 (qmC hL).2).mono fun e W' ⟨he,hb⟩=>?_
 subst he;exact⟨_,rfl,qh2 (pa:=p) (pv:=[]) hW' (fun _ _ _=>trodAll_mk1 (shut_bool Tryz.underlying4 _)) (fun sp hsp=>trodAll_mk1 (WideElems.Trod_stays Tryz.laidOut (by kernel_rfl) (of_decide_eq_true (by kernel_rfl)) k0 (fun x hx=>hb.same (lt0 x hx)) (fun x hx=>hsp x (by simp [hx])))) (fun _ _=>rfl) (by simp) hb (ok_one (by kernel_rfl) rfl (okWide_bool_mk Tryz.underlying4 _))⟩
theorem j1:(Rows.fitElementsRow.inPlace == Tryz.prog.inPlace 7)=true:=by kernel_rfl
theorem j2:(Rows.fitElementsRow.unfollowed == Tryz.prog.unfollowed 7)=true:=by kernel_rfl
theorem j3:(Rows.fitElementsRow.recurses == Tryz.prog.recurses 7)=true:=by kernel_rfl
theorem j4:(Rows.fitElementsRow.named == Tryz.prog.varsNamed 7)=true:=by kernel_rfl
theorem j5:Rows.fitElementsRow.wf (OpenSpec.ofChange Rows.fitElementsSpec)=true:=by kernel_rfl
theorem j6:(Rows.fitElementsRow.lifted == Tryz.prog.liftsFinal)=true:=jf6
theorem j7:(Tryz.prog.make == some Rows.fitElementsRow.make)=true:=jf7
theorem facts:joinedFacts Tryz.prog 7 Tryz.f7 Rows.fitElementsSpec Rows.fitElementsRow=true:=by
 simp only [joinedFacts,jf1,jf2,jf3,jf4,jf5,j1,j2,j3,j4,j5,j6,j7,Bool.and_true,Bool.true_and]
 kernel_rfl
theorem holds:Rows.FitElementsSaid :=
 OpenClaim.holds_of_wide 7 Tryz.f7 rfl rfl rfl rfl rfl rfl rfl ⟨rfl,rfl,rfl,rfl,rfl⟩ rfl rfl rfl rfl rfl (by kernel_rfl) Tryz.func7 facts
  (of_decide_eq_true (by kernel_rfl)) (by unfold Func.isWrapper;first | (rw [if_pos (by decide +kernel)];kernel_rfl) | (rw [if_neg (by decide +kernel)];exact⟨rfl,rfl⟩))
  (fun os started H enc _=>lifted os started H enc)
end LfitElements
theorem fitElements_card:Rows.FitElementsCardSaid :=
 Claim7.holds_tied_plain_at .later [] [.data,.data,.data,.sentinel,.sentinel] true (true, "9b05d2fc1ff85d5dc0477f326f390b72a370e4f499729e5259227d07228ba241") true
  LfitElements.holds (fun _ h=>by cases h) (by as_aux_lemma=>kernel_rfl) (fun _ h=>by cases h) fitElements_row_tie rfl ⟨rfl,rfl⟩ (by as_aux_lemma=>kernel_rfl) rfl
  (fun f fn hf hfn=>by
   obtain rfl:f=7:=qai ((show Tryz.prog.funcNamed "verdigris/verdigrislaw32.FitElements" = some 7 by as_aux_lemma=>kernel_rfl).symm.trans hf) |>.symm
   obtain rfl:fn=Tryz.f7:=(qai (Tryz.func7.symm.trans hfn)).symm;exact⟨by as_aux_lemma=>kernel_rfl,fun j t ht=>by
    rw [Tryz.params7] at ht;have hm:t∈([27]:List Nat):=by simpa using Array.mem_of_getElem? ht
    have hall:(([27]:List Nat).all fun u=>!Tryz.prog.wantsStandIn u)=true:=by as_aux_lemma=>kernel_rfl
    exact (show Tryz.prog.wantsStandIn t=false by simpa using qa6.1 hall t hm)⟩)
  (by as_aux_lemma=>kernel_rfl)
#print axioms fitElements_card
