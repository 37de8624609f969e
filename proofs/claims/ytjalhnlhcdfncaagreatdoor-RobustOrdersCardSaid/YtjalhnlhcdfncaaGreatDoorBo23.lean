import Derived.Test.YtjalhnlhcdfncaaGreatDoorBo19
import Derived.WalkMore
set_option maxRecDepth 100000
set_option maxHeartbeats 0
namespace Go.Proofs.YtjalhnlhcdfncaaGreatDoor
open Go.RowKit Go.Proofs.Tryz
theorem qni (kind:Int) (k n:Nat) (E:qdy kind k) (F:1<=n) (H:n<=4) (w:World):Calls prog 208 #[.int .i64 kind,.int .i64 (n:Int)] w fun e w'=>e=.returned (.int .i64 (many k n:Nat))/\w=w':=by
 rcases qib E with ⟨rfl,rfl⟩ | ⟨rfl,rfl⟩ | ⟨rfl,rfl⟩
 all_goals
  rcases (show n=1\/n=2\/n=3\/n=4 by omega) with rfl | rfl | rfl | rfl
  all_goals
   clear F H E;go_enter func208,ntmps208;go_wp2;go_ret;exact⟨rfl,rfl⟩
def qeK (m:Md):Prop:=∃k n,MdOk m k n
theorem MdAt.parts {W:World} {v:Value} {m:Md} (h:MdAt W v m):∃(a:Nat->Option Addr) (b o c:Nat->Nat),v=.agg #[.int .i64 m.kind,.int .i64 m.inn,.slice (a 0) (m.row 0).length (c 0),.slice (a 1) (m.row 1).length (c 1),.slice (a 2) (m.row 2).length (c 2)]/\∀q,q<3->FCells W (a q) (b q) (o q) (m.row q):=by
 obtain⟨a0,a1,a2,b0,o0,c0,b1,o1,c1,b2,o2,c2,rfl,E,F,H⟩:=h;refine⟨fun q=>if q=0 then a0 else if q=1 then a1 else a2,fun q=>if q=0 then b0 else if q=1 then b1 else b2,fun q=>if q=0 then o0 else if q=1 then o1 else o2,fun q=>if q=0 then c0 else if q=1 then c1 else c2,rfl,fun q I=>?_⟩;rcases (show q=0\/q=1\/q=2 by omega) with rfl | rfl | rfl
 ·exact E
 ·exact F
 ·exact H
theorem qmm (m:Md) (v:Value) (w:World) (hM:MdAt w v m) (hl:∀q,q<3->(m.row q).length<=4611686018427387904):Calls prog 142 #[v] w fun e w'=>qfI w (qeK m) 320 e w':=by
 obtain⟨a,b,o,c,rfl,hF⟩:=hM.parts;obtain⟨kind,H⟩:∃z,m.kind=z:=⟨_,rfl⟩;obtain⟨inn,V⟩:∃z,m.inn=z:=⟨_,rfl⟩;rw [H,V];obtain⟨L,hL⟩:∃L:Nat->Nat,∀q,(m.row q).length=L q:=⟨_,fun _=>rfl⟩;rw [hL,hL,hL];obtain⟨W1,ax,O⟩:=nw1 w #[.int .i64 kind,.int .i64 inn,.slice (a 0) (L 0) (c 0),.slice (a 1) (L 1) (c 1),.slice (a 2) (L 2) (c 2)] 46;have c0:=qC _ _ 0 _ _ _ O.o.2;have c1:=qC _ _ 1 _ _ _ O.o.2;have c2:=qC _ _ 2 _ _ _ O.o.2;have c3:=qC _ _ 3 _ _ _ O.o.2;have c4:=qC _ _ 4 _ _ _ O.o.2;have J:=qH (qA H (qA V (qA hl (fun q hq=>(hF q hq).below O.o.1))));have aF:=qH hL;have E:=qH O.o.1;clear hM hF hl H V hL;go_enter func142,ntmps142;go_upto_region 1 with fail;rw [<-ax];clear ax
 go_step3
 go_wp2_with fail;refine (qjp kind W1).mono ?_;rintro e w2 ⟨rfl,hw⟩;subst hw
 by_cases Y:1<=kind/\kind<=3
 case neg =>
  rw [qU Y];have HN:=qH Y;clear Y;go_wp2;go_ret;exact⟨320,rfl,qam ⟨rfl,fun⟨k,n,h⟩=>HN.o (by have:=h.kind.1;have:=h.kind.2;have:=J.o.1;omega)⟩,E.o⟩
 obtain⟨k,aB⟩:∃k,qdy kind k:=⟨kind.toNat,by omega,by omega,by omega⟩;rw [qV Y];have Hk:=qH aB;clear aB Y
 by_cases ai:1<=inn/\inn<=4
 case neg =>
  have HN:=qH ai
  by_cases h1:inn<1
  ·clear ai;go_wp2;go_ret;exact⟨320,rfl,qam ⟨rfl,fun⟨k,n,h⟩=>HN.o (by have:=h.inn;have:=J.o.2.1;omega)⟩,E.o⟩
  ·have h2:4<inn:=by omega
   clear ai;go_wp2;go_ret;exact⟨320,rfl,qam ⟨rfl,fun⟨k,n,h⟩=>HN.o (by have:=h.inn;have:=J.o.2.1;omega)⟩,E.o⟩
 obtain⟨n,hn⟩:∃n:Nat,inn=n:=⟨inn.toNat,by omega⟩;subst hn;have aP:¬(n:Int)<1:=by omega
 have aR:¬4<(n:Int):=by omega
 by_cases af:kind=3/\n=4
 ·obtain⟨h3,h4⟩:=af;subst h3 h4;go_wp2;go_ret;exact⟨320,rfl,qam ⟨rfl,fun⟨k',n',h⟩=>h.both ⟨by have:=h.kind.1;have:=J.o.1;omega,by have:=h.inn;have:=J.o.2.1;omega⟩⟩,E.o⟩
 have aG:=qH af;go_upto_region 3 with fail
 go_cut [29] (fun x29 W=>x29=.bool false/\Hu (W=W1))
 case first =>
  by_cases h3:kind=3
  ·have aQ:¬(3:Int)<n:=fun h=>af ⟨h3,by omega⟩
   subst h3;go_wp2;go_meet;exact⟨rfl,qH rfl⟩
  ·go_wp2;go_meet;exact⟨rfl,qH rfl⟩
 case rest =>
  obtain⟨rfl,ah⟩:=hcut;have ah:=ah.o.symm;subst ah;clear af;go_wp2_with fail
  go_step3
  go_wp2_with fail
  go_loopw [3,32] (fun x3 x32 W=>x3=.bool true/\∃j:Nat,x32=.int .i64 j/\j<=3/\Hu ((∀q,q<j->(m.row q).length=many k n/\FAll (m.row q))/\Below W1.heap.size W1 W)) (fun _ x32 _=>3-(intOf x32).toNat)
  case atStart=>exact⟨rfl,0,rfl,qaj _,qH ⟨fun q hq=>absurd hq (qb1 _),Below.refl _ _⟩⟩
  case round =>
   obtain⟨rfl,j,rfl,hj,hI⟩:=hrel
   by_cases ak:j<3
   ·have aN:(j:Int)<3:=by omega
    obtain⟨row,F⟩:∃r,m.row j=r:=⟨_,rfl⟩;obtain⟨aj,U⟩:∃r,a j=r:=⟨_,rfl⟩;obtain⟨bj,az⟩:∃r,b j=r:=⟨_,rfl⟩;obtain⟨oj,aC⟩:∃r,o j=r:=⟨_,rfl⟩;obtain⟨cj,ag⟩:∃r,c j=r:=⟨_,rfl⟩;obtain⟨I,Z⟩:∃r,L j=r:=⟨_,rfl⟩;have hF:=J.o.2.2.2 j ak;rw [F,U,az,aC] at hF;have au:row.length=I:=by rw [<-F,aF.o,Z]
    have aO:I<=4611686018427387904:=by rw [<-au,<-F];exact J.o.2.2.1 j ak
    have HR:=qH (qA F au);have HF:=qH hF;have HI:=qH hI.o;obtain⟨wo,aK⟩:=qY wr;have hB:=hI.o.2;have d0:=(rowC (B:=W1.heap.size) O.o.2 0 (hg:=by have:=(qG O.o.2).1;exact this)) _ hB;have d1:=(rowC (B:=W1.heap.size) O.o.2 1 (hg:=by have:=(qG O.o.2).1;exact this)) _ hB;have aA:(j=0/\a 0=aj/\L 0=I/\c 0=cj)\/(j=1/\a 1=aj/\L 1=I/\c 1=cj)\/(j=2/\a 2=aj/\L 2=I/\c 2=cj):=by
     rcases (show j=0\/j=1\/j=2 by omega) with rfl | rfl | rfl
     ·exact qaw ⟨rfl,U,Z,ag⟩
     ·exact qam (qaw ⟨rfl,U,Z,ag⟩)
     ·exact qam (qam ⟨rfl,U,Z,ag⟩)
    have HJ:=qH ak;have aS:∀W,(Instr.index 44 (.agg #[.slice (a 0) (L 0) (c 0),.slice (a 1) (L 1) (c 1),.slice (a 2) (L 2) (c 2)]) (.int .i64 (j:Int))).run prog W=.ok (.slice aj I cj) W:=fun W=>by
     rcases aA with ⟨rfl,h1,h2,h3⟩ | ⟨rfl,h1,h2,h3⟩ | ⟨rfl,h1,h2,h3⟩
     all_goals
      rw [<-h1,<-h2,<-h3]
      kernel_rfl
    clear hI hF F au U az aC ag Z hB aA;subst aK;go_wp2_with fail;refine (qni kind k n Hk.o (by omega) (by omega) _).mono ?_;rintro e w5 ⟨rfl,hw⟩;subst hw
    by_cases aa:I=many k n
    case neg =>
     have hne:((I:Int) != ((many k n:Nat):Int))=true:=by rw [bne_iff_ne];omega
     have aH:=qH aa;clear aa;go_wp2;go_ret;exact⟨320,rfl,qam ⟨rfl,fun⟨k',n',h⟩=>aH.o (by
      have h1:=(h.rows j HJ.o).1;have h2:=h.kind.1;have h3:=h.inn.1;have h4:=J.o.1;have h5:=J.o.2.1;have h6:=Hk.o.1;obtain rfl:k'=k:=by omega
      obtain rfl:n'=n:=by omega
      rw [<-h1,HR.o.1,HR.o.2])⟩,E.o.trans (HI.o.2.mono E.o.size)⟩
    have hne:((I:Int) != ((many k n:Nat):Int))=false:=by simp [aa]
    have aD:=qH aa;clear aa;go_wp2_with fail
    go_loopw [3,45] (fun x3 x45 W=>x3=.bool true/\∃i:Nat,x45=.int .i64 i/\i<=I/\Hu ((∀q,q<i->FOk (row.getD q fd0).1.data.toList (row.getD q fd0).2.data.toList)/\Below wo.heap.size wo W)) (fun _ x45 _=>I-(intOf x45).toNat)
    case atStart=>exact⟨rfl,0,rfl,qaj _,qH ⟨fun q hq=>absurd hq (qb1 _),Below.refl _ _⟩⟩
    case round =>
     obtain⟨rfl,i,rfl,aM,hJ⟩:=hrel
     by_cases hi:i<I
     ·have aL:(i:Int)<I:=by omega
      have aI:=HF.o.addr (by have:=HR.o.2;omega);subst aI;obtain⟨e0,e1⟩:=(HF.o.below (HI.o.2.trans (hJ.o.2.mono HI.o.2.size))).cell i (by have:=HR.o.2;omega);obtain⟨N,hN⟩:=qX ((row.getD i fd0).1);obtain⟨D,hD⟩:=qX ((row.getD i fd0).2);rw [hN] at e0;rw [hD] at e1;have ae:=qH (qA hN hD);clear hN hD;go_wp2_with fail;refine (qe6 N D _).mono ?_;rintro e w5 ⟨cc,rfl,aJ,ay⟩;have av:=qH (hJ.o.2.trans ((qB.alloc qN _ |>.trans (ay.mono (by simp only [qab];omega))).mono hJ.o.2.size));clear ay;rcases aJ with ⟨rfl,hf⟩ | ⟨rfl,hf⟩
      ·have Hf:=qH hf;clear hf;go_wp2;go_roundw
       case rel =>
        refine⟨rfl,i+1,by go_num,hi,qH ⟨fun q hq=>?_,av.o⟩⟩;rcases qaB q i with h | h
        ·exact hJ.o.1 q h
        ·obtain rfl:q=i:=by omega
         rw [ae.o.1,ae.o.2];exact Hf.o
       case measure=>simp [intOf];omega
      ·have Hf:=qH hf;clear hf;go_wp2;go_ret;exact⟨320,rfl,qam ⟨rfl,fun⟨k',n',h⟩=>Hf.o (by
        have h1:=(h.rows j HJ.o).2 i (by rw [HR.o.1,HR.o.2];exact hi);rw [HR.o.1,ae.o.1,ae.o.2] at h1;exact h1)⟩,E.o.trans ((HI.o.2.trans (av.o.mono HI.o.2.size)).mono E.o.size)⟩
     ·obtain rfl:i=I:=by omega
      go_wp2;go_roundw
      case rel =>
       refine⟨rfl,j+1,by go_num,HJ.o,qH ⟨fun q hq=>?_,HI.o.2.trans (hJ.o.2.mono HI.o.2.size)⟩⟩;rcases qaB q j with h | h
       ·exact HI.o.1 q h
       ·obtain rfl:q=j:=by omega
        rw [HR.o.1];exact⟨HR.o.2.trans aD.o,fun x hx=>hJ.o.1 x (by rw [HR.o.2] at hx;exact hx)⟩
      case measure=>simp [intOf];omega
   ·obtain rfl:j=3:=by omega
    go_wp2;go_ret;exact⟨0,rfl,qaw ⟨rfl,k,n,⟨by rw [J.o.1];exact Hk.o,⟨J.o.2.1,by omega,by omega⟩,fun h=>aG.o ⟨by have:=Hk.o.1;omega,h.2⟩,fun q hq=>hI.o.1 q hq⟩⟩,E.o.trans (hI.o.2.mono E.o.size)⟩
