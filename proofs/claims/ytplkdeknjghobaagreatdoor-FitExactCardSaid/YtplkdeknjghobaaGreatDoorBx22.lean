import Derived.Test.YtplkdeknjghobaaGreatDoorBx20
import Derived.WalkMore
set_option maxRecDepth 100000
set_option maxHeartbeats 0
namespace Go.Proofs.YtplkdeknjghobaaGreatDoor
open Go.RowKit Go.Proofs.Tryz
def RRow (W:World) (g n:Nat) (x:Nat->Rat) (i:Nat):Prop:=∃cs:Array Value,W.heap[g]? = some (.cells cs 138 (0,0))/\cs.size=n*3/\(∀y∈cs.toList,∀z,y≠.int .u32 z)/\RCells W g i x
theorem RRow.below {W W':World} {g n i:Nat} {x:Nat->Rat} (h:RRow W g n x i) (F:Below W.heap.size W W'):RRow W' g n x i:=by
 obtain⟨cs,G,H,I,J⟩:=h;exact⟨cs,zkeep F _ _ G,H,I,J.below F⟩
theorem RRow.at {W:World} {g n i:Nat} {x:Nat->Rat} (h:RRow W g n x i) (I:i<n):(∃v0 G v2,W.cell? ⟨g,i*3,none⟩=some v0/\W.cell? ⟨g,i*3+1,none⟩=some G/\W.cell? ⟨g,i*3+2,none⟩=some v2)/\∀j,W.frozen? ⟨g,j,none⟩=false:=by
 obtain⟨cs,F,H,_,_⟩:=h;refine⟨⟨cs[i*3]'(by omega),cs[i*3+1]'(by omega),cs[i*3+2]'(by omega),?_,?_,?_⟩,fun j=>qF _ _ _ _ _ F⟩
 ·exact (qC _ _ _ _ _ _ F).trans (Array.getElem?_eq_getElem _)
 ·exact (qC _ _ _ _ _ _ F).trans (Array.getElem?_eq_getElem _)
 ·exact (qC _ _ _ _ _ _ F).trans (Array.getElem?_eq_getElem _)
theorem qjI {cs:Array Value} {k:Nat} {v y:Value} (h:y∈(cs.setIfInBounds k v).toList):y∈cs.toList\/y=v:=by
 rw [Array.toList_setIfInBounds] at h;exact List.mem_or_eq_of_mem_set h
theorem RRow.set {W:World} {g n i:Nat} {x:Nat->Rat} (h:RRow W g n x i) (Z:i<n) {a:Option Addr} {m c:Nat} {b:Bool} {d:Option Addr} {e f:Nat} (Y:RatV W (.agg #[.slice a m c,.bool b,.slice d e f]) (x i)) :
  RRow (((W.setCell ⟨g,i*3,none⟩ (.slice a m c)).setCell ⟨g,i*3+1,none⟩ (.bool b)).setCell ⟨g,i*3+2,none⟩ (.slice d e f)) g n x (i+1):=by
 obtain⟨cs,G,O,H,U⟩:=h;have J:W.grownBy (((W.setCell ⟨g,i*3,none⟩ (.slice a m c)).setCell ⟨g,i*3+1,none⟩ (.bool b)).setCell ⟨g,i*3+2,none⟩ (.slice d e f)) (some g):=qbX (qbX (qbT W g (i*3) _) (qbT _ g (i*3+1) _)) (qbT _ g (i*3+2) _);have I:=heap_setCell_same _ g (i*3+2) _ _ (.slice d e f) (heap_setCell_same _ g (i*3+1) _ _ (.bool b) (heap_setCell_same _ g (i*3) _ _ (.slice a m c) G));refine⟨_,I,by simp [O],fun y hy z=>?_,⟨fun k V=>?_⟩⟩
 ·rcases qjI hy with hy | rfl
  ·rcases qjI hy with hy | rfl
   ·rcases qjI hy with hy | rfl
    ·exact H y hy z
    ·intro h;cases h
   ·intro h;cases h
  ·intro h;cases h
 ·have F:∀j,(((W.setCell ⟨g,i*3,none⟩ (.slice a m c)).setCell ⟨g,i*3+1,none⟩ (.bool b)).setCell ⟨g,i*3+2,none⟩ (.slice d e f)).cell? ⟨g,j,none⟩=(((cs.setIfInBounds (i*3) (.slice a m c)).setIfInBounds (i*3+1) (.bool b)).setIfInBounds (i*3+2) (.slice d e f))[j]?:=fun j=>qC _ _ _ _ _ _ I
  rcases qaM k i with hlt | hge
  ·obtain⟨a',m',c',b',d',e',f',g1,g2,g3,g4⟩:=U.cell k hlt;rw [qC _ _ _ _ _ _ G] at g1 g2 g3;refine⟨a',m',c',b',d',e',f',?_,?_,?_,g4.keep J G H⟩
   ·rw [F,qaP (by omega),qaP (by omega),qaP (by omega)];exact g1
   ·rw [F,qaP (by omega),qaP (by omega),qaP (by omega)];exact g2
   ·rw [F,qaP (by omega),qaP (by omega),qaP (by omega)];exact g3
  ·obtain rfl:k=i:=by omega
   refine⟨a,m,c,b,d,e,f,?_,?_,?_,Y.keep J G H⟩
   ·rw [F,qaP (by omega),qaP (by omega),Array.getElem?_setIfInBounds_self_of_lt (by omega)]
   ·rw [F,qaP (by omega),Array.getElem?_setIfInBounds_self_of_lt (by simp;omega)]
   ·rw [F,Array.getElem?_setIfInBounds_self_of_lt (by simp;omega)]
theorem infoRt:(Tryz.prog.info? 138).map (fun i=>(i.zero,i.size,i.bytes))=some (some (.agg #[.slice none 0 0,.bool false,.slice none 0 0]),3,56):=by kernel_rfl
theorem make_rts (n:Nat) (J:n<=1000) (w:World):(Instr.makeSlice 282 (.int .i64 (n:Int)) (.int .i64 (n:Int))).run prog w=.ok (.slice (some ⟨w.heap.size,0,none⟩) n n) (w.alloc (.cells (madeCells #[.slice none 0 0,.bool false,.slice none 0 0] (n*3)) 138)):=by
 obtain⟨i,I,F,G,H⟩:=info_parts infoRt;have h:=run_make (P:=prog) w 282 138 i _ underlying282 I F .i64 .i64 (n:Int) (n:Int) (by omega) (Int.le_refl _) (by rw [H];omega) (by omega);rw [G,Int.toNat_natCast] at h;exact h
theorem RRow.made (W:World) (n:Nat) (x:Nat->Rat):RRow (W.alloc (.cells (madeCells #[.slice none 0 0,.bool false,.slice none 0 0] (n*3)) 138)) W.heap.size n x 0:=by
 refine⟨_,qM _ _ _ rfl,size_madeCells _ _,fun y hy z=>?_,⟨fun k F=>absurd F (qbM _)⟩⟩;simp [madeCells] at hy;obtain⟨j,_,rfl⟩:=hy;rcases (show j % 3=0\/j % 3=1\/j % 3=2 by omega) with e | e | e <;> rw [e] <;> intro h <;> cases h
theorem sum_any (b n c:Nat) (ao:Option Addr) (x:Nat->Rat) (w:World) (hn:n<=300) (hF:FCells w ao b 0 (told n x)) (hx:qbY n x) (hs:Short (sumQ n x)) (hT:HasT w) :
  Calls prog 143 #[.slice ao n c] w fun e w'=>e=.returned (.tuple #[.agg #[.string (ftxt (sumQ n x)).1,.string (ftxt (sumQ n x)).2],.int .i64 0])/\Below w.heap.size w w':=by
 obtain⟨r1,r2,hr⟩:=qb6 (sumQ n x);rw [hr];obtain⟨W1,Y,N1⟩:=nw1 w #[.string ⟨#[]⟩,.string ⟨#[]⟩] 44;have ae:W1.heap.size=w.heap.size+1:=by rw [Y];simp
 have ai:=make_rts n (by omega) W1;obtain⟨W2,J⟩:=qY (W1.alloc (.cells (madeCells #[.slice none 0 0,.bool false,.slice none 0 0] (n*3)) 138));rw [<-J,ae] at ai;have ak:RRow W2 (w.heap.size+1) n x 0:=by rw [J,<-ae];exact RRow.made W1 n x
 have Z:Below W1.heap.size W1 W2:=J▸qB.alloc qN _;have H0:=qH (qA (N1.o.1.trans (Z.mono N1.o.1.size)) (qA ak (zkeep Z _ _ N1.o.2)));have V:=qH (qA hF (qA hx (qA hs (qA hT hr))));have aA:¬(300:Int)<n:=by omega
 clear N1 ae ak Z hF hx hs hT hr J;go_enter func143,ntmps143;go_upto_region 1 with fail;rw [<-Y];clear Y;go_wp2_with fail;clear ai
 go_loopw [18] (fun x18 W=>∃i:Nat,x18=.int .i64 i/\i<=n/\Hu (Below w.heap.size w W/\RRow W (w.heap.size+1) n x i/\W.heap[w.heap.size]? = some (.cells #[.string ⟨#[]⟩,.string ⟨#[]⟩] 44 (0,0)))) (fun x18 _=>n-(intOf x18).toNat)
 case atStart=>exact⟨0,rfl,qam _,H0⟩
 case round =>
  obtain⟨i,rfl,az,U⟩:=hrel
  by_cases hi:i<n
  ·have ay:(i:Int)<n:=by omega
   have ha:=V.o.1.addr (by rw [qbW];omega);subst ha;obtain⟨d0,d1⟩:=(V.o.1.below U.o.1).cell i (by rw [qbW];exact hi);rw [qdg hi] at d0 d1;have G:=fun W=>readq (V.o.2.1 i hi) W
   obtain⟨t1,t2,ht⟩:=qb6 (x i);rw [ht] at d0 d1 G;rw [qaH] at d0 d1;have G:=qH G;clear ht;go_wp2_with fail;refine (G.o _).mono ?_;rintro e w5 ⟨a0,m0,c0,b0,e0,e1,e2,rfl,hv,F,hb⟩;have O:Below wr.heap.size wr w5:=(qB.alloc qN _).trans (hb.mono (by simp only [qab];omega));have HN:=qH (qA (U.o.1.trans (O.mono U.o.1.size)) (qA (U.o.2.1.below O) (qA (zkeep O _ _ U.o.2.2) (qA hv F))));clear hv F hb O G;obtain⟨V6,ah,N6⟩:=nw1 w5 #[.slice a0 m0 c0,.bool b0,.slice e0 e1 e2] 138;obtain⟨⟨v0,v1,v2,q0,q1,q2⟩,qf⟩:=(HN.o.2.1.below N6.o.1).at hi;have aB:=qf (i*3);have aC:=qf (i*3+1);have aD:=qf (i*3+2);have HS:=qH (qA (HN.o.1.trans (N6.o.1.mono HN.o.1.size)) (qA ((HN.o.2.1.below N6.o.1).set hi (HN.o.2.2.2.1.below N6.o.1)) (zkeep N6.o.1 _ _ HN.o.2.2.1)));go_upto_region 10 with fail;rw [<-ah];clear ah;have y0:=qC _ _ 0 _ _ _ N6.o.2;have y1:=qC _ _ 1 _ _ _ N6.o.2;have y2:=qC _ _ 2 _ _ _ N6.o.2;have ax:i*3<n*3:=by omega
   clear qf N6;go_wp2;go_roundw
   case rel =>
    refine⟨i+1,by go_num,hi,qH ⟨((HS.o.1.setCell (p:=⟨w.heap.size+1,i*3,none⟩) (show w.heap.size<=w.heap.size+1 by omega) _).setCell (p:=⟨w.heap.size+1,i*3+1,none⟩) (show w.heap.size<=w.heap.size+1 by omega) _).setCell (p:=⟨w.heap.size+1,i*3+2,none⟩) (show w.heap.size<=w.heap.size+1 by omega) _,HS.o.2.1,?_⟩⟩;exact (qW _ _ _ _ (show w.heap.size≠w.heap.size+1 by omega)).trans ((qW _ _ _ _ (show w.heap.size≠w.heap.size+1 by omega)).trans ((qW _ _ _ _ (show w.heap.size≠w.heap.size+1 by omega)).trans HS.o.2.2))
   case measure=>simp [intOf];omega
  ·obtain rfl:i=n:=by omega
   have I:∀k,k<i->RFit (x k) 67:=fun k hk=>by
    have:=(qdz (V.o.2.1 k hk)).fit;rw [qcV] at this;exact this
   have aj:RCells wr (w.heap.size+1) i x:=by obtain⟨cs,_,_,_,h⟩:=U.o.2.1;exact h
   have af:=qH (qnl (w.heap.size+1) i i (some ⟨w.heap.size+1,0,none⟩) x wr (fun _=>rfl) hn I aj);have HI:=qH U.o;clear U I aj;go_wp2_with fail;refine af.o.mono ?_;rintro e w5 ⟨r,rfl,hb,hv,F⟩;obtain⟨a0,m0,c0,b0,e0,e1,e2,rfl⟩:=qcB hv;have HB:=qH (HI.o.1.trans (hb.mono HI.o.1.size));have ag:=qH (zkeep hb _ _ HI.o.2.2);have HW:=qH (qeO (sumQ i x) (68*i+1) (by omega) (by omega) _ w5 hv F (V.o.2.2.2.1.below HB.o));clear hb hv F af;go_wp2_with fail;refine HW.o.mono ?_;rintro e w6 ⟨h,aa⟩;have au:=qH (HB.o.trans (aa.mono HB.o.size));have H:=qH (zkeep aa _ _ ag.o);clear aa HW;rcases h with ⟨_,rfl⟩ | ⟨av,_⟩
   case inr=>exact absurd V.o.2.2.1 av
   rw [qfe,V.o.2.2.2.2];have HE:=qH (qA (qT _ _ _ #[.string r1,.string r2] _ _ H.o) (qS au.o qN #[.string r1,.string r2]))
   go_wp2_with ((with_reducible refine sR_ rfl 44 _ _ rfl (w.heap.size) #[.string r1,.string r2] H.o 2 ?_))
   exact qR (v:=.tuple #[.agg #[.string r1,.string r2],.int .i64 0]) (rB_ rfl w.heap.size HE.o.1 underlying44 2) rfl ⟨rfl,HE.o.2⟩
theorem qlE (kind:Int) (k n:Nat) (F:qcu kind k) (G:1<=n) (H:n<=4) (w:World):Calls prog 110 #[.int .i64 kind,.int .i64 (n:Int)] w fun e I=>e=.returned (.int .i64 (many k n:Nat))/\w=I:=by
 rcases qho F with ⟨rfl,rfl⟩ | ⟨rfl,rfl⟩ | ⟨rfl,rfl⟩
 all_goals
  rcases (show n=1\/n=2\/n=3\/n=4 by omega) with rfl | rfl | rfl | rfl
  all_goals
   clear G H F;go_enter func110,ntmps110;go_wp2;go_ret;exact⟨rfl,rfl⟩
def qc4 (m:Md):Prop:=∃k n,MdOk m k n
theorem MdAt.parts {W:World} {v:Value} {m:Md} (h:MdAt W v m):∃(a:Nat->Option Addr) (b o c:Nat->Nat),v=.agg #[.int .i64 m.kind,.int .i64 m.inn,.slice (a 0) (m.row 0).length (c 0),.slice (a 1) (m.row 1).length (c 1),.slice (a 2) (m.row 2).length (c 2)]/\∀q,q<3->FCells W (a q) (b q) (o q) (m.row q):=by
 obtain⟨a0,a1,a2,b0,o0,c0,b1,o1,c1,b2,o2,c2,rfl,F,G,H⟩:=h;refine⟨fun q=>if q=0 then a0 else if q=1 then a1 else a2,fun q=>if q=0 then b0 else if q=1 then b1 else b2,fun q=>if q=0 then o0 else if q=1 then o1 else o2,fun q=>if q=0 then c0 else if q=1 then c1 else c2,rfl,fun q I=>?_⟩;rcases (show q=0\/q=1\/q=2 by omega) with rfl | rfl | rfl
 ·exact F
 ·exact G
 ·exact H
theorem qfF (m:Md) (v:Value) (w:World) (hM:MdAt w v m) (hl:∀q,q<3->(m.row q).length<=4611686018427387904):Calls prog 39 #[v] w fun e w'=>qe7 w (qc4 m) 320 e w':=by
 obtain⟨a,b,o,c,rfl,hF⟩:=hM.parts;obtain⟨kind,H⟩:∃z,m.kind=z:=⟨_,rfl⟩;obtain⟨inn,V⟩:∃z,m.inn=z:=⟨_,rfl⟩;rw [H,V];obtain⟨L,hL⟩:∃L:Nat->Nat,∀q,(m.row q).length=L q:=⟨_,fun _=>rfl⟩;rw [hL,hL,hL];obtain⟨W1,ax,O⟩:=nw1 w #[.int .i64 kind,.int .i64 inn,.slice (a 0) (L 0) (c 0),.slice (a 1) (L 1) (c 1),.slice (a 2) (L 2) (c 2)] 38;have c0:=qC _ _ 0 _ _ _ O.o.2;have c1:=qC _ _ 1 _ _ _ O.o.2;have c2:=qC _ _ 2 _ _ _ O.o.2;have c3:=qC _ _ 3 _ _ _ O.o.2;have c4:=qC _ _ 4 _ _ _ O.o.2;have J:=qH (qA H (qA V (qA hl (fun q hq=>(hF q hq).below O.o.1))));have aF:=qH hL;have F:=qH O.o.1;clear hM hF hl H V hL;go_enter func39,ntmps39;go_upto_region 1 with fail;rw [<-ax];clear ax
 go_step3
 go_wp2_with fail;refine (qgs kind W1).mono ?_;rintro e w2 ⟨rfl,hw⟩;subst hw
 by_cases Y:1<=kind/\kind<=3
 case neg =>
  rw [qU Y];have HN:=qH Y;clear Y;go_wp2;go_ret;exact⟨320,rfl,qag ⟨rfl,fun⟨k,n,h⟩=>HN.o (by have:=h.kind.1;have:=h.kind.2;have:=J.o.1;omega)⟩,F.o⟩
 obtain⟨k,aB⟩:∃k,qcu kind k:=⟨kind.toNat,by omega,by omega,by omega⟩;rw [qV Y];have Hk:=qH aB;clear aB Y
 by_cases ai:1<=inn/\inn<=4
 case neg =>
  have HN:=qH ai
  by_cases h1:inn<1
  ·clear ai;go_wp2;go_ret;exact⟨320,rfl,qag ⟨rfl,fun⟨k,n,h⟩=>HN.o (by have:=h.inn;have:=J.o.2.1;omega)⟩,F.o⟩
  ·have h2:4<inn:=by omega
   clear ai;go_wp2;go_ret;exact⟨320,rfl,qag ⟨rfl,fun⟨k,n,h⟩=>HN.o (by have:=h.inn;have:=J.o.2.1;omega)⟩,F.o⟩
 obtain⟨n,hn⟩:∃n:Nat,inn=n:=⟨inn.toNat,by omega⟩;subst hn;have aP:¬(n:Int)<1:=by omega
 have aR:¬4<(n:Int):=by omega
 by_cases af:kind=3/\n=4
 ·obtain⟨h3,h4⟩:=af;subst h3 h4;go_wp2;go_ret;exact⟨320,rfl,qag ⟨rfl,fun⟨k',n',h⟩=>h.both ⟨by have:=h.kind.1;have:=J.o.1;omega,by have:=h.inn;have:=J.o.2.1;omega⟩⟩,F.o⟩
 have aG:=qH af;go_upto_region 3 with fail
 go_cut [29] (fun x29 W=>x29=.bool false/\Hu (W=W1))
 case first =>
  by_cases h3:kind=3
  ·have aQ:¬(3:Int)<n:=fun h=>af ⟨h3,by omega⟩
   subst h3;go_wp2;go_meet;exact⟨rfl,qH rfl⟩
  ·go_wp2;go_meet;exact⟨rfl,qH rfl⟩
 case rest =>
  obtain⟨rfl,ah⟩:=hcut;have ah:=ah.o.symm;subst ah;clear af;go_wp2_with fail
  go_step3
  go_wp2_with fail
  go_loopw [3,32] (fun x3 x32 W=>x3=.bool true/\∃j:Nat,x32=.int .i64 j/\j<=3/\Hu ((∀q,q<j->(m.row q).length=many k n/\FAll (m.row q))/\Below W1.heap.size W1 W)) (fun _ x32 _=>3-(intOf x32).toNat)
  case atStart=>exact⟨rfl,0,rfl,qam _,qH ⟨fun q hq=>absurd hq (qbM _),Below.refl _ _⟩⟩
  case round =>
   obtain⟨rfl,j,rfl,hj,hI⟩:=hrel
   by_cases ak:j<3
   ·have aN:(j:Int)<3:=by omega
    obtain⟨row,G⟩:∃r,m.row j=r:=⟨_,rfl⟩;obtain⟨aj,U⟩:∃r,a j=r:=⟨_,rfl⟩;obtain⟨bj,az⟩:∃r,b j=r:=⟨_,rfl⟩;obtain⟨oj,aC⟩:∃r,o j=r:=⟨_,rfl⟩;obtain⟨cj,ag⟩:∃r,c j=r:=⟨_,rfl⟩;obtain⟨I,Z⟩:∃r,L j=r:=⟨_,rfl⟩;have hF:=J.o.2.2.2 j ak;rw [G,U,az,aC] at hF;have au:row.length=I:=by rw [<-G,aF.o,Z]
    have aO:I<=4611686018427387904:=by rw [<-au,<-G];exact J.o.2.2.1 j ak
    have HR:=qH (qA G au);have HF:=qH hF;have HI:=qH hI.o;obtain⟨wo,aK⟩:=qY wr;have hB:=hI.o.2;have d0:=(rowC (B:=W1.heap.size) O.o.2 0 (hg:=by have:=(qG O.o.2).1;exact this)) _ hB;have d1:=(rowC (B:=W1.heap.size) O.o.2 1 (hg:=by have:=(qG O.o.2).1;exact this)) _ hB;have aA:(j=0/\a 0=aj/\L 0=I/\c 0=cj)\/(j=1/\a 1=aj/\L 1=I/\c 1=cj)\/(j=2/\a 2=aj/\L 2=I/\c 2=cj):=by
     rcases (show j=0\/j=1\/j=2 by omega) with rfl | rfl | rfl
     ·exact qal ⟨rfl,U,Z,ag⟩
     ·exact qag (qal ⟨rfl,U,Z,ag⟩)
     ·exact qag (qag ⟨rfl,U,Z,ag⟩)
    have HJ:=qH ak;have aS:∀W,(Instr.index 36 (.agg #[.slice (a 0) (L 0) (c 0),.slice (a 1) (L 1) (c 1),.slice (a 2) (L 2) (c 2)]) (.int .i64 (j:Int))).run prog W=.ok (.slice aj I cj) W:=fun W=>by
     rcases aA with ⟨rfl,h1,h2,h3⟩ | ⟨rfl,h1,h2,h3⟩ | ⟨rfl,h1,h2,h3⟩
     all_goals
      rw [<-h1,<-h2,<-h3]
      kernel_rfl
    clear hI hF G au U az aC ag Z hB aA;subst aK;go_wp2_with fail;refine (qlE kind k n Hk.o (by omega) (by omega) _).mono ?_;rintro e w5 ⟨rfl,hw⟩;subst hw
    by_cases aa:I=many k n
    case neg =>
     have hne:((I:Int) != ((many k n:Nat):Int))=true:=by rw [bne_iff_ne];omega
     have aH:=qH aa;clear aa;go_wp2;go_ret;exact⟨320,rfl,qag ⟨rfl,fun⟨k',n',h⟩=>aH.o (by
      have h1:=(h.rows j HJ.o).1;have h2:=h.kind.1;have h3:=h.inn.1;have h4:=J.o.1;have h5:=J.o.2.1;have h6:=Hk.o.1;obtain rfl:k'=k:=by omega
      obtain rfl:n'=n:=by omega
      rw [<-h1,HR.o.1,HR.o.2])⟩,F.o.trans (HI.o.2.mono F.o.size)⟩
    have hne:((I:Int) != ((many k n:Nat):Int))=false:=by simp [aa]
    have aD:=qH aa;clear aa;go_wp2_with fail
    go_loopw [3,45] (fun x3 x45 W=>x3=.bool true/\∃i:Nat,x45=.int .i64 i/\i<=I/\Hu ((∀q,q<i->FOk (row.getD q fd0).1.data.toList (row.getD q fd0).2.data.toList)/\Below wo.heap.size wo W)) (fun _ x45 _=>I-(intOf x45).toNat)
    case atStart=>exact⟨rfl,0,rfl,qam _,qH ⟨fun q hq=>absurd hq (qbM _),Below.refl _ _⟩⟩
    case round =>
     obtain⟨rfl,i,rfl,aM,hJ⟩:=hrel
     by_cases hi:i<I
     ·have aL:(i:Int)<I:=by omega
      have aI:=HF.o.addr (by have:=HR.o.2;omega);subst aI;obtain⟨e0,e1⟩:=(HF.o.below (HI.o.2.trans (hJ.o.2.mono HI.o.2.size))).cell i (by have:=HR.o.2;omega);obtain⟨N,hN⟩:=qX ((row.getD i fd0).1);obtain⟨D,hD⟩:=qX ((row.getD i fd0).2);rw [hN] at e0;rw [hD] at e1;have ae:=qH (qA hN hD);clear hN hD;go_wp2_with fail;refine (qfD N D _).mono ?_;rintro e w5 ⟨cc,rfl,aJ,ay⟩;have av:=qH (hJ.o.2.trans ((qB.alloc qN _ |>.trans (ay.mono (by simp only [qab];omega))).mono hJ.o.2.size));clear ay;rcases aJ with ⟨rfl,hf⟩ | ⟨rfl,hf⟩
      ·have Hf:=qH hf;clear hf;go_wp2;go_roundw
       case rel =>
        refine⟨rfl,i+1,by go_num,hi,qH ⟨fun q hq=>?_,av.o⟩⟩;rcases qaM q i with h | h
        ·exact hJ.o.1 q h
        ·obtain rfl:q=i:=by omega
         rw [ae.o.1,ae.o.2];exact Hf.o
       case measure=>simp [intOf];omega
      ·have Hf:=qH hf;clear hf;go_wp2;go_ret;exact⟨320,rfl,qag ⟨rfl,fun⟨k',n',h⟩=>Hf.o (by
        have h1:=(h.rows j HJ.o).2 i (by rw [HR.o.1,HR.o.2];exact hi);rw [HR.o.1,ae.o.1,ae.o.2] at h1;exact h1)⟩,F.o.trans ((HI.o.2.trans (av.o.mono HI.o.2.size)).mono F.o.size)⟩
     ·obtain rfl:i=I:=by omega
      go_wp2;go_roundw
      case rel =>
       refine⟨rfl,j+1,by go_num,HJ.o,qH ⟨fun q hq=>?_,HI.o.2.trans (hJ.o.2.mono HI.o.2.size)⟩⟩;rcases qaM q j with h | h
       ·exact HI.o.1 q h
       ·obtain rfl:q=j:=by omega
        rw [HR.o.1];exact⟨HR.o.2.trans aD.o,fun x hx=>hJ.o.1 x (by rw [HR.o.2] at hx;exact hx)⟩
      case measure=>simp [intOf];omega
   ·obtain rfl:j=3:=by omega
    go_wp2;go_ret;exact⟨0,rfl,qal ⟨rfl,k,n,⟨by rw [J.o.1];exact Hk.o,⟨J.o.2.1,by omega,by omega⟩,fun h=>aG.o ⟨by have:=Hk.o.1;omega,h.2⟩,fun q hq=>hI.o.1 q hq⟩⟩,F.o.trans (hI.o.2.mono F.o.size)⟩
theorem str_ext {s t:ByteArray} (h:s.data.toList=t.data.toList):s=t:=by
 have:s.data=t.data:=Array.toList_inj.1 h;cases s;cases t;simp at this;subst this;rfl
def qeW (l:List Pt) (k:Nat):Lit->Value
 | .string s=>.bool (decide (∃j,j<k/\(l.getD j pt0).name.data.toList=s))
 | _=>.bool false
theorem qjL (l:List Pt):∀F,(Value.bool false)=qeW l 0 F:=fun F=>by
 unfold qeW;split
 ·rw [qU (by rintro ⟨j,h,_⟩;omega)]
 ·rfl
theorem qiT (l:List Pt) (k:Nat):∀x,x≠Lit.string (l.getD k pt0).name.data.toList->qeW l (k+1) x=qeW l k x:=fun x hx=>by
 unfold qeW;split
 ·rename_i s
  congr 1
  rw [decide_eq_decide]
  constructor
  ·rintro ⟨j,h,e⟩;rcases (show j<k\/j=k by omega) with F | rfl
   ·exact⟨j,F,e⟩
   ·exact absurd (by rw [e]) hx
  ·rintro ⟨j,h,e⟩;exact⟨j,by omega,e⟩
 ·rfl
theorem qk9 (l:List Pt) (k:Nat):qeW l (k+1) (.string (l.getD k pt0).name.data.toList)=.bool true:=by
 unfold qeW;exact congrArg Value.bool (qV ⟨k,by omega,rfl⟩)
structure PtsTo (l:List Pt) (k:Nat):Prop where
 rows:∀j,j<k->PtOk (l.getD j pt0)/\(l.getD j pt0).dev.length=chans l
 apart:∀i j,j<i->i<k->(l.getD j pt0).name≠(l.getD i pt0).name
theorem PtsTo.zero (l:List Pt):PtsTo l 0:=⟨fun j h=>absurd h (by omega),fun i j _ h=>absurd h (by omega)⟩
theorem PtsTo.next {l:List Pt} {k:Nat} (h:PtsTo l k) (G:PtOk (l.getD k pt0)) (H:(l.getD k pt0).dev.length=chans l) (I:¬∃j,j<k/\(l.getD j pt0).name.data.toList=(l.getD k pt0).name.data.toList):PtsTo l (k+1) :=
 ⟨fun j O=>by
  rcases (show j<k\/j=k by omega) with h4 | rfl
  ·exact h.rows j h4
  ·exact⟨G,H⟩,fun i j F J=>by
  rcases (show i<k\/i=k by omega) with h4 | rfl
  ·exact h.apart i j F h4
  ·exact fun e=>I ⟨j,F,by rw [e]⟩⟩
theorem qhx (ao:Option Addr) (b off R c:Nat) (l:List Pt) (w:World) (hR:l.length=R) (hl:R<=4611686018427387904) (hs:∀k,k<R->(l.getD k pt0).name.size<=4611686018427387904/\(l.getD k pt0).dev.length<=4611686018427387904) (hP:PCells w ao b off l) :
  Calls prog 53 #[.slice ao R c] w fun e w'=>qe7 w (PtsOk l) 310 e w':=by
 by_cases h1:1<=R
 case neg =>
  have hi:(R:Int)<1:=by omega
  have HR:=qH hR;clear hP hR;go_enter func53,ntmps53;go_wp2;go_ret;exact⟨310,rfl,qag ⟨rfl,fun h=>by have:=h.r1;have:=HR.o;omega⟩,Below.refl _ _⟩
 have aQ:¬(R:Int)<1:=by omega
 by_cases h2:R<=40
 case neg =>
  have hi:(40:Int)<R:=by omega
  have HR:=qH hR;clear hP hR;go_enter func53,ntmps53;go_wp2;go_ret;exact⟨310,rfl,qag ⟨rfl,fun h=>by have:=h.r2;have:=HR.o;omega⟩,Below.refl _ _⟩
 have aR:¬(40:Int)<R:=by omega
 have aJ:=hP.addr (by omega);subst aJ;have J:=qH (qA hP (qA hR hs));have aL:=@run_makeMap prog;have au:MapAt (w.alloc (.map #[] 0)) prog 9 w.heap.size 0 (.bool false) (qeW l 0):=(MapAt.made w prog 9 (.bool false)).congr fun kl _=>qjL l kl
 have aF:=qH au;have aC:=qH (show Below w.heap.size w (w.alloc (.map #[] 0)) from qB.alloc qN _);clear hP hR hs au;go_enter func53,ntmps53;go_wp2_with fail;clear aL
 go_loopw [17] (fun x17 W=>∃k:Nat,x17=.int .i64 k/\k<=R/\Hu (PtsTo l k)/\Hu (Below w.heap.size w W/\MapAt W prog 9 w.heap.size k (.bool false) (qeW l k))) (fun x17 _=>R-(intOf x17).toNat)
 case atStart=>exact⟨0,rfl,qam _,qH (PtsTo.zero l),qH ⟨aC.o,aF.o⟩⟩
 case round =>
  obtain⟨k,rfl,hk,hJ,K⟩:=hrel
  by_cases ax:k<R
  ·have aS:(k:Int)<R:=by omega
   obtain⟨d0,⟨ra,rb,ro,rc,d1,hN⟩,d2,d3,d4⟩:=(J.o.1.below K.o.1).cell k (by have:=J.o.2.1;omega);obtain⟨_,⟨aM,aW,aX,aN,f1,_⟩,_⟩:=(J.o.1.below K.o.1).cell 0 (by have:=J.o.2.1;omega);rw [Nat.zero_mul,qbp] at f1;obtain⟨p,hp⟩:=qX (l.getD k pt0);obtain⟨n0,ah⟩:∃n,(l.getD 0 pt0).dev.length=n:=⟨_,rfl⟩;have Y:=J.o.2.2 k ax;rw [ah] at f1;rw [hp] at d0 d1 d2 d3 d4 hN Y;obtain⟨nm,dev,l0,l1,l2⟩:=p;simp only [] at d0 d1 d2 d3 d4 hN Y;obtain⟨n,hn⟩:=qX dev.length;rw [hn] at d1;have F:=qH (qA hp (qA ah (qA hn (qA Y hN))));have az:b<wr.heap.size:=qac wr _ f1;obtain⟨I,av,O⟩:=nw1 wr #[.string nm,.slice ra n rc,.int .i64 l0,.int .i64 l1,.int .i64 l2] 55;have aA:=qm6 (.agg #[.string nm,.slice ra n rc,.int .i64 l0,.int .i64 l1,.int .i64 l2]) ⟨nm,dev,l0,l1,l2⟩;have aH:=qH (fun (W:World) (h:Below wr.heap.size wr W)=>aA W ⟨ra,rb,ro,rc,by rw [F.o.2.2.1],F.o.2.2.2.2.below h⟩ F.o.2.2.2.1.1 F.o.2.2.2.1.2);have aU:w.heap.size<wr.heap.size:=K.o.2.lt;have KM:=qH (qA O.o.1 (K.o.2.below O.o.1));have ae:∀W,Below I.heap.size I W->W.cell? ⟨b,off+1,none⟩=some (.slice aM n0 aN):=fun W h=>(h.cell (p:=⟨b,off+1,none⟩) (qai az O.o.1.size)).trans ((O.o.1.cell (p:=⟨b,off+1,none⟩) az).trans f1)
   have aT:=(qG O.o.2).1;have c0:=rowC (B:=I.heap.size) O.o.2 0;have c1:=rowC (B:=I.heap.size) O.o.2 1;have c2:=rowC (B:=I.heap.size) O.o.2 2;have c3:=rowC (B:=I.heap.size) O.o.2 3;have c4:=rowC (B:=I.heap.size) O.o.2 4;have aP:(0:Int)<R:=by omega
   have aO:0<R:=by omega
   clear aA hp ah hn Y hN;go_wp2_with fail;rw [<-av];clear av d0 d1 d2 d3 d4 f1;refine wp_region_held_drew (S:=fun W=>Below I.heap.size I W) (by kernel_rfl) qB.drew (fun hS0=>?_);refine hT 0 (h:=?_);refine hC 1 (aH.o _ ((O.o.1).drew)) (h:=?_);rintro e w6 ⟨bb,rfl,V,af⟩;have G:Below I.heap.size I w6:=qb2 af;have K6:=qH (qA (K.o.1.trans ((KM.o.1.trans (G.mono KM.o.1.size)).mono K.o.1.size)) (qA (KM.o.2.below G) (zkeep G _ _ O.o.2)));refine⟨_,rfl,G,hN (h:=?_)⟩;cases bb with
   | false =>
    have aG:=qH (show ¬PtOk ⟨nm,dev,l0,l1,l2⟩ from fun h=>by have:=V.2 h;cases this);clear V af;refine hT 2 (h:=hT 3 (h:=hU 4 (h:=hU 5 (h:=hU 6 (h:=hU 7 (h:=hU 8 (h:=hU 9 (h:=hU 10 (h:=hU 11 (h:=hU 12 (h:=hT 13 (h:=hT 14 (h:=hU 15 (h:=hU 16 (h:=hU 17 (h:=hU 18 (h:=hT 19 (h:=?_))))))))))))))))));refine wpAnyH_done (by kernel_rfl) ?_ _;clear G hS0 c0 c1 c2 c3 c4 ae;go_wp2;go_ret;exact⟨310,rfl,qag ⟨rfl,fun h=>aG.o (by rw [<-F.o.1];exact (h.rows k (by have:=J.o.2.1;omega)).1)⟩,K6.o.1⟩
   | true =>
    have aI:=qH (V.1 rfl);clear V af
    by_cases U:n=n0
    case neg =>
     have hne:((n:Int) != (n0:Int))=true:=by rw [bne_iff_ne];omega
     have aa:=qH U;clear U;refine hT 2 (h:=hT 3 (h:=hT 4 (h:=hT 5 (h:=hT 6 (h:=hT 7 (h:=hT 8 (h:=hT 9 (h:=hT 10 (h:=hT 11 (h:=hT 12 (h:=hT 13 (h:=hT 14 (h:=hU 15 (h:=hU 16 (h:=hU 17 (h:=hU 18 (h:=hT 19 (h:=?_))))))))))))))))));refine wpAnyH_done (by kernel_rfl) ?_ _;clear G hS0 c0 c1 c2 c3 c4 ae;go_wp2;go_ret;exact⟨310,rfl,qag ⟨rfl,fun h=>aa.o (by
      have:=(h.rows k (by have:=J.o.2.1;omega)).2;rw [F.o.1] at this;unfold chans at this;rw [F.o.2.1] at this;exact F.o.2.2.1.symm.trans this)⟩,K6.o.1⟩
    have hne:((n:Int) != (n0:Int))=false:=by simp [U]
    have aa:=qH U;clear U;have ay:Maps.Keyed prog 9:=Maps.string_keyed underlying9;have aB:Tryz.prog.underlying 205=some (.map 9 4):=underlying205;have Z:keyOf prog 9 (.string nm)=some (.string nm.data.toList):=WideMaps.keyOf_string_mk underlying9 (by have:=F.o.2.2.2.1.1;unfold maxLen;omega);obtain⟨seen,H⟩:∃s,decide (∃j,j<k/\(l.getD j pt0).name.data.toList=nm.data.toList)=s:=⟨_,rfl⟩;have ag:∀W,Below I.heap.size I W->(Instr.lookup 205 (.map (some w.heap.size)) (.string nm) false).run prog W=.ok (.bool seen) W:=fun W h=>by
     rw [<-H];exact (KM.o.2.below h).look ay aB (by kernel_rfl) Z
    have aj:=qH H;clear H;refine hT 2 (h:=hT 3 (h:=hT 4 (h:=hT 5 (h:=hT 6 (h:=hT 7 (h:=hT 8 (h:=hT 9 (h:=hT 10 (h:=hT 11 (h:=hT 12 (h:=hT 13 (h:=hT 14 (h:=hT 15 (h:=hT 16 (h:=hT 17 (h:=hT 18 (h:=hT 19 (h:=?_))))))))))))))))));refine wpAnyH_done (by kernel_rfl) ?_ _;clear G hS0 c0 c1 c2 c3 c4 ae ag;cases seen with
    | true =>
     go_wp2;go_ret;exact⟨310,rfl,qag ⟨rfl,fun h=>by
      obtain⟨j,hj,e⟩:=of_decide_eq_true aj.o;refine h.apart k j hj (by have:=J.o.2.1;omega) ?_;rw [F.o.1];exact str_ext e⟩,K6.o.1⟩
    | false =>
     have ak:PtsTo l (k+1):=by
      refine hJ.o.next (by rw [F.o.1];exact aI.o) ?_ (by rw [F.o.1];exact of_decide_eq_false aj.o)
      rw [F.o.1];unfold chans;rw [F.o.2.1];exact F.o.2.2.1.trans aa.o
     have aD:=qH ak;obtain⟨W7,aV,f7,g7⟩:=K6.o.2.1.store ay aB (by unfold maxLen;omega) Z (.bool true);have ai:l.getD k pt0=⟨nm,dev,l0,l1,l2⟩:=F.o.1;have m7:=f7 (qeW l (k+1)) (by have:=qk9 l k;rw [ai] at this;exact this) (by have:=qiT l k;rw [ai] at this;exact this);have K7:=qH (qA (qeb K6.o.1 g7 qN) m7);have q0:=qC w6 _ 0 _ _ _ K6.o.2.2;clear ak ai m7 f7 g7;go_wp2;go_roundw
     case rel=>exact⟨k+1,by go_num,ax,aD,K7⟩
     case measure=>simp [intOf];omega
  ·obtain rfl:k=R:=by omega
   go_wp2;go_ret;exact⟨0,rfl,qal ⟨rfl,⟨by have:=J.o.2.1;omega,by have:=J.o.2.1;omega,fun j hj=>hJ.o.rows j (by have:=J.o.2.1;omega),fun i j aK hi=>hJ.o.apart i j aK (by have:=J.o.2.1;omega)⟩⟩,K.o.1⟩
theorem chan_any (O:Option Addr) (b off R c:Nat) (l:List Pt) (w:World) (V:l.length=R) (hl:R<=4611686018427387904) (hs:∀k,k<R->(l.getD k pt0).name.size<=4611686018427387904/\(l.getD k pt0).dev.length<=4611686018427387904) (U:PCells w O b off l) :
  Calls prog 141 #[.slice O R c] w fun e w'=>((PtsOk l/\e=.returned (.tuple #[.int .i64 (chans l:Nat),.int .i64 0]))\/(¬PtsOk l/\e=.returned (.tuple #[.int .i64 0,.int .i64 310])))/\Below w.heap.size w w':=by
 have HC:=qH (qhx O b off R c l w V hl hs U);have G:=qH (qA U V);clear U V hs;go_enter func141,ntmps141;go_wp2_with fail;refine HC.o.mono ?_;rintro e w2 ⟨cc,rfl,Z,J⟩;have HB:=qH J;rcases Z with ⟨rfl,F⟩ | ⟨rfl,H⟩
 ·have h1:1<=R:=by have:=F.r1;have:=G.o.2;omega
  have Y:=G.o.1.addr (by have:=G.o.2;omega);subst Y;obtain⟨_,⟨ra,rb,ro,rc,f1,_⟩,_⟩:=(G.o.1.below J).cell 0 (by have:=G.o.2;omega);rw [Nat.zero_mul,qbp] at f1;obtain⟨n,hn⟩:=qX ((l.getD 0 pt0).dev.length);rw [hn] at f1;have ae:(0:Int)<R:=by omega
  have aa:0<R:=by omega
  have I:=qH (qA F (show chans l=n from hn));clear F hn J;go_wp2_with fail
  go_ret2
  exact⟨qal ⟨I.o.1,by rw [I.o.2];rfl⟩,HB.o⟩
 ·have I:=qH H;clear H J;go_wp2_with fail
  go_ret2
  exact⟨qag ⟨I.o,rfl⟩,HB.o⟩
def qj0 (H:FuncId) (G:Array Value) (w:World) (n:Nat) (P:Nat->FT->Prop) (F:Nat->Int->Prop):Prop :=
 ∀i,i<n->∀W,Below w.heap.size w W->Calls prog H (#[.int .i64 (i:Int)]++G) W fun e I=>Below W.heap.size W I/\((∃x y,e=.returned (.agg #[.string x,.string y])/\P i (x,y))\/∃c,e=thrown c/\F i c)
theorem qeg (fc:FuncId) (G:Array Value) (n:Nat) (hn:n<=1000) (P:Nat->FT->Prop) (F:Nat->Int->Prop) (w:World) (af:∀a W,(callFunc fc (#[a]++G)).run prog W=.ok (.enter fc (#[a]++G)) W) (hf:qj0 fc G w n P F) :
  Calls prog 58 #[.int .i64 (n:Int),.func (.func fc) #[] G] w fun e w'=>Below w.heap.size w w' /\
   ((∃(l:List FT) (g:Nat),l.length=n/\(∀i,i<n->P i (l.getD i fd0))/\e=.returned (.slice (some ⟨g,0,none⟩) n n)/\FCells w' (some ⟨g,0,none⟩) g 0 l/\w.heap.size<=g)\/∃i c,i<n/\e=thrown c/\F i c):=by
 have ae:=qhT n (by omega) w;obtain⟨W5,I⟩:=qY (w.alloc (.cells (madeCells #[.string ⟨#[]⟩,.string ⟨#[]⟩] (n*2)) 44));rw [<-I] at ae;have aa:FRow W5 w.heap.size n []:=I▸FRow.made w n;have Z:Below w.heap.size w W5:=I▸qB.alloc qN _;have H0:=qH (qA aa (qA Z hf));clear aa Z hf I;go_enter func58,ntmps58;go_wp2_with fail
 go_loopw [10] (fun x10 W=>∃i:Nat,x10=.int .i64 i/\i<=n/\Hu (∃l:List FT,l.length=i/\(∀j,j<i->P j (l.getD j fd0))/\FRow W w.heap.size n l/\Below w.heap.size w W)) (fun x10 _=>n-(intOf x10).toNat)
 case atStart=>exact⟨0,rfl,qam _,qH ⟨[],rfl,fun j hj=>absurd hj (by omega),H0.o.1,H0.o.2.1⟩⟩
 case round =>
  obtain⟨i,rfl,ah,hI⟩:=hrel;obtain⟨l,hl,hP,O,Y⟩:=hI.o
  by_cases hi:i<n
  ·subst hl;have ag:(l.length:Int)<n:=by omega
   have HC:=qH (H0.o.2.2 l.length hi _ Y);have V:=qH (qA hP (qA O Y));clear hI hP O Y;go_wp2_with fail;refine HC.o.mono ?_;rintro e w2 ⟨H,h⟩;rcases h with ⟨x,y,rfl,hp⟩ | ⟨c,rfl,O⟩
   ·have U:=V.o.2.1.below H;obtain⟨⟨q0,q1⟩,qf⟩:=U.at hi;have ai:=qf (l.length*2);have aj:=qf (l.length*2+1);have J:=qH (qA (U.set hi (x,y)) (qA (((V.o.2.2.trans (H.mono V.o.2.2.size)).setCell (p:=⟨w.heap.size,l.length*2,none⟩) qN (.string x)).setCell (p:=⟨w.heap.size,l.length*2+1,none⟩) qN (.string y)) hp));clear U qf H hp;go_wp2;go_roundw
    case rel =>
     refine⟨l.length+1,by go_num,hi,qH ⟨l++[(x,y)],by simp,fun j hj=>?_,J.o.1,J.o.2.1⟩⟩;rcases qaM j l.length with hj2 | hj2
     ·rw [qaa,qar hj2,<-qaa];exact V.o.1 j hj2
     ·have:j=l.length:=by omega
      subst this;rw [qaa,qao qN,qaJ];exact J.o.2.2
    case measure=>simp [intOf];omega
   ·have J:=qH (qA (V.o.2.2.trans (H.mono V.o.2.2.size)) O);clear H O;unfold thrown;go_wp2_with fail;exact⟨rfl,J.o.1,qag ⟨_,c,hi,rfl,J.o.2⟩⟩
  ·obtain rfl:i=n:=by omega
   have J:=qH (qA hl (qA hP (qA (O.cells hl) Y)));clear hI hl hP O Y;go_wp2;go_ret;obtain⟨h1,h2,h3,h4⟩:=J.o;exact⟨h4,qal ⟨l,_,h1,h2,rfl,h3,qae _⟩⟩
def VRow (W:World) (g n:Nat) (z:Value) (e:TypeId) (F:List Value):Prop:=W.heap[g]? = some (.cells (F++List.replicate (n-F.length) z).toArray e (0,0))/\F.length<=n
theorem VRow.below {W W':World} {g n:Nat} {z:Value} {e:TypeId} {F:List Value} (h:VRow W g n z e F) (G:Below W.heap.size W W'):VRow W' g n z e F :=
 ⟨(G.block _ (qG h.1).1).trans h.1,h.2⟩
theorem VRow.at {W:World} {g n:Nat} {z:Value} {e:TypeId} {F:List Value} (h:VRow W g n z e F) (G:F.length<n):W.cell? ⟨g,F.length,none⟩=some z/\∀j,W.frozen? ⟨g,j,none⟩=false:=by
 refine⟨(qC _ _ _ _ _ _ h.1).trans ((qav ..).trans ?_),fun j=>qF _ _ _ _ _ h.1⟩;rw [qao qN,qaJ,qbd,if_pos (by omega)]
theorem VRow.set {W:World} {g n:Nat} {z:Value} {e:TypeId} {F:List Value} (h:VRow W g n z e F) (H:F.length<n) (v:Value):VRow (W.setCell ⟨g,F.length,none⟩ v) g n z e (F++[v]):=by
 refine⟨?_,by rw [qaf,qaw];omega⟩;rw [heap_setCell_same _ g F.length _ _ _ h.1]
 congr 3
 obtain⟨m,G⟩:∃m,n-F.length=m+1:=⟨n-F.length-1,by omega⟩;rw [qaB,G,qbo,qaf,qaw,show n-(F.length+1)=m by omega,qa6 _ _ qN,qaJ,qbi,qaE]
 rfl
theorem VRow.made (W:World) (n:Nat) (z:Value) (e:TypeId):VRow (W.alloc (.cells (Array.replicate n z) e)) W.heap.size n z e []:=by
 refine⟨?_,qam _⟩;rw [qM _ _ _ rfl,qbh,List.length_nil,Nat.sub_zero,qbl]
theorem VRow.cells {W:World} {g n:Nat} {z:Value} {e:TypeId} {F:List Value} (h:VRow W g n z e F) (I:F.length=n):VCells W (some ⟨g,0,none⟩) g 0 F:=by
 have G:=h.1;rw [I,qaJ,List.replicate_zero,List.append_nil] at G;refine⟨fun _=>rfl,fun k H=>?_⟩;rw [qaH];refine (qC _ _ _ _ _ _ G).trans ((qav ..).trans ?_);rw [qaa,qad H];rfl
theorem VRow.made' (W:World) (n:Nat) (z:Value) (e:TypeId):VRow (W.alloc (.cells (madeCells #[z] n) e)) W.heap.size n z e []:=by
 have:madeCells #[z] n=Array.replicate n z:=by
  apply Array.ext
  ·simp [madeCells]
  ·intro i F G;simp [madeCells,Nat.mod_one]
 rw [this];exact VRow.made W n z e
def RVals (W:World) (G:List Value) (t:Tbl):Prop:=G.length=t.length/\∀k,k<t.length->∃(F:Option Addr) (rb H rc:Nat),G.getD k undef=.slice F (t.getD k []).length rc/\FCells W F rb H (t.getD k [])
theorem RVals.below {W W':World} {F:List Value} {t:Tbl} (h:RVals W F t) (I:Below W.heap.size W W'):RVals W' F t :=
 ⟨h.1,fun k J=>by
  obtain⟨ra,rb,ro,rc,G,H⟩:=h.2 k J;exact⟨ra,rb,ro,rc,G,H.below I⟩⟩
theorem RVals.tcells {W:World} {F:Option Addr} {b off:Nat} {I:List Value} {t:Tbl} (h:RVals W I t) (H:VCells W F b off I):TCells W F b off t :=
 ⟨fun J=>H.addr (by rw [h.1];exact J),fun k G=>by
  obtain⟨ra,rb,ro,rc,O,U⟩:=h.2 k G;exact⟨ra,rb,ro,rc,(H.cell k (by rw [h.1];exact G)).trans (by rw [O]),U⟩⟩
theorem RVals.append {W:World} {G F:List Value} {t t2:Tbl} (h:RVals W G t) (J:RVals W F t2):RVals W (G++F) (t++t2):=by
 refine⟨by rw [qaf,qaf,h.1,J.1],fun k O=>?_⟩;rw [qaf] at O
 by_cases e:k<t.length
 ·have H:(G++F).getD k undef=G.getD k undef:=by rw [qaa,qar (by rw [h.1];exact e),<-qaa]
  have I:(t++t2).getD k []=t.getD k []:=by rw [qaa,qar e,<-qaa]
  rw [H,I];exact h.2 k e
 ·have H:(G++F).getD k undef=F.getD (k-t.length) undef:=by rw [qaa,qao (by rw [h.1];omega),h.1,<-qaa]
  have I:(t++t2).getD k []=t2.getD (k-t.length) []:=by rw [qaa,qao (by omega),<-qaa]
  rw [H,I];exact J.2 _ (by omega)
theorem RVals.one {W:World} {F:Option Addr} {rb G m rc:Nat} {l:List FT} (I:l.length=m) (h:FCells W F rb G l):RVals W [.slice F m rc] [l] :=
 ⟨rfl,fun k H=>by
  obtain rfl:k=0:=by simp at H;omega
  exact⟨F,rb,G,rc,by rw [show ([l]:Tbl).getD 0 []=l from rfl,I];rfl,h⟩⟩
theorem FCells.kept {W W':World} {F:Option Addr} {b off:Nat} {l:List FT} (h:FCells W F b off l) (H:∀a s,W.cell? a=some (.string s)->W'.cell? a=some (.string s)):FCells W' F b off l :=
 ⟨h.addr,fun k G=>⟨H _ _ (h.cell k G).1,H _ _ (h.cell k G).2⟩⟩
theorem RVals.kept {W W':World} {F:List Value} {t:Tbl} (h:RVals W F t) (J:∀a s,W.cell? a=some (.string s)->W'.cell? a=some (.string s)):RVals W' F t :=
 ⟨h.1,fun k H=>by
  obtain⟨a,b,o,c,G,I⟩:=h.2 k H;exact⟨a,b,o,c,G,I.kept J⟩⟩
theorem qkz {W:World} {p:Addr} {v u:Value} (F:W.cell? p=some v) (G:∀s,v≠.string s):∀a s,W.cell? a=some (.string s)->(W.setCell p u).cell? a=some (.string s):=fun a s h=>by
 have hne:p≠a:=by rintro rfl;rw [F] at h;exact G s (qah h)
 rw [World.cell?_setCell_other (h:=hne)];exact h
def qlu (I:FuncId) (G:Array Value) (w:World) (n:Nat) (P:Nat->List FT->Prop) (F:Nat->Int->Prop):Prop :=
 ∀i,i<n->∀W,Below w.heap.size w W->Calls prog I (#[.int .i64 (i:Int)]++G) W fun e H=>Below W.heap.size W H/\((∃(l:List FT) (a:Option Addr) (g m c:Nat),e=.returned (.slice a m c)/\l.length=m/\FCells H a g 0 l/\P i l)\/∃c,e=thrown c/\F i c)
def RowsTo (W:World) (g n:Nat) (P:Nat->List FT->Prop) (i:Nat) (e:TypeId):Prop:=∃(F:List Value) (t:Tbl),F.length=i/\VRow W g n (.slice none 0 0) e F/\RVals W F t/\∀j,j<i->P j (t.getD j [])
theorem qgn (fc:FuncId) (G:Array Value) (n:Nat) (hn:n<=1000) (P:Nat->List FT->Prop) (F:Nat->Int->Prop) (w:World) (ah:∀a W,(callFunc fc (#[a]++G)).run prog W=.ok (.enter fc (#[a]++G)) W) (hf:qlu fc G w n P F) :
  Calls prog 55 #[.int .i64 (n:Int),.func (.func fc) #[] G] w fun e w'=>Below w.heap.size w w' /\
   ((∃(t:Tbl) (g:Nat),t.length=n/\(∀i,i<n->P i (t.getD i []))/\e=.returned (.slice (some ⟨g,0,none⟩) n n)/\TCells w' (some ⟨g,0,none⟩) g 0 t/\w.heap.size<=g)\/∃i c,i<n/\e=thrown c/\F i c):=by
 have ag:=run_make_row' (P:=prog) 114 35 (.slice none 0 0) 24 underlying114 infoFs rfl .i64 .i64 n (by omega) (by omega) w;obtain⟨W5,J⟩:=qY (w.alloc (.cells (madeCells #[.slice none 0 0] n) 35));rw [<-J] at ag;have ae:VRow W5 w.heap.size n (.slice none 0 0) 35 []:=J▸VRow.made' w n _ _;have aa:Below w.heap.size w W5:=J▸qB.alloc qN _;have H0:=qH (qA ae (qA aa hf));clear ae aa hf J;go_enter func55,ntmps55;go_wp2_with fail
 go_loopw [10] (fun x10 W=>∃i:Nat,x10=.int .i64 i/\i<=n/\Hu (RowsTo W w.heap.size n P i 35/\Below w.heap.size w W)) (fun x10 _=>n-(intOf x10).toNat)
 case atStart=>exact⟨0,rfl,qam _,qH ⟨⟨[],[],rfl,H0.o.1,⟨rfl,fun k hk=>absurd hk (qbM _)⟩,fun j hj=>absurd hj (by omega)⟩,H0.o.2.1⟩⟩
 case round =>
  obtain⟨i,rfl,aj,hI⟩:=hrel;obtain⟨⟨vs,t,hl,hV,Z,hP⟩,V⟩:=hI.o
  by_cases hi:i<n
  ·subst hl;have ai:(vs.length:Int)<n:=by omega
   have HC:=qH (H0.o.2.2 vs.length hi _ V);have O:=qH (qA hP (qA hV (qA Z V)));clear hI hP hV Z V;go_wp2_with fail;refine HC.o.mono ?_;rintro e w2 ⟨H,h⟩;rcases h with ⟨l,a,g,m,c,rfl,hm,Y,hp⟩ | ⟨c,rfl,Y⟩
   ·have U:=O.o.2.1.below H;obtain⟨q0,qf⟩:=U.at hi;have ak:=qf vs.length;have I:=qH (qA (U.set hi (.slice a m c)) (qA ((O.o.2.2.2.trans (H.mono O.o.2.2.2.size)).setCell (p:=⟨w.heap.size,vs.length,none⟩) qN (.slice a m c)) (qA (((O.o.2.2.1.below H).append (RVals.one hm Y (rc:=c))).kept (qkz (u:=.slice a m c) q0 (fun s h=>by cases h))) hp)));clear U qf H hp Y;go_wp2;go_roundw
    case rel =>
     refine⟨vs.length+1,by go_num,hi,qH ⟨⟨_,_,by simp,I.o.1,I.o.2.2.1,fun j hj=>?_⟩,I.o.2.1⟩⟩;have af:=O.o.2.2.1.1;rcases qaM j t.length with hj2 | hj2
     ·rw [qaa,qar hj2,<-qaa];exact O.o.1 j (by omega)
     ·have:j=t.length:=by omega
      subst this;rw [qaa,qao qN,qaJ,<-af];exact I.o.2.2.2
    case measure=>simp [intOf];omega
   ·have I:=qH (qA (O.o.2.2.2.trans (H.mono O.o.2.2.2.size)) Y);clear H Y;unfold thrown;go_wp2_with fail;exact⟨rfl,I.o.1,qag ⟨_,c,hi,rfl,I.o.2⟩⟩
  ·obtain rfl:i=n:=by omega
   have I:=qH (qA (Z.1.symm.trans hl) (qA hP (qA (Z.tcells (hV.cells hl)) V)));clear hI hl hP hV Z V;go_wp2;go_ret;obtain⟨h1,h2,h3,h4⟩:=I.o;exact⟨h4,qal ⟨t,_,h1,h2,rfl,h3,qae _⟩⟩
def FOwn (W:World) (B:Nat) (v:Value) (l:List FT):Prop:=Rws W B 44 2 v l.length (fflat l)
theorem FOwn.below {W W':World} {B:Nat} {v:Value} {l:List FT} (h:FOwn W B v l) (F:Below W.heap.size W W'):FOwn W' B v l:=Rws.below h F
theorem FOwn.cells {W:World} {B:Nat} {v:Value} {l:List FT} {n:Nat} (h:FOwn W B v l) (J:l.length=n):∃(F:Option Addr) (g cap:Nat),v=.slice F n cap/\FCells W F g 0 l/\n<=cap:=by
 obtain⟨F,g,cap,G,I,H⟩:=qdj h rfl;rw [J] at G H;exact⟨F,g,cap,G,I,H⟩
def ways (a b c:Value):Lit->Value
 | .int .i64 1=>a
 | .int .i64 2=>b
 | .int .i64 3=>c
 | _=>.nilFunc
theorem ways_a (a:Value):∀x,x≠Lit.int .i64 1->ways a .nilFunc .nilFunc x=.nilFunc:=fun x h=>by
 unfold ways;split
 ·exact absurd rfl h
 ·rfl
 ·rfl
 ·rfl
theorem ways_b (a b:Value):∀x,x≠Lit.int .i64 2->ways a b .nilFunc x=ways a .nilFunc .nilFunc x:=fun x h=>by
 unfold ways;split
 ·rfl
 ·exact absurd rfl h
 ·rfl
 ·rfl
theorem ways_c (a b c:Value):∀x,x≠Lit.int .i64 3->ways a b c x=ways a b .nilFunc x:=fun x h=>by
 unfold ways;split
 ·rfl
 ·rfl
 ·exact absurd rfl h
 ·rfl
theorem qeF (kind:Int) (k:Nat) (hk:qcu kind k) (ao:Option Addr) (b off n c:Nat) (d:List Int) (w:World) (hn:d.length=n) (h1:1<=n) (h4:n<=4) (h3:k=3->n<=3) (hN:NCells w ao b off d) (hV:qcz d) (hT:HasT w) :
  Calls prog 57 #[.int .i64 kind,.slice ao n c] w fun e w'=>∃v,e=.returned v/\FOwn w' w.heap.size v ((termL k d).map ftxt)/\Below w.heap.size w w':=by
 have aQ:=hN.addr (by omega);subst aQ;have Z:=qH (qA hk (qA hn (qA h3 (qA hN (qA hV hT)))));have aR:=qhT n (by omega);have aD:=@run_makeMap prog;have aC:=@hmf_ prog;obtain⟨W1,af⟩:∃W,W=(w.alloc (.cells (madeCells #[.string ⟨#[]⟩,.string ⟨#[]⟩] (n*2)) 44)).alloc (.cells #[.slice (some ⟨w.heap.size,0,none⟩) n n] 35):=⟨_,rfl⟩;have F:Below w.heap.size w W1:=af▸qbS (qbS qB qN) qN;have aJ:FRow W1 w.heap.size n []:=by rw [af];exact (FRow.made w n).below (qbS qB qN)
 have aK:W1.heap[w.heap.size+1]? = some (.cells #[.slice (some ⟨w.heap.size,0,none⟩) n n] 35 (0,0)):=by rw [af];exact qM _ _ _ (by simp)
 have K1:=qH (qA F (qA aJ aK));clear hk hn hN hV hT F aJ aK h3;go_enter func57,ntmps57;go_wp2_with fail;rw [<-af]
 go_loopw [16] (fun x16 W=>∃k:Nat,x16=.int .i64 k/\k<=n/\Hu (Below w.heap.size w W/\FRow W w.heap.size n (told k (dq d))/\W.heap[w.heap.size+1]? = some (.cells #[.slice (some ⟨w.heap.size,0,none⟩) n n] 35 (0,0)))) (fun x16 _=>n-(intOf x16).toNat)
 case atStart=>exact⟨0,rfl,qam _,K1⟩
 case round =>
  clear aR af K1;have aN:=qH aD;have aM:=qH aC;clear aD aC;obtain⟨j,rfl,hj,K⟩:=hrel
  by_cases aB:j<n
  ·have bf:(j:Int)<n:=by omega
   have d0:=(Z.o.2.2.2.1.below K.o.1).cell j (by have:=Z.o.2.1;omega);obtain⟨x,hx⟩:=qX (d.getD j 0);rw [hx] at d0;have aT:=Z.o.2.2.2.2.1.at j;rw [hx] at aT;obtain⟨t1,t2,ht⟩:=qb6 (dq d j);have aa:=fun (W:World) (h:Below w.heap.size w W)=>of_int x 10000 (by decide) (by omega) (by decide) W (Z.o.2.2.2.2.2.below h)
   have aH:(x:Rat) / ((10000:Int):Rat)=dq d j:=by unfold dq;rw [hx];rfl
   rw [aH,ht] at aa;have HO:=qH aa;have aG:=qH ht;have bg:=(qG K.o.2.2).1;have q5:=rowG (g0:=w.heap.size) K.o.2.2 0;have au:(told j (dq d)).length=j:=qbW _ _;have HL:=qH au;clear hx ht aH aa au;go_wp2_with fail;refine wp_region_held_drew (S:=fun W=>wr.grownBy W (some w.heap.size)) (by kernel_rfl) (keepB qB.drew) (fun hS0=>?_);refine hT 0 (h:=hT 1 (h:=hT 2 (h:=?_)));refine hC 3 (HO.o _ (K.o.1.drew)) (h:=?_);rintro e w1 ⟨rfl,F⟩;have az:=qkg (g:=w.heap.size) F;refine⟨_,rfl,az,hN (h:=?_)⟩;refine hT 4 (h:=hT 5 (h:=?_));refine hC 6 (qct t1 t2 w1) (h:=?_);rintro e J ⟨rfl,O⟩;have aA:=qce az O;have Y:Below wr.heap.size wr J:=(qb2 F).trans (O.mono (qb2 F).size);have K2:=qH (qA (K.o.1.trans (Y.mono K.o.1.size)) (qA (K.o.2.1.below Y) (zkeep Y _ _ K.o.2.2)));refine⟨_,rfl,aA,hN (h:=?_)⟩;obtain⟨⟨z0,z1⟩,zf⟩:=K2.o.2.1.at (by rw [HL.o];exact aB);rw [HL.o] at z0 z1;have aU:=zf (j*2);have aV:=zf (j*2+1);have ag:=K2.o.2.1.set (by rw [HL.o];exact aB) (t1,t2);refine hT 7 (h:=?_);refine hSg 8 (h:=⟨qbX (qbX aA (qbT _ _ _ _)) (qbT _ _ _ _),?_⟩);refine wpAnyH_done (by kernel_rfl) ?_ _;rw [HL.o,show (t1,t2)=ftxt (dq d j) from aG.o.symm,<-qg6] at ag;have K3:Hu (Below w.heap.size w ((J.setCell ⟨w.heap.size,j*2,none⟩ (.string t1)).setCell ⟨w.heap.size,j*2+1,none⟩ (.string t2))/\FRow ((J.setCell ⟨w.heap.size,j*2,none⟩ (.string t1)).setCell ⟨w.heap.size,j*2+1,none⟩ (.string t2)) w.heap.size n (told (j+1) (dq d))/\((J.setCell ⟨w.heap.size,j*2,none⟩ (.string t1)).setCell ⟨w.heap.size,j*2+1,none⟩ (.string t2)).heap[w.heap.size+1]? = some (.cells #[.slice (some ⟨w.heap.size,0,none⟩) n n] 35 (0,0))) :=
    qH ⟨(K2.o.1.setCell (by exact qae _) _).setCell (by exact qae _) _,by have:=ag;rw [aG.o] at this;exact this,(qW _ _ _ _ (show w.heap.size+1≠w.heap.size by omega)).trans ((qW _ _ _ _ (show w.heap.size+1≠w.heap.size by omega)).trans K2.o.2.2)⟩
   obtain⟨W3,ai⟩:∃W,W=(J.setCell ⟨w.heap.size,j*2,none⟩ (.string t1)).setCell ⟨w.heap.size,j*2+1,none⟩ (.string t2):=⟨_,rfl⟩;rw [<-ai] at K3 ⊢;clear ai ag z0 z1 zf aU aV Y aA az O F q5 d0;go_wp2;go_roundw
   case rel=>exact⟨j+1,by go_num,aB,K3⟩
   case measure=>simp [intOf];omega
  ·obtain rfl:j=n:=by omega
   have hP:HasT wr:=Z.o.2.2.2.2.2.below K.o.1;obtain⟨t1,t2,ht⟩:=qb6 1;have aa:=fun (W:World) (h:Below w.heap.size w W)=>of_int 1 1 (by decide) (by decide) (by decide) W (Z.o.2.2.2.2.2.below h)
   rw [show ((1:Int):Rat) / ((1:Int):Rat)=1 by decide +kernel,ht] at aa;have HO:=qH aa;have Ht:=qH ht;clear hP ht aa;go_wp2_with fail;refine (HO.o wr K.o.1).mono ?_;rintro e w1 ⟨rfl,F⟩;go_wp2_with fail;refine (qct t1 t2 w1).mono ?_;rintro e J ⟨rfl,O⟩;obtain⟨W3,ai,N3⟩:=nw2 J #[.string t1,.string t2] 44 #[.string t1,.string t2] 44;have Y:Below wr.heap.size wr W3:=F.trans ((O.trans (N3.o.1.mono O.size)).mono F.size);have K3:=qH (qA (K.o.1.trans (Y.mono K.o.1.size)) (qA (K.o.2.1.below Y) (qA (zkeep Y _ _ K.o.2.2) N3.o.2)));have aY:w.heap.size<=J.heap.size:=qaj K.o.1.size (qaj F.size O.size);have aO:=qC W3 _ 0 _ _ _ K3.o.2.2.1;have aW:=qC J _ 0 _ _ _ (zkeep O _ _ (zkeep F _ _ K.o.2.2));have bi:w.heap.size+1<J.heap.size:=(qG (zkeep O _ _ (zkeep F _ _ K.o.2.2))).1;have aX:w.heap.size+1<J.heap.size+1:=by omega
   obtain⟨v',G,hr,aF,U⟩:=qfv (m:=j) (c:=j) 35 (qm0 K3.o.2.2.2.2 (B:=w.heap.size) (by omega)) K3.o.1.size (K3.o.2.1.cells (qbW _ _)) (qbW _ _) (by omega) (by omega);have aZ:W3.heap.size<=G.heap.size:=by rcases U with ⟨_,h⟩ | ⟨_,h⟩ <;> exact h.size
   obtain⟨h5,_⟩:=qcH K3.o.2.2.1 (by intro e;have:J.heap.size+1=w.heap.size+1:=qah e;omega) U;obtain⟨h8,_⟩:=qcH K3.o.2.2.2.1 (by intro e;have:J.heap.size+1=J.heap.size:=qah e;omega) U;obtain⟨hg,aI⟩:=qcH K3.o.2.1.1 (by intro e;have:J.heap.size+1=w.heap.size:=qah e;omega) U;have ax:=qdB (B:=w.heap.size) K3.o.1 (fun k hk=>by have:J.heap.size+1=k:=qah hk;omega) K3.o.1.size U;have aL:FOwn G w.heap.size v' ((lin d).map ftxt):=by
    unfold FOwn;rw [qat,qmj,Z.o.2.1,lin_told,Z.o.2.1,Ht.o,show j+1=1+j by omega];exact aF
   have K4:=qH (qA ax (qA (show FRow G w.heap.size j (told j (dq d)) from ⟨hg,K3.o.2.1.2⟩) (qA h5 (qA h8 (qA aL aI)))));obtain⟨av,cv,rfl⟩:=aF.shape;clear F O Y N3 aF U h5 h8 hg aI ax aL aO;rw [ai] at hr;have aD:=aN.o;have aC:=aM.o;have bu:w.heap.size+1<G.heap.size:=(qG K4.o.2.2.1).1;have bv:J.heap.size<G.heap.size:=(qG K4.o.2.2.2.1).1;obtain⟨W5,ae⟩:∃W,W=(G.alloc (.cells #[.slice av (1+j) cv] 35)).alloc (.map #[] 0):=⟨_,rfl⟩;have I:Below G.heap.size G W5:=ae▸(qB.alloc qN _).alloc (by simp) _;have h9:W5.heap[G.heap.size]? = some (.cells #[.slice av (1+j) cv] 35 (0,0)):=by rw [ae,qL _ _ _ (by simp only [qab];omega)];exact qM _ _ _ rfl
   have ah:MapAt W5 prog 3 (G.heap.size+1) 0 (.nilFunc) (fun _=>.nilFunc):=by
    have:=MapAt.made (G.alloc (.cells #[.slice av (1+j) cv] 35)) prog 3 .nilFunc;rw [qab] at this;rw [ae];exact this
   have aj:Maps.Keyed prog 3:=Maps.int_keyed underlying3;have ak:Tryz.prog.underlying 207=some (.map 3 161):=underlying207;obtain⟨W6,aS,f6,g6⟩:=ah.store aj ak (by decide) (Maps.keyOf_int_mk (q:=.i64) (a:=1) underlying3 (by decide)) (.func (.func 125) #[] #[.pointer (some ⟨G.heap.size,0,none⟩)]);have m6:=f6 (ways (.func (.func 125) #[] #[.pointer (some ⟨G.heap.size,0,none⟩)]) .nilFunc .nilFunc) rfl (ways_a _);obtain⟨W7,bn,f7,g7⟩:=m6.store aj ak (by decide) (Maps.keyOf_int_mk (q:=.i64) (a:=2) underlying3 (by decide)) (.func (.func 126) #[] #[.pointer (some ⟨w.heap.size+1,0,none⟩),.pointer (some ⟨G.heap.size,0,none⟩)]);have m7:=f7 (ways (.func (.func 125) #[] #[.pointer (some ⟨G.heap.size,0,none⟩)]) (.func (.func 126) #[] #[.pointer (some ⟨w.heap.size+1,0,none⟩),.pointer (some ⟨G.heap.size,0,none⟩)]) .nilFunc) rfl (ways_b _ _);obtain⟨V,bq,f8,g8⟩:=m7.store aj ak (by decide) (Maps.keyOf_int_mk (q:=.i64) (a:=3) underlying3 (by decide)) (.func (.func 127) #[] #[.pointer (some ⟨J.heap.size,0,none⟩),.pointer (some ⟨w.heap.size+1,0,none⟩)]);have m8:=f8 (ways (.func (.func 125) #[] #[.pointer (some ⟨G.heap.size,0,none⟩)]) (.func (.func 126) #[] #[.pointer (some ⟨w.heap.size+1,0,none⟩),.pointer (some ⟨G.heap.size,0,none⟩)]) (.func (.func 127) #[] #[.pointer (some ⟨J.heap.size,0,none⟩),.pointer (some ⟨w.heap.size+1,0,none⟩)])) rfl (ways_c _ _ _);have hz:(zeroValue 161).run prog V=.ok .nilFunc V:=by kernel_rfl
   have look:=fun (kl:Int) (h:(Lit.int .i64 kl).wf=true)=>m8.look aj ak hz (Maps.keyOf_int_mk (q:=.i64) (a:=kl) underlying3 h)
   have H:W5.grownBy V (some (G.heap.size+1)):=qbX (qbX g6 g7) g8;have K8:Hu (Below w.heap.size w V/\FRow V w.heap.size j (told j (dq d))/\V.heap[w.heap.size+1]? = some (.cells #[.slice (some ⟨w.heap.size,0,none⟩) j j] 35 (0,0))/\V.heap[J.heap.size]? = some (.cells #[.string t1,.string t2] 44 (0,0))/\FOwn V w.heap.size (.slice av (1+j) cv) ((lin d).map ftxt)/\V.heap[G.heap.size]? = some (.cells #[.slice av (1+j) cv] 35 (0,0))):=by
    have row:∀g o,W5.heap[g]? = some o->g≠G.heap.size+1->V.heap[g]? = some o:=fun g o h hne=>(H.block g (qG h).1 (fun e=>hne (qah e))).trans h
    have aP:=K4.o.1.trans (I.mono K4.o.1.size);refine qH ⟨qeb aP H (by omega),⟨row _ _ (zkeep I _ _ K4.o.2.1.1) (by omega),K4.o.2.1.2⟩,row _ _ (zkeep I _ _ K4.o.2.2.1) (by omega),row _ _ (zkeep I _ _ K4.o.2.2.2.1) (by omega),(K4.o.2.2.2.2.1.below I).kept H (qag fun e=>?_),row _ _ h9 (by omega)⟩;have:=(K4.o.2.2.2.2.1.lt _ e).2;omega
   have Hn:=qH K4.o.2.2.2.2.2;rw [ae] at aS;rcases qho Z.o.1 with ⟨rfl,rfl⟩ | ⟨rfl,rfl⟩ | ⟨rfl,rfl⟩
   ·have hl:(Instr.lookup 207 (.map (some (G.heap.size+1))) (.int .i64 1) false).run prog V=.ok (.func (.func 125) #[] #[.pointer (some ⟨G.heap.size,0,none⟩)]) V:=look 1 (by decide);have hc:=qlo G.heap.size _ V K8.o.2.2.2.2.2 ⟨_,_,_,rfl⟩;have HC:=qH hc;clear hc look m8 m7 m6 f6 f7 f8 g6 g7 g8 ah h9 I ae H hz
    go_wp2_with ((with_reducible refine qdn rfl (.tmp 35) (.tmp 36) 35 rfl ?_ ?_ hr ?_);(next=>rfl);(next=>rfl))
    refine HC.o.mono ?_;rintro e w9 ⟨rfl,hw⟩;have hw:=hw.symm;subst hw;have HR:=qH (qA K8.o.2.2.2.2.1 K8.o.1);go_wp2;go_ret;exact⟨_,rfl,HR.o.1,HR.o.2⟩
   ·have hl:(Instr.lookup 207 (.map (some (G.heap.size+1))) (.int .i64 2) false).run prog V=.ok (.func (.func 126) #[] #[.pointer (some ⟨w.heap.size+1,0,none⟩),.pointer (some ⟨G.heap.size,0,none⟩)]) V:=look 2 (by decide);have hc:=qlp w.heap.size (w.heap.size+1) G.heap.size w.heap.size j j d (.slice av (1+j) cv) V K8.o.1.size (by omega) (by omega) Z.o.2.1 (by omega) Z.o.2.2.2.2.1 (fun W h=>Z.o.2.2.2.2.2.below (K8.o.1.trans h)) ⟨Below.refl _ _,K8.o.2.2.1,K8.o.2.2.2.2.2,K8.o.2.1,by have h:=K8.o.2.2.2.2.1;unfold FOwn at h;rw [qat,qmj,Z.o.2.1] at h;rw [show sqs d 0=[] from rfl,List.append_nil,show 1+j=j+1 by omega];rw [show 1+j=j+1 by omega] at h;exact h,Hn.o⟩;have HC:=qH hc;clear hc look m8 m7 m6 f6 f7 f8 g6 g7 g8 ah h9 I ae H hz
    go_wp2_with ((with_reducible refine qdn rfl (.tmp 35) (.tmp 36) 35 rfl ?_ ?_ hr ?_);(next=>rfl);(next=>rfl))
    refine HC.o.mono ?_;rintro e w9 ⟨y,rfl,hy,hb⟩;have HR:Hu (FOwn w9 w.heap.size y ((termL 2 d).map ftxt)/\Below w.heap.size w w9):=qH ⟨by
     unfold FOwn;have hl:((termL 2 d).map ftxt).length=j+1+j:=by
      have h:=hy.1;rw [qb8] at h;omega
     rw [hl];exact hy,K8.o.1.trans hb⟩
    obtain⟨ay,cy,rfl⟩:=hy.shape;clear hy hb;go_wp2;go_ret;exact⟨_,rfl,HR.o.1,HR.o.2⟩
   ·have hl:(Instr.lookup 207 (.map (some (G.heap.size+1))) (.int .i64 3) false).run prog V=.ok (.func (.func 127) #[] #[.pointer (some ⟨J.heap.size,0,none⟩),.pointer (some ⟨w.heap.size+1,0,none⟩)]) V:=look 3 (by decide);have hc:=qlq w.heap.size (w.heap.size+1) J.heap.size w.heap.size j j d V K8.o.1.size Z.o.2.1 (Z.o.2.2.1 rfl) Z.o.2.2.2.2.1 (fun W h=>Z.o.2.2.2.2.2.below (K8.o.1.trans h)) K8.o.2.2.1 (by rw [Ht.o];exact K8.o.2.2.2.1) K8.o.2.1;have HC:=qH hc;clear hc look m8 m7 m6 f6 f7 f8 g6 g7 g8 ah h9 I ae H hz
    go_wp2_with ((with_reducible refine qdn rfl (.tmp 35) (.tmp 36) 35 rfl ?_ ?_ hr ?_);(next=>rfl);(next=>rfl))
    refine HC.o.mono ?_;rintro e w9 ⟨y,rfl,hy,hb⟩;have HR:Hu (FOwn w9 w.heap.size y ((termL 3 d).map ftxt)/\Below w.heap.size w w9):=qH ⟨by
     unfold FOwn;have hl:((termL 3 d).map ftxt).length=2 ^ j:=by
      have h:=hy.1;rw [qb8] at h;omega
     rw [hl];exact hy,K8.o.1.trans hb⟩
    obtain⟨ay,cy,rfl⟩:=hy.shape;clear hy hb;go_wp2;go_ret;exact⟨_,rfl,HR.o.1,HR.o.2⟩
theorem qmg (k F R pb ib b off c:Nat) (ao:Option Addr) (l:List Pt) (ty aj:TypeId) (w:World) (hR:l.length=R) (hk:k<R) (ak:R<=40) (af:F<3) (O:w.heap[pb]? = some (.cells #[.slice ao R c] ty (0,0))) (J:w.heap[ib]? = some (.cells #[.int .i64 (F:Int)] aj (0,0)))
  (hP:PCells w ao b off l) (hl:-9223372036854775808<=(l.getD k pt0).lab F/\(l.getD k pt0).lab F<=9223372036854775807) (hT:HasT w) :
  Calls prog 199 #[.int .i64 (k:Int),.pointer (some ⟨pb,0,none⟩),.pointer (some ⟨ib,0,none⟩)] w fun e w'=>Below w.heap.size w w'/\e=.returned (.agg #[.string (ftxt (labq l F k)).1,.string (ftxt (labq l F k)).2]):=by
 have ai:=hP.addr (by omega);subst ai;obtain⟨t1,t2,ht⟩:=qb6 (labq l F k);rw [ht];obtain⟨U,Z,G⟩:=nw1 w #[.string ⟨#[]⟩,.string ⟨#[]⟩] 44;have d0:U.cell? ⟨b,off+k*5+2+F,none⟩=some (.int .i64 ((l.getD k pt0).lab F)):=by
  obtain⟨_,_,d2,d3,d4⟩:=(hP.below G.o.1).cell k (by omega);rcases (show F=0\/F=1\/F=2 by omega) with rfl | rfl | rfl
  ·exact d2
  ·exact d3
  ·exact d4
 have aB:=qac _ _ d0;have au:b<w.heap.size:=by
  obtain⟨h1,_⟩:=hP.cell k (by omega);exact qac _ _ h1
 have az:=(qG O).1;have aA:=(qG J).1;have q1:=rowG (g0:=w.heap.size) (zkeep G.o.1 _ _ O) 0;have q2:=rowG (g0:=w.heap.size) (zkeep G.o.1 _ _ J) 0;obtain⟨x,hx⟩:=qX ((l.getD k pt0).lab F);have H:=of_int x 100 (by decide) (by rw [<-hx];exact hl) (by decide) U.drew (((hT.below G.o.1)).below qB.drew);have ah:(x:Rat) / ((100:Int):Rat)=labq l F k:=by unfold labq;rw [hx];rfl
 rw [ah,ht] at H;rw [hx] at d0;have q3:∀W,U.grownBy W (some w.heap.size)->W.cell? ⟨b,off+k*5+2+F,none⟩=some (.int .i64 x):=fun W hg=>hg.cell d0 (fun e=>by have:=qah e;simp at this;omega)
 have HO:=qH H;have ay:(k:Int)<R:=by omega
 have ax:(F:Int)<3:=by omega
 have av:F<3:=af;clear H ah hx hP O J hT ht hl;go_enter func199,ntmps199;go_upto_region 1 with fail;rw [<-Z];clear Z;refine wp_region_held_drew (S:=fun W=>U.grownBy W (some w.heap.size)) (by kernel_rfl) (keepB qB.drew) (fun hS0=>?_);refine hT 0 (h:=?_);refine hT 1 (h:=?_);refine hT 2 (h:=?_);refine hT 3 (h:=?_);refine hT 4 (h:=?_);refine hT 5 (h:=?_);refine hT 6 (h:=?_);refine hC 7 HO.o (h:=?_);rintro e w1 ⟨rfl,I⟩;have V:=qkg (g:=w.heap.size) I;refine⟨_,rfl,V,hN (h:=?_)⟩;refine hT 8 (h:=?_);refine hT 9 (h:=?_);refine hC 10 (qct t1 t2 w1) (h:=?_);rintro e w2 ⟨rfl,aa⟩;have Y:=qce V aa;have ae:Below U.heap.size U w2:=(qb2 I).trans (aa.mono (qb2 I).size);have ag:=zkeep ae _ _ G.o.2;refine⟨_,rfl,Y,hN (h:=?_)⟩;have HE:=qH (qA (qT _ _ _ #[.string t1,.string t2] _ _ ag) (qS ((G.o.1).trans (ae.mono G.o.1.size)) qN #[.string t1,.string t2]));refine hSt 11 2 ag (h:=⟨qbX Y ?_,?_⟩)
 ·exact⟨rfl,rfl,rfl,by simp [World.setRow],fun k hk hne=>setRow_other _ _ _ _ (fun e=>hne (by rw [e]))⟩
 go_wp2_with fail;exact qR (v:=.agg #[.string t1,.string t2]) (rA_ rfl (w.heap.size) HE.o.1 underlying44 2) rfl ⟨HE.o.2,rfl⟩
theorem enters {P:Program} {f:FuncId} {F:Func} (H:P.funcs[f]? = some F) (I:(F.name == "runtime.NumGoroutine")=false) (G:F.body.isNone=false) (args:Array Value) (W:World):(callFunc f args).run P W=.ok (.enter f args) W:=by
 simp only [callFunc,Sem.run_bind,run_program,Result.andThen,H,I,G]
 rfl
theorem qg5 {l:List FT} {n:Nat} {x:Nat->Rat} (J:l.length=n) (h:∀i,i<n->l.getD i fd0=ftxt (x i)):l=told n x:=by
 refine List.ext_getElem (by rw [qbW,J]) fun i H I=>?_
 have F:=h i (by omega);have G:=qdg (x:=x) (show i<n by omega);rw [qaa,qad H] at F;rw [qaa,qad I] at G;exact F.trans G.symm
theorem labs_any (F R b off c:Nat) (O:Option Addr) (l:List Pt) (w:World) (hR:l.length=R) (Y:R<=40) (J:F<3) (hP:PCells w O b off l) (hl:∀k,k<R->-9223372036854775808<=(l.getD k pt0).lab F/\(l.getD k pt0).lab F<=9223372036854775807) (hT:HasT w) :
  Calls prog 130 #[.slice O R c,.int .i64 (F:Int)] w fun e V=>Below w.heap.size w V/\∃g,e=.returned (.slice (some ⟨g,0,none⟩) R R)/\FCells V (some ⟨g,0,none⟩) g 0 (told R (labq l F)):=by
 obtain⟨W2,I,G⟩:=nw2 w #[.slice O R c] 121 #[.int .i64 (F:Int)] 3;have aa:=@hmf_ prog;have HG:=qH (qeg 199 #[.pointer (some ⟨w.heap.size,0,none⟩),.pointer (some ⟨w.heap.size+1,0,none⟩)] R (by omega) (fun i x=>x=ftxt (labq l F i)) (fun _ _=>False) W2 (fun a W=>enters func199 (by kernel_rfl) (by kernel_rfl) _ W)
  (fun i hi W H=>(qmg i F R w.heap.size (w.heap.size+1) b off c O l _ _ W hR hi Y J (zkeep H _ _ G.o.2.1) (zkeep H _ _ G.o.2.2) (hP.below (G.o.1.trans (H.mono G.o.1.size))) (hl i hi) (hT.below (G.o.1.trans (H.mono G.o.1.size)))).mono fun e V h=>⟨h.1,qal ⟨_,_,h.2,rfl⟩⟩))
 clear hP hl hT;go_enter func130,ntmps130;go_upto_region 1 with fail;rw [<-I];clear I;have c0:=qC W2 _ 0 _ _ _ G.o.2.1;go_wp2_with fail;refine HG.o.mono ?_;rintro e V ⟨H,h⟩;rcases h with ⟨l',g,Z,hv,rfl,U,_⟩ | ⟨_,_,_,_,U⟩
 ·have HE:=qH (qA (G.o.1.trans (H.mono G.o.1.size)) (qg5 Z hv▸U));clear H hv U;go_wp2;go_ret;exact⟨HE.o.1,_,rfl,HE.o.2⟩
 ·exact U.elim
theorem qlS (i R k pb kb b off c:Nat) (kind:Int) (ao:Option Addr) (l:List Pt) (ty af:TypeId) (w:World) (hk:qcu kind k) (hR:l.length=R) (hi:i<R) (h3:¬(k=3/\chans l=4)) (G:PtsOk l) (J:w.heap[pb]? = some (.cells #[.slice ao R c] ty (0,0))) (H:w.heap[kb]? = some (.cells #[.int .i64 kind] af (0,0)))
  (hP:PCells w ao b off l) (hT:HasT w) :
  Calls prog 56 #[.int .i64 (i:Int),.pointer (some ⟨kb,0,none⟩),.pointer (some ⟨pb,0,none⟩)] w fun e w'=>Below w.heap.size w w'/\∃v,e=.returned v/\FOwn w' w.heap.size v (told (many k (chans l)) (tqf l k i)):=by
 have aa:=hP.addr (by omega);subst aa;obtain⟨_,⟨ra,rb,ro,rc,d1,hN⟩,_⟩:=hP.cell i (by omega);have F:=(G.rows i (by omega)).2;have U:=(G.rows i (by omega)).1;obtain⟨n,Y⟩:=qX (chans l);rw [Y] at F h3 ⊢;rw [F] at d1;have I:1<=n/\n<=4:=⟨Y▸G.n1,Y▸G.n4⟩;have HO:=qH (qeF kind k hk ra rb ro n rc (l.getD i pt0).dev w.drew F I.1 I.2 (fun e=>by have:=I.2;omega) (hN.below qB.drew) U.vals (hT.below qB.drew));have V:(termL k (l.getD i pt0).dev).map ftxt=told (many k n) (tqf l k i):=by
  rw [<-F];exact (qeQ k (l.getD i pt0).dev).symm
 rw [V] at HO;have ah:=(qG J).1;have ai:=(qG H).1;have ae:=qac _ _ d1;have q1:=rowC (B:=w.heap.size) J 0;have q2:=rowC (B:=w.heap.size) H 0;have q3:∀W,Below w.heap.size w W->W.cell? ⟨b,off+i*5+1,none⟩=some (.slice ra n rc):=fun W O=>(O.cell ae).trans d1
 have ag:(i:Int)<R:=by omega
 clear hP J H hT hN U G Y V hk h3 F;go_enter func56,ntmps56;go_upto_region 1 with fail;refine wp_region_held_drew (S:=fun W=>Below w.heap.size w W) (by kernel_rfl) qB.drew (fun hS0=>?_);refine hT 0 (h:=?_);refine hT 1 (h:=?_);refine hT 2 (h:=?_);refine hT 3 (h:=?_);refine hT 4 (h:=?_);refine hT 5 (h:=?_);refine hC 6 HO.o (h:=?_);rintro e w1 ⟨v,rfl,hv,O⟩;have Z:=qH (qA (qb2 O) hv);refine⟨_,rfl,qb2 O,hN (h:=?_)⟩;refine hT 7 (hS:=Z.o.1) (h:=?_);refine wpAnyH_done (by kernel_rfl) ?_ _;clear hv O;go_wp2;go_ret;exact⟨Z.o.1,v,rfl,Z.o.2⟩
theorem qlT (i R wb b off c:Nat) (ao:Option Addr) (F:List Int) (ty:TypeId) (w:World) (hR:F.length=R) (hi:i<R) (hr:-9223372036854775808<=F.getD i 0/\F.getD i 0<=9223372036854775807) (V:w.heap[wb]? = some (.cells #[.slice ao R c] ty (0,0)))
  (hN:NCells w ao b off F) (hT:HasT w) :
  Calls prog 59 #[.int .i64 (i:Int),.pointer (some ⟨wb,0,none⟩)] w fun e w'=>Below w.heap.size w w'/\e=.returned (.agg #[.string (ftxt (wq F i)).1,.string (ftxt (wq F i)).2]):=by
 have Z:=hN.addr (by omega);subst Z;obtain⟨t1,t2,ht⟩:=qb6 (wq F i);rw [ht];obtain⟨W1,I,H⟩:=nw1 w #[.string ⟨#[]⟩,.string ⟨#[]⟩] 44;have d0:=(hN.below H.o.1).cell i (by omega);have q1:=qC W1 _ 0 _ _ _ (zkeep H.o.1 _ _ V);obtain⟨x,hx⟩:=qX (F.getD i 0);have G:=of_int x 1 (by decide) (by rw [<-hx];exact hr) (by decide) W1 (hT.below H.o.1);have U:(x:Rat) / ((1:Int):Rat)=wq F i:=by unfold wq;rw [hx];rw [show ((1:Int):Rat)=1 from rfl,Rat.div_def,show (1:Rat)⁻¹=1 by decide +kernel,Rat.mul_one]
 rw [U,ht] at G;rw [hx] at d0;have HO:=qH G;have aa:(i:Int)<R:=by omega
 clear G U hx hN V hT ht hr;go_enter func59,ntmps59;go_upto_region 1 with fail;rw [<-I];clear I;go_wp2_with fail;refine HO.o.mono ?_;rintro e w1 ⟨rfl,J⟩;have K2:Kn (fun W=>Below w.heap.size w W/\W.heap[w.heap.size]? = some (.cells #[.string ⟨#[]⟩,.string ⟨#[]⟩] 44 (0,0))) w1:=H.below J;clear H J;go_wp2_with fail;refine (qct t1 t2 w1).mono ?_;rintro e w2 ⟨rfl,O⟩;have Y:=K2.below O;clear K2 O;have HE:=qH (qA (qT _ _ _ #[.string t1,.string t2] _ _ Y.o.2) (qS Y.o.1 qN #[.string t1,.string t2]));rename_i hK;dsimp only;refine hK _ _ ?_
 go_wp2_with ((with_reducible refine sR_ rfl 44 _ _ rfl (w.heap.size) #[.string t1,.string t2] Y.o.2 2 ?_))
 exact qR (v:=.agg #[.string t1,.string t2]) (rA_ rfl (w.heap.size) HE.o.1 underlying44 2) rfl ⟨HE.o.2,rfl⟩
def RowAs (w:World) (R n:Nat) (f:Nat->Nat->Rat) (b v:Nat->Rat) (e:Ending) (F:World):Prop :=
 ((Sing n (normR R n f b v)/\e=thrown 7)\/(¬Sing n (normR R n f b v)/\∃x,qcD n (normR R n f b v) (fun r=>normR R n f b v r n) x /\
  ((qbY n x/\∃g,e=.returned (.slice (some ⟨g,0,none⟩) n n)/\FCells F (some ⟨g,0,none⟩) g 0 (told n x))\/(¬qbY n x/\e=thrown 6))))/\Below w.heap.size w F
theorem row_any (H R n b off c g1 c1 g2 c2:Nat) (ao a1 a2:Option Addr) (l:List Pt) (f:Nat->Nat->Rat) (v:Nat->Rat) (w:World) (hR:l.length=R) (ak:1<=R) (aa:R<=40) (au:1<=n) (av:n<=10) (ah:H<3) (hP:PCells w ao b off l) (hl:∀k,k<R->-9223372036854775808<=(l.getD k pt0).lab H/\(l.getD k pt0).lab H<=9223372036854775807)
  (hf:∀i,i<R->qbY n (f i)) (hb:qbY R (labq l H)) (hv:qbY R v) (ai:∀i,i<R->0<=v i) (hC:TCells w a1 g1 0 (ttab R n f)) (hF:FCells w a2 g2 0 (told R v)) (hT:HasT w) :
  Calls prog 61 #[.agg #[.slice ao R c,.slice a1 R c1,.slice a2 R c2],.int .i64 (H:Int)] w fun e w'=>RowAs w R n f (labq l H) v e w':=by
 obtain⟨V,ae,G⟩:=nw1 w #[.slice ao R c,.slice a1 R c1,.slice a2 R c2] 123;have HX:=qH (qA (hC.below G.o.1) (qA (hF.below G.o.1) (hT.below G.o.1)));have HL:=qH (labs_any H R b off c ao l V.drew hR aa ah ((hP.below G.o.1).below qB.drew) hl ((hT.below G.o.1).below qB.drew));have HM:=qH (qA hf (qA hb (qA hv ai)));have ax:=(qG G.o.2).1;have q0:=rowC (B:=V.heap.size) G.o.2 0;have q1:=rowC (B:=V.heap.size) G.o.2 1;have q2:=rowC (B:=V.heap.size) G.o.2 2;clear hP hl hT hf hb hv ai hC hF;go_enter func61,ntmps61;go_upto_region 1 with fail;rw [<-ae];clear ae;refine wp_region_held_drew (S:=fun W=>Below V.heap.size V W) (by kernel_rfl) qB.drew (fun hS0=>?_);refine hT 0 (h:=?_);refine hT 1 (h:=?_);refine hT 2 (h:=?_);refine hT 3 (h:=?_);refine hT 4 (h:=?_);refine hT 6 (h:=?_);refine hT 7 (h:=?_);refine hC 5 HL.o (h:=?_);rintro e w1 ⟨af,g,rfl,Y⟩;have HB:=qH (qb2 af);have I:=qH (qA HB.o Y);refine⟨_,rfl,HB.o,hN (h:=?_)⟩;have aj:=qH (qmh (c:=c1) (c2:=R) (c3:=c2) ak aa au av HM.o.1 HM.o.2.1 HM.o.2.2.1 HM.o.2.2.2 (HX.o.1.below I.o.1) I.o.2 (HX.o.2.1.below I.o.1) (HX.o.2.2.below I.o.1));clear af Y;refine hC 8 aj.o (h:=?_);rintro e w2 ⟨h,ag⟩;have F:=qH (I.o.1.trans (ag.mono I.o.1.size));clear ag;rcases h with ⟨U,rfl⟩ | ⟨U,x,hx,⟨J,g5,rfl,Z⟩ | ⟨J,rfl⟩⟩
 ·refine⟨_,rfl,F.o,hN (h:=?_)⟩;have O:=qH U;refine hT 9 (hS:=F.o) (h:=?_);refine hT 10 (hS:=F.o) (h:=?_);refine hCx 11 (qgG none 0 0 7 (by decide) w2) (h:=?_);rintro e w3 ⟨rfl,rfl⟩;refine qag ⟨_,rfl,?_⟩;clear U;go_wp2_with fail;exact⟨rfl,qal ⟨O.o,rfl⟩,G.o.1.trans (F.o.mono G.o.1.size)⟩
 ·refine⟨_,rfl,F.o,hN (h:=?_)⟩;have O:=qH (qA U (qA hx (qA J Z)));refine hT 9 (hS:=F.o) (h:=?_);refine hT 10 (hS:=F.o) (h:=?_);refine hC 11 (qkn _ n n w2) (h:=?_);rintro e w3 ⟨rfl,rfl⟩;refine⟨_,rfl,F.o,hN (h:=?_)⟩;refine hT 12 (hS:=F.o) (h:=?_);refine wpAnyH_done (by kernel_rfl) ?_ _;clear U hx J Z;go_wp2;go_ret;exact⟨qag ⟨O.o.1,x,O.o.2.1,qal ⟨O.o.2.2.1,g5,rfl,O.o.2.2.2⟩⟩,G.o.1.trans (F.o.mono G.o.1.size)⟩
 ·refine⟨_,rfl,F.o,hN (h:=?_)⟩;have O:=qH (qA U (qA hx J));refine hT 9 (hS:=F.o) (h:=?_);refine hT 10 (hS:=F.o) (h:=?_);refine hCx 11 (qgG none 0 0 6 (by decide) w2) (h:=?_);rintro e w3 ⟨rfl,rfl⟩;refine qag ⟨_,rfl,?_⟩;clear U hx J;go_wp2_with fail;exact⟨rfl,qag ⟨O.o.1,x,O.o.2.1,qag ⟨O.o.2.2,rfl⟩⟩,G.o.1.trans (F.o.mono G.o.1.size)⟩
theorem qnn {t:Tbl} {n m:Nat} {f:Nat->Nat->Rat} (J:t.length=n) (h:∀i,i<n->t.getD i []=told m (f i)):t=ttab n m f:=by
 refine List.ext_getElem (by rw [qcE,J]) fun i H I=>?_
 have F:=h i (by omega);have G:=qeG (m:=m) (f:=f) (show i<n by omega);rw [qaa,qad H] at F;rw [qaa,qad I] at G;exact F.trans G.symm
def SlT (n m:Nat) (f:Nat->Nat->Rat) (z:Value) (W:World):Prop:=∃g,z=.slice (some ⟨g,0,none⟩) n n/\TCells W (some ⟨g,0,none⟩) g 0 (ttab n m f)
def SlF (n:Nat) (f:Nat->Rat) (z:Value) (W:World):Prop:=∃g,z=.slice (some ⟨g,0,none⟩) n n/\FCells W (some ⟨g,0,none⟩) g 0 (told n f)
instance stays_slt {n m:Nat} {f:Nat->Nat->Rat} {z:Value}:Stays (SlT n m f z):=⟨fun⟨g,F,G⟩ hb=>⟨g,F,G.below hb⟩⟩
instance stays_slf {n:Nat} {f:Nat->Rat} {z:Value}:Stays (SlF n f z):=⟨fun⟨g,F,G⟩ hb=>⟨g,F,G.below hb⟩⟩
theorem qfC {W:World} {g:Nat} {G cs:Array Value} {t:TypeId} (hg:W.heap[g]? = some (.cells G t (0,0))) (I:∀x∈G.toList,x=.slice none 0 0) {a:Addr} {v:Value} (F:W.cell? a=some v) (H:v≠.slice none 0 0):(W.setRow g cs).cell? a=some v:=by
 have hne:a.block≠g:=by
  intro e;unfold World.cell? at F;rw [e,hg] at F;simp only at F;split at F
  ·cases F
  ·exact H (I v (by rw [<-Array.mem_def];exact Array.mem_of_getElem? F))
 exact (cell_setRow_other _ _ _ _ hne).trans F
theorem qeo {W:World} {g:Nat} {G cs:Array Value} {t:TypeId} (hg:W.heap[g]? = some (.cells G t (0,0))) (H:∀b,.string b∉G.toList):∀a s,W.cell? a=some (.string s)->(W.setRow g cs).cell? a=some (.string s):=fun a s F=>by
 have hne:a.block≠g:=by
  intro e;unfold World.cell? at F;rw [e,hg] at F;simp only at F;split at F
  ·cases F
  ·exact H s (by rw [<-Array.mem_def];exact Array.mem_of_getElem? F)
 exact (cell_setRow_other _ _ _ _ hne).trans F
theorem SlF.keepZ {W:World} {g n:Nat} {F cs:Array Value} {t:TypeId} {f:Nat->Rat} {z:Value} (h:SlF n f z W) (hg:W.heap[g]? = some (.cells F t (0,0))) (J:∀x∈F.toList,x=.slice none 0 0):SlF n f z (W.setRow g cs):=by
 obtain⟨g1,G,H⟩:=h;exact⟨g1,G,H.kept fun a s I=>qfC hg J I (fun e=>by cases e)⟩
theorem SlT.keepZ {W:World} {g n m:Nat} {I cs:Array Value} {t:TypeId} {f:Nat->Nat->Rat} {z:Value} (h:SlT n m f z W) (Y:1<=m) (hg:W.heap[g]? = some (.cells I t (0,0))) (H:∀x∈I.toList,x=.slice none 0 0):SlT n m f z (W.setRow g cs):=by
 obtain⟨g1,J,G⟩:=h;refine⟨g1,J,G.addr,fun k F=>?_⟩;obtain⟨ra,rb,ro,rc,O,U⟩:=G.row k F;refine⟨ra,rb,ro,rc,qfC hg H O (fun e=>?_),U.kept fun a s V=>qfC hg H V (fun e=>by cases e)⟩;rw [qcE] at F;have:=(Value.slice.inj e).2.1;rw [qeG F,qbW] at this;omega
theorem qni (R k G kb b off c:Nat) (kind:Int) (O:Option Addr) (l:List Pt) (ty H:TypeId) (w:World) (hk:qcu kind k) (hR:l.length=R) (Y:¬(k=3/\chans l=4)) (F:PtsOk l) (ae:w.heap[G]? = some (.cells #[.slice O R c] ty (0,0))) (aa:w.heap[kb]? = some (.cells #[.int .i64 kind] H (0,0)))
  (hP:PCells w O b off l) (hT:HasT w) :
  Calls prog 55 #[.int .i64 (R:Int),.func (.func 56) #[] #[.pointer (some ⟨kb,0,none⟩),.pointer (some ⟨G,0,none⟩)]] w fun e J=>Below w.heap.size w J/\∃v,e=.returned v/\SlT R (many k (chans l)) (tqf l k) v J:=by
 have hg:qlu 56 #[.pointer (some ⟨kb,0,none⟩),.pointer (some ⟨G,0,none⟩)] w R (fun i r=>r=told (many k (chans l)) (tqf l k i)) (fun _ _=>False):=by
  intro i hi W I;refine (qlS i R k G kb b off c kind O l ty H W hk hR hi Y F (zkeep I _ _ ae) (zkeep I _ _ aa) (hP.below I) (hT.below I)).mono ?_;rintro e J ⟨U,v,V,Z⟩;obtain⟨a,g,cap,rfl,hF,_⟩:=Z.cells (qbW _ _);exact⟨U,qal ⟨_,a,g,_,cap,V,qbW _ _,hF,rfl⟩⟩
 have HG:=qgn 56 #[.pointer (some ⟨kb,0,none⟩),.pointer (some ⟨G,0,none⟩)] R (by have:=F.r2;omega) (fun i r=>r=told (many k (chans l)) (tqf l k i)) (fun _ _=>False) w (fun a W=>enters func56 (by kernel_rfl) (by kernel_rfl) _ W) hg;refine HG.mono ?_;rintro e J ⟨U,V⟩;rcases V with ⟨t,g,Y,Z,rfl,h5,_⟩ | ⟨_,_,_,_,h⟩
 ·exact⟨U,_,rfl,g,rfl,qnn Y Z▸h5⟩
 ·exact h.elim
theorem qjW (R G b off c:Nat) (I:Option Addr) (F:List Int) (Y:TypeId) (w:World) (hR:F.length=R) (aa:R<=40) (hW:WOk F) (V:w.heap[G]? = some (.cells #[.slice I R c] Y (0,0))) (hN:NCells w I b off F) (hT:HasT w) :
  Calls prog 58 #[.int .i64 (R:Int),.func (.func 59) #[] #[.pointer (some ⟨G,0,none⟩)]] w fun e H=>Below w.heap.size w H/\∃v,e=.returned v/\SlF R (wq F) v H:=by
 have hg:qj0 59 #[.pointer (some ⟨G,0,none⟩)] w R (fun i x=>x=ftxt (wq F i)) (fun _ _=>False):=by
  intro i hi W U;refine (qlT i R G b off c I F Y W hR hi (by have:=hW i (by omega);omega) (zkeep U _ _ V) (hN.below U) (hT.below U)).mono ?_;rintro e H ⟨J,O⟩;exact⟨J,qal ⟨_,_,O,rfl⟩⟩
 have Z:=qeg 59 #[.pointer (some ⟨G,0,none⟩)] R (by omega) (fun i x=>x=ftxt (wq F i)) (fun _ _=>False) w (fun a W=>enters func59 (by kernel_rfl) (by kernel_rfl) _ W) hg;refine Z.mono ?_;rintro e H ⟨J,O⟩;rcases O with ⟨t,g,h3,h4,rfl,h5,_⟩ | ⟨_,_,_,_,h⟩
 ·exact⟨J,_,rfl,g,rfl,qg5 h3 h4▸h5⟩
 ·exact h.elim
