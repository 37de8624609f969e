import Derived.Test.YtplkdeknjghobaaGreatDoorBb20
import Derived.WalkMore
set_option maxRecDepth 100000
set_option maxHeartbeats 0
namespace Go.Proofs.YtplkdeknjghobaaGreatDoor
open Go.RowKit Go.Proofs.Tryz
def RRow (W:World) (g n:Nat) (x:Nat->Rat) (i:Nat):Prop:=∃cs:Array Value,W.heap[g]? = some (.cells cs 138 (0,0))/\cs.size=n*3/\(∀y∈cs.toList,∀z,y≠.int .u32 z)/\RCells W g i x
theorem RRow.below {W W':World} {g n i:Nat} {x:Nat->Rat} (h:RRow W g n x i) (F:Below W.heap.size W W'):RRow W' g n x i:=by
 obtain⟨cs,H,I,J,O⟩:=h;exact⟨cs,zkeep F _ _ H,I,J,O.below F⟩
theorem RRow.at {W:World} {g n i:Nat} {x:Nat->Rat} (h:RRow W g n x i) (J:i<n):(∃v0 H v2,W.cell? ⟨g,i*3,none⟩=some v0/\W.cell? ⟨g,i*3+1,none⟩=some H/\W.cell? ⟨g,i*3+2,none⟩=some v2)/\∀j,W.frozen? ⟨g,j,none⟩=false:=by
 obtain⟨cs,F,I,_,_⟩:=h;refine⟨⟨cs[i*3]'(by omega),cs[i*3+1]'(by omega),cs[i*3+2]'(by omega),?_,?_,?_⟩,fun j=>qF _ _ _ _ _ F⟩
 ·exact (qC _ _ _ _ _ _ F).trans (Array.getElem?_eq_getElem _)
 ·exact (qC _ _ _ _ _ _ F).trans (Array.getElem?_eq_getElem _)
 ·exact (qC _ _ _ _ _ _ F).trans (Array.getElem?_eq_getElem _)
theorem qjN {cs:Array Value} {k:Nat} {v y:Value} (h:y∈(cs.setIfInBounds k v).toList):y∈cs.toList\/y=v:=by
 rw [Array.toList_setIfInBounds] at h;exact List.mem_or_eq_of_mem_set h
theorem RRow.set {W:World} {g n i:Nat} {x:Nat->Rat} (h:RRow W g n x i) (hi:i<n) {a:Option Addr} {m c:Nat} {b:Bool} {d:Option Addr} {e f:Nat} (Z:RatV W (.agg #[.slice a m c,.bool b,.slice d e f]) (x i)) :
  RRow (((W.setCell ⟨g,i*3,none⟩ (.slice a m c)).setCell ⟨g,i*3+1,none⟩ (.bool b)).setCell ⟨g,i*3+2,none⟩ (.slice d e f)) g n x (i+1):=by
 obtain⟨cs,H,U,I,V⟩:=h;have O:W.grownBy (((W.setCell ⟨g,i*3,none⟩ (.slice a m c)).setCell ⟨g,i*3+1,none⟩ (.bool b)).setCell ⟨g,i*3+2,none⟩ (.slice d e f)) (some g):=qbZ (qbZ (qbW W g (i*3) _) (qbW _ g (i*3+1) _)) (qbW _ g (i*3+2) _);have J:=heap_setCell_same _ g (i*3+2) _ _ (.slice d e f) (heap_setCell_same _ g (i*3+1) _ _ (.bool b) (heap_setCell_same _ g (i*3) _ _ (.slice a m c) H));refine⟨_,J,by simp [U],fun y hy z=>?_,⟨fun k Y=>?_⟩⟩
 ·rcases qjN hy with hy | rfl
  ·rcases qjN hy with hy | rfl
   ·rcases qjN hy with hy | rfl
    ·exact I y hy z
    ·intro h;cases h
   ·intro h;cases h
  ·intro h;cases h
 ·have F:∀j,(((W.setCell ⟨g,i*3,none⟩ (.slice a m c)).setCell ⟨g,i*3+1,none⟩ (.bool b)).setCell ⟨g,i*3+2,none⟩ (.slice d e f)).cell? ⟨g,j,none⟩=(((cs.setIfInBounds (i*3) (.slice a m c)).setIfInBounds (i*3+1) (.bool b)).setIfInBounds (i*3+2) (.slice d e f))[j]?:=fun j=>qC _ _ _ _ _ _ J
  rcases qaQ k i with hlt | hge
  ·obtain⟨a',m',c',b',d',e',f',g1,g2,g3,g4⟩:=V.cell k hlt;rw [qC _ _ _ _ _ _ H] at g1 g2 g3;refine⟨a',m',c',b',d',e',f',?_,?_,?_,g4.keep O H I⟩
   ·rw [F,qaX (by omega),qaX (by omega),qaX (by omega)];exact g1
   ·rw [F,qaX (by omega),qaX (by omega),qaX (by omega)];exact g2
   ·rw [F,qaX (by omega),qaX (by omega),qaX (by omega)];exact g3
  ·obtain rfl:k=i:=by omega
   refine⟨a,m,c,b,d,e,f,?_,?_,?_,Z.keep O H I⟩
   ·rw [F,qaX (by omega),qaX (by omega),Array.getElem?_setIfInBounds_self_of_lt (by omega)]
   ·rw [F,qaX (by omega),Array.getElem?_setIfInBounds_self_of_lt (by simp;omega)]
   ·rw [F,Array.getElem?_setIfInBounds_self_of_lt (by simp;omega)]
theorem infoRt:(Tryz.prog.info? 138).map (fun i=>(i.zero,i.size,i.bytes))=some (some (.agg #[.slice none 0 0,.bool false,.slice none 0 0]),3,56):=by kernel_rfl
theorem make_rts (n:Nat) (O:n<=1000) (w:World):(Instr.makeSlice 282 (.int .i64 (n:Int)) (.int .i64 (n:Int))).run prog w=.ok (.slice (some ⟨w.heap.size,0,none⟩) n n) (w.alloc (.cells (madeCells #[.slice none 0 0,.bool false,.slice none 0 0] (n*3)) 138)):=by
 obtain⟨i,J,F,H,I⟩:=info_parts infoRt;have h:=run_make (P:=prog) w 282 138 i _ underlying282 J F .i64 .i64 (n:Int) (n:Int) (by omega) (Int.le_refl _) (by rw [I];omega) (by omega);rw [H,Int.toNat_natCast] at h;exact h
theorem RRow.made (W:World) (n:Nat) (x:Nat->Rat):RRow (W.alloc (.cells (madeCells #[.slice none 0 0,.bool false,.slice none 0 0] (n*3)) 138)) W.heap.size n x 0:=by
 refine⟨_,qM _ _ _ rfl,size_madeCells _ _,fun y hy z=>?_,⟨fun k F=>absurd F (qbR _)⟩⟩;simp [madeCells] at hy;obtain⟨j,_,rfl⟩:=hy;rcases (show j % 3=0\/j % 3=1\/j % 3=2 by omega) with e | e | e <;> rw [e] <;> intro h <;> cases h
theorem sum_any (b n c:Nat) (ao:Option Addr) (x:Nat->Rat) (w:World) (hn:n<=300) (hF:FCells w ao b 0 (told n x)) (hx:qb2 n x) (hs:Short (sumQ n x)) (hT:HasT w) :
  Calls prog 143 #[.slice ao n c] w fun e w'=>e=.returned (.tuple #[.agg #[.string (ftxt (sumQ n x)).1,.string (ftxt (sumQ n x)).2],.int .i64 0])/\Below w.heap.size w w':=by
 obtain⟨r1,r2,hr⟩:=qcd (sumQ n x);rw [hr];obtain⟨W1,Z,N1⟩:=nw1 w #[.string ⟨#[]⟩,.string ⟨#[]⟩] 44;have af:W1.heap.size=w.heap.size+1:=by rw [Z];simp
 have aj:=make_rts n (by omega) W1;obtain⟨W2,O⟩:=qY (W1.alloc (.cells (madeCells #[.slice none 0 0,.bool false,.slice none 0 0] (n*3)) 138));rw [<-O,af] at aj;have au:RRow W2 (w.heap.size+1) n x 0:=by rw [O,<-af];exact RRow.made W1 n x
 have aa:Below W1.heap.size W1 W2:=O▸qB.alloc qN _;have H0:=qH (qA (N1.o.1.trans (aa.mono N1.o.1.size)) (qA au (zkeep aa _ _ N1.o.2)));have Y:=qH (qA hF (qA hx (qA hs (qA hT hr))));have aB:¬(300:Int)<n:=by omega
 clear N1 af au aa hF hx hs hT hr O;go_enter func143,ntmps143;go_upto_region 1 with fail;rw [<-Z];clear Z;go_wp2_with fail;clear aj
 go_loopw [18] (fun x18 W=>∃i:Nat,x18=.int .i64 i/\i<=n/\Hu (Below w.heap.size w W/\RRow W (w.heap.size+1) n x i/\W.heap[w.heap.size]? = some (.cells #[.string ⟨#[]⟩,.string ⟨#[]⟩] 44 (0,0)))) (fun x18 _=>n-(intOf x18).toNat)
 case atStart=>exact⟨0,rfl,qal _,H0⟩
 case round =>
  obtain⟨i,rfl,aA,V⟩:=hrel
  by_cases hi:i<n
  ·have az:(i:Int)<n:=by omega
   have ha:=Y.o.1.addr (by rw [qb0];omega);subst ha;obtain⟨d0,d1⟩:=(Y.o.1.below V.o.1).cell i (by rw [qb0];exact hi);rw [qdr hi] at d0 d1;have H:=fun W=>readq (Y.o.2.1 i hi) W
   obtain⟨t1,t2,ht⟩:=qcd (x i);rw [ht] at d0 d1 H;rw [qaM] at d0 d1;have H:=qH H;clear ht;go_wp2_with fail;refine (H.o _).mono ?_;rintro e w5 ⟨a0,m0,c0,b0,e0,e1,e2,rfl,hv,F,hb⟩;have U:Below wr.heap.size wr w5:=(qB.alloc qN _).trans (hb.mono (by simp only [qab];omega));have HN:=qH (qA (V.o.1.trans (U.mono V.o.1.size)) (qA (V.o.2.1.below U) (qA (zkeep U _ _ V.o.2.2) (qA hv F))));clear hv F hb U H;obtain⟨V6,ai,N6⟩:=nw1 w5 #[.slice a0 m0 c0,.bool b0,.slice e0 e1 e2] 138;obtain⟨⟨v0,v1,v2,q0,q1,q2⟩,qf⟩:=(HN.o.2.1.below N6.o.1).at hi;have aC:=qf (i*3);have aD:=qf (i*3+1);have aF:=qf (i*3+2);have HS:=qH (qA (HN.o.1.trans (N6.o.1.mono HN.o.1.size)) (qA ((HN.o.2.1.below N6.o.1).set hi (HN.o.2.2.2.1.below N6.o.1)) (zkeep N6.o.1 _ _ HN.o.2.2.1)));go_upto_region 10 with fail;rw [<-ai];clear ai;have y0:=qC _ _ 0 _ _ _ N6.o.2;have y1:=qC _ _ 1 _ _ _ N6.o.2;have y2:=qC _ _ 2 _ _ _ N6.o.2;have ay:i*3<n*3:=by omega
   clear qf N6;go_wp2;go_roundw
   case rel =>
    refine⟨i+1,by go_num,hi,qH ⟨((HS.o.1.setCell (p:=⟨w.heap.size+1,i*3,none⟩) (show w.heap.size<=w.heap.size+1 by omega) _).setCell (p:=⟨w.heap.size+1,i*3+1,none⟩) (show w.heap.size<=w.heap.size+1 by omega) _).setCell (p:=⟨w.heap.size+1,i*3+2,none⟩) (show w.heap.size<=w.heap.size+1 by omega) _,HS.o.2.1,?_⟩⟩;exact (qW _ _ _ _ (show w.heap.size≠w.heap.size+1 by omega)).trans ((qW _ _ _ _ (show w.heap.size≠w.heap.size+1 by omega)).trans ((qW _ _ _ _ (show w.heap.size≠w.heap.size+1 by omega)).trans HS.o.2.2))
   case measure=>simp [intOf];omega
  ·obtain rfl:i=n:=by omega
   have J:∀k,k<i->RFit (x k) 67:=fun k hk=>by
    have:=(qdh (Y.o.2.1 k hk)).fit;rw [qcN] at this;exact this
   have ak:RCells wr (w.heap.size+1) i x:=by obtain⟨cs,_,_,_,h⟩:=V.o.2.1;exact h
   have ag:=qH (qnV (w.heap.size+1) i i (some ⟨w.heap.size+1,0,none⟩) x wr (fun _=>rfl) hn J ak);have HI:=qH V.o;clear V J ak;go_wp2_with fail;refine ag.o.mono ?_;rintro e w5 ⟨r,rfl,hb,hv,F⟩;obtain⟨a0,m0,c0,b0,e0,e1,e2,rfl⟩:=qcH hv;have HB:=qH (HI.o.1.trans (hb.mono HI.o.1.size));have ah:=qH (zkeep hb _ _ HI.o.2.2);have HW:=qH (qeU (sumQ i x) (68*i+1) (by omega) (by omega) _ w5 hv F (Y.o.2.2.2.1.below HB.o));clear hb hv F ag;go_wp2_with fail;refine HW.o.mono ?_;rintro e w6 ⟨h,ae⟩;have av:=qH (HB.o.trans (ae.mono HB.o.size));have I:=qH (zkeep ae _ _ ah.o);clear ae HW;rcases h with ⟨_,rfl⟩ | ⟨ax,_⟩
   case inr=>exact absurd Y.o.2.2.1 ax
   rw [qem,Y.o.2.2.2.2];have HE:=qH (qA (qT _ _ _ #[.string r1,.string r2] _ _ I.o) (qS av.o qN #[.string r1,.string r2]))
   go_wp2_with ((with_reducible refine sR_ rfl 44 _ _ rfl (w.heap.size) #[.string r1,.string r2] I.o 2 ?_))
   exact qR (v:=.tuple #[.agg #[.string r1,.string r2],.int .i64 0]) (rB_ rfl w.heap.size HE.o.1 underlying44 2) rfl ⟨rfl,HE.o.2⟩
theorem qlX (kind:Int) (k n:Nat) (F:qcA kind k) (H:1<=n) (I:n<=4) (w:World):Calls prog 110 #[.int .i64 kind,.int .i64 (n:Int)] w fun e J=>e=.returned (.int .i64 (many k n:Nat))/\w=J:=by
 rcases qhx F with ⟨rfl,rfl⟩ | ⟨rfl,rfl⟩ | ⟨rfl,rfl⟩
 all_goals
  rcases (show n=1\/n=2\/n=3\/n=4 by omega) with rfl | rfl | rfl | rfl
  all_goals
   clear H I F;go_enter func110,ntmps110;go_wp2;go_ret;exact⟨rfl,rfl⟩
def qdz (m:Md):Prop:=∃k n,MdOk m k n
theorem MdAt.parts {W:World} {v:Value} {m:Md} (h:MdAt W v m):∃(a:Nat->Option Addr) (b o c:Nat->Nat),v=.agg #[.int .i64 m.kind,.int .i64 m.inn,.slice (a 0) (m.row 0).length (c 0),.slice (a 1) (m.row 1).length (c 1),.slice (a 2) (m.row 2).length (c 2)]/\∀q,q<3->FCells W (a q) (b q) (o q) (m.row q):=by
 obtain⟨a0,a1,a2,b0,o0,c0,b1,o1,c1,b2,o2,c2,rfl,F,H,I⟩:=h;refine⟨fun q=>if q=0 then a0 else if q=1 then a1 else a2,fun q=>if q=0 then b0 else if q=1 then b1 else b2,fun q=>if q=0 then o0 else if q=1 then o1 else o2,fun q=>if q=0 then c0 else if q=1 then c1 else c2,rfl,fun q J=>?_⟩;rcases (show q=0\/q=1\/q=2 by omega) with rfl | rfl | rfl
 ·exact F
 ·exact H
 ·exact I
theorem qfN (m:Md) (v:Value) (w:World) (hM:MdAt w v m) (hl:∀q,q<3->(m.row q).length<=4611686018427387904):Calls prog 39 #[v] w fun e w'=>qfd w (qdz m) 320 e w':=by
 obtain⟨a,b,o,c,rfl,hF⟩:=hM.parts;obtain⟨kind,I⟩:∃z,m.kind=z:=⟨_,rfl⟩;obtain⟨inn,Y⟩:∃z,m.inn=z:=⟨_,rfl⟩;rw [I,Y];obtain⟨L,hL⟩:∃L:Nat->Nat,∀q,(m.row q).length=L q:=⟨_,fun _=>rfl⟩;rw [hL,hL,hL];obtain⟨W1,ay,U⟩:=nw1 w #[.int .i64 kind,.int .i64 inn,.slice (a 0) (L 0) (c 0),.slice (a 1) (L 1) (c 1),.slice (a 2) (L 2) (c 2)] 38;have c0:=qC _ _ 0 _ _ _ U.o.2;have c1:=qC _ _ 1 _ _ _ U.o.2;have c2:=qC _ _ 2 _ _ _ U.o.2;have c3:=qC _ _ 3 _ _ _ U.o.2;have c4:=qC _ _ 4 _ _ _ U.o.2;have O:=qH (qA I (qA Y (qA hl (fun q hq=>(hF q hq).below U.o.1))));have aG:=qH hL;have F:=qH U.o.1;clear hM hF hl I Y hL;go_enter func39,ntmps39;go_upto_region 1 with fail;rw [<-ay];clear ay
 go_step3
 go_wp2_with fail;refine (qgF kind W1).mono ?_;rintro e w2 ⟨rfl,hw⟩;subst hw
 by_cases Z:1<=kind/\kind<=3
 case neg =>
  rw [qU Z];have HN:=qH Z;clear Z;go_wp2;go_ret;exact⟨320,rfl,qag ⟨rfl,fun⟨k,n,h⟩=>HN.o (by have:=h.kind.1;have:=h.kind.2;have:=O.o.1;omega)⟩,F.o⟩
 obtain⟨k,aC⟩:∃k,qcA kind k:=⟨kind.toNat,by omega,by omega,by omega⟩;rw [qV Z];have Hk:=qH aC;clear aC Z
 by_cases ak:1<=inn/\inn<=4
 case neg =>
  have HN:=qH ak
  by_cases h1:inn<1
  ·clear ak;go_wp2;go_ret;exact⟨320,rfl,qag ⟨rfl,fun⟨k,n,h⟩=>HN.o (by have:=h.inn;have:=O.o.2.1;omega)⟩,F.o⟩
  ·have h2:4<inn:=by omega
   clear ak;go_wp2;go_ret;exact⟨320,rfl,qag ⟨rfl,fun⟨k,n,h⟩=>HN.o (by have:=h.inn;have:=O.o.2.1;omega)⟩,F.o⟩
 obtain⟨n,hn⟩:∃n:Nat,inn=n:=⟨inn.toNat,by omega⟩;subst hn;have aQ:¬(n:Int)<1:=by omega
 have aS:¬4<(n:Int):=by omega
 by_cases ag:kind=3/\n=4
 ·obtain⟨h3,h4⟩:=ag;subst h3 h4;go_wp2;go_ret;exact⟨320,rfl,qag ⟨rfl,fun⟨k',n',h⟩=>h.both ⟨by have:=h.kind.1;have:=O.o.1;omega,by have:=h.inn;have:=O.o.2.1;omega⟩⟩,F.o⟩
 have aH:=qH ag;go_upto_region 3 with fail
 go_cut [29] (fun x29 W=>x29=.bool false/\Hu (W=W1))
 case first =>
  by_cases h3:kind=3
  ·have aR:¬(3:Int)<n:=fun h=>ag ⟨h3,by omega⟩
   subst h3;go_wp2;go_meet;exact⟨rfl,qH rfl⟩
  ·go_wp2;go_meet;exact⟨rfl,qH rfl⟩
 case rest =>
  obtain⟨rfl,ai⟩:=hcut;have ai:=ai.o.symm;subst ai;clear ag;go_wp2_with fail
  go_step3
  go_wp2_with fail
  go_loopw [3,32] (fun x3 x32 W=>x3=.bool true/\∃j:Nat,x32=.int .i64 j/\j<=3/\Hu ((∀q,q<j->(m.row q).length=many k n/\FAll (m.row q))/\Below W1.heap.size W1 W)) (fun _ x32 _=>3-(intOf x32).toNat)
  case atStart=>exact⟨rfl,0,rfl,qal _,qH ⟨fun q hq=>absurd hq (qbR _),Below.refl _ _⟩⟩
  case round =>
   obtain⟨rfl,j,rfl,hj,hI⟩:=hrel
   by_cases au:j<3
   ·have aO:(j:Int)<3:=by omega
    obtain⟨row,H⟩:∃r,m.row j=r:=⟨_,rfl⟩;obtain⟨aj,V⟩:∃r,a j=r:=⟨_,rfl⟩;obtain⟨bj,aA⟩:∃r,b j=r:=⟨_,rfl⟩;obtain⟨oj,aD⟩:∃r,o j=r:=⟨_,rfl⟩;obtain⟨cj,ah⟩:∃r,c j=r:=⟨_,rfl⟩;obtain⟨J,aa⟩:∃r,L j=r:=⟨_,rfl⟩;have hF:=O.o.2.2.2 j au;rw [H,V,aA,aD] at hF;have av:row.length=J:=by rw [<-H,aG.o,aa]
    have aP:J<=4611686018427387904:=by rw [<-av,<-H];exact O.o.2.2.1 j au
    have HR:=qH (qA H av);have HF:=qH hF;have HI:=qH hI.o;obtain⟨wo,aL⟩:=qY wr;have hB:=hI.o.2;have d0:=(rowC (B:=W1.heap.size) U.o.2 0 (hg:=by have:=(qG U.o.2).1;exact this)) _ hB;have d1:=(rowC (B:=W1.heap.size) U.o.2 1 (hg:=by have:=(qG U.o.2).1;exact this)) _ hB;have aB:(j=0/\a 0=aj/\L 0=J/\c 0=cj)\/(j=1/\a 1=aj/\L 1=J/\c 1=cj)\/(j=2/\a 2=aj/\L 2=J/\c 2=cj):=by
     rcases (show j=0\/j=1\/j=2 by omega) with rfl | rfl | rfl
     ·exact qan ⟨rfl,V,aa,ah⟩
     ·exact qag (qan ⟨rfl,V,aa,ah⟩)
     ·exact qag (qag ⟨rfl,V,aa,ah⟩)
    have HJ:=qH au;have aT:∀W,(Instr.index 36 (.agg #[.slice (a 0) (L 0) (c 0),.slice (a 1) (L 1) (c 1),.slice (a 2) (L 2) (c 2)]) (.int .i64 (j:Int))).run prog W=.ok (.slice aj J cj) W:=fun W=>by
     rcases aB with ⟨rfl,h1,h2,h3⟩ | ⟨rfl,h1,h2,h3⟩ | ⟨rfl,h1,h2,h3⟩
     all_goals
      rw [<-h1,<-h2,<-h3]
      kernel_rfl
    clear hI hF H av V aA aD ah aa hB aB;subst aL;go_wp2_with fail;refine (qlX kind k n Hk.o (by omega) (by omega) _).mono ?_;rintro e w5 ⟨rfl,hw⟩;subst hw
    by_cases ae:J=many k n
    case neg =>
     have hne:((J:Int) != ((many k n:Nat):Int))=true:=by rw [bne_iff_ne];omega
     have aI:=qH ae;clear ae;go_wp2;go_ret;exact⟨320,rfl,qag ⟨rfl,fun⟨k',n',h⟩=>aI.o (by
      have h1:=(h.rows j HJ.o).1;have h2:=h.kind.1;have h3:=h.inn.1;have h4:=O.o.1;have h5:=O.o.2.1;have h6:=Hk.o.1;obtain rfl:k'=k:=by omega
      obtain rfl:n'=n:=by omega
      rw [<-h1,HR.o.1,HR.o.2])⟩,F.o.trans (HI.o.2.mono F.o.size)⟩
    have hne:((J:Int) != ((many k n:Nat):Int))=false:=by simp [ae]
    have aF:=qH ae;clear ae;go_wp2_with fail
    go_loopw [3,45] (fun x3 x45 W=>x3=.bool true/\∃i:Nat,x45=.int .i64 i/\i<=J/\Hu ((∀q,q<i->FOk (row.getD q fd0).1.data.toList (row.getD q fd0).2.data.toList)/\Below wo.heap.size wo W)) (fun _ x45 _=>J-(intOf x45).toNat)
    case atStart=>exact⟨rfl,0,rfl,qal _,qH ⟨fun q hq=>absurd hq (qbR _),Below.refl _ _⟩⟩
    case round =>
     obtain⟨rfl,i,rfl,aN,hJ⟩:=hrel
     by_cases hi:i<J
     ·have aM:(i:Int)<J:=by omega
      have aJ:=HF.o.addr (by have:=HR.o.2;omega);subst aJ;obtain⟨e0,e1⟩:=(HF.o.below (HI.o.2.trans (hJ.o.2.mono HI.o.2.size))).cell i (by have:=HR.o.2;omega);obtain⟨N,hN⟩:=qX ((row.getD i fd0).1);obtain⟨D,hD⟩:=qX ((row.getD i fd0).2);rw [hN] at e0;rw [hD] at e1;have af:=qH (qA hN hD);clear hN hD;go_wp2_with fail;refine (qfL N D _).mono ?_;rintro e w5 ⟨cc,rfl,aK,az⟩;have ax:=qH (hJ.o.2.trans ((qB.alloc qN _ |>.trans (az.mono (by simp only [qab];omega))).mono hJ.o.2.size));clear az;rcases aK with ⟨rfl,hf⟩ | ⟨rfl,hf⟩
      ·have Hf:=qH hf;clear hf;go_wp2;go_roundw
       case rel =>
        refine⟨rfl,i+1,by go_num,hi,qH ⟨fun q hq=>?_,ax.o⟩⟩;rcases qaQ q i with h | h
        ·exact hJ.o.1 q h
        ·obtain rfl:q=i:=by omega
         rw [af.o.1,af.o.2];exact Hf.o
       case measure=>simp [intOf];omega
      ·have Hf:=qH hf;clear hf;go_wp2;go_ret;exact⟨320,rfl,qag ⟨rfl,fun⟨k',n',h⟩=>Hf.o (by
        have h1:=(h.rows j HJ.o).2 i (by rw [HR.o.1,HR.o.2];exact hi);rw [HR.o.1,af.o.1,af.o.2] at h1;exact h1)⟩,F.o.trans ((HI.o.2.trans (ax.o.mono HI.o.2.size)).mono F.o.size)⟩
     ·obtain rfl:i=J:=by omega
      go_wp2;go_roundw
      case rel =>
       refine⟨rfl,j+1,by go_num,HJ.o,qH ⟨fun q hq=>?_,HI.o.2.trans (hJ.o.2.mono HI.o.2.size)⟩⟩;rcases qaQ q j with h | h
       ·exact HI.o.1 q h
       ·obtain rfl:q=j:=by omega
        rw [HR.o.1];exact⟨HR.o.2.trans aF.o,fun x hx=>hJ.o.1 x (by rw [HR.o.2] at hx;exact hx)⟩
      case measure=>simp [intOf];omega
   ·obtain rfl:j=3:=by omega
    go_wp2;go_ret;exact⟨0,rfl,qan ⟨rfl,k,n,⟨by rw [O.o.1];exact Hk.o,⟨O.o.2.1,by omega,by omega⟩,fun h=>aH.o ⟨by have:=Hk.o.1;omega,h.2⟩,fun q hq=>hI.o.1 q hq⟩⟩,F.o.trans (hI.o.2.mono F.o.size)⟩
theorem str_ext {s t:ByteArray} (h:s.data.toList=t.data.toList):s=t:=by
 have:s.data=t.data:=Array.toList_inj.1 h;cases s;cases t;simp at this;subst this;rfl
def qe1 (l:List Pt) (k:Nat):Lit->Value
 | .string s=>.bool (decide (∃j,j<k/\(l.getD j pt0).name.data.toList=s))
 | _=>.bool false
theorem qjQ (l:List Pt):∀F,(Value.bool false)=qe1 l 0 F:=fun F=>by
 unfold qe1;split
 ·rw [qU (by rintro ⟨j,h,_⟩;omega)]
 ·rfl
theorem qiR (l:List Pt) (k:Nat):∀x,x≠Lit.string (l.getD k pt0).name.data.toList->qe1 l (k+1) x=qe1 l k x:=fun x hx=>by
 unfold qe1;split
 ·rename_i s
  congr 1
  rw [decide_eq_decide]
  constructor
  ·rintro ⟨j,h,e⟩;rcases (show j<k\/j=k by omega) with F | rfl
   ·exact⟨j,F,e⟩
   ·exact absurd (by rw [e]) hx
  ·rintro ⟨j,h,e⟩;exact⟨j,by omega,e⟩
 ·rfl
theorem qlk (l:List Pt) (k:Nat):qe1 l (k+1) (.string (l.getD k pt0).name.data.toList)=.bool true:=by
 unfold qe1;exact congrArg Value.bool (qV ⟨k,by omega,rfl⟩)
structure PtsTo (l:List Pt) (k:Nat):Prop where
 rows:∀j,j<k->PtOk (l.getD j pt0)/\(l.getD j pt0).dev.length=chans l
 apart:∀i j,j<i->i<k->(l.getD j pt0).name≠(l.getD i pt0).name
theorem PtsTo.zero (l:List Pt):PtsTo l 0:=⟨fun j h=>absurd h (by omega),fun i j _ h=>absurd h (by omega)⟩
theorem PtsTo.next {l:List Pt} {k:Nat} (h:PtsTo l k) (H:PtOk (l.getD k pt0)) (I:(l.getD k pt0).dev.length=chans l) (J:¬∃j,j<k/\(l.getD j pt0).name.data.toList=(l.getD k pt0).name.data.toList):PtsTo l (k+1) :=
 ⟨fun j U=>by
  rcases (show j<k\/j=k by omega) with h4 | rfl
  ·exact h.rows j h4
  ·exact⟨H,I⟩,fun i j F O=>by
  rcases (show i<k\/i=k by omega) with h4 | rfl
  ·exact h.apart i j F h4
  ·exact fun e=>J ⟨j,F,by rw [e]⟩⟩
theorem qhE (ao:Option Addr) (b off R c:Nat) (l:List Pt) (w:World) (hR:l.length=R) (hl:R<=4611686018427387904) (hs:∀k,k<R->(l.getD k pt0).name.size<=4611686018427387904/\(l.getD k pt0).dev.length<=4611686018427387904) (hP:PCells w ao b off l) :
  Calls prog 53 #[.slice ao R c] w fun e w'=>qfd w (PtsOk l) 310 e w':=by
 by_cases h1:1<=R
 case neg =>
  have hi:(R:Int)<1:=by omega
  have HR:=qH hR;clear hP hR;go_enter func53,ntmps53;go_wp2;go_ret;exact⟨310,rfl,qag ⟨rfl,fun h=>by have:=h.r1;have:=HR.o;omega⟩,Below.refl _ _⟩
 have aR:¬(R:Int)<1:=by omega
 by_cases h2:R<=40
 case neg =>
  have hi:(40:Int)<R:=by omega
  have HR:=qH hR;clear hP hR;go_enter func53,ntmps53;go_wp2;go_ret;exact⟨310,rfl,qag ⟨rfl,fun h=>by have:=h.r2;have:=HR.o;omega⟩,Below.refl _ _⟩
 have aS:¬(40:Int)<R:=by omega
 have aK:=hP.addr (by omega);subst aK;have O:=qH (qA hP (qA hR hs));have aM:=@run_makeMap prog;have av:MapAt (w.alloc (.map #[] 0)) prog 9 w.heap.size 0 (.bool false) (qe1 l 0):=(MapAt.made w prog 9 (.bool false)).congr fun kl _=>qjQ l kl
 have aG:=qH av;have aD:=qH (show Below w.heap.size w (w.alloc (.map #[] 0)) from qB.alloc qN _);clear hP hR hs av;go_enter func53,ntmps53;go_wp2_with fail;clear aM
 go_loopw [17] (fun x17 W=>∃k:Nat,x17=.int .i64 k/\k<=R/\Hu (PtsTo l k)/\Hu (Below w.heap.size w W/\MapAt W prog 9 w.heap.size k (.bool false) (qe1 l k))) (fun x17 _=>R-(intOf x17).toNat)
 case atStart=>exact⟨0,rfl,qal _,qH (PtsTo.zero l),qH ⟨aD.o,aG.o⟩⟩
 case round =>
  obtain⟨k,rfl,hk,hJ,K⟩:=hrel
  by_cases ay:k<R
  ·have aT:(k:Int)<R:=by omega
   obtain⟨d0,⟨ra,rb,ro,rc,d1,hN⟩,d2,d3,d4⟩:=(O.o.1.below K.o.1).cell k (by have:=O.o.2.1;omega);obtain⟨_,⟨aN,aX,aY,aO,f1,_⟩,_⟩:=(O.o.1.below K.o.1).cell 0 (by have:=O.o.2.1;omega);rw [Nat.zero_mul,qbs] at f1;obtain⟨p,hp⟩:=qX (l.getD k pt0);obtain⟨n0,ai⟩:∃n,(l.getD 0 pt0).dev.length=n:=⟨_,rfl⟩;have Z:=O.o.2.2 k ay;rw [ai] at f1;rw [hp] at d0 d1 d2 d3 d4 hN Z;obtain⟨nm,dev,l0,l1,l2⟩:=p;simp only [] at d0 d1 d2 d3 d4 hN Z;obtain⟨n,hn⟩:=qX dev.length;rw [hn] at d1;have F:=qH (qA hp (qA ai (qA hn (qA Z hN))));have aA:b<wr.heap.size:=qac wr _ f1;obtain⟨J,ax,U⟩:=nw1 wr #[.string nm,.slice ra n rc,.int .i64 l0,.int .i64 l1,.int .i64 l2] 55;have aB:=qnG (.agg #[.string nm,.slice ra n rc,.int .i64 l0,.int .i64 l1,.int .i64 l2]) ⟨nm,dev,l0,l1,l2⟩;have aI:=qH (fun (W:World) (h:Below wr.heap.size wr W)=>aB W ⟨ra,rb,ro,rc,by rw [F.o.2.2.1],F.o.2.2.2.2.below h⟩ F.o.2.2.2.1.1 F.o.2.2.2.1.2);have aV:w.heap.size<wr.heap.size:=K.o.2.lt;have KM:=qH (qA U.o.1 (K.o.2.below U.o.1));have af:∀W,Below J.heap.size J W->W.cell? ⟨b,off+1,none⟩=some (.slice aN n0 aO):=fun W h=>(h.cell (p:=⟨b,off+1,none⟩) (qai aA U.o.1.size)).trans ((U.o.1.cell (p:=⟨b,off+1,none⟩) aA).trans f1)
   have aU:=(qG U.o.2).1;have c0:=rowC (B:=J.heap.size) U.o.2 0;have c1:=rowC (B:=J.heap.size) U.o.2 1;have c2:=rowC (B:=J.heap.size) U.o.2 2;have c3:=rowC (B:=J.heap.size) U.o.2 3;have c4:=rowC (B:=J.heap.size) U.o.2 4;have aQ:(0:Int)<R:=by omega
   have aP:0<R:=by omega
   clear aB hp ai hn Z hN;go_wp2_with fail;rw [<-ax];clear ax d0 d1 d2 d3 d4 f1;refine wp_region_held_drew (S:=fun W=>Below J.heap.size J W) (by kernel_rfl) qB.drew (fun hS0=>?_);refine hT 0 (h:=?_);refine hC 1 (aI.o _ ((U.o.1).drew)) (h:=?_);rintro e w6 ⟨bb,rfl,Y,ag⟩;have H:Below J.heap.size J w6:=qb4 ag;have K6:=qH (qA (K.o.1.trans ((KM.o.1.trans (H.mono KM.o.1.size)).mono K.o.1.size)) (qA (KM.o.2.below H) (zkeep H _ _ U.o.2)));refine⟨_,rfl,H,hN (h:=?_)⟩;cases bb with
   | false =>
    have aH:=qH (show ¬PtOk ⟨nm,dev,l0,l1,l2⟩ from fun h=>by have:=Y.2 h;cases this);clear Y ag;refine hT 2 (h:=hT 3 (h:=hU 4 (h:=hU 5 (h:=hU 6 (h:=hU 7 (h:=hU 8 (h:=hU 9 (h:=hU 10 (h:=hU 11 (h:=hU 12 (h:=hT 13 (h:=hT 14 (h:=hU 15 (h:=hU 16 (h:=hU 17 (h:=hU 18 (h:=hT 19 (h:=?_))))))))))))))))));refine wpAnyH_done (by kernel_rfl) ?_ _;clear H hS0 c0 c1 c2 c3 c4 af;go_wp2;go_ret;exact⟨310,rfl,qag ⟨rfl,fun h=>aH.o (by rw [<-F.o.1];exact (h.rows k (by have:=O.o.2.1;omega)).1)⟩,K6.o.1⟩
   | true =>
    have aJ:=qH (Y.1 rfl);clear Y ag
    by_cases V:n=n0
    case neg =>
     have hne:((n:Int) != (n0:Int))=true:=by rw [bne_iff_ne];omega
     have ae:=qH V;clear V;refine hT 2 (h:=hT 3 (h:=hT 4 (h:=hT 5 (h:=hT 6 (h:=hT 7 (h:=hT 8 (h:=hT 9 (h:=hT 10 (h:=hT 11 (h:=hT 12 (h:=hT 13 (h:=hT 14 (h:=hU 15 (h:=hU 16 (h:=hU 17 (h:=hU 18 (h:=hT 19 (h:=?_))))))))))))))))));refine wpAnyH_done (by kernel_rfl) ?_ _;clear H hS0 c0 c1 c2 c3 c4 af;go_wp2;go_ret;exact⟨310,rfl,qag ⟨rfl,fun h=>ae.o (by
      have:=(h.rows k (by have:=O.o.2.1;omega)).2;rw [F.o.1] at this;unfold chans at this;rw [F.o.2.1] at this;exact F.o.2.2.1.symm.trans this)⟩,K6.o.1⟩
    have hne:((n:Int) != (n0:Int))=false:=by simp [V]
    have ae:=qH V;clear V;have az:Maps.Keyed prog 9:=Maps.string_keyed underlying9;have aC:Tryz.prog.underlying 205=some (.map 9 4):=underlying205;have aa:keyOf prog 9 (.string nm)=some (.string nm.data.toList):=WideMaps.keyOf_string_mk underlying9 (by have:=F.o.2.2.2.1.1;unfold maxLen;omega);obtain⟨seen,I⟩:∃s,decide (∃j,j<k/\(l.getD j pt0).name.data.toList=nm.data.toList)=s:=⟨_,rfl⟩;have ah:∀W,Below J.heap.size J W->(Instr.lookup 205 (.map (some w.heap.size)) (.string nm) false).run prog W=.ok (.bool seen) W:=fun W h=>by
     rw [<-I];exact (KM.o.2.below h).look az aC (by kernel_rfl) aa
    have ak:=qH I;clear I;refine hT 2 (h:=hT 3 (h:=hT 4 (h:=hT 5 (h:=hT 6 (h:=hT 7 (h:=hT 8 (h:=hT 9 (h:=hT 10 (h:=hT 11 (h:=hT 12 (h:=hT 13 (h:=hT 14 (h:=hT 15 (h:=hT 16 (h:=hT 17 (h:=hT 18 (h:=hT 19 (h:=?_))))))))))))))))));refine wpAnyH_done (by kernel_rfl) ?_ _;clear H hS0 c0 c1 c2 c3 c4 af ah;cases seen with
    | true =>
     go_wp2;go_ret;exact⟨310,rfl,qag ⟨rfl,fun h=>by
      obtain⟨j,hj,e⟩:=of_decide_eq_true ak.o;refine h.apart k j hj (by have:=O.o.2.1;omega) ?_;rw [F.o.1];exact str_ext e⟩,K6.o.1⟩
    | false =>
     have au:PtsTo l (k+1):=by
      refine hJ.o.next (by rw [F.o.1];exact aJ.o) ?_ (by rw [F.o.1];exact of_decide_eq_false ak.o)
      rw [F.o.1];unfold chans;rw [F.o.2.1];exact F.o.2.2.1.trans ae.o
     have aF:=qH au;obtain⟨W7,aW,f7,g7⟩:=K6.o.2.1.store az aC (by unfold maxLen;omega) aa (.bool true);have aj:l.getD k pt0=⟨nm,dev,l0,l1,l2⟩:=F.o.1;have m7:=f7 (qe1 l (k+1)) (by have:=qlk l k;rw [aj] at this;exact this) (by have:=qiR l k;rw [aj] at this;exact this);have K7:=qH (qA (qeh K6.o.1 g7 qN) m7);have q0:=qC w6 _ 0 _ _ _ K6.o.2.2;clear au aj m7 f7 g7;go_wp2;go_roundw
     case rel=>exact⟨k+1,by go_num,ay,aF,K7⟩
     case measure=>simp [intOf];omega
  ·obtain rfl:k=R:=by omega
   go_wp2;go_ret;exact⟨0,rfl,qan ⟨rfl,⟨by have:=O.o.2.1;omega,by have:=O.o.2.1;omega,fun j hj=>hJ.o.rows j (by have:=O.o.2.1;omega),fun i j aL hi=>hJ.o.apart i j aL (by have:=O.o.2.1;omega)⟩⟩,K.o.1⟩
theorem chan_any (U:Option Addr) (b off R c:Nat) (l:List Pt) (w:World) (Y:l.length=R) (hl:R<=4611686018427387904) (hs:∀k,k<R->(l.getD k pt0).name.size<=4611686018427387904/\(l.getD k pt0).dev.length<=4611686018427387904) (V:PCells w U b off l) :
  Calls prog 141 #[.slice U R c] w fun e w'=>((PtsOk l/\e=.returned (.tuple #[.int .i64 (chans l:Nat),.int .i64 0]))\/(¬PtsOk l/\e=.returned (.tuple #[.int .i64 0,.int .i64 310])))/\Below w.heap.size w w':=by
 have HC:=qH (qhE U b off R c l w Y hl hs V);have H:=qH (qA V Y);clear V Y hs;go_enter func141,ntmps141;go_wp2_with fail;refine HC.o.mono ?_;rintro e w2 ⟨cc,rfl,aa,O⟩;have HB:=qH O;rcases aa with ⟨rfl,F⟩ | ⟨rfl,I⟩
 ·have h1:1<=R:=by have:=F.r1;have:=H.o.2;omega
  have Z:=H.o.1.addr (by have:=H.o.2;omega);subst Z;obtain⟨_,⟨ra,rb,ro,rc,f1,_⟩,_⟩:=(H.o.1.below O).cell 0 (by have:=H.o.2;omega);rw [Nat.zero_mul,qbs] at f1;obtain⟨n,hn⟩:=qX ((l.getD 0 pt0).dev.length);rw [hn] at f1;have af:(0:Int)<R:=by omega
  have ae:0<R:=by omega
  have J:=qH (qA F (show chans l=n from hn));clear F hn O;go_wp2_with fail
  go_ret2
  exact⟨qan ⟨J.o.1,by rw [J.o.2];rfl⟩,HB.o⟩
 ·have J:=qH I;clear I O;go_wp2_with fail
  go_ret2
  exact⟨qag ⟨J.o,rfl⟩,HB.o⟩
def qj7 (I:FuncId) (H:Array Value) (w:World) (n:Nat) (P:Nat->FT->Prop) (F:Nat->Int->Prop):Prop :=
 ∀i,i<n->∀W,Below w.heap.size w W->Calls prog I (#[.int .i64 (i:Int)]++H) W fun e J=>Below W.heap.size W J/\((∃x y,e=.returned (.agg #[.string x,.string y])/\P i (x,y))\/∃c,e=thrown c/\F i c)
theorem qen (fc:FuncId) (H:Array Value) (n:Nat) (hn:n<=1000) (P:Nat->FT->Prop) (F:Nat->Int->Prop) (w:World) (ag:∀a W,(callFunc fc (#[a]++H)).run prog W=.ok (.enter fc (#[a]++H)) W) (hf:qj7 fc H w n P F) :
  Calls prog 58 #[.int .i64 (n:Int),.func (.func fc) #[] H] w fun e w'=>Below w.heap.size w w' /\
   ((∃(l:List FT) (g:Nat),l.length=n/\(∀i,i<n->P i (l.getD i fd0))/\e=.returned (.slice (some ⟨g,0,none⟩) n n)/\FCells w' (some ⟨g,0,none⟩) g 0 l/\w.heap.size<=g)\/∃i c,i<n/\e=thrown c/\F i c):=by
 have af:=qhW n (by omega) w;obtain⟨W5,J⟩:=qY (w.alloc (.cells (madeCells #[.string ⟨#[]⟩,.string ⟨#[]⟩] (n*2)) 44));rw [<-J] at af;have ae:FRow W5 w.heap.size n []:=J▸FRow.made w n;have aa:Below w.heap.size w W5:=J▸qB.alloc qN _;have H0:=qH (qA ae (qA aa hf));clear ae aa hf J;go_enter func58,ntmps58;go_wp2_with fail
 go_loopw [10] (fun x10 W=>∃i:Nat,x10=.int .i64 i/\i<=n/\Hu (∃l:List FT,l.length=i/\(∀j,j<i->P j (l.getD j fd0))/\FRow W w.heap.size n l/\Below w.heap.size w W)) (fun x10 _=>n-(intOf x10).toNat)
 case atStart=>exact⟨0,rfl,qal _,qH ⟨[],rfl,fun j hj=>absurd hj (by omega),H0.o.1,H0.o.2.1⟩⟩
 case round =>
  obtain⟨i,rfl,ai,hI⟩:=hrel;obtain⟨l,hl,hP,U,Z⟩:=hI.o
  by_cases hi:i<n
  ·subst hl;have ah:(l.length:Int)<n:=by omega
   have HC:=qH (H0.o.2.2 l.length hi _ Z);have Y:=qH (qA hP (qA U Z));clear hI hP U Z;go_wp2_with fail;refine HC.o.mono ?_;rintro e w2 ⟨I,h⟩;rcases h with ⟨x,y,rfl,hp⟩ | ⟨c,rfl,U⟩
   ·have V:=Y.o.2.1.below I;obtain⟨⟨q0,q1⟩,qf⟩:=V.at hi;have aj:=qf (l.length*2);have ak:=qf (l.length*2+1);have O:=qH (qA (V.set hi (x,y)) (qA (((Y.o.2.2.trans (I.mono Y.o.2.2.size)).setCell (p:=⟨w.heap.size,l.length*2,none⟩) qN (.string x)).setCell (p:=⟨w.heap.size,l.length*2+1,none⟩) qN (.string y)) hp));clear V qf I hp;go_wp2;go_roundw
    case rel =>
     refine⟨l.length+1,by go_num,hi,qH ⟨l++[(x,y)],by simp,fun j hj=>?_,O.o.1,O.o.2.1⟩⟩;rcases qaQ j l.length with hj2 | hj2
     ·rw [qaa,qas hj2,<-qaa];exact Y.o.1 j hj2
     ·have:j=l.length:=by omega
      subst this;rw [qaa,qaq qN,qaG];exact O.o.2.2
    case measure=>simp [intOf];omega
   ·have O:=qH (qA (Y.o.2.2.trans (I.mono Y.o.2.2.size)) U);clear I U;unfold thrown;go_wp2_with fail;exact⟨rfl,O.o.1,qag ⟨_,c,hi,rfl,O.o.2⟩⟩
  ·obtain rfl:i=n:=by omega
   have O:=qH (qA hl (qA hP (qA (U.cells hl) Z)));clear hI hl hP U Z;go_wp2;go_ret;obtain⟨h1,h2,h3,h4⟩:=O.o;exact⟨h4,qan ⟨l,_,h1,h2,rfl,h3,qae _⟩⟩
def VRow (W:World) (g n:Nat) (z:Value) (e:TypeId) (F:List Value):Prop:=W.heap[g]? = some (.cells (F++List.replicate (n-F.length) z).toArray e (0,0))/\F.length<=n
theorem VRow.below {W W':World} {g n:Nat} {z:Value} {e:TypeId} {F:List Value} (h:VRow W g n z e F) (H:Below W.heap.size W W'):VRow W' g n z e F :=
 ⟨(H.block _ (qG h.1).1).trans h.1,h.2⟩
theorem VRow.at {W:World} {g n:Nat} {z:Value} {e:TypeId} {F:List Value} (h:VRow W g n z e F) (H:F.length<n):W.cell? ⟨g,F.length,none⟩=some z/\∀j,W.frozen? ⟨g,j,none⟩=false:=by
 refine⟨(qC _ _ _ _ _ _ h.1).trans ((qau ..).trans ?_),fun j=>qF _ _ _ _ _ h.1⟩;rw [qaq qN,qaG,qbc,if_pos (by omega)]
theorem VRow.set {W:World} {g n:Nat} {z:Value} {e:TypeId} {F:List Value} (h:VRow W g n z e F) (I:F.length<n) (v:Value):VRow (W.setCell ⟨g,F.length,none⟩ v) g n z e (F++[v]):=by
 refine⟨?_,by rw [qaf,qaz];omega⟩;rw [heap_setCell_same _ g F.length _ _ _ h.1]
 congr 3
 obtain⟨m,H⟩:∃m,n-F.length=m+1:=⟨n-F.length-1,by omega⟩;rw [qaA,H,qbn,qaf,qaz,show n-(F.length+1)=m by omega,qa8 _ _ qN,qaG,qbk,qaI]
 rfl
theorem VRow.made (W:World) (n:Nat) (z:Value) (e:TypeId):VRow (W.alloc (.cells (Array.replicate n z) e)) W.heap.size n z e []:=by
 refine⟨?_,qal _⟩;rw [qM _ _ _ rfl,qbq,List.length_nil,Nat.sub_zero,qbA]
theorem VRow.cells {W:World} {g n:Nat} {z:Value} {e:TypeId} {F:List Value} (h:VRow W g n z e F) (J:F.length=n):VCells W (some ⟨g,0,none⟩) g 0 F:=by
 have H:=h.1;rw [J,qaG,List.replicate_zero,List.append_nil] at H;refine⟨fun _=>rfl,fun k I=>?_⟩;rw [qaM];refine (qC _ _ _ _ _ _ H).trans ((qau ..).trans ?_);rw [qaa,qad I];rfl
theorem VRow.made' (W:World) (n:Nat) (z:Value) (e:TypeId):VRow (W.alloc (.cells (madeCells #[z] n) e)) W.heap.size n z e []:=by
 have:madeCells #[z] n=Array.replicate n z:=by
  apply Array.ext
  ·simp [madeCells]
  ·intro i F H;simp [madeCells,Nat.mod_one]
 rw [this];exact VRow.made W n z e
def RVals (W:World) (H:List Value) (t:Tbl):Prop:=H.length=t.length/\∀k,k<t.length->∃(F:Option Addr) (rb I rc:Nat),H.getD k undef=.slice F (t.getD k []).length rc/\FCells W F rb I (t.getD k [])
theorem RVals.below {W W':World} {F:List Value} {t:Tbl} (h:RVals W F t) (J:Below W.heap.size W W'):RVals W' F t :=
 ⟨h.1,fun k O=>by
  obtain⟨ra,rb,ro,rc,H,I⟩:=h.2 k O;exact⟨ra,rb,ro,rc,H,I.below J⟩⟩
theorem RVals.tcells {W:World} {F:Option Addr} {b off:Nat} {J:List Value} {t:Tbl} (h:RVals W J t) (I:VCells W F b off J):TCells W F b off t :=
 ⟨fun O=>I.addr (by rw [h.1];exact O),fun k H=>by
  obtain⟨ra,rb,ro,rc,U,V⟩:=h.2 k H;exact⟨ra,rb,ro,rc,(I.cell k (by rw [h.1];exact H)).trans (by rw [U]),V⟩⟩
theorem RVals.append {W:World} {H F:List Value} {t t2:Tbl} (h:RVals W H t) (O:RVals W F t2):RVals W (H++F) (t++t2):=by
 refine⟨by rw [qaf,qaf,h.1,O.1],fun k U=>?_⟩;rw [qaf] at U
 by_cases e:k<t.length
 ·have I:(H++F).getD k undef=H.getD k undef:=by rw [qaa,qas (by rw [h.1];exact e),<-qaa]
  have J:(t++t2).getD k []=t.getD k []:=by rw [qaa,qas e,<-qaa]
  rw [I,J];exact h.2 k e
 ·have I:(H++F).getD k undef=F.getD (k-t.length) undef:=by rw [qaa,qaq (by rw [h.1];omega),h.1,<-qaa]
  have J:(t++t2).getD k []=t2.getD (k-t.length) []:=by rw [qaa,qaq (by omega),<-qaa]
  rw [I,J];exact O.2 _ (by omega)
theorem RVals.one {W:World} {F:Option Addr} {rb H m rc:Nat} {l:List FT} (J:l.length=m) (h:FCells W F rb H l):RVals W [.slice F m rc] [l] :=
 ⟨rfl,fun k I=>by
  obtain rfl:k=0:=by simp at I;omega
  exact⟨F,rb,H,rc,by rw [show ([l]:Tbl).getD 0 []=l from rfl,J];rfl,h⟩⟩
theorem FCells.kept {W W':World} {F:Option Addr} {b off:Nat} {l:List FT} (h:FCells W F b off l) (I:∀a s,W.cell? a=some (.string s)->W'.cell? a=some (.string s)):FCells W' F b off l :=
 ⟨h.addr,fun k H=>⟨I _ _ (h.cell k H).1,I _ _ (h.cell k H).2⟩⟩
theorem RVals.kept {W W':World} {F:List Value} {t:Tbl} (h:RVals W F t) (O:∀a s,W.cell? a=some (.string s)->W'.cell? a=some (.string s)):RVals W' F t :=
 ⟨h.1,fun k I=>by
  obtain⟨a,b,o,c,H,J⟩:=h.2 k I;exact⟨a,b,o,c,H,J.kept O⟩⟩
theorem qkI {W:World} {p:Addr} {v u:Value} (F:W.cell? p=some v) (H:∀s,v≠.string s):∀a s,W.cell? a=some (.string s)->(W.setCell p u).cell? a=some (.string s):=fun a s h=>by
 have hne:p≠a:=by rintro rfl;rw [F] at h;exact H s (qah h)
 rw [World.cell?_setCell_other (h:=hne)];exact h
def qlK (J:FuncId) (H:Array Value) (w:World) (n:Nat) (P:Nat->List FT->Prop) (F:Nat->Int->Prop):Prop :=
 ∀i,i<n->∀W,Below w.heap.size w W->Calls prog J (#[.int .i64 (i:Int)]++H) W fun e I=>Below W.heap.size W I/\((∃(l:List FT) (a:Option Addr) (g m c:Nat),e=.returned (.slice a m c)/\l.length=m/\FCells I a g 0 l/\P i l)\/∃c,e=thrown c/\F i c)
def RowsTo (W:World) (g n:Nat) (P:Nat->List FT->Prop) (i:Nat) (e:TypeId):Prop:=∃(F:List Value) (t:Tbl),F.length=i/\VRow W g n (.slice none 0 0) e F/\RVals W F t/\∀j,j<i->P j (t.getD j [])
theorem qgz (fc:FuncId) (H:Array Value) (n:Nat) (hn:n<=1000) (P:Nat->List FT->Prop) (F:Nat->Int->Prop) (w:World) (ah:∀a W,(callFunc fc (#[a]++H)).run prog W=.ok (.enter fc (#[a]++H)) W) (hf:qlK fc H w n P F) :
  Calls prog 55 #[.int .i64 (n:Int),.func (.func fc) #[] H] w fun e w'=>Below w.heap.size w w' /\
   ((∃(t:Tbl) (g:Nat),t.length=n/\(∀i,i<n->P i (t.getD i []))/\e=.returned (.slice (some ⟨g,0,none⟩) n n)/\TCells w' (some ⟨g,0,none⟩) g 0 t/\w.heap.size<=g)\/∃i c,i<n/\e=thrown c/\F i c):=by
 have ag:=run_make_row' (P:=prog) 114 35 (.slice none 0 0) 24 underlying114 infoFs rfl .i64 .i64 n (by omega) (by omega) w;obtain⟨W5,O⟩:=qY (w.alloc (.cells (madeCells #[.slice none 0 0] n) 35));rw [<-O] at ag;have ae:VRow W5 w.heap.size n (.slice none 0 0) 35 []:=O▸VRow.made' w n _ _;have aa:Below w.heap.size w W5:=O▸qB.alloc qN _;have H0:=qH (qA ae (qA aa hf));clear ae aa hf O;go_enter func55,ntmps55;go_wp2_with fail
 go_loopw [10] (fun x10 W=>∃i:Nat,x10=.int .i64 i/\i<=n/\Hu (RowsTo W w.heap.size n P i 35/\Below w.heap.size w W)) (fun x10 _=>n-(intOf x10).toNat)
 case atStart=>exact⟨0,rfl,qal _,qH ⟨⟨[],[],rfl,H0.o.1,⟨rfl,fun k hk=>absurd hk (qbR _)⟩,fun j hj=>absurd hj (by omega)⟩,H0.o.2.1⟩⟩
 case round =>
  obtain⟨i,rfl,aj,hI⟩:=hrel;obtain⟨⟨vs,t,hl,hV,hR,hP⟩,Y⟩:=hI.o
  by_cases hi:i<n
  ·subst hl;have ai:(vs.length:Int)<n:=by omega
   have HC:=qH (H0.o.2.2 vs.length hi _ Y);have U:=qH (qA hP (qA hV (qA hR Y)));clear hI hP hV hR Y;go_wp2_with fail;refine HC.o.mono ?_;rintro e w2 ⟨I,h⟩;rcases h with ⟨l,a,g,m,c,rfl,hm,Z,hp⟩ | ⟨c,rfl,Z⟩
   ·have V:=U.o.2.1.below I;obtain⟨q0,qf⟩:=V.at hi;have ak:=qf vs.length;have J:=qH (qA (V.set hi (.slice a m c)) (qA ((U.o.2.2.2.trans (I.mono U.o.2.2.2.size)).setCell (p:=⟨w.heap.size,vs.length,none⟩) qN (.slice a m c)) (qA (((U.o.2.2.1.below I).append (RVals.one hm Z (rc:=c))).kept (qkI (u:=.slice a m c) q0 (fun s h=>by cases h))) hp)));clear V qf I hp Z;go_wp2;go_roundw
    case rel =>
     refine⟨vs.length+1,by go_num,hi,qH ⟨⟨_,_,by simp,J.o.1,J.o.2.2.1,fun j hj=>?_⟩,J.o.2.1⟩⟩;have af:=U.o.2.2.1.1;rcases qaQ j t.length with hj2 | hj2
     ·rw [qaa,qas hj2,<-qaa];exact U.o.1 j (by omega)
     ·have:j=t.length:=by omega
      subst this;rw [qaa,qaq qN,qaG,<-af];exact J.o.2.2.2
    case measure=>simp [intOf];omega
   ·have J:=qH (qA (U.o.2.2.2.trans (I.mono U.o.2.2.2.size)) Z);clear I Z;unfold thrown;go_wp2_with fail;exact⟨rfl,J.o.1,qag ⟨_,c,hi,rfl,J.o.2⟩⟩
  ·obtain rfl:i=n:=by omega
   have J:=qH (qA (hR.1.symm.trans hl) (qA hP (qA (hR.tcells (hV.cells hl)) Y)));clear hI hl hP hV hR Y;go_wp2;go_ret;obtain⟨h1,h2,h3,h4⟩:=J.o;exact⟨h4,qan ⟨t,_,h1,h2,rfl,h3,qae _⟩⟩
def FOwn (W:World) (B:Nat) (v:Value) (l:List FT):Prop:=Rws W B 44 2 v l.length (fflat l)
theorem FOwn.below {W W':World} {B:Nat} {v:Value} {l:List FT} (h:FOwn W B v l) (F:Below W.heap.size W W'):FOwn W' B v l:=Rws.below h F
theorem FOwn.cells {W:World} {B:Nat} {v:Value} {l:List FT} {n:Nat} (h:FOwn W B v l) (O:l.length=n):∃(F:Option Addr) (g cap:Nat),v=.slice F n cap/\FCells W F g 0 l/\n<=cap:=by
 obtain⟨F,g,cap,H,J,I⟩:=qd7 h rfl;rw [O] at H I;exact⟨F,g,cap,H,J,I⟩
def ways (a b c:Value):Lit->Value
 | .int .i64 1=>a
 | .int .i64 2=>b
 | .int .i64 3=>c
 | _=>.nilFunc
theorem ways_a (a:Value):∀x,x≠Lit.int .i64 1->ways a .nilFunc .nilFunc x=.nilFunc:=fun x h=>by
 unfold ways;split
 ·exact absurd rfl h
 ·rfl
 ·rfl
 ·rfl
theorem ways_b (a b:Value):∀x,x≠Lit.int .i64 2->ways a b .nilFunc x=ways a .nilFunc .nilFunc x:=fun x h=>by
 unfold ways;split
 ·rfl
 ·exact absurd rfl h
 ·rfl
 ·rfl
theorem ways_c (a b c:Value):∀x,x≠Lit.int .i64 3->ways a b c x=ways a b .nilFunc x:=fun x h=>by
 unfold ways;split
 ·rfl
 ·rfl
 ·exact absurd rfl h
 ·rfl
theorem qfI (kind:Int) (k:Nat) (hk:qcA kind k) (ao:Option Addr) (b off n c:Nat) (d:List Int) (w:World) (hn:d.length=n) (h1:1<=n) (h4:n<=4) (h3:k=3->n<=3) (hN:NCells w ao b off d) (hV:qcJ d) (hT:HasT w) :
  Calls prog 57 #[.int .i64 kind,.slice ao n c] w fun e w'=>∃v,e=.returned v/\FOwn w' w.heap.size v ((termL k d).map ftxt)/\Below w.heap.size w w':=by
 have aQ:=hN.addr (by omega);subst aQ;have HX:=qH (qA hk (qA hn (qA h3 (qA hN (qA hV hT)))));have aR:=qhW n (by omega);have aD:=@run_makeMap prog;have aC:=@hmf_ prog;obtain⟨W1,af⟩:∃W,W=(w.alloc (.cells (madeCells #[.string ⟨#[]⟩,.string ⟨#[]⟩] (n*2)) 44)).alloc (.cells #[.slice (some ⟨w.heap.size,0,none⟩) n n] 35):=⟨_,rfl⟩;have F:Below w.heap.size w W1:=af▸qbU (qbU qB qN) qN;have aJ:FRow W1 w.heap.size n []:=by rw [af];exact (FRow.made w n).below (qbU qB qN)
 have aK:W1.heap[w.heap.size+1]? = some (.cells #[.slice (some ⟨w.heap.size,0,none⟩) n n] 35 (0,0)):=by rw [af];exact qM _ _ _ (by simp)
 have K1:=qH (qA F (qA aJ aK));clear hk hn hN hV hT F aJ aK h3;go_enter func57,ntmps57;go_wp2_with fail;rw [<-af]
 go_loopw [16] (fun x16 W=>∃k:Nat,x16=.int .i64 k/\k<=n/\Hu (Below w.heap.size w W/\FRow W w.heap.size n (told k (dq d))/\W.heap[w.heap.size+1]? = some (.cells #[.slice (some ⟨w.heap.size,0,none⟩) n n] 35 (0,0)))) (fun x16 _=>n-(intOf x16).toNat)
 case atStart=>exact⟨0,rfl,qal _,K1⟩
 case round =>
  clear aR af K1;have aN:=qH aD;have aM:=qH aC;clear aD aC;obtain⟨j,rfl,hj,K⟩:=hrel
  by_cases aB:j<n
  ·have bf:(j:Int)<n:=by omega
   have d0:=(HX.o.2.2.2.1.below K.o.1).cell j (by have:=HX.o.2.1;omega);obtain⟨x,hx⟩:=qX (d.getD j 0);rw [hx] at d0;have aT:=HX.o.2.2.2.2.1.at j;rw [hx] at aT;obtain⟨t1,t2,ht⟩:=qcd (dq d j);have aa:=fun (W:World) (h:Below w.heap.size w W)=>of_int x 10000 (by decide) (by omega) (by decide) W (HX.o.2.2.2.2.2.below h)
   have aH:(x:Rat) / ((10000:Int):Rat)=dq d j:=by unfold dq;rw [hx];rfl
   rw [aH,ht] at aa;have HO:=qH aa;have aG:=qH ht;have bg:=(qG K.o.2.2).1;have q5:=rowG (g0:=w.heap.size) K.o.2.2 0;have au:(told j (dq d)).length=j:=qb0 _ _;have HL:=qH au;clear hx ht aH aa au;go_wp2_with fail;refine wp_region_held_drew (S:=fun W=>wr.grownBy W (some w.heap.size)) (by kernel_rfl) (keepB qB.drew) (fun hS0=>?_);refine hT 0 (h:=hT 1 (h:=hT 2 (h:=?_)));refine hC 3 (HO.o _ (K.o.1.drew)) (h:=?_);rintro e w1 ⟨rfl,F⟩;have az:=qhw (g:=w.heap.size) F;refine⟨_,rfl,az,hN (h:=?_)⟩;refine hT 4 (h:=hT 5 (h:=?_));refine hC 6 (qcE t1 t2 w1) (h:=?_);rintro e O ⟨rfl,U⟩;have aA:=qck az U;have Z:Below wr.heap.size wr O:=(qb4 F).trans (U.mono (qb4 F).size);have K2:=qH (qA (K.o.1.trans (Z.mono K.o.1.size)) (qA (K.o.2.1.below Z) (zkeep Z _ _ K.o.2.2)));refine⟨_,rfl,aA,hN (h:=?_)⟩;obtain⟨⟨z0,z1⟩,zf⟩:=K2.o.2.1.at (by rw [HL.o];exact aB);rw [HL.o] at z0 z1;have aU:=zf (j*2);have aV:=zf (j*2+1);have ag:=K2.o.2.1.set (by rw [HL.o];exact aB) (t1,t2);refine hT 7 (h:=?_);refine hSg 8 (h:=⟨qbZ (qbZ aA (qbW _ _ _ _)) (qbW _ _ _ _),?_⟩);refine wpAnyH_done (by kernel_rfl) ?_ _;rw [HL.o,show (t1,t2)=ftxt (dq d j) from aG.o.symm,<-qhf] at ag;have K3:Hu (Below w.heap.size w ((O.setCell ⟨w.heap.size,j*2,none⟩ (.string t1)).setCell ⟨w.heap.size,j*2+1,none⟩ (.string t2))/\FRow ((O.setCell ⟨w.heap.size,j*2,none⟩ (.string t1)).setCell ⟨w.heap.size,j*2+1,none⟩ (.string t2)) w.heap.size n (told (j+1) (dq d))/\((O.setCell ⟨w.heap.size,j*2,none⟩ (.string t1)).setCell ⟨w.heap.size,j*2+1,none⟩ (.string t2)).heap[w.heap.size+1]? = some (.cells #[.slice (some ⟨w.heap.size,0,none⟩) n n] 35 (0,0))) :=
    qH ⟨(K2.o.1.setCell (by exact qae _) _).setCell (by exact qae _) _,by have:=ag;rw [aG.o] at this;exact this,(qW _ _ _ _ (show w.heap.size+1≠w.heap.size by omega)).trans ((qW _ _ _ _ (show w.heap.size+1≠w.heap.size by omega)).trans K2.o.2.2)⟩
   obtain⟨W3,ai⟩:∃W,W=(O.setCell ⟨w.heap.size,j*2,none⟩ (.string t1)).setCell ⟨w.heap.size,j*2+1,none⟩ (.string t2):=⟨_,rfl⟩;rw [<-ai] at K3 ⊢;clear ai ag z0 z1 zf aU aV Z aA az U F q5 d0;go_wp2;go_roundw
   case rel=>exact⟨j+1,by go_num,aB,K3⟩
   case measure=>simp [intOf];omega
  ·obtain rfl:j=n:=by omega
   have hP:HasT wr:=HX.o.2.2.2.2.2.below K.o.1;obtain⟨t1,t2,ht⟩:=qcd 1;have aa:=fun (W:World) (h:Below w.heap.size w W)=>of_int 1 1 (by decide) (by decide) (by decide) W (HX.o.2.2.2.2.2.below h)
   rw [show ((1:Int):Rat) / ((1:Int):Rat)=1 by decide +kernel,ht] at aa;have HO:=qH aa;have Ht:=qH ht;clear hP ht aa;go_wp2_with fail;refine (HO.o wr K.o.1).mono ?_;rintro e w1 ⟨rfl,F⟩;go_wp2_with fail;refine (qcE t1 t2 w1).mono ?_;rintro e O ⟨rfl,U⟩;obtain⟨W3,ai,N3⟩:=nw2 O #[.string t1,.string t2] 44 #[.string t1,.string t2] 44;have Z:Below wr.heap.size wr W3:=F.trans ((U.trans (N3.o.1.mono U.size)).mono F.size);have K3:=qH (qA (K.o.1.trans (Z.mono K.o.1.size)) (qA (K.o.2.1.below Z) (qA (zkeep Z _ _ K.o.2.2) N3.o.2)));have aY:w.heap.size<=O.heap.size:=qaj K.o.1.size (qaj F.size U.size);have aO:=qC W3 _ 0 _ _ _ K3.o.2.2.1;have aW:=qC O _ 0 _ _ _ (zkeep U _ _ (zkeep F _ _ K.o.2.2));have bi:w.heap.size+1<O.heap.size:=(qG (zkeep U _ _ (zkeep F _ _ K.o.2.2))).1;have aX:w.heap.size+1<O.heap.size+1:=by omega
   obtain⟨v',H,hr,aF,V⟩:=qfB (m:=j) (c:=j) 35 (qnz K3.o.2.2.2.2 (B:=w.heap.size) (by omega)) K3.o.1.size (K3.o.2.1.cells (qb0 _ _)) (qb0 _ _) (by omega) (by omega);have aZ:W3.heap.size<=H.heap.size:=by rcases V with ⟨_,h⟩ | ⟨_,h⟩ <;> exact h.size
   obtain⟨h5,_⟩:=qcP K3.o.2.2.1 (by intro e;have:O.heap.size+1=w.heap.size+1:=qah e;omega) V;obtain⟨h8,_⟩:=qcP K3.o.2.2.2.1 (by intro e;have:O.heap.size+1=O.heap.size:=qah e;omega) V;obtain⟨hg,aI⟩:=qcP K3.o.2.1.1 (by intro e;have:O.heap.size+1=w.heap.size:=qah e;omega) V;have ax:=qdZ (B:=w.heap.size) K3.o.1 (fun k hk=>by have:O.heap.size+1=k:=qah hk;omega) K3.o.1.size V;have aL:FOwn H w.heap.size v' ((lin d).map ftxt):=by
    unfold FOwn;rw [qav,qmK,HX.o.2.1,lin_told,HX.o.2.1,Ht.o,show j+1=1+j by omega];exact aF
   have K4:=qH (qA ax (qA (show FRow H w.heap.size j (told j (dq d)) from ⟨hg,K3.o.2.1.2⟩) (qA h5 (qA h8 (qA aL aI)))));obtain⟨av,cv,rfl⟩:=aF.shape;clear F U Z N3 aF V h5 h8 hg aI ax aL aO;rw [ai] at hr;have aD:=aN.o;have aC:=aM.o;have bu:w.heap.size+1<H.heap.size:=(qG K4.o.2.2.1).1;have bv:O.heap.size<H.heap.size:=(qG K4.o.2.2.2.1).1;obtain⟨W5,ae⟩:∃W,W=(H.alloc (.cells #[.slice av (1+j) cv] 35)).alloc (.map #[] 0):=⟨_,rfl⟩;have J:Below H.heap.size H W5:=ae▸(qB.alloc qN _).alloc (by simp) _;have h9:W5.heap[H.heap.size]? = some (.cells #[.slice av (1+j) cv] 35 (0,0)):=by rw [ae,qL _ _ _ (by simp only [qab];omega)];exact qM _ _ _ rfl
   have ah:MapAt W5 prog 3 (H.heap.size+1) 0 (.nilFunc) (fun _=>.nilFunc):=by
    have:=MapAt.made (H.alloc (.cells #[.slice av (1+j) cv] 35)) prog 3 .nilFunc;rw [qab] at this;rw [ae];exact this
   have aj:Maps.Keyed prog 3:=Maps.int_keyed underlying3;have ak:Tryz.prog.underlying 207=some (.map 3 161):=underlying207;obtain⟨W6,aS,f6,g6⟩:=ah.store aj ak (by decide) (Maps.keyOf_int_mk (q:=.i64) (a:=1) underlying3 (by decide)) (.func (.func 125) #[] #[.pointer (some ⟨H.heap.size,0,none⟩)]);have m6:=f6 (ways (.func (.func 125) #[] #[.pointer (some ⟨H.heap.size,0,none⟩)]) .nilFunc .nilFunc) rfl (ways_a _);obtain⟨W7,bn,f7,g7⟩:=m6.store aj ak (by decide) (Maps.keyOf_int_mk (q:=.i64) (a:=2) underlying3 (by decide)) (.func (.func 126) #[] #[.pointer (some ⟨w.heap.size+1,0,none⟩),.pointer (some ⟨H.heap.size,0,none⟩)]);have m7:=f7 (ways (.func (.func 125) #[] #[.pointer (some ⟨H.heap.size,0,none⟩)]) (.func (.func 126) #[] #[.pointer (some ⟨w.heap.size+1,0,none⟩),.pointer (some ⟨H.heap.size,0,none⟩)]) .nilFunc) rfl (ways_b _ _);obtain⟨Y,bq,f8,g8⟩:=m7.store aj ak (by decide) (Maps.keyOf_int_mk (q:=.i64) (a:=3) underlying3 (by decide)) (.func (.func 127) #[] #[.pointer (some ⟨O.heap.size,0,none⟩),.pointer (some ⟨w.heap.size+1,0,none⟩)]);have m8:=f8 (ways (.func (.func 125) #[] #[.pointer (some ⟨H.heap.size,0,none⟩)]) (.func (.func 126) #[] #[.pointer (some ⟨w.heap.size+1,0,none⟩),.pointer (some ⟨H.heap.size,0,none⟩)]) (.func (.func 127) #[] #[.pointer (some ⟨O.heap.size,0,none⟩),.pointer (some ⟨w.heap.size+1,0,none⟩)])) rfl (ways_c _ _ _);have hz:(zeroValue 161).run prog Y=.ok .nilFunc Y:=by kernel_rfl
   have look:=fun (kl:Int) (h:(Lit.int .i64 kl).wf=true)=>m8.look aj ak hz (Maps.keyOf_int_mk (q:=.i64) (a:=kl) underlying3 h)
   have I:W5.grownBy Y (some (H.heap.size+1)):=qbZ (qbZ g6 g7) g8;have K8:Hu (Below w.heap.size w Y/\FRow Y w.heap.size j (told j (dq d))/\Y.heap[w.heap.size+1]? = some (.cells #[.slice (some ⟨w.heap.size,0,none⟩) j j] 35 (0,0))/\Y.heap[O.heap.size]? = some (.cells #[.string t1,.string t2] 44 (0,0))/\FOwn Y w.heap.size (.slice av (1+j) cv) ((lin d).map ftxt)/\Y.heap[H.heap.size]? = some (.cells #[.slice av (1+j) cv] 35 (0,0))):=by
    have row:∀g o,W5.heap[g]? = some o->g≠H.heap.size+1->Y.heap[g]? = some o:=fun g o h hne=>(I.block g (qG h).1 (fun e=>hne (qah e))).trans h
    have aP:=K4.o.1.trans (J.mono K4.o.1.size);refine qH ⟨qeh aP I (by omega),⟨row _ _ (zkeep J _ _ K4.o.2.1.1) (by omega),K4.o.2.1.2⟩,row _ _ (zkeep J _ _ K4.o.2.2.1) (by omega),row _ _ (zkeep J _ _ K4.o.2.2.2.1) (by omega),(K4.o.2.2.2.2.1.below J).kept I (qag fun e=>?_),row _ _ h9 (by omega)⟩;have:=(K4.o.2.2.2.2.1.lt _ e).2;omega
   have Hn:=qH K4.o.2.2.2.2.2;rw [ae] at aS;rcases qhx HX.o.1 with ⟨rfl,rfl⟩ | ⟨rfl,rfl⟩ | ⟨rfl,rfl⟩
   ·have hl:(Instr.lookup 207 (.map (some (H.heap.size+1))) (.int .i64 1) false).run prog Y=.ok (.func (.func 125) #[] #[.pointer (some ⟨H.heap.size,0,none⟩)]) Y:=look 1 (by decide);have hc:=qlF H.heap.size _ Y K8.o.2.2.2.2.2 ⟨_,_,_,rfl⟩;have HC:=qH hc;clear hc look m8 m7 m6 f6 f7 f8 g6 g7 g8 ah h9 J ae I hz
    go_wp2_with ((with_reducible refine qdL rfl (.tmp 35) (.tmp 36) 35 rfl ?_ ?_ hr ?_);(next=>rfl);(next=>rfl))
    refine HC.o.mono ?_;rintro e w9 ⟨rfl,hw⟩;have hw:=hw.symm;subst hw;have HR:=qH (qA K8.o.2.2.2.2.1 K8.o.1);go_wp2;go_ret;exact⟨_,rfl,HR.o.1,HR.o.2⟩
   ·have hl:(Instr.lookup 207 (.map (some (H.heap.size+1))) (.int .i64 2) false).run prog Y=.ok (.func (.func 126) #[] #[.pointer (some ⟨w.heap.size+1,0,none⟩),.pointer (some ⟨H.heap.size,0,none⟩)]) Y:=look 2 (by decide);have hc:=qlG w.heap.size (w.heap.size+1) H.heap.size w.heap.size j j d (.slice av (1+j) cv) Y K8.o.1.size (by omega) (by omega) HX.o.2.1 (by omega) HX.o.2.2.2.2.1 (fun W h=>HX.o.2.2.2.2.2.below (K8.o.1.trans h)) ⟨Below.refl _ _,K8.o.2.2.1,K8.o.2.2.2.2.2,K8.o.2.1,by have h:=K8.o.2.2.2.2.1;unfold FOwn at h;rw [qav,qmK,HX.o.2.1] at h;rw [show sqs d 0=[] from rfl,List.append_nil,show 1+j=j+1 by omega];rw [show 1+j=j+1 by omega] at h;exact h,Hn.o⟩;have HC:=qH hc;clear hc look m8 m7 m6 f6 f7 f8 g6 g7 g8 ah h9 J ae I hz
    go_wp2_with ((with_reducible refine qdL rfl (.tmp 35) (.tmp 36) 35 rfl ?_ ?_ hr ?_);(next=>rfl);(next=>rfl))
    refine HC.o.mono ?_;rintro e w9 ⟨y,rfl,hy,hb⟩;have HR:Hu (FOwn w9 w.heap.size y ((termL 2 d).map ftxt)/\Below w.heap.size w w9):=qH ⟨by
     unfold FOwn;have hl:((termL 2 d).map ftxt).length=j+1+j:=by
      have h:=hy.1;rw [qce] at h;omega
     rw [hl];exact hy,K8.o.1.trans hb⟩
    obtain⟨ay,cy,rfl⟩:=hy.shape;clear hy hb;go_wp2;go_ret;exact⟨_,rfl,HR.o.1,HR.o.2⟩
   ·have hl:(Instr.lookup 207 (.map (some (H.heap.size+1))) (.int .i64 3) false).run prog Y=.ok (.func (.func 127) #[] #[.pointer (some ⟨O.heap.size,0,none⟩),.pointer (some ⟨w.heap.size+1,0,none⟩)]) Y:=look 3 (by decide);have hc:=qlH w.heap.size (w.heap.size+1) O.heap.size w.heap.size j j d Y K8.o.1.size HX.o.2.1 (HX.o.2.2.1 rfl) HX.o.2.2.2.2.1 (fun W h=>HX.o.2.2.2.2.2.below (K8.o.1.trans h)) K8.o.2.2.1 (by rw [Ht.o];exact K8.o.2.2.2.1) K8.o.2.1;have HC:=qH hc;clear hc look m8 m7 m6 f6 f7 f8 g6 g7 g8 ah h9 J ae I hz
    go_wp2_with ((with_reducible refine qdL rfl (.tmp 35) (.tmp 36) 35 rfl ?_ ?_ hr ?_);(next=>rfl);(next=>rfl))
    refine HC.o.mono ?_;rintro e w9 ⟨y,rfl,hy,hb⟩;have HR:Hu (FOwn w9 w.heap.size y ((termL 3 d).map ftxt)/\Below w.heap.size w w9):=qH ⟨by
     unfold FOwn;have hl:((termL 3 d).map ftxt).length=2 ^ j:=by
      have h:=hy.1;rw [qce] at h;omega
     rw [hl];exact hy,K8.o.1.trans hb⟩
    obtain⟨ay,cy,rfl⟩:=hy.shape;clear hy hb;go_wp2;go_ret;exact⟨_,rfl,HR.o.1,HR.o.2⟩
theorem qmH (k F R pb ib b off c:Nat) (ao:Option Addr) (l:List Pt) (ty ak:TypeId) (w:World) (hR:l.length=R) (hk:k<R) (au:R<=40) (ag:F<3) (U:w.heap[pb]? = some (.cells #[.slice ao R c] ty (0,0))) (O:w.heap[ib]? = some (.cells #[.int .i64 (F:Int)] ak (0,0)))
  (hP:PCells w ao b off l) (hl:-9223372036854775808<=(l.getD k pt0).lab F/\(l.getD k pt0).lab F<=9223372036854775807) (hT:HasT w) :
  Calls prog 199 #[.int .i64 (k:Int),.pointer (some ⟨pb,0,none⟩),.pointer (some ⟨ib,0,none⟩)] w fun e w'=>Below w.heap.size w w'/\e=.returned (.agg #[.string (ftxt (labq l F k)).1,.string (ftxt (labq l F k)).2]):=by
 have aj:=hP.addr (by omega);subst aj;obtain⟨t1,t2,ht⟩:=qcd (labq l F k);rw [ht];obtain⟨V,aa,H⟩:=nw1 w #[.string ⟨#[]⟩,.string ⟨#[]⟩] 44;have d0:V.cell? ⟨b,off+k*5+2+F,none⟩=some (.int .i64 ((l.getD k pt0).lab F)):=by
  obtain⟨_,_,d2,d3,d4⟩:=(hP.below H.o.1).cell k (by omega);rcases (show F=0\/F=1\/F=2 by omega) with rfl | rfl | rfl
  ·exact d2
  ·exact d3
  ·exact d4
 have aC:=qac _ _ d0;have av:b<w.heap.size:=by
  obtain⟨h1,_⟩:=hP.cell k (by omega);exact qac _ _ h1
 have aA:=(qG U).1;have aB:=(qG O).1;have q1:=rowG (g0:=w.heap.size) (zkeep H.o.1 _ _ U) 0;have q2:=rowG (g0:=w.heap.size) (zkeep H.o.1 _ _ O) 0;obtain⟨x,hx⟩:=qX ((l.getD k pt0).lab F);have I:=of_int x 100 (by decide) (by rw [<-hx];exact hl) (by decide) V.drew (((hT.below H.o.1)).below qB.drew);have ai:(x:Rat) / ((100:Int):Rat)=labq l F k:=by unfold labq;rw [hx];rfl
 rw [ai,ht] at I;rw [hx] at d0;have q3:∀W,V.grownBy W (some w.heap.size)->W.cell? ⟨b,off+k*5+2+F,none⟩=some (.int .i64 x):=fun W hg=>hg.cell d0 (fun e=>by have:=qah e;simp at this;omega)
 have HO:=qH I;have az:(k:Int)<R:=by omega
 have ay:(F:Int)<3:=by omega
 have ax:F<3:=ag;clear I ai hx hP U O hT ht hl;go_enter func199,ntmps199;go_upto_region 1 with fail;rw [<-aa];clear aa;refine wp_region_held_drew (S:=fun W=>V.grownBy W (some w.heap.size)) (by kernel_rfl) (keepB qB.drew) (fun hS0=>?_);refine hT 0 (h:=?_);refine hT 1 (h:=?_);refine hT 2 (h:=?_);refine hT 3 (h:=?_);refine hT 4 (h:=?_);refine hT 5 (h:=?_);refine hT 6 (h:=?_);refine hC 7 HO.o (h:=?_);rintro e w1 ⟨rfl,J⟩;have Y:=qhw (g:=w.heap.size) J;refine⟨_,rfl,Y,hN (h:=?_)⟩;refine hT 8 (h:=?_);refine hT 9 (h:=?_);refine hC 10 (qcE t1 t2 w1) (h:=?_);rintro e w2 ⟨rfl,ae⟩;have Z:=qck Y ae;have af:Below V.heap.size V w2:=(qb4 J).trans (ae.mono (qb4 J).size);have ah:=zkeep af _ _ H.o.2;refine⟨_,rfl,Z,hN (h:=?_)⟩;have HE:=qH (qA (qT _ _ _ #[.string t1,.string t2] _ _ ah) (qS ((H.o.1).trans (af.mono H.o.1.size)) qN #[.string t1,.string t2]));refine hSt 11 2 ah (h:=⟨qbZ Z ?_,?_⟩)
 ·exact⟨rfl,rfl,rfl,by simp [World.setRow],fun k hk hne=>setRow_other _ _ _ _ (fun e=>hne (by rw [e]))⟩
 go_wp2_with fail;exact qR (v:=.agg #[.string t1,.string t2]) (rA_ rfl (w.heap.size) HE.o.1 underlying44 2) rfl ⟨HE.o.2,rfl⟩
theorem enters {P:Program} {f:FuncId} {F:Func} (I:P.funcs[f]? = some F) (J:(F.name == "runtime.NumGoroutine")=false) (H:F.body.isNone=false) (args:Array Value) (W:World):(callFunc f args).run P W=.ok (.enter f args) W:=by
 simp only [callFunc,Sem.run_bind,run_program,Result.andThen,I,J,H]
 rfl
theorem qie {l:List FT} {n:Nat} {x:Nat->Rat} (O:l.length=n) (h:∀i,i<n->l.getD i fd0=ftxt (x i)):l=told n x:=by
 refine List.ext_getElem (by rw [qb0,O]) fun i I J=>?_
 have F:=h i (by omega);have H:=qdr (x:=x) (show i<n by omega);rw [qaa,qad I] at F;rw [qaa,qad J] at H;exact F.trans H.symm
theorem labs_any (F R b off c:Nat) (U:Option Addr) (l:List Pt) (w:World) (hR:l.length=R) (Z:R<=40) (O:F<3) (hP:PCells w U b off l) (hl:∀k,k<R->-9223372036854775808<=(l.getD k pt0).lab F/\(l.getD k pt0).lab F<=9223372036854775807) (hT:HasT w) :
  Calls prog 130 #[.slice U R c,.int .i64 (F:Int)] w fun e Y=>Below w.heap.size w Y/\∃g,e=.returned (.slice (some ⟨g,0,none⟩) R R)/\FCells Y (some ⟨g,0,none⟩) g 0 (told R (labq l F)):=by
 obtain⟨W2,J,H⟩:=nw2 w #[.slice U R c] 121 #[.int .i64 (F:Int)] 3;have ae:=@hmf_ prog;have HG:=qH (qen 199 #[.pointer (some ⟨w.heap.size,0,none⟩),.pointer (some ⟨w.heap.size+1,0,none⟩)] R (by omega) (fun i x=>x=ftxt (labq l F i)) (fun _ _=>False) W2 (fun a W=>enters func199 (by kernel_rfl) (by kernel_rfl) _ W)
  (fun i hi W I=>(qmH i F R w.heap.size (w.heap.size+1) b off c U l _ _ W hR hi Z O (zkeep I _ _ H.o.2.1) (zkeep I _ _ H.o.2.2) (hP.below (H.o.1.trans (I.mono H.o.1.size))) (hl i hi) (hT.below (H.o.1.trans (I.mono H.o.1.size)))).mono fun e Y h=>⟨h.1,qan ⟨_,_,h.2,rfl⟩⟩))
 clear hP hl hT;go_enter func130,ntmps130;go_upto_region 1 with fail;rw [<-J];clear J;have c0:=qC W2 _ 0 _ _ _ H.o.2.1;go_wp2_with fail;refine HG.o.mono ?_;rintro e Y ⟨I,h⟩;rcases h with ⟨l',g,aa,hv,rfl,V,_⟩ | ⟨_,_,_,_,V⟩
 ·have HE:=qH (qA (H.o.1.trans (I.mono H.o.1.size)) (qie aa hv▸V));clear I hv V;go_wp2;go_ret;exact⟨HE.o.1,_,rfl,HE.o.2⟩
 ·exact V.elim
theorem qmf (i R k pb kb b off c:Nat) (kind:Int) (ao:Option Addr) (l:List Pt) (ty af:TypeId) (w:World) (hk:qcA kind k) (hR:l.length=R) (hi:i<R) (h3:¬(k=3/\chans l=4)) (H:PtsOk l) (O:w.heap[pb]? = some (.cells #[.slice ao R c] ty (0,0))) (I:w.heap[kb]? = some (.cells #[.int .i64 kind] af (0,0)))
  (hP:PCells w ao b off l) (hT:HasT w) :
  Calls prog 56 #[.int .i64 (i:Int),.pointer (some ⟨kb,0,none⟩),.pointer (some ⟨pb,0,none⟩)] w fun e w'=>Below w.heap.size w w'/\∃v,e=.returned v/\FOwn w' w.heap.size v (told (many k (chans l)) (tqf l k i)):=by
 have aa:=hP.addr (by omega);subst aa;obtain⟨_,⟨ra,rb,ro,rc,d1,hN⟩,_⟩:=hP.cell i (by omega);have F:=(H.rows i (by omega)).2;have V:=(H.rows i (by omega)).1;obtain⟨n,Z⟩:=qX (chans l);rw [Z] at F h3 ⊢;rw [F] at d1;have J:1<=n/\n<=4:=⟨Z▸H.n1,Z▸H.n4⟩;have HO:=qH (qfI kind k hk ra rb ro n rc (l.getD i pt0).dev w.drew F J.1 J.2 (fun e=>by have:=J.2;omega) (hN.below qB.drew) V.vals (hT.below qB.drew));have Y:(termL k (l.getD i pt0).dev).map ftxt=told (many k n) (tqf l k i):=by
  rw [<-F];exact (qfU k (l.getD i pt0).dev).symm
 rw [Y] at HO;have ah:=(qG O).1;have ai:=(qG I).1;have ae:=qac _ _ d1;have q1:=rowC (B:=w.heap.size) O 0;have q2:=rowC (B:=w.heap.size) I 0;have q3:∀W,Below w.heap.size w W->W.cell? ⟨b,off+i*5+1,none⟩=some (.slice ra n rc):=fun W U=>(U.cell ae).trans d1
 have ag:(i:Int)<R:=by omega
 clear hP O I hT hN V H Z Y hk h3 F;go_enter func56,ntmps56;go_upto_region 1 with fail;refine wp_region_held_drew (S:=fun W=>Below w.heap.size w W) (by kernel_rfl) qB.drew (fun hS0=>?_);refine hT 0 (h:=?_);refine hT 1 (h:=?_);refine hT 2 (h:=?_);refine hT 3 (h:=?_);refine hT 4 (h:=?_);refine hT 5 (h:=?_);refine hC 6 HO.o (h:=?_);rintro e w1 ⟨v,rfl,hv,U⟩;have HV:=qH (qA (qb4 U) hv);refine⟨_,rfl,qb4 U,hN (h:=?_)⟩;refine hT 7 (hS:=HV.o.1) (h:=?_);refine wpAnyH_done (by kernel_rfl) ?_ _;clear hv U;go_wp2;go_ret;exact⟨HV.o.1,v,rfl,HV.o.2⟩
theorem qmg (i R wb b off c:Nat) (ao:Option Addr) (F:List Int) (ty:TypeId) (w:World) (hR:F.length=R) (hi:i<R) (hr:-9223372036854775808<=F.getD i 0/\F.getD i 0<=9223372036854775807) (Y:w.heap[wb]? = some (.cells #[.slice ao R c] ty (0,0)))
  (hN:NCells w ao b off F) (hT:HasT w) :
  Calls prog 59 #[.int .i64 (i:Int),.pointer (some ⟨wb,0,none⟩)] w fun e w'=>Below w.heap.size w w'/\e=.returned (.agg #[.string (ftxt (wq F i)).1,.string (ftxt (wq F i)).2]):=by
 have aa:=hN.addr (by omega);subst aa;obtain⟨t1,t2,ht⟩:=qcd (wq F i);rw [ht];obtain⟨W1,J,I⟩:=nw1 w #[.string ⟨#[]⟩,.string ⟨#[]⟩] 44;have d0:=(hN.below I.o.1).cell i (by omega);have q1:=qC W1 _ 0 _ _ _ (zkeep I.o.1 _ _ Y);obtain⟨x,hx⟩:=qX (F.getD i 0);have H:=of_int x 1 (by decide) (by rw [<-hx];exact hr) (by decide) W1 (hT.below I.o.1);have V:(x:Rat) / ((1:Int):Rat)=wq F i:=by unfold wq;rw [hx];rw [show ((1:Int):Rat)=1 from rfl,Rat.div_def,show (1:Rat)⁻¹=1 by decide +kernel,Rat.mul_one]
 rw [V,ht] at H;rw [hx] at d0;have HO:=qH H;have ae:(i:Int)<R:=by omega
 clear H V hx hN Y hT ht hr;go_enter func59,ntmps59;go_upto_region 1 with fail;rw [<-J];clear J;go_wp2_with fail;refine HO.o.mono ?_;rintro e w1 ⟨rfl,O⟩;have K2:Kn (fun W=>Below w.heap.size w W/\W.heap[w.heap.size]? = some (.cells #[.string ⟨#[]⟩,.string ⟨#[]⟩] 44 (0,0))) w1:=I.below O;clear I O;go_wp2_with fail;refine (qcE t1 t2 w1).mono ?_;rintro e w2 ⟨rfl,U⟩;have Z:=K2.below U;clear K2 U;have HE:=qH (qA (qT _ _ _ #[.string t1,.string t2] _ _ Z.o.2) (qS Z.o.1 qN #[.string t1,.string t2]));rename_i hK;dsimp only;refine hK _ _ ?_
 go_wp2_with ((with_reducible refine sR_ rfl 44 _ _ rfl (w.heap.size) #[.string t1,.string t2] Z.o.2 2 ?_))
 exact qR (v:=.agg #[.string t1,.string t2]) (rA_ rfl (w.heap.size) HE.o.1 underlying44 2) rfl ⟨HE.o.2,rfl⟩
def RowAs (w:World) (R n:Nat) (f:Nat->Nat->Rat) (b v:Nat->Rat) (e:Ending) (F:World):Prop :=
 ((Sing n (normR R n f b v)/\e=thrown 7)\/(¬Sing n (normR R n f b v)/\∃x,qcL n (normR R n f b v) (fun r=>normR R n f b v r n) x /\
  ((qb2 n x/\∃g,e=.returned (.slice (some ⟨g,0,none⟩) n n)/\FCells F (some ⟨g,0,none⟩) g 0 (told n x))\/(¬qb2 n x/\e=thrown 6))))/\Below w.heap.size w F
theorem row_any (I R n b off c g1 c1 g2 c2:Nat) (ao a1 a2:Option Addr) (l:List Pt) (f:Nat->Nat->Rat) (v:Nat->Rat) (w:World) (hR:l.length=R) (au:1<=R) (ae:R<=40) (av:1<=n) (ax:n<=10) (ai:I<3) (hP:PCells w ao b off l) (hl:∀k,k<R->-9223372036854775808<=(l.getD k pt0).lab I/\(l.getD k pt0).lab I<=9223372036854775807)
  (hf:∀i,i<R->qb2 n (f i)) (hb:qb2 R (labq l I)) (hv:qb2 R v) (aj:∀i,i<R->0<=v i) (hC:TCells w a1 g1 0 (ttab R n f)) (hF:FCells w a2 g2 0 (told R v)) (hT:HasT w) :
  Calls prog 61 #[.agg #[.slice ao R c,.slice a1 R c1,.slice a2 R c2],.int .i64 (I:Int)] w fun e w'=>RowAs w R n f (labq l I) v e w':=by
 obtain⟨Y,af,H⟩:=nw1 w #[.slice ao R c,.slice a1 R c1,.slice a2 R c2] 123;have HX:=qH (qA (hC.below H.o.1) (qA (hF.below H.o.1) (hT.below H.o.1)));have HL:=qH (labs_any I R b off c ao l Y.drew hR ae ai ((hP.below H.o.1).below qB.drew) hl ((hT.below H.o.1).below qB.drew));have HM:=qH (qA hf (qA hb (qA hv aj)));have ay:=(qG H.o.2).1;have q0:=rowC (B:=Y.heap.size) H.o.2 0;have q1:=rowC (B:=Y.heap.size) H.o.2 1;have q2:=rowC (B:=Y.heap.size) H.o.2 2;clear hP hl hT hf hb hv aj hC hF;go_enter func61,ntmps61;go_upto_region 1 with fail;rw [<-af];clear af;refine wp_region_held_drew (S:=fun W=>Below Y.heap.size Y W) (by kernel_rfl) qB.drew (fun hS0=>?_);refine hT 0 (h:=?_);refine hT 1 (h:=?_);refine hT 2 (h:=?_);refine hT 3 (h:=?_);refine hT 4 (h:=?_);refine hT 6 (h:=?_);refine hT 7 (h:=?_);refine hC 5 HL.o (h:=?_);rintro e w1 ⟨ag,g,rfl,Z⟩;have HB:=qH (qb4 ag);have J:=qH (qA HB.o Z);refine⟨_,rfl,HB.o,hN (h:=?_)⟩;have ak:=qH (qmI (c:=c1) (c2:=R) (c3:=c2) au ae av ax HM.o.1 HM.o.2.1 HM.o.2.2.1 HM.o.2.2.2 (HX.o.1.below J.o.1) J.o.2 (HX.o.2.1.below J.o.1) (HX.o.2.2.below J.o.1));clear ag Z;refine hC 8 ak.o (h:=?_);rintro e w2 ⟨h,ah⟩;have F:=qH (J.o.1.trans (ah.mono J.o.1.size));clear ah;rcases h with ⟨V,rfl⟩ | ⟨V,x,hx,⟨O,g5,rfl,aa⟩ | ⟨O,rfl⟩⟩
 ·refine⟨_,rfl,F.o,hN (h:=?_)⟩;have U:=qH V;refine hT 9 (hS:=F.o) (h:=?_);refine hT 10 (hS:=F.o) (h:=?_);refine hCx 11 (qgQ none 0 0 7 (by decide) w2) (h:=?_);rintro e w3 ⟨rfl,rfl⟩;refine qag ⟨_,rfl,?_⟩;clear V;go_wp2_with fail;exact⟨rfl,qan ⟨U.o,rfl⟩,H.o.1.trans (F.o.mono H.o.1.size)⟩
 ·refine⟨_,rfl,F.o,hN (h:=?_)⟩;have U:=qH (qA V (qA hx (qA O aa)));refine hT 9 (hS:=F.o) (h:=?_);refine hT 10 (hS:=F.o) (h:=?_);refine hC 11 (qkw _ n n w2) (h:=?_);rintro e w3 ⟨rfl,rfl⟩;refine⟨_,rfl,F.o,hN (h:=?_)⟩;refine hT 12 (hS:=F.o) (h:=?_);refine wpAnyH_done (by kernel_rfl) ?_ _;clear V hx O aa;go_wp2;go_ret;exact⟨qag ⟨U.o.1,x,U.o.2.1,qan ⟨U.o.2.2.1,g5,rfl,U.o.2.2.2⟩⟩,H.o.1.trans (F.o.mono H.o.1.size)⟩
 ·refine⟨_,rfl,F.o,hN (h:=?_)⟩;have U:=qH (qA V (qA hx O));refine hT 9 (hS:=F.o) (h:=?_);refine hT 10 (hS:=F.o) (h:=?_);refine hCx 11 (qgQ none 0 0 6 (by decide) w2) (h:=?_);rintro e w3 ⟨rfl,rfl⟩;refine qag ⟨_,rfl,?_⟩;clear V hx O;go_wp2_with fail;exact⟨rfl,qag ⟨U.o.1,x,U.o.2.1,qag ⟨U.o.2.2,rfl⟩⟩,H.o.1.trans (F.o.mono H.o.1.size)⟩
theorem qnX {t:Tbl} {n m:Nat} {f:Nat->Nat->Rat} (O:t.length=n) (h:∀i,i<n->t.getD i []=told m (f i)):t=ttab n m f:=by
 refine List.ext_getElem (by rw [qcK,O]) fun i I J=>?_
 have F:=h i (by omega);have H:=qeK (m:=m) (f:=f) (show i<n by omega);rw [qaa,qad I] at F;rw [qaa,qad J] at H;exact F.trans H.symm
def SlT (n m:Nat) (f:Nat->Nat->Rat) (z:Value) (W:World):Prop:=∃g,z=.slice (some ⟨g,0,none⟩) n n/\TCells W (some ⟨g,0,none⟩) g 0 (ttab n m f)
def SlF (n:Nat) (f:Nat->Rat) (z:Value) (W:World):Prop:=∃g,z=.slice (some ⟨g,0,none⟩) n n/\FCells W (some ⟨g,0,none⟩) g 0 (told n f)
instance stays_slt {n m:Nat} {f:Nat->Nat->Rat} {z:Value}:Stays (SlT n m f z):=⟨fun⟨g,F,H⟩ hb=>⟨g,F,H.below hb⟩⟩
instance stays_slf {n:Nat} {f:Nat->Rat} {z:Value}:Stays (SlF n f z):=⟨fun⟨g,F,H⟩ hb=>⟨g,F,H.below hb⟩⟩
theorem qfK {W:World} {g:Nat} {H cs:Array Value} {t:TypeId} (hg:W.heap[g]? = some (.cells H t (0,0))) (J:∀x∈H.toList,x=.slice none 0 0) {a:Addr} {v:Value} (F:W.cell? a=some v) (I:v≠.slice none 0 0):(W.setRow g cs).cell? a=some v:=by
 have hne:a.block≠g:=by
  intro e;unfold World.cell? at F;rw [e,hg] at F;simp only at F;split at F
  ·cases F
  ·exact I (J v (by rw [<-Array.mem_def];exact Array.mem_of_getElem? F))
 exact (cell_setRow_other _ _ _ _ hne).trans F
theorem qdX {W:World} {g:Nat} {H cs:Array Value} {t:TypeId} (hg:W.heap[g]? = some (.cells H t (0,0))) (I:∀b,.string b∉H.toList):∀a s,W.cell? a=some (.string s)->(W.setRow g cs).cell? a=some (.string s):=fun a s F=>by
 have hne:a.block≠g:=by
  intro e;unfold World.cell? at F;rw [e,hg] at F;simp only at F;split at F
  ·cases F
  ·exact I s (by rw [<-Array.mem_def];exact Array.mem_of_getElem? F)
 exact (cell_setRow_other _ _ _ _ hne).trans F
theorem SlF.keepZ {W:World} {g n:Nat} {F cs:Array Value} {t:TypeId} {f:Nat->Rat} {z:Value} (h:SlF n f z W) (hg:W.heap[g]? = some (.cells F t (0,0))) (O:∀x∈F.toList,x=.slice none 0 0):SlF n f z (W.setRow g cs):=by
 obtain⟨g1,H,I⟩:=h;exact⟨g1,H,I.kept fun a s J=>qfK hg O J (fun e=>by cases e)⟩
theorem SlT.keepZ {W:World} {g n m:Nat} {J cs:Array Value} {t:TypeId} {f:Nat->Nat->Rat} {z:Value} (h:SlT n m f z W) (Z:1<=m) (hg:W.heap[g]? = some (.cells J t (0,0))) (I:∀x∈J.toList,x=.slice none 0 0):SlT n m f z (W.setRow g cs):=by
 obtain⟨g1,O,H⟩:=h;refine⟨g1,O,H.addr,fun k F=>?_⟩;obtain⟨ra,rb,ro,rc,U,V⟩:=H.row k F;refine⟨ra,rb,ro,rc,qfK hg I U (fun e=>?_),V.kept fun a s Y=>qfK hg I Y (fun e=>by cases e)⟩;rw [qcK] at F;have:=(Value.slice.inj e).2.1;rw [qeK F,qb0] at this;omega
theorem qnT (R k H kb b off c:Nat) (kind:Int) (U:Option Addr) (l:List Pt) (ty I:TypeId) (w:World) (hk:qcA kind k) (hR:l.length=R) (Z:¬(k=3/\chans l=4)) (F:PtsOk l) (ae:w.heap[H]? = some (.cells #[.slice U R c] ty (0,0))) (aa:w.heap[kb]? = some (.cells #[.int .i64 kind] I (0,0)))
  (hP:PCells w U b off l) (hT:HasT w) :
  Calls prog 55 #[.int .i64 (R:Int),.func (.func 56) #[] #[.pointer (some ⟨kb,0,none⟩),.pointer (some ⟨H,0,none⟩)]] w fun e O=>Below w.heap.size w O/\∃v,e=.returned v/\SlT R (many k (chans l)) (tqf l k) v O:=by
 have hg:qlK 56 #[.pointer (some ⟨kb,0,none⟩),.pointer (some ⟨H,0,none⟩)] w R (fun i r=>r=told (many k (chans l)) (tqf l k i)) (fun _ _=>False):=by
  intro i hi W J;refine (qmf i R k H kb b off c kind U l ty I W hk hR hi Z F (zkeep J _ _ ae) (zkeep J _ _ aa) (hP.below J) (hT.below J)).mono ?_;rintro e O ⟨V,v,Y,h4⟩;obtain⟨a,g,cap,rfl,hF,_⟩:=h4.cells (qb0 _ _);exact⟨V,qan ⟨_,a,g,_,cap,Y,qb0 _ _,hF,rfl⟩⟩
 have HG:=qgz 56 #[.pointer (some ⟨kb,0,none⟩),.pointer (some ⟨H,0,none⟩)] R (by have:=F.r2;omega) (fun i r=>r=told (many k (chans l)) (tqf l k i)) (fun _ _=>False) w (fun a W=>enters func56 (by kernel_rfl) (by kernel_rfl) _ W) hg;refine HG.mono ?_;rintro e O ⟨V,Y⟩;rcases Y with ⟨t,g,Z,h4,rfl,h5,_⟩ | ⟨_,_,_,_,h⟩
 ·exact⟨V,_,rfl,g,rfl,qnX Z h4▸h5⟩
 ·exact h.elim
theorem qj3 (R H b off c:Nat) (J:Option Addr) (F:List Int) (Z:TypeId) (w:World) (hR:F.length=R) (aa:R<=40) (hW:WOk F) (Y:w.heap[H]? = some (.cells #[.slice J R c] Z (0,0))) (hN:NCells w J b off F) (hT:HasT w) :
  Calls prog 58 #[.int .i64 (R:Int),.func (.func 59) #[] #[.pointer (some ⟨H,0,none⟩)]] w fun e I=>Below w.heap.size w I/\∃v,e=.returned v/\SlF R (wq F) v I:=by
 have hg:qj7 59 #[.pointer (some ⟨H,0,none⟩)] w R (fun i x=>x=ftxt (wq F i)) (fun _ _=>False):=by
  intro i hi W V;refine (qmg i R H b off c J F Z W hR hi (by have:=hW i (by omega);omega) (zkeep V _ _ Y) (hN.below V) (hT.below V)).mono ?_;rintro e I ⟨O,U⟩;exact⟨O,qan ⟨_,_,U,rfl⟩⟩
 have HG:=qen 59 #[.pointer (some ⟨H,0,none⟩)] R (by omega) (fun i x=>x=ftxt (wq F i)) (fun _ _=>False) w (fun a W=>enters func59 (by kernel_rfl) (by kernel_rfl) _ W) hg;refine HG.mono ?_;rintro e I ⟨O,U⟩;rcases U with ⟨t,g,h3,h4,rfl,h5,_⟩ | ⟨_,_,_,_,h⟩
 ·exact⟨O,_,rfl,g,rfl,qie h3 h4▸h5⟩
 ·exact h.elim
