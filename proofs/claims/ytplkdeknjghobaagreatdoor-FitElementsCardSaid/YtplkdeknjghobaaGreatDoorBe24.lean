import Derived.Test.YtplkdeknjghobaaGreatDoorBe21
import Derived.WalkMore
set_option maxRecDepth 100000
set_option maxHeartbeats 0
namespace Go.Proofs.YtplkdeknjghobaaGreatDoor
open Go.RowKit
def RRow (W:World) (g n:Nat) (x:Nat->Rat) (i:Nat):Prop:=∃cs:Array Value,W.heap[g]? = some (.cells cs 138 (0,0))/\cs.size=n*3/\(∀y∈cs.toList,∀z,y≠.int .u32 z)/\RCells W g i x
theorem RRow.below {W W':World} {g n i:Nat} {x:Nat->Rat} (h:RRow W g n x i) (hb:Below W.heap.size W W'):RRow W' g n x i:=by
 obtain⟨cs,h1,h2,h3,h4⟩:=h;exact⟨cs,zkeep hb _ _ h1,h2,h3,h4.below hb⟩
theorem RRow.at {W:World} {g n i:Nat} {x:Nat->Rat} (h:RRow W g n x i) (hi:i<n):(∃v0 v1 v2,W.cell? ⟨g,i*3,none⟩=some v0/\W.cell? ⟨g,i*3+1,none⟩=some v1/\W.cell? ⟨g,i*3+2,none⟩=some v2)/\∀j,W.frozen? ⟨g,j,none⟩=false:=by
 obtain⟨cs,h1,h2,_,_⟩:=h;refine⟨⟨cs[i*3]'(by omega),cs[i*3+1]'(by omega),cs[i*3+2]'(by omega),?_,?_,?_⟩,fun j=>qF _ _ _ _ _ h1⟩
 ·exact (qC _ _ _ _ _ _ h1).trans (Array.getElem?_eq_getElem _)
 ·exact (qC _ _ _ _ _ _ h1).trans (Array.getElem?_eq_getElem _)
 ·exact (qC _ _ _ _ _ _ h1).trans (Array.getElem?_eq_getElem _)
theorem qjr {cs:Array Value} {k:Nat} {v y:Value} (h:y∈(cs.setIfInBounds k v).toList):y∈cs.toList\/y=v:=by
 rw [Array.toList_setIfInBounds] at h;exact List.mem_or_eq_of_mem_set h
theorem RRow.set {W:World} {g n i:Nat} {x:Nat->Rat} (h:RRow W g n x i) (hi:i<n) {a:Option Addr} {m c:Nat} {b:Bool} {d:Option Addr} {e f:Nat} (hv:RatV W (.agg #[.slice a m c,.bool b,.slice d e f]) (x i)) :
  RRow (((W.setCell ⟨g,i*3,none⟩ (.slice a m c)).setCell ⟨g,i*3+1,none⟩ (.bool b)).setCell ⟨g,i*3+2,none⟩ (.slice d e f)) g n x (i+1):=by
 obtain⟨cs,h1,h2,h3,h4⟩:=h;have hk:W.grownBy (((W.setCell ⟨g,i*3,none⟩ (.slice a m c)).setCell ⟨g,i*3+1,none⟩ (.bool b)).setCell ⟨g,i*3+2,none⟩ (.slice d e f)) (some g):=qbU (qbU (frac.qbX W g (i*3) _) (frac.qbX _ g (i*3+1) _)) (frac.qbX _ g (i*3+2) _);have hh:=heap_setCell_same _ g (i*3+2) _ _ (.slice d e f) (heap_setCell_same _ g (i*3+1) _ _ (.bool b) (heap_setCell_same _ g (i*3) _ _ (.slice a m c) h1));refine⟨_,hh,by simp [h2],fun y hy z=>?_,⟨fun k hkk=>?_⟩⟩
 ·rcases qjr hy with hy | rfl
  ·rcases qjr hy with hy | rfl
   ·rcases qjr hy with hy | rfl
    ·exact h3 y hy z
    ·intro h;cases h
   ·intro h;cases h
  ·intro h;cases h
 ·have key:∀j,(((W.setCell ⟨g,i*3,none⟩ (.slice a m c)).setCell ⟨g,i*3+1,none⟩ (.bool b)).setCell ⟨g,i*3+2,none⟩ (.slice d e f)).cell? ⟨g,j,none⟩=(((cs.setIfInBounds (i*3) (.slice a m c)).setIfInBounds (i*3+1) (.bool b)).setIfInBounds (i*3+2) (.slice d e f))[j]?:=fun j=>qC _ _ _ _ _ _ hh
  rcases qaT k i with hlt | hge
  ·obtain⟨a',m',c',b',d',e',f',g1,g2,g3,g4⟩:=h4.cell k hlt;rw [qC _ _ _ _ _ _ h1] at g1 g2 g3;refine⟨a',m',c',b',d',e',f',?_,?_,?_,g4.keep hk h1 h3⟩
   ·rw [key,qaV (by omega),qaV (by omega),qaV (by omega)];exact g1
   ·rw [key,qaV (by omega),qaV (by omega),qaV (by omega)];exact g2
   ·rw [key,qaV (by omega),qaV (by omega),qaV (by omega)];exact g3
  ·obtain rfl:k=i:=by omega
   refine⟨a,m,c,b,d,e,f,?_,?_,?_,hv.keep hk h1 h3⟩
   ·rw [key,qaV (by omega),qaV (by omega),Array.getElem?_setIfInBounds_self_of_lt (by omega)]
   ·rw [key,qaV (by omega),Array.getElem?_setIfInBounds_self_of_lt (by simp;omega)]
   ·rw [key,Array.getElem?_setIfInBounds_self_of_lt (by simp;omega)]
theorem infoRt:(Tryz.prog.info? 138).map (fun i=>(i.zero,i.size,i.bytes))=some (some (.agg #[.slice none 0 0,.bool false,.slice none 0 0]),3,56):=by kernel_rfl
theorem make_rts (n:Nat) (hn:n<=1000) (w:World):(Instr.makeSlice 282 (.int .i64 (n:Int)) (.int .i64 (n:Int))).run Tryz.prog w=.ok (.slice (some ⟨w.heap.size,0,none⟩) n n) (w.alloc (.cells (madeCells #[.slice none 0 0,.bool false,.slice none 0 0] (n*3)) 138)):=by
 obtain⟨i,hi,hz0,hz1,hz2⟩:=info_parts infoRt;have h:=run_make (P:=Tryz.prog) w 282 138 i _ Tryz.underlying282 hi hz0 .i64 .i64 (n:Int) (n:Int) (by omega) (Int.le_refl _) (by rw [hz2];omega) (by omega);rw [hz1,Int.toNat_natCast] at h;exact h
theorem RRow.made (W:World) (n:Nat) (x:Nat->Rat):RRow (W.alloc (.cells (madeCells #[.slice none 0 0,.bool false,.slice none 0 0] (n*3)) 138)) W.heap.size n x 0:=by
 refine⟨_,qM _ _ _ rfl,size_madeCells _ _,fun y hy z=>?_,⟨fun k hk=>absurd hk (Nat.not_lt_zero _)⟩⟩;simp [madeCells] at hy;obtain⟨j,_,rfl⟩:=hy;rcases (show j % 3=0\/j % 3=1\/j % 3=2 by omega) with e | e | e <;> rw [e] <;> intro h <;> cases h
theorem qdS (b n c:Nat) (ao:Option Addr) (x:Nat->Rat) (w:World) (hn:n<=300) (hF:FCells w ao b 0 (told n x)) (hx:qbY n x) (hs:Short (sumQ n x)) (hT:HasT w) :
  Calls Tryz.prog 143 #[.slice ao n c] w fun e w'=>e=.returned (.tuple #[.agg #[.string (ftxt (sumQ n x)).1,.string (ftxt (sumQ n x)).2],.int .i64 0])/\Below w.heap.size w w':=by
 obtain⟨r1,r2,hr⟩:=qb6 (sumQ n x);rw [hr];obtain⟨W1,hW1,N1⟩:=nw1 w #[.string ⟨#[]⟩,.string ⟨#[]⟩] 44;have hs1:W1.heap.size=w.heap.size+1:=by rw [hW1];simp
 have hmk:=make_rts n (by omega) W1;obtain⟨W2,hW2⟩:=qY (W1.alloc (.cells (madeCells #[.slice none 0 0,.bool false,.slice none 0 0] (n*3)) 138));rw [<-hW2,hs1] at hmk;have hrr:RRow W2 (w.heap.size+1) n x 0:=by rw [hW2,<-hs1];exact RRow.made W1 n x
 have hb2:Below W1.heap.size W1 W2:=hW2▸qB.alloc qN _;have H0:=qH (qA (N1.out.1.trans (hb2.mono N1.out.1.size)) (qA hrr (zkeep hb2 _ _ N1.out.2)));have HX:=qH (qA hF (qA hx (qA hs (qA hT hr))));have hn3:¬(300:Int)<n:=by omega
 clear N1 hs1 hrr hb2 hF hx hs hT hr hW2;go_enter Tryz.func143,Tryz.ntmps143;go_upto_region 1 with fail;rw [<-hW1];clear hW1;go_wp2_with fail;clear hmk
 go_loopw [18] (fun x18 W=>∃i:Nat,x18=.int .i64 i/\i<=n/\Hid (Below w.heap.size w W/\RRow W (w.heap.size+1) n x i/\W.heap[w.heap.size]? = some (.cells #[.string ⟨#[]⟩,.string ⟨#[]⟩] 44 (0,0)))) (fun x18 _=>n-(intOf x18).toNat)
 case atStart=>exact⟨0,rfl,qam _,H0⟩
 case round =>
  obtain⟨i,rfl,hin,hI⟩:=hrel
  by_cases hi:i<n
  ·have hii:(i:Int)<n:=by omega
   have ha:=HX.out.1.addr (by rw [qbW];omega);subst ha;obtain⟨d0,d1⟩:=(HX.out.1.below hI.out.1).cell i (by rw [qbW];exact hi);rw [qdr hi] at d0 d1;have HRd:=fun W=>readq (HX.out.2.1 i hi) W
   obtain⟨t1,t2,ht⟩:=qb6 (x i);rw [ht] at d0 d1 HRd;rw [qaO] at d0 d1;have HRd:=qH HRd;clear ht;go_wp2_with fail;refine (HRd.out _).mono ?_;rintro e w5 ⟨a0,m0,c0,b0,e0,e1,e2,rfl,hv,hfit,hb⟩;have hbw:Below wr.heap.size wr w5:=(qB.alloc qN _).trans (hb.mono (by simp only [qab];omega));have HN:=qH (qA (hI.out.1.trans (hbw.mono hI.out.1.size)) (qA (hI.out.2.1.below hbw) (qA (zkeep hbw _ _ hI.out.2.2) (qA hv hfit))));clear hv hfit hb hbw HRd;obtain⟨V6,hV6,N6⟩:=nw1 w5 #[.slice a0 m0 c0,.bool b0,.slice e0 e1 e2] 138;obtain⟨⟨v0,v1,v2,q0,q1,q2⟩,qf⟩:=(HN.out.2.1.below N6.out.1).at hi;have qf0:=qf (i*3);have qf1:=qf (i*3+1);have qf2:=qf (i*3+2);have HS:=qH (qA (HN.out.1.trans (N6.out.1.mono HN.out.1.size)) (qA ((HN.out.2.1.below N6.out.1).set hi (HN.out.2.2.2.1.below N6.out.1)) (zkeep N6.out.1 _ _ HN.out.2.2.1)));go_upto_region 10 with fail;rw [<-hV6];clear hV6;have y0:=qC _ _ 0 _ _ _ N6.out.2;have y1:=qC _ _ 1 _ _ _ N6.out.2;have y2:=qC _ _ 2 _ _ _ N6.out.2;have hi3:i*3<n*3:=by omega
   clear qf N6;go_wp2;go_roundw
   case rel =>
    refine⟨i+1,by go_num,hi,qH ⟨((HS.out.1.setCell (p:=⟨w.heap.size+1,i*3,none⟩) (show w.heap.size<=w.heap.size+1 by omega) _).setCell (p:=⟨w.heap.size+1,i*3+1,none⟩) (show w.heap.size<=w.heap.size+1 by omega) _).setCell (p:=⟨w.heap.size+1,i*3+2,none⟩) (show w.heap.size<=w.heap.size+1 by omega) _,HS.out.2.1,?_⟩⟩;exact (qW _ _ _ _ (show w.heap.size≠w.heap.size+1 by omega)).trans ((qW _ _ _ _ (show w.heap.size≠w.heap.size+1 by omega)).trans ((qW _ _ _ _ (show w.heap.size≠w.heap.size+1 by omega)).trans HS.out.2.2))
   case measure=>simp [intOf];omega
  ·obtain rfl:i=n:=by omega
   have hfits:∀k,k<i->RFit (x k) 67:=fun k hk=>by
    have:=(qcZ (HX.out.2.1 k hk)).fit;rw [qcD] at this;exact this
   have hrc:RCells wr (w.heap.size+1) i x:=by obtain⟨cs,_,_,_,h⟩:=hI.out.2.1;exact h
   have HTt:=qH (qnd (w.heap.size+1) i i (some ⟨w.heap.size+1,0,none⟩) x wr (fun _=>rfl) hn hfits hrc);have HI:=qH hI.out;clear hI hfits hrc;go_wp2_with fail;refine HTt.out.mono ?_;rintro e w5 ⟨r,rfl,hb,hv,hfit⟩;obtain⟨a0,m0,c0,b0,e0,e1,e2,rfl⟩:=qcq hv;have HB:=qH (HI.out.1.trans (hb.mono HI.out.1.size));have Hrow:=qH (zkeep hb _ _ HI.out.2.2);have HW:=qH (qeb (sumQ i x) (68*i+1) (by omega) (by omega) _ w5 hv hfit (HX.out.2.2.2.1.below HB.out));clear hb hv hfit HTt;go_wp2_with fail;refine HW.out.mono ?_;rintro e w6 ⟨h,hb6⟩;have HB6:=qH (HB.out.trans (hb6.mono HB.out.size));have Hrow6:=qH (zkeep hb6 _ _ Hrow.out);clear hb6 HW;rcases h with ⟨_,rfl⟩ | ⟨hns,_⟩
   case inr=>exact absurd HX.out.2.2.1 hns
   rw [qdT,HX.out.2.2.2.2];have HE:=qH (qA (qT _ _ _ #[.string r1,.string r2] _ _ Hrow6.out) (qS HB6.out qN #[.string r1,.string r2]))
   go_wp2_with ((with_reducible refine sR_ rfl 44 _ _ rfl (w.heap.size) #[.string r1,.string r2] Hrow6.out 2 ?_))
   exact qR (v:=.tuple #[.agg #[.string r1,.string r2],.int .i64 0]) (rB_ rfl w.heap.size HE.out.1 Tryz.underlying44 2) rfl ⟨rfl,HE.out.2⟩
theorem qlp (kind:Int) (k n:Nat) (hk:qcC kind k) (h1:1<=n) (h4:n<=4) (w:World):Calls Tryz.prog 110 #[.int .i64 kind,.int .i64 (n:Int)] w fun e w'=>e=.returned (.int .i64 (many k n:Nat))/\w=w':=by
 rcases qht hk with ⟨rfl,rfl⟩ | ⟨rfl,rfl⟩ | ⟨rfl,rfl⟩
 all_goals
  rcases (show n=1\/n=2\/n=3\/n=4 by omega) with rfl | rfl | rfl | rfl
  all_goals
   clear h1 h4 hk;go_enter Tryz.func110,Tryz.ntmps110;go_wp2;go_ret;exact⟨rfl,rfl⟩
def qdC (m:Md):Prop:=∃k n,MdOk m k n
theorem MdAt.parts {W:World} {v:Value} {m:Md} (h:MdAt W v m):∃(a:Nat->Option Addr) (b o c:Nat->Nat),v=.agg #[.int .i64 m.kind,.int .i64 m.inn,.slice (a 0) (m.row 0).length (c 0),.slice (a 1) (m.row 1).length (c 1),.slice (a 2) (m.row 2).length (c 2)]/\∀q,q<3->FCells W (a q) (b q) (o q) (m.row q):=by
 obtain⟨a0,a1,a2,b0,o0,c0,b1,o1,c1,b2,o2,c2,rfl,h0,h1,h2⟩:=h;refine⟨fun q=>if q=0 then a0 else if q=1 then a1 else a2,fun q=>if q=0 then b0 else if q=1 then b1 else b2,fun q=>if q=0 then o0 else if q=1 then o1 else o2,fun q=>if q=0 then c0 else if q=1 then c1 else c2,rfl,fun q hq=>?_⟩;rcases (show q=0\/q=1\/q=2 by omega) with rfl | rfl | rfl
 ·exact h0
 ·exact h1
 ·exact h2
theorem qfS (m:Md) (v:Value) (w:World) (hM:MdAt w v m) (hl:∀q,q<3->(m.row q).length<=4611686018427387904):Calls Tryz.prog 39 #[v] w fun e w'=>qfb w (qdC m) 320 e w':=by
 obtain⟨a,b,o,c,rfl,hF⟩:=hM.parts;obtain⟨kind,hkind⟩:∃z,m.kind=z:=⟨_,rfl⟩;obtain⟨inn,hinn⟩:∃z,m.inn=z:=⟨_,rfl⟩;rw [hkind,hinn];obtain⟨L,hL⟩:∃L:Nat->Nat,∀q,(m.row q).length=L q:=⟨_,fun _=>rfl⟩;rw [hL,hL,hL];obtain⟨W1,hW1,K0⟩:=nw1 w #[.int .i64 kind,.int .i64 inn,.slice (a 0) (L 0) (c 0),.slice (a 1) (L 1) (c 1),.slice (a 2) (L 2) (c 2)] 38;have c0:=qC _ _ 0 _ _ _ K0.out.2;have c1:=qC _ _ 1 _ _ _ K0.out.2;have c2:=qC _ _ 2 _ _ _ K0.out.2;have c3:=qC _ _ 3 _ _ _ K0.out.2;have c4:=qC _ _ 4 _ _ _ K0.out.2;have HX:=qH (qA hkind (qA hinn (qA hl (fun q hq=>(hF q hq).below K0.out.1))));have HLn:=qH hL;have HB0:=qH K0.out.1;clear hM hF hl hkind hinn hL;go_enter Tryz.func39,Tryz.ntmps39;go_upto_region 1 with fail;rw [<-hW1];clear hW1
 go_step3
 go_wp2_with fail;refine (qgP kind W1).mono ?_;rintro e w2 ⟨rfl,hw⟩;subst hw
 by_cases hkn:1<=kind/\kind<=3
 case neg =>
  rw [qU hkn];have HN:=qH hkn;clear hkn;go_wp2;go_ret;exact⟨320,rfl,qah ⟨rfl,fun⟨k,n,h⟩=>HN.out (by have:=h.kind.1;have:=h.kind.2;have:=HX.out.1;omega)⟩,HB0.out⟩
 obtain⟨k,hkk⟩:∃k,qcC kind k:=⟨kind.toNat,by omega,by omega,by omega⟩;rw [qV hkn];have Hk:=qH hkk;clear hkk hkn
 by_cases hin:1<=inn/\inn<=4
 case neg =>
  have HN:=qH hin
  by_cases h1:inn<1
  ·clear hin;go_wp2;go_ret;exact⟨320,rfl,qah ⟨rfl,fun⟨k,n,h⟩=>HN.out (by have:=h.inn;have:=HX.out.2.1;omega)⟩,HB0.out⟩
  ·have h2:4<inn:=by omega
   clear hin;go_wp2;go_ret;exact⟨320,rfl,qah ⟨rfl,fun⟨k,n,h⟩=>HN.out (by have:=h.inn;have:=HX.out.2.1;omega)⟩,HB0.out⟩
 obtain⟨n,hn⟩:∃n:Nat,inn=n:=⟨inn.toNat,by omega⟩;subst hn;have hn1:¬(n:Int)<1:=by omega
 have hn4:¬4<(n:Int):=by omega
 by_cases h34:kind=3/\n=4
 ·obtain⟨h3,h4⟩:=h34;subst h3 h4;go_wp2;go_ret;exact⟨320,rfl,qah ⟨rfl,fun⟨k',n',h⟩=>h.both ⟨by have:=h.kind.1;have:=HX.out.1;omega,by have:=h.inn;have:=HX.out.2.1;omega⟩⟩,HB0.out⟩
 have HNK:=qH h34;go_upto_region 3 with fail
 go_cut [29] (fun x29 W=>x29=.bool false/\Hid (W=W1))
 case first =>
  by_cases h3:kind=3
  ·have hn3:¬(3:Int)<n:=fun h=>h34 ⟨h3,by omega⟩
   subst h3;go_wp2;go_meet;exact⟨rfl,qH rfl⟩
  ·go_wp2;go_meet;exact⟨rfl,qH rfl⟩
 case rest =>
  obtain⟨rfl,hWe⟩:=hcut;have hWe:=hWe.out.symm;subst hWe;clear h34;go_wp2_with fail
  go_step3
  go_wp2_with fail
  go_loopw [3,32] (fun x3 x32 W=>x3=.bool true/\∃j:Nat,x32=.int .i64 j/\j<=3/\Hid ((∀q,q<j->(m.row q).length=many k n/\FAll (m.row q))/\Below W1.heap.size W1 W)) (fun _ x32 _=>3-(intOf x32).toNat)
  case atStart=>exact⟨rfl,0,rfl,qam _,qH ⟨fun q hq=>absurd hq (Nat.not_lt_zero _),Below.refl _ _⟩⟩
  case round =>
   obtain⟨rfl,j,rfl,hj,hI⟩:=hrel
   by_cases hj3:j<3
   ·have hji:(j:Int)<3:=by omega
    obtain⟨row,hrow⟩:∃r,m.row j=r:=⟨_,rfl⟩;obtain⟨aj,haj⟩:∃r,a j=r:=⟨_,rfl⟩;obtain⟨bj,hbj⟩:∃r,b j=r:=⟨_,rfl⟩;obtain⟨oj,hoj⟩:∃r,o j=r:=⟨_,rfl⟩;obtain⟨cj,hcj⟩:∃r,c j=r:=⟨_,rfl⟩;obtain⟨lj,hlj⟩:∃r,L j=r:=⟨_,rfl⟩;have hF:=HX.out.2.2.2 j hj3;rw [hrow,haj,hbj,hoj] at hF;have hrl:row.length=lj:=by rw [<-hrow,HLn.out,hlj]
    have hll:lj<=4611686018427387904:=by rw [<-hrl,<-hrow];exact HX.out.2.2.1 j hj3
    have HR:=qH (qA hrow hrl);have HF:=qH hF;have HI:=qH hI.out;obtain⟨wo,hwo⟩:=qY wr;have hB:=hI.out.2;have d0:=(rowC (B:=W1.heap.size) K0.out.2 0 (hg:=by have:=(qG K0.out.2).1;exact this)) _ hB;have d1:=(rowC (B:=W1.heap.size) K0.out.2 1 (hg:=by have:=(qG K0.out.2).1;exact this)) _ hB;have hcs:(j=0/\a 0=aj/\L 0=lj/\c 0=cj)\/(j=1/\a 1=aj/\L 1=lj/\c 1=cj)\/(j=2/\a 2=aj/\L 2=lj/\c 2=cj):=by
     rcases (show j=0\/j=1\/j=2 by omega) with rfl | rfl | rfl
     ·exact qan ⟨rfl,haj,hlj,hcj⟩
     ·exact qah (qan ⟨rfl,haj,hlj,hcj⟩)
     ·exact qah (qah ⟨rfl,haj,hlj,hcj⟩)
    have HJ:=qH hj3;have hxj:∀W,(Instr.index 36 (.agg #[.slice (a 0) (L 0) (c 0),.slice (a 1) (L 1) (c 1),.slice (a 2) (L 2) (c 2)]) (.int .i64 (j:Int))).run Tryz.prog W=.ok (.slice aj lj cj) W:=fun W=>by
     rcases hcs with ⟨rfl,h1,h2,h3⟩ | ⟨rfl,h1,h2,h3⟩ | ⟨rfl,h1,h2,h3⟩
     all_goals
      rw [<-h1,<-h2,<-h3]
      kernel_rfl
    clear hI hF hrow hrl haj hbj hoj hcj hlj hB hcs;subst hwo;go_wp2_with fail;refine (qlp kind k n Hk.out (by omega) (by omega) _).mono ?_;rintro e w5 ⟨rfl,hw⟩;subst hw
    by_cases hlm:lj=many k n
    case neg =>
     have hne:((lj:Int) != ((many k n:Nat):Int))=true:=by rw [bne_iff_ne];omega
     have HNe:=qH hlm;clear hlm;go_wp2;go_ret;exact⟨320,rfl,qah ⟨rfl,fun⟨k',n',h⟩=>HNe.out (by
      have h1:=(h.rows j HJ.out).1;have h2:=h.kind.1;have h3:=h.inn.1;have h4:=HX.out.1;have h5:=HX.out.2.1;have h6:=Hk.out.1;obtain rfl:k'=k:=by omega
      obtain rfl:n'=n:=by omega
      rw [<-h1,HR.out.1,HR.out.2])⟩,HB0.out.trans (HI.out.2.mono HB0.out.size)⟩
    have hne:((lj:Int) != ((many k n:Nat):Int))=false:=by simp [hlm]
    have HLm:=qH hlm;clear hlm;go_wp2_with fail
    go_loopw [3,45] (fun x3 x45 W=>x3=.bool true/\∃i:Nat,x45=.int .i64 i/\i<=lj/\Hid ((∀q,q<i->FOk (row.getD q fd0).1.data.toList (row.getD q fd0).2.data.toList)/\Below wo.heap.size wo W)) (fun _ x45 _=>lj-(intOf x45).toNat)
    case atStart=>exact⟨rfl,0,rfl,qam _,qH ⟨fun q hq=>absurd hq (Nat.not_lt_zero _),Below.refl _ _⟩⟩
    case round =>
     obtain⟨rfl,i,rfl,hil,hJ⟩:=hrel
     by_cases hi:i<lj
     ·have hii:(i:Int)<lj:=by omega
      have har:=HF.out.addr (by have:=HR.out.2;omega);subst har;obtain⟨e0,e1⟩:=(HF.out.below (HI.out.2.trans (hJ.out.2.mono HI.out.2.size))).cell i (by have:=HR.out.2;omega);obtain⟨N,hN⟩:=qX ((row.getD i fd0).1);obtain⟨D,hD⟩:=qX ((row.getD i fd0).2);rw [hN] at e0;rw [hD] at e1;have HX2:=qH (qA hN hD);clear hN hD;go_wp2_with fail;refine (qfP N D _).mono ?_;rintro e w5 ⟨cc,rfl,hcc,hb5⟩;have HB5:=qH (hJ.out.2.trans ((qB.alloc qN _ |>.trans (hb5.mono (by simp only [qab];omega))).mono hJ.out.2.size));clear hb5;rcases hcc with ⟨rfl,hf⟩ | ⟨rfl,hf⟩
      ·have Hf:=qH hf;clear hf;go_wp2;go_roundw
       case rel =>
        refine⟨rfl,i+1,by go_num,hi,qH ⟨fun q hq=>?_,HB5.out⟩⟩;rcases qaT q i with h | h
        ·exact hJ.out.1 q h
        ·obtain rfl:q=i:=by omega
         rw [HX2.out.1,HX2.out.2];exact Hf.out
       case measure=>simp [intOf];omega
      ·have Hf:=qH hf;clear hf;go_wp2;go_ret;exact⟨320,rfl,qah ⟨rfl,fun⟨k',n',h⟩=>Hf.out (by
        have h1:=(h.rows j HJ.out).2 i (by rw [HR.out.1,HR.out.2];exact hi);rw [HR.out.1,HX2.out.1,HX2.out.2] at h1;exact h1)⟩,HB0.out.trans ((HI.out.2.trans (HB5.out.mono HI.out.2.size)).mono HB0.out.size)⟩
     ·obtain rfl:i=lj:=by omega
      go_wp2;go_roundw
      case rel =>
       refine⟨rfl,j+1,by go_num,HJ.out,qH ⟨fun q hq=>?_,HI.out.2.trans (hJ.out.2.mono HI.out.2.size)⟩⟩;rcases qaT q j with h | h
       ·exact HI.out.1 q h
       ·obtain rfl:q=j:=by omega
        rw [HR.out.1];exact⟨HR.out.2.trans HLm.out,fun x hx=>hJ.out.1 x (by rw [HR.out.2] at hx;exact hx)⟩
      case measure=>simp [intOf];omega
   ·obtain rfl:j=3:=by omega
    go_wp2;go_ret;exact⟨0,rfl,qan ⟨rfl,k,n,⟨by rw [HX.out.1];exact Hk.out,⟨HX.out.2.1,by omega,by omega⟩,fun h=>HNK.out ⟨by have:=Hk.out.1;omega,h.2⟩,fun q hq=>hI.out.1 q hq⟩⟩,HB0.out.trans (hI.out.2.mono HB0.out.size)⟩
theorem str_ext {s t:ByteArray} (h:s.data.toList=t.data.toList):s=t:=by
 have:s.data=t.data:=Array.toList_inj.1 h;cases s;cases t;simp at this;subst this;rfl
def qeZ (l:List Pt) (k:Nat):Lit->Value
 | .string s=>.bool (decide (∃j,j<k/\(l.getD j pt0).name.data.toList=s))
 | _=>.bool false
theorem qjs (l:List Pt):∀kl,(Value.bool false)=qeZ l 0 kl:=fun kl=>by
 unfold qeZ;split
 ·rw [qU (by rintro ⟨j,h,_⟩;omega)]
 ·rfl
theorem qiE (l:List Pt) (k:Nat):∀x,x≠Lit.string (l.getD k pt0).name.data.toList->qeZ l (k+1) x=qeZ l k x:=fun x hx=>by
 unfold qeZ;split
 ·rename_i s
  congr 1
  rw [decide_eq_decide]
  constructor
  ·rintro ⟨j,h,e⟩;rcases (show j<k\/j=k by omega) with h2 | rfl
   ·exact⟨j,h2,e⟩
   ·exact absurd (by rw [e]) hx
  ·rintro ⟨j,h,e⟩;exact⟨j,by omega,e⟩
 ·rfl
theorem qkO (l:List Pt) (k:Nat):qeZ l (k+1) (.string (l.getD k pt0).name.data.toList)=.bool true:=by
 unfold qeZ;exact congrArg Value.bool (qV ⟨k,by omega,rfl⟩)
structure PtsTo (l:List Pt) (k:Nat):Prop where
 rows:∀j,j<k->PtOk (l.getD j pt0)/\(l.getD j pt0).dev.length=chans l
 apart:∀i j,j<i->i<k->(l.getD j pt0).name≠(l.getD i pt0).name
theorem PtsTo.zero (l:List Pt):PtsTo l 0:=⟨fun j h=>absurd h (by omega),fun i j _ h=>absurd h (by omega)⟩
theorem PtsTo.next {l:List Pt} {k:Nat} (h:PtsTo l k) (h1:PtOk (l.getD k pt0)) (h2:(l.getD k pt0).dev.length=chans l) (h3:¬∃j,j<k/\(l.getD j pt0).name.data.toList=(l.getD k pt0).name.data.toList):PtsTo l (k+1) :=
 ⟨fun j hj=>by
  rcases (show j<k\/j=k by omega) with h4 | rfl
  ·exact h.rows j h4
  ·exact⟨h1,h2⟩,fun i j hji hi=>by
  rcases (show i<k\/i=k by omega) with h4 | rfl
  ·exact h.apart i j hji h4
  ·exact fun e=>h3 ⟨j,hji,by rw [e]⟩⟩
theorem qhz (ao:Option Addr) (b off R c:Nat) (l:List Pt) (w:World) (hR:l.length=R) (hl:R<=4611686018427387904) (hs:∀k,k<R->(l.getD k pt0).name.size<=4611686018427387904/\(l.getD k pt0).dev.length<=4611686018427387904) (hP:PCells w ao b off l) :
  Calls Tryz.prog 53 #[.slice ao R c] w fun e w'=>qfb w (PtsOk l) 310 e w':=by
 by_cases h1:1<=R
 case neg =>
  have hi:(R:Int)<1:=by omega
  have HR:=qH hR;clear hP hR;go_enter Tryz.func53,Tryz.ntmps53;go_wp2;go_ret;exact⟨310,rfl,qah ⟨rfl,fun h=>by have:=h.r1;have:=HR.out;omega⟩,Below.refl _ _⟩
 have h1i:¬(R:Int)<1:=by omega
 by_cases h2:R<=40
 case neg =>
  have hi:(40:Int)<R:=by omega
  have HR:=qH hR;clear hP hR;go_enter Tryz.func53,Tryz.ntmps53;go_wp2;go_ret;exact⟨310,rfl,qah ⟨rfl,fun h=>by have:=h.r2;have:=HR.out;omega⟩,Below.refl _ _⟩
 have h2i:¬(40:Int)<R:=by omega
 have hao:=hP.addr (by omega);subst hao;have HX:=qH (qA hP (qA hR hs));have hmm:=@run_makeMap Tryz.prog;have hM0:MapAt (w.alloc (.map #[] 0)) Tryz.prog 9 w.heap.size 0 (.bool false) (qeZ l 0):=(MapAt.made w Tryz.prog 9 (.bool false)).congr fun kl _=>qjs l kl
 have HM0:=qH hM0;have HB0:=qH (show Below w.heap.size w (w.alloc (.map #[] 0)) from qB.alloc qN _);clear hP hR hs hM0;go_enter Tryz.func53,Tryz.ntmps53;go_wp2_with fail;clear hmm
 go_loopw [17] (fun x17 W=>∃k:Nat,x17=.int .i64 k/\k<=R/\Hid (PtsTo l k)/\Hid (Below w.heap.size w W/\MapAt W Tryz.prog 9 w.heap.size k (.bool false) (qeZ l k))) (fun x17 _=>R-(intOf x17).toNat)
 case atStart=>exact⟨0,rfl,qam _,qH (PtsTo.zero l),qH ⟨HB0.out,HM0.out⟩⟩
 case round =>
  obtain⟨k,rfl,hk,hJ,K⟩:=hrel
  by_cases hkR:k<R
  ·have hki:(k:Int)<R:=by omega
   obtain⟨d0,⟨ra,rb,ro,rc,d1,hN⟩,d2,d3,d4⟩:=(HX.out.1.below K.out.1).cell k (by have:=HX.out.2.1;omega);obtain⟨_,⟨ra0,rb0,ro0,rc0,f1,_⟩,_⟩:=(HX.out.1.below K.out.1).cell 0 (by have:=HX.out.2.1;omega);rw [Nat.zero_mul,qbh] at f1;obtain⟨p,hp⟩:=qX (l.getD k pt0);obtain⟨n0,hn0⟩:∃n,(l.getD 0 pt0).dev.length=n:=⟨_,rfl⟩;have hsz:=HX.out.2.2 k hkR;rw [hn0] at f1;rw [hp] at d0 d1 d2 d3 d4 hN hsz;obtain⟨nm,dev,l0,l1,l2⟩:=p;simp only [] at d0 d1 d2 d3 d4 hN hsz;obtain⟨n,hn⟩:=qX dev.length;rw [hn] at d1;have HPp:=qH (qA hp (qA hn0 (qA hn (qA hsz hN))));have hlb:b<wr.heap.size:=qac wr _ f1;obtain⟨W5,hW5,K5⟩:=nw1 wr #[.string nm,.slice ra n rc,.int .i64 l0,.int .i64 l1,.int .i64 l2] 55;have hso:=qm0 (.agg #[.string nm,.slice ra n rc,.int .i64 l0,.int .i64 l1,.int .i64 l2]) ⟨nm,dev,l0,l1,l2⟩;have HSo:=qH (fun (W:World) (h:Below wr.heap.size wr W)=>hso W ⟨ra,rb,ro,rc,by rw [HPp.out.2.2.1],HPp.out.2.2.2.2.below h⟩ HPp.out.2.2.2.1.1 HPp.out.2.2.2.1.2);have hlw:w.heap.size<wr.heap.size:=K.out.2.lt;have KM:=qH (qA K5.out.1 (K.out.2.below K5.out.1));have e00:∀W,Below W5.heap.size W5 W->W.cell? ⟨b,off+1,none⟩=some (.slice ra0 n0 rc0):=fun W h=>(h.cell (p:=⟨b,off+1,none⟩) (qag hlb K5.out.1.size)).trans ((K5.out.1.cell (p:=⟨b,off+1,none⟩) hlb).trans f1)
   have hl5:=(qG K5.out.2).1;have c0:=rowC (B:=W5.heap.size) K5.out.2 0;have c1:=rowC (B:=W5.heap.size) K5.out.2 1;have c2:=rowC (B:=W5.heap.size) K5.out.2 2;have c3:=rowC (B:=W5.heap.size) K5.out.2 3;have c4:=rowC (B:=W5.heap.size) K5.out.2 4;have h0R:(0:Int)<R:=by omega
   have h0Rn:0<R:=by omega
   clear hso hp hn0 hn hsz hN;go_wp2_with fail;rw [<-hW5];clear hW5 d0 d1 d2 d3 d4 f1;refine wp_region_held_drew (S:=fun W=>Below W5.heap.size W5 W) (by kernel_rfl) qB.drew (fun hS0=>?_);refine hT 0 (h:=?_);refine hC 1 (HSo.out _ ((K5.out.1).drew)) (h:=?_);rintro e w6 ⟨bb,rfl,hbb,hb6⟩;have hS6:Below W5.heap.size W5 w6:=qb1 hb6;have K6:=qH (qA (K.out.1.trans ((KM.out.1.trans (hS6.mono KM.out.1.size)).mono K.out.1.size)) (qA (KM.out.2.below hS6) (zkeep hS6 _ _ K5.out.2)));refine⟨_,rfl,hS6,hN (h:=?_)⟩;cases bb with
   | false =>
    have HNo:=qH (show ¬PtOk ⟨nm,dev,l0,l1,l2⟩ from fun h=>by have:=hbb.2 h;cases this);clear hbb hb6;refine hT 2 (h:=hT 3 (h:=hU 4 (h:=hU 5 (h:=hU 6 (h:=hU 7 (h:=hU 8 (h:=hU 9 (h:=hU 10 (h:=hU 11 (h:=hU 12 (h:=hT 13 (h:=hT 14 (h:=hU 15 (h:=hU 16 (h:=hU 17 (h:=hU 18 (h:=hT 19 (h:=?_))))))))))))))))));refine wpAnyH_done (by kernel_rfl) ?_ _;clear hS6 hS0 c0 c1 c2 c3 c4 e00;go_wp2;go_ret;exact⟨310,rfl,qah ⟨rfl,fun h=>HNo.out (by rw [<-HPp.out.1];exact (h.rows k (by have:=HX.out.2.1;omega)).1)⟩,K6.out.1⟩
   | true =>
    have HYe:=qH (hbb.1 rfl);clear hbb hb6
    by_cases hnn:n=n0
    case neg =>
     have hne:((n:Int) != (n0:Int))=true:=by rw [bne_iff_ne];omega
     have HNn:=qH hnn;clear hnn;refine hT 2 (h:=hT 3 (h:=hT 4 (h:=hT 5 (h:=hT 6 (h:=hT 7 (h:=hT 8 (h:=hT 9 (h:=hT 10 (h:=hT 11 (h:=hT 12 (h:=hT 13 (h:=hT 14 (h:=hU 15 (h:=hU 16 (h:=hU 17 (h:=hU 18 (h:=hT 19 (h:=?_))))))))))))))))));refine wpAnyH_done (by kernel_rfl) ?_ _;clear hS6 hS0 c0 c1 c2 c3 c4 e00;go_wp2;go_ret;exact⟨310,rfl,qah ⟨rfl,fun h=>HNn.out (by
      have:=(h.rows k (by have:=HX.out.2.1;omega)).2;rw [HPp.out.1] at this;unfold chans at this;rw [HPp.out.2.1] at this;exact HPp.out.2.2.1.symm.trans this)⟩,K6.out.1⟩
    have hne:((n:Int) != (n0:Int))=false:=by simp [hnn]
    have HNn:=qH hnn;clear hnn;have hks:Maps.Keyed Tryz.prog 9:=Maps.string_keyed Tryz.underlying9;have hut:Tryz.prog.underlying 205=some (.map 9 4):=Tryz.underlying205;have hkey:keyOf Tryz.prog 9 (.string nm)=some (.string nm.data.toList):=WideMaps.keyOf_string_mk Tryz.underlying9 (by have:=HPp.out.2.2.2.1.1;unfold maxLen;omega);obtain⟨seen,hseen⟩:∃s,decide (∃j,j<k/\(l.getD j pt0).name.data.toList=nm.data.toList)=s:=⟨_,rfl⟩;have hlook:∀W,Below W5.heap.size W5 W->(Instr.lookup 205 (.map (some w.heap.size)) (.string nm) false).run Tryz.prog W=.ok (.bool seen) W:=fun W h=>by
     rw [<-hseen];exact (KM.out.2.below h).look hks hut (by kernel_rfl) hkey
    have HSe:=qH hseen;clear hseen;refine hT 2 (h:=hT 3 (h:=hT 4 (h:=hT 5 (h:=hT 6 (h:=hT 7 (h:=hT 8 (h:=hT 9 (h:=hT 10 (h:=hT 11 (h:=hT 12 (h:=hT 13 (h:=hT 14 (h:=hT 15 (h:=hT 16 (h:=hT 17 (h:=hT 18 (h:=hT 19 (h:=?_))))))))))))))))));refine wpAnyH_done (by kernel_rfl) ?_ _;clear hS6 hS0 c0 c1 c2 c3 c4 e00 hlook;cases seen with
    | true =>
     go_wp2;go_ret;exact⟨310,rfl,qah ⟨rfl,fun h=>by
      obtain⟨j,hj,e⟩:=of_decide_eq_true HSe.out;refine h.apart k j hj (by have:=HX.out.2.1;omega) ?_;rw [HPp.out.1];exact str_ext e⟩,K6.out.1⟩
    | false =>
     have hJ2:PtsTo l (k+1):=by
      refine hJ.out.next (by rw [HPp.out.1];exact HYe.out) ?_ (by rw [HPp.out.1];exact of_decide_eq_false HSe.out)
      rw [HPp.out.1];unfold chans;rw [HPp.out.2.1];exact HPp.out.2.2.1.trans HNn.out
     have HJ2:=qH hJ2;obtain⟨W7,hr7,f7,g7⟩:=K6.out.2.1.store hks hut (by unfold maxLen;omega) hkey (.bool true);have hpk:l.getD k pt0=⟨nm,dev,l0,l1,l2⟩:=HPp.out.1;have m7:=f7 (qeZ l (k+1)) (by have:=qkO l k;rw [hpk] at this;exact this) (by have:=qiE l k;rw [hpk] at this;exact this);have K7:=qH (qA (qef K6.out.1 g7 qN) m7);have q0:=qC w6 _ 0 _ _ _ K6.out.2.2;clear hJ2 hpk m7 f7 g7;go_wp2;go_roundw
     case rel=>exact⟨k+1,by go_num,hkR,HJ2,K7⟩
     case measure=>simp [intOf];omega
  ·obtain rfl:k=R:=by omega
   go_wp2;go_ret;exact⟨0,rfl,qan ⟨rfl,⟨by have:=HX.out.2.1;omega,by have:=HX.out.2.1;omega,fun j hj=>hJ.out.rows j (by have:=HX.out.2.1;omega),fun i j hji hi=>hJ.out.apart i j hji (by have:=HX.out.2.1;omega)⟩⟩,K.out.1⟩
theorem chan_any (ao:Option Addr) (b off R c:Nat) (l:List Pt) (w:World) (hR:l.length=R) (hl:R<=4611686018427387904) (hs:∀k,k<R->(l.getD k pt0).name.size<=4611686018427387904/\(l.getD k pt0).dev.length<=4611686018427387904) (hP:PCells w ao b off l) :
  Calls Tryz.prog 141 #[.slice ao R c] w fun e w'=>((PtsOk l/\e=.returned (.tuple #[.int .i64 (chans l:Nat),.int .i64 0]))\/(¬PtsOk l/\e=.returned (.tuple #[.int .i64 0,.int .i64 310])))/\Below w.heap.size w w':=by
 have HC:=qH (qhz ao b off R c l w hR hl hs hP);have HX:=qH (qA hP hR);clear hP hR hs;go_enter Tryz.func141,Tryz.ntmps141;go_wp2_with fail;refine HC.out.mono ?_;rintro e w2 ⟨cc,rfl,hcc,hb⟩;have HB:=qH hb;rcases hcc with ⟨rfl,hok⟩ | ⟨rfl,hno⟩
 ·have h1:1<=R:=by have:=hok.r1;have:=HX.out.2;omega
  have hao:=HX.out.1.addr (by have:=HX.out.2;omega);subst hao;obtain⟨_,⟨ra,rb,ro,rc,f1,_⟩,_⟩:=(HX.out.1.below hb).cell 0 (by have:=HX.out.2;omega);rw [Nat.zero_mul,qbh] at f1;obtain⟨n,hn⟩:=qX ((l.getD 0 pt0).dev.length);rw [hn] at f1;have h0R:(0:Int)<R:=by omega
  have h0Rn:0<R:=by omega
  have HO:=qH (qA hok (show chans l=n from hn));clear hok hn hb;go_wp2_with fail
  go_ret2
  exact⟨qan ⟨HO.out.1,by rw [HO.out.2];rfl⟩,HB.out⟩
 ·have HO:=qH hno;clear hno hb;go_wp2_with fail
  go_ret2
  exact⟨qah ⟨HO.out,rfl⟩,HB.out⟩
def qjG (fc:FuncId) (caps:Array Value) (w:World) (n:Nat) (P:Nat->FT->Prop) (F:Nat->Int->Prop):Prop :=
 ∀i,i<n->∀W,Below w.heap.size w W->Calls Tryz.prog fc (#[.int .i64 (i:Int)]++caps) W fun e w'=>Below W.heap.size W w'/\((∃x y,e=.returned (.agg #[.string x,.string y])/\P i (x,y))\/∃c,e=thrown c/\F i c)
theorem qek (fc:FuncId) (caps:Array Value) (n:Nat) (hn:n<=1000) (P:Nat->FT->Prop) (F:Nat->Int->Prop) (w:World) (hcf:∀a W,(callFunc fc (#[a]++caps)).run Tryz.prog W=.ok (.enter fc (#[a]++caps)) W) (hf:qjG fc caps w n P F) :
  Calls Tryz.prog 58 #[.int .i64 (n:Int),.func (.func fc) #[] caps] w fun e w'=>Below w.heap.size w w' /\
   ((∃(l:List FT) (g:Nat),l.length=n/\(∀i,i<n->P i (l.getD i fd0))/\e=.returned (.slice (some ⟨g,0,none⟩) n n)/\FCells w' (some ⟨g,0,none⟩) g 0 l/\w.heap.size<=g)\/∃i c,i<n/\e=thrown c/\F i c):=by
 have hmk:=qhT n (by omega) w;obtain⟨W5,hW5⟩:=qY (w.alloc (.cells (madeCells #[.string ⟨#[]⟩,.string ⟨#[]⟩] (n*2)) 44));rw [<-hW5] at hmk;have hfr:FRow W5 w.heap.size n []:=hW5▸FRow.made w n;have hb5:Below w.heap.size w W5:=hW5▸qB.alloc qN _;have H0:=qH (qA hfr (qA hb5 hf));clear hfr hb5 hf hW5;go_enter Tryz.func58,Tryz.ntmps58;go_wp2_with fail
 go_loopw [10] (fun x10 W=>∃i:Nat,x10=.int .i64 i/\i<=n/\Hid (∃l:List FT,l.length=i/\(∀j,j<i->P j (l.getD j fd0))/\FRow W w.heap.size n l/\Below w.heap.size w W)) (fun x10 _=>n-(intOf x10).toNat)
 case atStart=>exact⟨0,rfl,qam _,qH ⟨[],rfl,fun j hj=>absurd hj (by omega),H0.out.1,H0.out.2.1⟩⟩
 case round =>
  obtain⟨i,rfl,hin,hI⟩:=hrel;obtain⟨l,hl,hP,hF,hB⟩:=hI.out
  by_cases hi:i<n
  ·subst hl;have hiI:(l.length:Int)<n:=by omega
   have HC:=qH (H0.out.2.2 l.length hi _ hB);have HI:=qH (qA hP (qA hF hB));clear hI hP hF hB;go_wp2_with fail;refine HC.out.mono ?_;rintro e w2 ⟨hb2,h⟩;rcases h with ⟨x,y,rfl,hp⟩ | ⟨c,rfl,hF⟩
   ·have hFc:=HI.out.2.1.below hb2;obtain⟨⟨q0,q1⟩,qf⟩:=hFc.at hi;have qf0:=qf (l.length*2);have qf1:=qf (l.length*2+1);have HN:=qH (qA (hFc.set hi (x,y)) (qA (((HI.out.2.2.trans (hb2.mono HI.out.2.2.size)).setCell (p:=⟨w.heap.size,l.length*2,none⟩) qN (.string x)).setCell (p:=⟨w.heap.size,l.length*2+1,none⟩) qN (.string y)) hp));clear hFc qf hb2 hp;go_wp2;go_roundw
    case rel =>
     refine⟨l.length+1,by go_num,hi,qH ⟨l++[(x,y)],by simp,fun j hj=>?_,HN.out.1,HN.out.2.1⟩⟩;rcases qaT j l.length with hj2 | hj2
     ·rw [qaa,qaA hj2,<-qaa];exact HI.out.1 j hj2
     ·have:j=l.length:=by omega
      subst this;rw [qaa,qas qN,qaI];exact HN.out.2.2
    case measure=>simp [intOf];omega
   ·have HN:=qH (qA (HI.out.2.2.trans (hb2.mono HI.out.2.2.size)) hF);clear hb2 hF;unfold thrown;go_wp2_with fail;exact⟨rfl,HN.out.1,qah ⟨_,c,hi,rfl,HN.out.2⟩⟩
  ·obtain rfl:i=n:=by omega
   have HN:=qH (qA hl (qA hP (qA (hF.cells hl) hB)));clear hI hl hP hF hB;go_wp2;go_ret;obtain⟨h1,h2,h3,h4⟩:=HN.out;exact⟨h4,qan ⟨l,_,h1,h2,rfl,h3,qad _⟩⟩
def VRow (W:World) (g n:Nat) (z:Value) (e:TypeId) (vs:List Value):Prop:=W.heap[g]? = some (.cells (vs++List.replicate (n-vs.length) z).toArray e (0,0))/\vs.length<=n
theorem VRow.below {W W':World} {g n:Nat} {z:Value} {e:TypeId} {vs:List Value} (h:VRow W g n z e vs) (hb:Below W.heap.size W W'):VRow W' g n z e vs :=
 ⟨(hb.block _ (qG h.1).1).trans h.1,h.2⟩
theorem VRow.at {W:World} {g n:Nat} {z:Value} {e:TypeId} {vs:List Value} (h:VRow W g n z e vs) (hk:vs.length<n):W.cell? ⟨g,vs.length,none⟩=some z/\∀j,W.frozen? ⟨g,j,none⟩=false:=by
 refine⟨(qC _ _ _ _ _ _ h.1).trans ((qat ..).trans ?_),fun j=>qF _ _ _ _ _ h.1⟩;rw [qas qN,qaI,qbc,if_pos (by omega)]
theorem VRow.set {W:World} {g n:Nat} {z:Value} {e:TypeId} {vs:List Value} (h:VRow W g n z e vs) (hk:vs.length<n) (v:Value):VRow (W.setCell ⟨g,vs.length,none⟩ v) g n z e (vs++[v]):=by
 refine⟨?_,by rw [qaf,qax];omega⟩;rw [heap_setCell_same _ g vs.length _ _ _ h.1]
 congr 3
 obtain⟨m,hm⟩:∃m,n-vs.length=m+1:=⟨n-vs.length-1,by omega⟩;rw [qaC,hm,qbo,qaf,qax,show n-(vs.length+1)=m by omega,qbd _ _ qN,qaI,qbn,qay]
 rfl
theorem VRow.made (W:World) (n:Nat) (z:Value) (e:TypeId):VRow (W.alloc (.cells (Array.replicate n z) e)) W.heap.size n z e []:=by
 refine⟨?_,qam _⟩;rw [qM _ _ _ rfl,qbq,List.length_nil,Nat.sub_zero,qbw]
theorem VRow.cells {W:World} {g n:Nat} {z:Value} {e:TypeId} {vs:List Value} (h:VRow W g n z e vs) (hn:vs.length=n):VCells W (some ⟨g,0,none⟩) g 0 vs:=by
 have h1:=h.1;rw [hn,qaI,List.replicate_zero,List.append_nil] at h1;refine⟨fun _=>rfl,fun k hk=>?_⟩;rw [qaO];refine (qC _ _ _ _ _ _ h1).trans ((qat ..).trans ?_);rw [qaa,qae hk];rfl
theorem VRow.made' (W:World) (n:Nat) (z:Value) (e:TypeId):VRow (W.alloc (.cells (madeCells #[z] n) e)) W.heap.size n z e []:=by
 have:madeCells #[z] n=Array.replicate n z:=by
  apply Array.ext
  ·simp [madeCells]
  ·intro i h1 h2;simp [madeCells,Nat.mod_one]
 rw [this];exact VRow.made W n z e
def RVals (W:World) (vs:List Value) (t:Tbl):Prop:=vs.length=t.length/\∀k,k<t.length->∃(ra:Option Addr) (rb ro rc:Nat),vs.getD k undef=.slice ra (t.getD k []).length rc/\FCells W ra rb ro (t.getD k [])
theorem RVals.below {W W':World} {vs:List Value} {t:Tbl} (h:RVals W vs t) (hb:Below W.heap.size W W'):RVals W' vs t :=
 ⟨h.1,fun k hk=>by
  obtain⟨ra,rb,ro,rc,h1,h2⟩:=h.2 k hk;exact⟨ra,rb,ro,rc,h1,h2.below hb⟩⟩
theorem RVals.tcells {W:World} {ao:Option Addr} {b off:Nat} {vs:List Value} {t:Tbl} (h:RVals W vs t) (hv:VCells W ao b off vs):TCells W ao b off t :=
 ⟨fun h0=>hv.addr (by rw [h.1];exact h0),fun k hk=>by
  obtain⟨ra,rb,ro,rc,h1,h2⟩:=h.2 k hk;exact⟨ra,rb,ro,rc,(hv.cell k (by rw [h.1];exact hk)).trans (by rw [h1]),h2⟩⟩
theorem RVals.append {W:World} {vs vs2:List Value} {t t2:Tbl} (h:RVals W vs t) (h2:RVals W vs2 t2):RVals W (vs++vs2) (t++t2):=by
 refine⟨by rw [qaf,qaf,h.1,h2.1],fun k hk=>?_⟩;rw [qaf] at hk
 by_cases e:k<t.length
 ·have e1:(vs++vs2).getD k undef=vs.getD k undef:=by rw [qaa,qaA (by rw [h.1];exact e),<-qaa]
  have e2:(t++t2).getD k []=t.getD k []:=by rw [qaa,qaA e,<-qaa]
  rw [e1,e2];exact h.2 k e
 ·have e1:(vs++vs2).getD k undef=vs2.getD (k-t.length) undef:=by rw [qaa,qas (by rw [h.1];omega),h.1,<-qaa]
  have e2:(t++t2).getD k []=t2.getD (k-t.length) []:=by rw [qaa,qas (by omega),<-qaa]
  rw [e1,e2];exact h2.2 _ (by omega)
theorem RVals.one {W:World} {ra:Option Addr} {rb ro m rc:Nat} {l:List FT} (hl:l.length=m) (h:FCells W ra rb ro l):RVals W [.slice ra m rc] [l] :=
 ⟨rfl,fun k hk=>by
  obtain rfl:k=0:=by simp at hk;omega
  exact⟨ra,rb,ro,rc,by rw [show ([l]:Tbl).getD 0 []=l from rfl,hl];rfl,h⟩⟩
theorem FCells.kept {W W':World} {ao:Option Addr} {b off:Nat} {l:List FT} (h:FCells W ao b off l) (hk:∀a s,W.cell? a=some (.string s)->W'.cell? a=some (.string s)):FCells W' ao b off l :=
 ⟨h.addr,fun k h2=>⟨hk _ _ (h.cell k h2).1,hk _ _ (h.cell k h2).2⟩⟩
theorem RVals.kept {W W':World} {vs:List Value} {t:Tbl} (h:RVals W vs t) (hk:∀a s,W.cell? a=some (.string s)->W'.cell? a=some (.string s)):RVals W' vs t :=
 ⟨h.1,fun k h2=>by
  obtain⟨a,b,o,c,h1,h3⟩:=h.2 k h2;exact⟨a,b,o,c,h1,h3.kept hk⟩⟩
theorem qkc {W:World} {p:Addr} {v u:Value} (hc:W.cell? p=some v) (hv:∀s,v≠.string s):∀a s,W.cell? a=some (.string s)->(W.setCell p u).cell? a=some (.string s):=fun a s h=>by
 have hne:p≠a:=by rintro rfl;rw [hc] at h;exact hv s (qai h)
 rw [World.cell?_setCell_other (h:=hne)];exact h
def qk9 (fc:FuncId) (caps:Array Value) (w:World) (n:Nat) (P:Nat->List FT->Prop) (F:Nat->Int->Prop):Prop :=
 ∀i,i<n->∀W,Below w.heap.size w W->Calls Tryz.prog fc (#[.int .i64 (i:Int)]++caps) W fun e w'=>Below W.heap.size W w'/\((∃(l:List FT) (a:Option Addr) (g m c:Nat),e=.returned (.slice a m c)/\l.length=m/\FCells w' a g 0 l/\P i l)\/∃c,e=thrown c/\F i c)
def RowsTo (W:World) (g n:Nat) (P:Nat->List FT->Prop) (i:Nat) (e:TypeId):Prop:=∃(vs:List Value) (t:Tbl),vs.length=i/\VRow W g n (.slice none 0 0) e vs/\RVals W vs t/\∀j,j<i->P j (t.getD j [])
theorem qgJ (fc:FuncId) (caps:Array Value) (n:Nat) (hn:n<=1000) (P:Nat->List FT->Prop) (F:Nat->Int->Prop) (w:World) (hcf:∀a W,(callFunc fc (#[a]++caps)).run Tryz.prog W=.ok (.enter fc (#[a]++caps)) W) (hf:qk9 fc caps w n P F) :
  Calls Tryz.prog 55 #[.int .i64 (n:Int),.func (.func fc) #[] caps] w fun e w'=>Below w.heap.size w w' /\
   ((∃(t:Tbl) (g:Nat),t.length=n/\(∀i,i<n->P i (t.getD i []))/\e=.returned (.slice (some ⟨g,0,none⟩) n n)/\TCells w' (some ⟨g,0,none⟩) g 0 t/\w.heap.size<=g)\/∃i c,i<n/\e=thrown c/\F i c):=by
 have hmk:=run_make_row' (P:=Tryz.prog) 114 35 (.slice none 0 0) 24 Tryz.underlying114 infoFs rfl .i64 .i64 n (by omega) (by omega) w;obtain⟨W5,hW5⟩:=qY (w.alloc (.cells (madeCells #[.slice none 0 0] n) 35));rw [<-hW5] at hmk;have hfr:VRow W5 w.heap.size n (.slice none 0 0) 35 []:=hW5▸VRow.made' w n _ _;have hb5:Below w.heap.size w W5:=hW5▸qB.alloc qN _;have H0:=qH (qA hfr (qA hb5 hf));clear hfr hb5 hf hW5;go_enter Tryz.func55,Tryz.ntmps55;go_wp2_with fail
 go_loopw [10] (fun x10 W=>∃i:Nat,x10=.int .i64 i/\i<=n/\Hid (RowsTo W w.heap.size n P i 35/\Below w.heap.size w W)) (fun x10 _=>n-(intOf x10).toNat)
 case atStart=>exact⟨0,rfl,qam _,qH ⟨⟨[],[],rfl,H0.out.1,⟨rfl,fun k hk=>absurd hk (Nat.not_lt_zero _)⟩,fun j hj=>absurd hj (by omega)⟩,H0.out.2.1⟩⟩
 case round =>
  obtain⟨i,rfl,hin,hI⟩:=hrel;obtain⟨⟨vs,t,hl,hV,hR,hP⟩,hB⟩:=hI.out
  by_cases hi:i<n
  ·subst hl;have hiI:(vs.length:Int)<n:=by omega
   have HC:=qH (H0.out.2.2 vs.length hi _ hB);have HI:=qH (qA hP (qA hV (qA hR hB)));clear hI hP hV hR hB;go_wp2_with fail;refine HC.out.mono ?_;rintro e w2 ⟨hb2,h⟩;rcases h with ⟨l,a,g,m,c,rfl,hm,hF,hp⟩ | ⟨c,rfl,hF⟩
   ·have hVc:=HI.out.2.1.below hb2;obtain⟨q0,qf⟩:=hVc.at hi;have qf0:=qf vs.length;have HN:=qH (qA (hVc.set hi (.slice a m c)) (qA ((HI.out.2.2.2.trans (hb2.mono HI.out.2.2.2.size)).setCell (p:=⟨w.heap.size,vs.length,none⟩) qN (.slice a m c)) (qA (((HI.out.2.2.1.below hb2).append (RVals.one hm hF (rc:=c))).kept (qkc (u:=.slice a m c) q0 (fun s h=>by cases h))) hp)));clear hVc qf hb2 hp hF;go_wp2;go_roundw
    case rel =>
     refine⟨vs.length+1,by go_num,hi,qH ⟨⟨_,_,by simp,HN.out.1,HN.out.2.2.1,fun j hj=>?_⟩,HN.out.2.1⟩⟩;have hlt:=HI.out.2.2.1.1;rcases qaT j t.length with hj2 | hj2
     ·rw [qaa,qaA hj2,<-qaa];exact HI.out.1 j (by omega)
     ·have:j=t.length:=by omega
      subst this;rw [qaa,qas qN,qaI,<-hlt];exact HN.out.2.2.2
    case measure=>simp [intOf];omega
   ·have HN:=qH (qA (HI.out.2.2.2.trans (hb2.mono HI.out.2.2.2.size)) hF);clear hb2 hF;unfold thrown;go_wp2_with fail;exact⟨rfl,HN.out.1,qah ⟨_,c,hi,rfl,HN.out.2⟩⟩
  ·obtain rfl:i=n:=by omega
   have HN:=qH (qA (hR.1.symm.trans hl) (qA hP (qA (hR.tcells (hV.cells hl)) hB)));clear hI hl hP hV hR hB;go_wp2;go_ret;obtain⟨h1,h2,h3,h4⟩:=HN.out;exact⟨h4,qan ⟨t,_,h1,h2,rfl,h3,qad _⟩⟩
def FOwn (W:World) (B:Nat) (v:Value) (l:List FT):Prop:=Rws W B 44 2 v l.length (fflat l)
theorem FOwn.below {W W':World} {B:Nat} {v:Value} {l:List FT} (h:FOwn W B v l) (hb:Below W.heap.size W W'):FOwn W' B v l:=Rws.below h hb
theorem FOwn.cells {W:World} {B:Nat} {v:Value} {l:List FT} {n:Nat} (h:FOwn W B v l) (hn:l.length=n):∃(ao:Option Addr) (g cap:Nat),v=.slice ao n cap/\FCells W ao g 0 l/\n<=cap:=by
 obtain⟨ao,g,cap,h1,h2,h3⟩:=qd2 h rfl;rw [hn] at h1 h3;exact⟨ao,g,cap,h1,h2,h3⟩
def ways (a b c:Value):Lit->Value
 | .int .i64 1=>a
 | .int .i64 2=>b
 | .int .i64 3=>c
 | _=>.nilFunc
theorem ways_a (a:Value):∀x,x≠Lit.int .i64 1->ways a .nilFunc .nilFunc x=.nilFunc:=fun x h=>by
 unfold ways;split
 ·exact absurd rfl h
 ·rfl
 ·rfl
 ·rfl
theorem ways_b (a b:Value):∀x,x≠Lit.int .i64 2->ways a b .nilFunc x=ways a .nilFunc .nilFunc x:=fun x h=>by
 unfold ways;split
 ·rfl
 ·exact absurd rfl h
 ·rfl
 ·rfl
theorem ways_c (a b c:Value):∀x,x≠Lit.int .i64 3->ways a b c x=ways a b .nilFunc x:=fun x h=>by
 unfold ways;split
 ·rfl
 ·rfl
 ·exact absurd rfl h
 ·rfl
theorem qfK (kind:Int) (k:Nat) (hk:qcC kind k) (ao:Option Addr) (b off n c:Nat) (d:List Int) (w:World) (hn:d.length=n) (h1:1<=n) (h4:n<=4) (h3:k=3->n<=3) (hN:NCells w ao b off d) (hV:qcO d) (hT:HasT w) :
  Calls Tryz.prog 57 #[.int .i64 kind,.slice ao n c] w fun e w'=>∃v,e=.returned v/\FOwn w' w.heap.size v ((termL k d).map ftxt)/\Below w.heap.size w w':=by
 have hao:=hN.addr (by omega);subst hao;have HX:=qH (qA hk (qA hn (qA h3 (qA hN (qA hV hT)))));have hmk:=qhT n (by omega);have hmm:=@run_makeMap Tryz.prog;have hmf:=@hmf_ Tryz.prog;obtain⟨W1,hW1⟩:∃W,W=(w.alloc (.cells (madeCells #[.string ⟨#[]⟩,.string ⟨#[]⟩] (n*2)) 44)).alloc (.cells #[.slice (some ⟨w.heap.size,0,none⟩) n n] 35):=⟨_,rfl⟩;have hb1:Below w.heap.size w W1:=hW1▸qbS (qbS qB qN) qN;have hr1:FRow W1 w.heap.size n []:=by rw [hW1];exact (FRow.made w n).below (qbS qB qN)
 have hr2:W1.heap[w.heap.size+1]? = some (.cells #[.slice (some ⟨w.heap.size,0,none⟩) n n] 35 (0,0)):=by rw [hW1];exact qM _ _ _ (by simp)
 have K1:=qH (qA hb1 (qA hr1 hr2));clear hk hn hN hV hT hb1 hr1 hr2 h3;go_enter Tryz.func57,Tryz.ntmps57;go_wp2_with fail;rw [<-hW1]
 go_loopw [16] (fun x16 W=>∃k:Nat,x16=.int .i64 k/\k<=n/\Hid (Below w.heap.size w W/\FRow W w.heap.size n (told k (dq d))/\W.heap[w.heap.size+1]? = some (.cells #[.slice (some ⟨w.heap.size,0,none⟩) n n] 35 (0,0)))) (fun x16 _=>n-(intOf x16).toNat)
 case atStart=>exact⟨0,rfl,qam _,K1⟩
 case round =>
  clear hmk hW1 K1;have HMM:=qH hmm;have HMF:=qH hmf;clear hmm hmf;obtain⟨j,rfl,hj,K⟩:=hrel
  by_cases hjn:j<n
  ·have hji:(j:Int)<n:=by omega
   have d0:=(HX.out.2.2.2.1.below K.out.1).cell j (by have:=HX.out.2.1;omega);obtain⟨x,hx⟩:=qX (d.getD j 0);rw [hx] at d0;have hxr:=HX.out.2.2.2.2.1.at j;rw [hx] at hxr;obtain⟨t1,t2,ht⟩:=qb6 (dq d j);have hOf:=fun (W:World) (h:Below w.heap.size w W)=>of_int x 10000 (by decide) (by omega) (by decide) W (HX.out.2.2.2.2.2.below h)
   have hdq:(x:Rat) / ((10000:Int):Rat)=dq d j:=by unfold dq;rw [hx];rfl
   rw [hdq,ht] at hOf;have HO:=qH hOf;have HT2:=qH ht;have hl2:=(qG K.out.2.2).1;have q5:=rowG (g0:=w.heap.size) K.out.2.2 0;have hlen:(told j (dq d)).length=j:=qbW _ _;have HL:=qH hlen;clear hx ht hdq hOf hlen;go_wp2_with fail;refine wp_region_held_drew (S:=fun W=>wr.grownBy W (some w.heap.size)) (by kernel_rfl) (keepB qB.drew) (fun hS0=>?_);refine hT 0 (h:=hT 1 (h:=hT 2 (h:=?_)));refine hC 3 (HO.out _ (K.out.1.drew)) (h:=?_);rintro e w1 ⟨rfl,hb1⟩;have hS1:=qgO (g:=w.heap.size) hb1;refine⟨_,rfl,hS1,hN (h:=?_)⟩;refine hT 4 (h:=hT 5 (h:=?_));refine hC 6 (qcI t1 t2 w1) (h:=?_);rintro e w2 ⟨rfl,hb2⟩;have hS2:=qcd hS1 hb2;have hbb:Below wr.heap.size wr w2:=(qb1 hb1).trans (hb2.mono (qb1 hb1).size);have K2:=qH (qA (K.out.1.trans (hbb.mono K.out.1.size)) (qA (K.out.2.1.below hbb) (zkeep hbb _ _ K.out.2.2)));refine⟨_,rfl,hS2,hN (h:=?_)⟩;obtain⟨⟨z0,z1⟩,zf⟩:=K2.out.2.1.at (by rw [HL.out];exact hjn);rw [HL.out] at z0 z1;have zf0:=zf (j*2);have zf1:=zf (j*2+1);have hset:=K2.out.2.1.set (by rw [HL.out];exact hjn) (t1,t2);refine hT 7 (h:=?_);refine hSg 8 (h:=⟨qbU (qbU hS2 (frac.qbX _ _ _ _)) (frac.qbX _ _ _ _),?_⟩);refine wpAnyH_done (by kernel_rfl) ?_ _;rw [HL.out,show (t1,t2)=ftxt (dq d j) from HT2.out.symm,<-qhh] at hset;have K3:Hid (Below w.heap.size w ((w2.setCell ⟨w.heap.size,j*2,none⟩ (.string t1)).setCell ⟨w.heap.size,j*2+1,none⟩ (.string t2))/\FRow ((w2.setCell ⟨w.heap.size,j*2,none⟩ (.string t1)).setCell ⟨w.heap.size,j*2+1,none⟩ (.string t2)) w.heap.size n (told (j+1) (dq d))/\((w2.setCell ⟨w.heap.size,j*2,none⟩ (.string t1)).setCell ⟨w.heap.size,j*2+1,none⟩ (.string t2)).heap[w.heap.size+1]? = some (.cells #[.slice (some ⟨w.heap.size,0,none⟩) n n] 35 (0,0))) :=
    qH ⟨(K2.out.1.setCell (by exact qad _) _).setCell (by exact qad _) _,by have:=hset;rw [HT2.out] at this;exact this,(qW _ _ _ _ (show w.heap.size+1≠w.heap.size by omega)).trans ((qW _ _ _ _ (show w.heap.size+1≠w.heap.size by omega)).trans K2.out.2.2)⟩
   obtain⟨W3,hW3⟩:∃W,W=(w2.setCell ⟨w.heap.size,j*2,none⟩ (.string t1)).setCell ⟨w.heap.size,j*2+1,none⟩ (.string t2):=⟨_,rfl⟩;rw [<-hW3] at K3 ⊢;clear hW3 hset z0 z1 zf zf0 zf1 hbb hS2 hS1 hb2 hb1 q5 d0;go_wp2;go_roundw
   case rel=>exact⟨j+1,by go_num,hjn,K3⟩
   case measure=>simp [intOf];omega
  ·obtain rfl:j=n:=by omega
   have hP:HasT wr:=HX.out.2.2.2.2.2.below K.out.1;obtain⟨t1,t2,ht⟩:=qb6 1;have hOf:=fun (W:World) (h:Below w.heap.size w W)=>of_int 1 1 (by decide) (by decide) (by decide) W (HX.out.2.2.2.2.2.below h)
   rw [show ((1:Int):Rat) / ((1:Int):Rat)=1 by decide +kernel,ht] at hOf;have HO:=qH hOf;have Ht:=qH ht;clear hP ht hOf;go_wp2_with fail;refine (HO.out wr K.out.1).mono ?_;rintro e w1 ⟨rfl,hb1⟩;go_wp2_with fail;refine (qcI t1 t2 w1).mono ?_;rintro e w2 ⟨rfl,hb2⟩;obtain⟨W3,hW3,N3⟩:=nw2 w2 #[.string t1,.string t2] 44 #[.string t1,.string t2] 44;have hbb:Below wr.heap.size wr W3:=hb1.trans ((hb2.trans (N3.out.1.mono hb2.size)).mono hb1.size);have K3:=qH (qA (K.out.1.trans (hbb.mono K.out.1.size)) (qA (K.out.2.1.below hbb) (qA (zkeep hbb _ _ K.out.2.2) N3.out.2)));have hsz2:w.heap.size<=w2.heap.size:=qaj K.out.1.size (qaj hb1.size hb2.size);have c50:=qC W3 _ 0 _ _ _ K3.out.2.2.1;have c50w:=qC w2 _ 0 _ _ _ (zkeep hb2 _ _ (zkeep hb1 _ _ K.out.2.2));have hl5:w.heap.size+1<w2.heap.size:=(qG (zkeep hb2 _ _ (zkeep hb1 _ _ K.out.2.2))).1;have hl5b:w.heap.size+1<w2.heap.size+1:=by omega
   obtain⟨v',w4,hr,hv',hway⟩:=qfD (m:=j) (c:=j) 35 (qmS K3.out.2.2.2.2 (B:=w.heap.size) (by omega)) K3.out.1.size (K3.out.2.1.cells (qbW _ _)) (qbW _ _) (by omega) (by omega);have hsz4:W3.heap.size<=w4.heap.size:=by rcases hway with ⟨_,h⟩ | ⟨_,h⟩ <;> exact h.size
   obtain⟨h5,_⟩:=qcU K3.out.2.2.1 (by intro e;have:w2.heap.size+1=w.heap.size+1:=qai e;omega) hway;obtain⟨h8,_⟩:=qcU K3.out.2.2.2.1 (by intro e;have:w2.heap.size+1=w2.heap.size:=qai e;omega) hway;obtain⟨hg,hgn⟩:=qcU K3.out.2.1.1 (by intro e;have:w2.heap.size+1=w.heap.size:=qai e;omega) hway;have hold:=qfv (B:=w.heap.size) K3.out.1 (fun k hk=>by have:w2.heap.size+1=k:=qai hk;omega) K3.out.1.size hway;have hv2:FOwn w4 w.heap.size v' ((lin d).map ftxt):=by
    unfold FOwn;rw [qaw,qmb,HX.out.2.1,lin_told,HX.out.2.1,Ht.out,show j+1=1+j by omega];exact hv'
   have K4:=qH (qA hold (qA (show FRow w4 w.heap.size j (told j (dq d)) from ⟨hg,K3.out.2.1.2⟩) (qA h5 (qA h8 (qA hv2 hgn)))));obtain⟨av,cv,rfl⟩:=hv'.shape;clear hb1 hb2 hbb N3 hv' hway h5 h8 hg hgn hold hv2 c50;rw [hW3] at hr;have hmm:=HMM.out;have hmf:=HMF.out;have l54:w.heap.size+1<w4.heap.size:=(qG K4.out.2.2.1).1;have l84:w2.heap.size<w4.heap.size:=(qG K4.out.2.2.2.1).1;obtain⟨W5,hW5⟩:∃W,W=(w4.alloc (.cells #[.slice av (1+j) cv] 35)).alloc (.map #[] 0):=⟨_,rfl⟩;have hb45:Below w4.heap.size w4 W5:=hW5▸(qB.alloc qN _).alloc (by simp) _;have h9:W5.heap[w4.heap.size]? = some (.cells #[.slice av (1+j) cv] 35 (0,0)):=by rw [hW5,qL _ _ _ (by simp only [qab];omega)];exact qM _ _ _ rfl
   have hM0:MapAt W5 Tryz.prog 3 (w4.heap.size+1) 0 (.nilFunc) (fun _=>.nilFunc):=by
    have:=MapAt.made (w4.alloc (.cells #[.slice av (1+j) cv] 35)) Tryz.prog 3 .nilFunc;rw [qab] at this;rw [hW5];exact this
   have hkd:Maps.Keyed Tryz.prog 3:=Maps.int_keyed Tryz.underlying3;have hut:Tryz.prog.underlying 207=some (.map 3 161):=Tryz.underlying207;obtain⟨W6,hr6,f6,g6⟩:=hM0.store hkd hut (by decide) (Maps.keyOf_int_mk (q:=.i64) (a:=1) Tryz.underlying3 (by decide)) (.func (.func 125) #[] #[.pointer (some ⟨w4.heap.size,0,none⟩)]);have m6:=f6 (ways (.func (.func 125) #[] #[.pointer (some ⟨w4.heap.size,0,none⟩)]) .nilFunc .nilFunc) rfl (ways_a _);obtain⟨W7,hr7,f7,g7⟩:=m6.store hkd hut (by decide) (Maps.keyOf_int_mk (q:=.i64) (a:=2) Tryz.underlying3 (by decide)) (.func (.func 126) #[] #[.pointer (some ⟨w.heap.size+1,0,none⟩),.pointer (some ⟨w4.heap.size,0,none⟩)]);have m7:=f7 (ways (.func (.func 125) #[] #[.pointer (some ⟨w4.heap.size,0,none⟩)]) (.func (.func 126) #[] #[.pointer (some ⟨w.heap.size+1,0,none⟩),.pointer (some ⟨w4.heap.size,0,none⟩)]) .nilFunc) rfl (ways_b _ _);obtain⟨W8,hr8,f8,g8⟩:=m7.store hkd hut (by decide) (Maps.keyOf_int_mk (q:=.i64) (a:=3) Tryz.underlying3 (by decide)) (.func (.func 127) #[] #[.pointer (some ⟨w2.heap.size,0,none⟩),.pointer (some ⟨w.heap.size+1,0,none⟩)]);have m8:=f8 (ways (.func (.func 125) #[] #[.pointer (some ⟨w4.heap.size,0,none⟩)]) (.func (.func 126) #[] #[.pointer (some ⟨w.heap.size+1,0,none⟩),.pointer (some ⟨w4.heap.size,0,none⟩)]) (.func (.func 127) #[] #[.pointer (some ⟨w2.heap.size,0,none⟩),.pointer (some ⟨w.heap.size+1,0,none⟩)])) rfl (ways_c _ _ _);have hz:(zeroValue 161).run Tryz.prog W8=.ok .nilFunc W8:=by kernel_rfl
   have look:=fun (kl:Int) (h:(Lit.int .i64 kl).wf=true)=>m8.look hkd hut hz (Maps.keyOf_int_mk (q:=.i64) (a:=kl) Tryz.underlying3 h)
   have hkeep:W5.grownBy W8 (some (w4.heap.size+1)):=qbU (qbU g6 g7) g8;have K8:Hid (Below w.heap.size w W8/\FRow W8 w.heap.size j (told j (dq d))/\W8.heap[w.heap.size+1]? = some (.cells #[.slice (some ⟨w.heap.size,0,none⟩) j j] 35 (0,0))/\W8.heap[w2.heap.size]? = some (.cells #[.string t1,.string t2] 44 (0,0))/\FOwn W8 w.heap.size (.slice av (1+j) cv) ((lin d).map ftxt)/\W8.heap[w4.heap.size]? = some (.cells #[.slice av (1+j) cv] 35 (0,0))):=by
    have row:∀g o,W5.heap[g]? = some o->g≠w4.heap.size+1->W8.heap[g]? = some o:=fun g o h hne=>(hkeep.block g (qG h).1 (fun e=>hne (qai e))).trans h
    have hB5:=K4.out.1.trans (hb45.mono K4.out.1.size);refine qH ⟨qef hB5 hkeep (by omega),⟨row _ _ (zkeep hb45 _ _ K4.out.2.1.1) (by omega),K4.out.2.1.2⟩,row _ _ (zkeep hb45 _ _ K4.out.2.2.1) (by omega),row _ _ (zkeep hb45 _ _ K4.out.2.2.2.1) (by omega),(K4.out.2.2.2.2.1.below hb45).kept hkeep (qah fun e=>?_),row _ _ h9 (by omega)⟩;have:=(K4.out.2.2.2.2.1.lt _ e).2;omega
   have Hn:=qH K4.out.2.2.2.2.2;rw [hW5] at hr6;rcases qht HX.out.1 with ⟨rfl,rfl⟩ | ⟨rfl,rfl⟩ | ⟨rfl,rfl⟩
   ·have hl:(Instr.lookup 207 (.map (some (w4.heap.size+1))) (.int .i64 1) false).run Tryz.prog W8=.ok (.func (.func 125) #[] #[.pointer (some ⟨w4.heap.size,0,none⟩)]) W8:=look 1 (by decide);have hc:=qk4 w4.heap.size _ W8 K8.out.2.2.2.2.2 ⟨_,_,_,rfl⟩;have HC:=qH hc;clear hc look m8 m7 m6 f6 f7 f8 g6 g7 g8 hM0 h9 hb45 hW5 hkeep hz
    go_wp2_with ((with_reducible refine qeU rfl (.tmp 35) (.tmp 36) 35 rfl ?_ ?_ hr ?_);(next=>rfl);(next=>rfl))
    refine HC.out.mono ?_;rintro e w9 ⟨rfl,hw⟩;have hw:=hw.symm;subst hw;have HR:=qH (qA K8.out.2.2.2.2.1 K8.out.1);go_wp2;go_ret;exact⟨_,rfl,HR.out.1,HR.out.2⟩
   ·have hl:(Instr.lookup 207 (.map (some (w4.heap.size+1))) (.int .i64 2) false).run Tryz.prog W8=.ok (.func (.func 126) #[] #[.pointer (some ⟨w.heap.size+1,0,none⟩),.pointer (some ⟨w4.heap.size,0,none⟩)]) W8:=look 2 (by decide);have hc:=qk5 w.heap.size (w.heap.size+1) w4.heap.size w.heap.size j j d (.slice av (1+j) cv) W8 K8.out.1.size (by omega) (by omega) HX.out.2.1 (by omega) HX.out.2.2.2.2.1 (fun W h=>HX.out.2.2.2.2.2.below (K8.out.1.trans h)) ⟨Below.refl _ _,K8.out.2.2.1,K8.out.2.2.2.2.2,K8.out.2.1,by have h:=K8.out.2.2.2.2.1;unfold FOwn at h;rw [qaw,qmb,HX.out.2.1] at h;rw [show sqs d 0=[] from rfl,List.append_nil,show 1+j=j+1 by omega];rw [show 1+j=j+1 by omega] at h;exact h,Hn.out⟩;have HC:=qH hc;clear hc look m8 m7 m6 f6 f7 f8 g6 g7 g8 hM0 h9 hb45 hW5 hkeep hz
    go_wp2_with ((with_reducible refine qeU rfl (.tmp 35) (.tmp 36) 35 rfl ?_ ?_ hr ?_);(next=>rfl);(next=>rfl))
    refine HC.out.mono ?_;rintro e w9 ⟨y,rfl,hy,hb⟩;have HR:Hid (FOwn w9 w.heap.size y ((termL 2 d).map ftxt)/\Below w.heap.size w w9):=qH ⟨by
     unfold FOwn;have hl:((termL 2 d).map ftxt).length=j+1+j:=by
      have h:=hy.1;rw [qck] at h;omega
     rw [hl];exact hy,K8.out.1.trans hb⟩
    obtain⟨ay,cy,rfl⟩:=hy.shape;clear hy hb;go_wp2;go_ret;exact⟨_,rfl,HR.out.1,HR.out.2⟩
   ·have hl:(Instr.lookup 207 (.map (some (w4.heap.size+1))) (.int .i64 3) false).run Tryz.prog W8=.ok (.func (.func 127) #[] #[.pointer (some ⟨w2.heap.size,0,none⟩),.pointer (some ⟨w.heap.size+1,0,none⟩)]) W8:=look 3 (by decide);have hc:=qk6 w.heap.size (w.heap.size+1) w2.heap.size w.heap.size j j d W8 K8.out.1.size HX.out.2.1 (HX.out.2.2.1 rfl) HX.out.2.2.2.2.1 (fun W h=>HX.out.2.2.2.2.2.below (K8.out.1.trans h)) K8.out.2.2.1 (by rw [Ht.out];exact K8.out.2.2.2.1) K8.out.2.1;have HC:=qH hc;clear hc look m8 m7 m6 f6 f7 f8 g6 g7 g8 hM0 h9 hb45 hW5 hkeep hz
    go_wp2_with ((with_reducible refine qeU rfl (.tmp 35) (.tmp 36) 35 rfl ?_ ?_ hr ?_);(next=>rfl);(next=>rfl))
    refine HC.out.mono ?_;rintro e w9 ⟨y,rfl,hy,hb⟩;have HR:Hid (FOwn w9 w.heap.size y ((termL 3 d).map ftxt)/\Below w.heap.size w w9):=qH ⟨by
     unfold FOwn;have hl:((termL 3 d).map ftxt).length=2 ^ j:=by
      have h:=hy.1;rw [qck] at h;omega
     rw [hl];exact hy,K8.out.1.trans hb⟩
    obtain⟨ay,cy,rfl⟩:=hy.shape;clear hy hb;go_wp2;go_ret;exact⟨_,rfl,HR.out.1,HR.out.2⟩
theorem ql8 (k col R pb ib b off c:Nat) (ao:Option Addr) (l:List Pt) (ty ty2:TypeId) (w:World) (hR:l.length=R) (hk:k<R) (hR4:R<=40) (hcol:col<3) (hpb:w.heap[pb]? = some (.cells #[.slice ao R c] ty (0,0))) (hib:w.heap[ib]? = some (.cells #[.int .i64 (col:Int)] ty2 (0,0)))
  (hP:PCells w ao b off l) (hl:-9223372036854775808<=(l.getD k pt0).lab col/\(l.getD k pt0).lab col<=9223372036854775807) (hT:HasT w) :
  Calls Tryz.prog 199 #[.int .i64 (k:Int),.pointer (some ⟨pb,0,none⟩),.pointer (some ⟨ib,0,none⟩)] w fun e w'=>Below w.heap.size w w'/\e=.returned (.agg #[.string (ftxt (labq l col k)).1,.string (ftxt (labq l col k)).2]):=by
 have hao:=hP.addr (by omega);subst hao;obtain⟨t1,t2,ht⟩:=qb6 (labq l col k);rw [ht];obtain⟨W1,hW1,K1⟩:=nw1 w #[.string ⟨#[]⟩,.string ⟨#[]⟩] 44;have d0:W1.cell? ⟨b,off+k*5+2+col,none⟩=some (.int .i64 ((l.getD k pt0).lab col)):=by
  obtain⟨_,_,d2,d3,d4⟩:=(hP.below K1.out.1).cell k (by omega);rcases (show col=0\/col=1\/col=2 by omega) with rfl | rfl | rfl
  ·exact d2
  ·exact d3
  ·exact d4
 have hlb:=qac _ _ d0;have hbl:b<w.heap.size:=by
  obtain⟨h1,_⟩:=hP.cell k (by omega);exact qac _ _ h1
 have hl1:=(qG hpb).1;have hl2:=(qG hib).1;have q1:=rowG (g0:=w.heap.size) (zkeep K1.out.1 _ _ hpb) 0;have q2:=rowG (g0:=w.heap.size) (zkeep K1.out.1 _ _ hib) 0;obtain⟨x,hx⟩:=qX ((l.getD k pt0).lab col);have hOf:=of_int x 100 (by decide) (by rw [<-hx];exact hl) (by decide) W1.drew (((hT.below K1.out.1)).below qB.drew);have hlq:(x:Rat) / ((100:Int):Rat)=labq l col k:=by unfold labq;rw [hx];rfl
 rw [hlq,ht] at hOf;rw [hx] at d0;have q3:∀W,W1.grownBy W (some w.heap.size)->W.cell? ⟨b,off+k*5+2+col,none⟩=some (.int .i64 x):=fun W hg=>hg.cell d0 (fun e=>by have:=qai e;simp at this;omega)
 have HO:=qH hOf;have hki:(k:Int)<R:=by omega
 have hci:(col:Int)<3:=by omega
 have hc3:col<3:=hcol;clear hOf hlq hx hP hpb hib hT ht hl;go_enter Tryz.func199,Tryz.ntmps199;go_upto_region 1 with fail;rw [<-hW1];clear hW1;refine wp_region_held_drew (S:=fun W=>W1.grownBy W (some w.heap.size)) (by kernel_rfl) (keepB qB.drew) (fun hS0=>?_);refine hT 0 (h:=?_);refine hT 1 (h:=?_);refine hT 2 (h:=?_);refine hT 3 (h:=?_);refine hT 4 (h:=?_);refine hT 5 (h:=?_);refine hT 6 (h:=?_);refine hC 7 HO.out (h:=?_);rintro e w1 ⟨rfl,hb1⟩;have hS1:=qgO (g:=w.heap.size) hb1;refine⟨_,rfl,hS1,hN (h:=?_)⟩;refine hT 8 (h:=?_);refine hT 9 (h:=?_);refine hC 10 (qcI t1 t2 w1) (h:=?_);rintro e w2 ⟨rfl,hb2⟩;have hS2:=qcd hS1 hb2;have hbb:Below W1.heap.size W1 w2:=(qb1 hb1).trans (hb2.mono (qb1 hb1).size);have hg2:=zkeep hbb _ _ K1.out.2;refine⟨_,rfl,hS2,hN (h:=?_)⟩;have HE:=qH (qA (qT _ _ _ #[.string t1,.string t2] _ _ hg2) (qS ((K1.out.1).trans (hbb.mono K1.out.1.size)) qN #[.string t1,.string t2]));refine hSt 11 2 hg2 (h:=⟨qbU hS2 ?_,?_⟩)
 ·exact⟨rfl,rfl,rfl,by simp [World.setRow],fun k hk hne=>setRow_other _ _ _ _ (fun e=>hne (by rw [e]))⟩
 go_wp2_with fail;exact qR (v:=.agg #[.string t1,.string t2]) (rA_ rfl (w.heap.size) HE.out.1 Tryz.underlying44 2) rfl ⟨HE.out.2,rfl⟩
theorem enters {P:Program} {f:FuncId} {fn:Func} (hf:P.funcs[f]? = some fn) (hn:(fn.name == "runtime.NumGoroutine")=false) (hb:fn.body.isNone=false) (args:Array Value) (W:World):(callFunc f args).run P W=.ok (.enter f args) W:=by
 simp only [callFunc,Sem.run_bind,run_program,Result.andThen,hf,hn,hb]
 rfl
theorem qia {l:List FT} {n:Nat} {x:Nat->Rat} (hn:l.length=n) (h:∀i,i<n->l.getD i fd0=ftxt (x i)):l=told n x:=by
 refine List.ext_getElem (by rw [qbW,hn]) fun i h1 h2=>?_
 have e1:=h i (by omega);have e2:=qdr (x:=x) (show i<n by omega);rw [qaa,qae h1] at e1;rw [qaa,qae h2] at e2;exact e1.trans e2.symm
theorem labs_any (col R b off c:Nat) (ao:Option Addr) (l:List Pt) (w:World) (hR:l.length=R) (hR4:R<=40) (hcol:col<3) (hP:PCells w ao b off l) (hl:∀k,k<R->-9223372036854775808<=(l.getD k pt0).lab col/\(l.getD k pt0).lab col<=9223372036854775807) (hT:HasT w) :
  Calls Tryz.prog 130 #[.slice ao R c,.int .i64 (col:Int)] w fun e w'=>Below w.heap.size w w'/\∃g,e=.returned (.slice (some ⟨g,0,none⟩) R R)/\FCells w' (some ⟨g,0,none⟩) g 0 (told R (labq l col)):=by
 obtain⟨W2,hW2,K2⟩:=nw2 w #[.slice ao R c] 121 #[.int .i64 (col:Int)] 3;have hmf:=@hmf_ Tryz.prog;have HG:=qH (qek 199 #[.pointer (some ⟨w.heap.size,0,none⟩),.pointer (some ⟨w.heap.size+1,0,none⟩)] R (by omega) (fun i x=>x=ftxt (labq l col i)) (fun _ _=>False) W2 (fun a W=>enters Tryz.func199 (by kernel_rfl) (by kernel_rfl) _ W)
  (fun i hi W hb=>(ql8 i col R w.heap.size (w.heap.size+1) b off c ao l _ _ W hR hi hR4 hcol (zkeep hb _ _ K2.out.2.1) (zkeep hb _ _ K2.out.2.2) (hP.below (K2.out.1.trans (hb.mono K2.out.1.size))) (hl i hi) (hT.below (K2.out.1.trans (hb.mono K2.out.1.size)))).mono fun e w' h=>⟨h.1,qan ⟨_,_,h.2,rfl⟩⟩))
 clear hP hl hT;go_enter Tryz.func130,Tryz.ntmps130;go_upto_region 1 with fail;rw [<-hW2];clear hW2;have c0:=qC W2 _ 0 _ _ _ K2.out.2.1;go_wp2_with fail;refine HG.out.mono ?_;rintro e w' ⟨hb,h⟩;rcases h with ⟨l',g,hl',hv,rfl,hF,_⟩ | ⟨_,_,_,_,hF⟩
 ·have HE:=qH (qA (K2.out.1.trans (hb.mono K2.out.1.size)) (qia hl' hv▸hF));clear hb hv hF;go_wp2;go_ret;exact⟨HE.out.1,_,rfl,HE.out.2⟩
 ·exact hF.elim
theorem qlJ (i R k pb kb b off c:Nat) (kind:Int) (ao:Option Addr) (l:List Pt) (ty ty2:TypeId) (w:World) (hk:qcC kind k) (hR:l.length=R) (hi:i<R) (h3:¬(k=3/\chans l=4)) (hok:PtsOk l) (hpb:w.heap[pb]? = some (.cells #[.slice ao R c] ty (0,0))) (hkb:w.heap[kb]? = some (.cells #[.int .i64 kind] ty2 (0,0)))
  (hP:PCells w ao b off l) (hT:HasT w) :
  Calls Tryz.prog 56 #[.int .i64 (i:Int),.pointer (some ⟨kb,0,none⟩),.pointer (some ⟨pb,0,none⟩)] w fun e w'=>Below w.heap.size w w'/\∃v,e=.returned v/\FOwn w' w.heap.size v (told (many k (chans l)) (tqf l k i)):=by
 have hao:=hP.addr (by omega);subst hao;obtain⟨_,⟨ra,rb,ro,rc,d1,hN⟩,_⟩:=hP.cell i (by omega);have hdn:=(hok.rows i (by omega)).2;have hpo:=(hok.rows i (by omega)).1;obtain⟨n,hn⟩:=qX (chans l);rw [hn] at hdn h3 ⊢;rw [hdn] at d1;have hn1:1<=n/\n<=4:=⟨hn▸hok.n1,hn▸hok.n4⟩;have HO:=qH (qfK kind k hk ra rb ro n rc (l.getD i pt0).dev w.drew hdn hn1.1 hn1.2 (fun e=>by have:=hn1.2;omega) (hN.below qB.drew) hpo.vals (hT.below qB.drew));have htt:(termL k (l.getD i pt0).dev).map ftxt=told (many k n) (tqf l k i):=by
  rw [<-hdn];exact (qf7 k (l.getD i pt0).dev).symm
 rw [htt] at HO;have hl1:=(qG hpb).1;have hl2:=(qG hkb).1;have hlb:=qac _ _ d1;have q1:=rowC (B:=w.heap.size) hpb 0;have q2:=rowC (B:=w.heap.size) hkb 0;have q3:∀W,Below w.heap.size w W->W.cell? ⟨b,off+i*5+1,none⟩=some (.slice ra n rc):=fun W hb=>(hb.cell hlb).trans d1
 have hii:(i:Int)<R:=by omega
 clear hP hpb hkb hT hN hpo hok hn htt hk h3 hdn;go_enter Tryz.func56,Tryz.ntmps56;go_upto_region 1 with fail;refine wp_region_held_drew (S:=fun W=>Below w.heap.size w W) (by kernel_rfl) qB.drew (fun hS0=>?_);refine hT 0 (h:=?_);refine hT 1 (h:=?_);refine hT 2 (h:=?_);refine hT 3 (h:=?_);refine hT 4 (h:=?_);refine hT 5 (h:=?_);refine hC 6 HO.out (h:=?_);rintro e w1 ⟨v,rfl,hv,hb⟩;have HV:=qH (qA (qb1 hb) hv);refine⟨_,rfl,qb1 hb,hN (h:=?_)⟩;refine hT 7 (hS:=HV.out.1) (h:=?_);refine wpAnyH_done (by kernel_rfl) ?_ _;clear hv hb;go_wp2;go_ret;exact⟨HV.out.1,v,rfl,HV.out.2⟩
theorem qlK (i R wb b off c:Nat) (ao:Option Addr) (ws:List Int) (ty:TypeId) (w:World) (hR:ws.length=R) (hi:i<R) (hr:-9223372036854775808<=ws.getD i 0/\ws.getD i 0<=9223372036854775807) (hwb:w.heap[wb]? = some (.cells #[.slice ao R c] ty (0,0)))
  (hN:NCells w ao b off ws) (hT:HasT w) :
  Calls Tryz.prog 59 #[.int .i64 (i:Int),.pointer (some ⟨wb,0,none⟩)] w fun e w'=>Below w.heap.size w w'/\e=.returned (.agg #[.string (ftxt (wq ws i)).1,.string (ftxt (wq ws i)).2]):=by
 have hao:=hN.addr (by omega);subst hao;obtain⟨t1,t2,ht⟩:=qb6 (wq ws i);rw [ht];obtain⟨W1,hW1,K1⟩:=nw1 w #[.string ⟨#[]⟩,.string ⟨#[]⟩] 44;have d0:=(hN.below K1.out.1).cell i (by omega);have q1:=qC W1 _ 0 _ _ _ (zkeep K1.out.1 _ _ hwb);obtain⟨x,hx⟩:=qX (ws.getD i 0);have hOf:=of_int x 1 (by decide) (by rw [<-hx];exact hr) (by decide) W1 (hT.below K1.out.1);have hlq:(x:Rat) / ((1:Int):Rat)=wq ws i:=by unfold wq;rw [hx];rw [show ((1:Int):Rat)=1 from rfl,Rat.div_def,show (1:Rat)⁻¹=1 by decide +kernel,Rat.mul_one]
 rw [hlq,ht] at hOf;rw [hx] at d0;have HO:=qH hOf;have hii:(i:Int)<R:=by omega
 clear hOf hlq hx hN hwb hT ht hr;go_enter Tryz.func59,Tryz.ntmps59;go_upto_region 1 with fail;rw [<-hW1];clear hW1;go_wp2_with fail;refine HO.out.mono ?_;rintro e w1 ⟨rfl,hb1⟩;have K2:Kn (fun W=>Below w.heap.size w W/\W.heap[w.heap.size]? = some (.cells #[.string ⟨#[]⟩,.string ⟨#[]⟩] 44 (0,0))) w1:=K1.below hb1;clear K1 hb1;go_wp2_with fail;refine (qcI t1 t2 w1).mono ?_;rintro e w2 ⟨rfl,hb2⟩;have K3:=K2.below hb2;clear K2 hb2;have HE:=qH (qA (qT _ _ _ #[.string t1,.string t2] _ _ K3.out.2) (qS K3.out.1 qN #[.string t1,.string t2]));rename_i hK;dsimp only;refine hK _ _ ?_
 go_wp2_with ((with_reducible refine sR_ rfl 44 _ _ rfl (w.heap.size) #[.string t1,.string t2] K3.out.2 2 ?_))
 exact qR (v:=.agg #[.string t1,.string t2]) (rA_ rfl (w.heap.size) HE.out.1 Tryz.underlying44 2) rfl ⟨HE.out.2,rfl⟩
def RowAs (w:World) (R n:Nat) (f:Nat->Nat->Rat) (b v:Nat->Rat) (e:Ending) (w':World):Prop :=
 ((Sing n (normR R n f b v)/\e=thrown 7)\/(¬Sing n (normR R n f b v)/\∃x,qc6 n (normR R n f b v) (fun r=>normR R n f b v r n) x /\
  ((qbY n x/\∃g,e=.returned (.slice (some ⟨g,0,none⟩) n n)/\FCells w' (some ⟨g,0,none⟩) g 0 (told n x))\/(¬qbY n x/\e=thrown 6))))/\Below w.heap.size w w'
theorem row_any (col R n b off c g1 c1 g2 c2:Nat) (ao a1 a2:Option Addr) (l:List Pt) (f:Nat->Nat->Rat) (v:Nat->Rat) (w:World) (hR:l.length=R) (hR1:1<=R) (hR4:R<=40) (hn1:1<=n) (hn2:n<=10) (hcol:col<3) (hP:PCells w ao b off l) (hl:∀k,k<R->-9223372036854775808<=(l.getD k pt0).lab col/\(l.getD k pt0).lab col<=9223372036854775807)
  (hf:∀i,i<R->qbY n (f i)) (hb:qbY R (labq l col)) (hv:qbY R v) (hv0:∀i,i<R->0<=v i) (hC:TCells w a1 g1 0 (ttab R n f)) (hF:FCells w a2 g2 0 (told R v)) (hT:HasT w) :
  Calls Tryz.prog 61 #[.agg #[.slice ao R c,.slice a1 R c1,.slice a2 R c2],.int .i64 (col:Int)] w fun e w'=>RowAs w R n f (labq l col) v e w':=by
 obtain⟨W1,hW1,K1⟩:=nw1 w #[.slice ao R c,.slice a1 R c1,.slice a2 R c2] 123;have HX:=qH (qA (hC.below K1.out.1) (qA (hF.below K1.out.1) (hT.below K1.out.1)));have HL:=qH (labs_any col R b off c ao l W1.drew hR hR4 hcol ((hP.below K1.out.1).below qB.drew) hl ((hT.below K1.out.1).below qB.drew));have HM:=qH (qA hf (qA hb (qA hv hv0)));have hlt:=(qG K1.out.2).1;have q0:=rowC (B:=W1.heap.size) K1.out.2 0;have q1:=rowC (B:=W1.heap.size) K1.out.2 1;have q2:=rowC (B:=W1.heap.size) K1.out.2 2;clear hP hl hT hf hb hv hv0 hC hF;go_enter Tryz.func61,Tryz.ntmps61;go_upto_region 1 with fail;rw [<-hW1];clear hW1;refine wp_region_held_drew (S:=fun W=>Below W1.heap.size W1 W) (by kernel_rfl) qB.drew (fun hS0=>?_);refine hT 0 (h:=?_);refine hT 1 (h:=?_);refine hT 2 (h:=?_);refine hT 3 (h:=?_);refine hT 4 (h:=?_);refine hT 6 (h:=?_);refine hT 7 (h:=?_);refine hC 5 HL.out (h:=?_);rintro e w1 ⟨hb1,g,rfl,hF1⟩;have HB:=qH (qb1 hb1);have HF1:=qH (qA HB.out hF1);refine⟨_,rfl,HB.out,hN (h:=?_)⟩;have HLe:=qH (ql9 (c:=c1) (c2:=R) (c3:=c2) hR1 hR4 hn1 hn2 HM.out.1 HM.out.2.1 HM.out.2.2.1 HM.out.2.2.2 (HX.out.1.below HF1.out.1) HF1.out.2 (HX.out.2.1.below HF1.out.1) (HX.out.2.2.below HF1.out.1));clear hb1 hF1;refine hC 8 HLe.out (h:=?_);rintro e w2 ⟨h,hb2⟩;have HB2:=qH (HF1.out.1.trans (hb2.mono HF1.out.1.size));clear hb2;rcases h with ⟨hs,rfl⟩ | ⟨hs,x,hx,⟨hsh,g5,rfl,hF5⟩ | ⟨hsh,rfl⟩⟩
 ·refine⟨_,rfl,HB2.out,hN (h:=?_)⟩;have HS:=qH hs;refine hT 9 (hS:=HB2.out) (h:=?_);refine hT 10 (hS:=HB2.out) (h:=?_);refine hCx 11 (qgV none 0 0 7 (by decide) w2) (h:=?_);rintro e w3 ⟨rfl,rfl⟩;refine qah ⟨_,rfl,?_⟩;clear hs;go_wp2_with fail;exact⟨rfl,qan ⟨HS.out,rfl⟩,K1.out.1.trans (HB2.out.mono K1.out.1.size)⟩
 ·refine⟨_,rfl,HB2.out,hN (h:=?_)⟩;have HS:=qH (qA hs (qA hx (qA hsh hF5)));refine hT 9 (hS:=HB2.out) (h:=?_);refine hT 10 (hS:=HB2.out) (h:=?_);refine hC 11 (qj3 _ n n w2) (h:=?_);rintro e w3 ⟨rfl,rfl⟩;refine⟨_,rfl,HB2.out,hN (h:=?_)⟩;refine hT 12 (hS:=HB2.out) (h:=?_);refine wpAnyH_done (by kernel_rfl) ?_ _;clear hs hx hsh hF5;go_wp2;go_ret;exact⟨qah ⟨HS.out.1,x,HS.out.2.1,qan ⟨HS.out.2.2.1,g5,rfl,HS.out.2.2.2⟩⟩,K1.out.1.trans (HB2.out.mono K1.out.1.size)⟩
 ·refine⟨_,rfl,HB2.out,hN (h:=?_)⟩;have HS:=qH (qA hs (qA hx hsh));refine hT 9 (hS:=HB2.out) (h:=?_);refine hT 10 (hS:=HB2.out) (h:=?_);refine hCx 11 (qgV none 0 0 6 (by decide) w2) (h:=?_);rintro e w3 ⟨rfl,rfl⟩;refine qah ⟨_,rfl,?_⟩;clear hs hx hsh;go_wp2_with fail;exact⟨rfl,qah ⟨HS.out.1,x,HS.out.2.1,qah ⟨HS.out.2.2,rfl⟩⟩,K1.out.1.trans (HB2.out.mono K1.out.1.size)⟩
theorem qne {t:Tbl} {n m:Nat} {f:Nat->Nat->Rat} (hn:t.length=n) (h:∀i,i<n->t.getD i []=told m (f i)):t=ttab n m f:=by
 refine List.ext_getElem (by rw [qcS,hn]) fun i h1 h2=>?_
 have e1:=h i (by omega);have e2:=qeH (m:=m) (f:=f) (show i<n by omega);rw [qaa,qae h1] at e1;rw [qaa,qae h2] at e2;exact e1.trans e2.symm
def SlT (n m:Nat) (f:Nat->Nat->Rat) (z:Value) (W:World):Prop:=∃g,z=.slice (some ⟨g,0,none⟩) n n/\TCells W (some ⟨g,0,none⟩) g 0 (ttab n m f)
def SlF (n:Nat) (f:Nat->Rat) (z:Value) (W:World):Prop:=∃g,z=.slice (some ⟨g,0,none⟩) n n/\FCells W (some ⟨g,0,none⟩) g 0 (told n f)
instance stays_slt {n m:Nat} {f:Nat->Nat->Rat} {z:Value}:Stays (SlT n m f z):=⟨fun⟨g,h1,h2⟩ hb=>⟨g,h1,h2.below hb⟩⟩
instance stays_slf {n:Nat} {f:Nat->Rat} {z:Value}:Stays (SlF n f z):=⟨fun⟨g,h1,h2⟩ hb=>⟨g,h1,h2.below hb⟩⟩
theorem qfO {W:World} {g:Nat} {zs cs:Array Value} {t:TypeId} (hg:W.heap[g]? = some (.cells zs t (0,0))) (hz:∀x∈zs.toList,x=.slice none 0 0) {a:Addr} {v:Value} (hc:W.cell? a=some v) (hv:v≠.slice none 0 0):(W.setRow g cs).cell? a=some v:=by
 have hne:a.block≠g:=by
  intro e;unfold World.cell? at hc;rw [e,hg] at hc;simp only at hc;split at hc
  ·cases hc
  ·exact hv (hz v (by rw [<-Array.mem_def];exact Array.mem_of_getElem? hc))
 exact (cell_setRow_other _ _ _ _ hne).trans hc
theorem qdP {W:World} {g:Nat} {zs cs:Array Value} {t:TypeId} (hg:W.heap[g]? = some (.cells zs t (0,0))) (hz:∀b,.string b∉zs.toList):∀a s,W.cell? a=some (.string s)->(W.setRow g cs).cell? a=some (.string s):=fun a s hc=>by
 have hne:a.block≠g:=by
  intro e;unfold World.cell? at hc;rw [e,hg] at hc;simp only at hc;split at hc
  ·cases hc
  ·exact hz s (by rw [<-Array.mem_def];exact Array.mem_of_getElem? hc)
 exact (cell_setRow_other _ _ _ _ hne).trans hc
theorem SlF.keepZ {W:World} {g n:Nat} {zs cs:Array Value} {t:TypeId} {f:Nat->Rat} {z:Value} (h:SlF n f z W) (hg:W.heap[g]? = some (.cells zs t (0,0))) (hz:∀x∈zs.toList,x=.slice none 0 0):SlF n f z (W.setRow g cs):=by
 obtain⟨g1,h1,h2⟩:=h;exact⟨g1,h1,h2.kept fun a s hc=>qfO hg hz hc (fun e=>by cases e)⟩
theorem SlT.keepZ {W:World} {g n m:Nat} {zs cs:Array Value} {t:TypeId} {f:Nat->Nat->Rat} {z:Value} (h:SlT n m f z W) (hm:1<=m) (hg:W.heap[g]? = some (.cells zs t (0,0))) (hz:∀x∈zs.toList,x=.slice none 0 0):SlT n m f z (W.setRow g cs):=by
 obtain⟨g1,h1,h2⟩:=h;refine⟨g1,h1,h2.addr,fun k hk=>?_⟩;obtain⟨ra,rb,ro,rc,h3,h4⟩:=h2.row k hk;refine⟨ra,rb,ro,rc,qfO hg hz h3 (fun e=>?_),h4.kept fun a s hc=>qfO hg hz hc (fun e=>by cases e)⟩;rw [qcS] at hk;have:=(Value.slice.inj e).2.1;rw [qeH hk,qbW] at this;omega
theorem qna (R k pb kb b off c:Nat) (kind:Int) (ao:Option Addr) (l:List Pt) (ty ty2:TypeId) (w:World) (hk:qcC kind k) (hR:l.length=R) (h3:¬(k=3/\chans l=4)) (hok:PtsOk l) (hpb:w.heap[pb]? = some (.cells #[.slice ao R c] ty (0,0))) (hkb:w.heap[kb]? = some (.cells #[.int .i64 kind] ty2 (0,0)))
  (hP:PCells w ao b off l) (hT:HasT w) :
  Calls Tryz.prog 55 #[.int .i64 (R:Int),.func (.func 56) #[] #[.pointer (some ⟨kb,0,none⟩),.pointer (some ⟨pb,0,none⟩)]] w fun e w'=>Below w.heap.size w w'/\∃v,e=.returned v/\SlT R (many k (chans l)) (tqf l k) v w':=by
 have hg:qk9 56 #[.pointer (some ⟨kb,0,none⟩),.pointer (some ⟨pb,0,none⟩)] w R (fun i r=>r=told (many k (chans l)) (tqf l k i)) (fun _ _=>False):=by
  intro i hi W hb;refine (qlJ i R k pb kb b off c kind ao l ty ty2 W hk hR hi h3 hok (zkeep hb _ _ hpb) (zkeep hb _ _ hkb) (hP.below hb) (hT.below hb)).mono ?_;rintro e w' ⟨h1,v,h2,h4⟩;obtain⟨a,g,cap,rfl,hF,_⟩:=h4.cells (qbW _ _);exact⟨h1,qan ⟨_,a,g,_,cap,h2,qbW _ _,hF,rfl⟩⟩
 have HG:=qgJ 56 #[.pointer (some ⟨kb,0,none⟩),.pointer (some ⟨pb,0,none⟩)] R (by have:=hok.r2;omega) (fun i r=>r=told (many k (chans l)) (tqf l k i)) (fun _ _=>False) w (fun a W=>enters Tryz.func56 (by kernel_rfl) (by kernel_rfl) _ W) hg;refine HG.mono ?_;rintro e w' ⟨h1,h2⟩;rcases h2 with ⟨t,g,h3,h4,rfl,h5,_⟩ | ⟨_,_,_,_,h⟩
 ·exact⟨h1,_,rfl,g,rfl,qne h3 h4▸h5⟩
 ·exact h.elim
theorem qjD (R wb b off c:Nat) (ao:Option Addr) (ws:List Int) (ty:TypeId) (w:World) (hR:ws.length=R) (hR4:R<=40) (hW:WOk ws) (hwb:w.heap[wb]? = some (.cells #[.slice ao R c] ty (0,0))) (hN:NCells w ao b off ws) (hT:HasT w) :
  Calls Tryz.prog 58 #[.int .i64 (R:Int),.func (.func 59) #[] #[.pointer (some ⟨wb,0,none⟩)]] w fun e w'=>Below w.heap.size w w'/\∃v,e=.returned v/\SlF R (wq ws) v w':=by
 have hg:qjG 59 #[.pointer (some ⟨wb,0,none⟩)] w R (fun i x=>x=ftxt (wq ws i)) (fun _ _=>False):=by
  intro i hi W hb;refine (qlK i R wb b off c ao ws ty W hR hi (by have:=hW i (by omega);omega) (zkeep hb _ _ hwb) (hN.below hb) (hT.below hb)).mono ?_;rintro e w' ⟨h1,h2⟩;exact⟨h1,qan ⟨_,_,h2,rfl⟩⟩
 have HG:=qek 59 #[.pointer (some ⟨wb,0,none⟩)] R (by omega) (fun i x=>x=ftxt (wq ws i)) (fun _ _=>False) w (fun a W=>enters Tryz.func59 (by kernel_rfl) (by kernel_rfl) _ W) hg;refine HG.mono ?_;rintro e w' ⟨h1,h2⟩;rcases h2 with ⟨t,g,h3,h4,rfl,h5,_⟩ | ⟨_,_,_,_,h⟩
 ·exact⟨h1,_,rfl,g,rfl,qia h3 h4▸h5⟩
 ·exact h.elim
