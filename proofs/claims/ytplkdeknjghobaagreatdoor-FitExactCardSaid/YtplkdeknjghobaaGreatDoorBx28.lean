import Derived.Test.YtplkdeknjghobaaGreatDoorBx26
import Derived.Test.YtplkdeknjghobaaGreatDoorBx27
set_option maxRecDepth 100000
set_option maxHeartbeats 0
namespace Go.Proofs.YtplkdeknjghobaaGreatDoor
open Go.RowKit Go.Proofs.Tryz
def csum (f:Nat->Rat) (F:List Int):Nat->Rat
 | 0=>0
 | k+1=>csum f F k+f k*eOne (F.getD k 0)
theorem cost_any (G:Md) (k m gp cp gw vc:Nat) (l:List Pt) (V:List Int) (v:Value) (w:World) (hM:MdAt w v G) (aM:MdOk G k (chans l)) (ax:PtsOk l) (hm:l.length=m) (bg:m<=12) (aL:∀q,q<3->(G.row q).length<=4611686018427387904) (hP:PCells w (some ⟨gp,0,none⟩) gp 0 l)
  (hN:NCells w (some ⟨gw,0,none⟩) gw 0 V) (aO:V.length=m) (aN:W9 V m) (Z:qbY m (sqq G l k)) (ae:∀i,i<m->Short (eOne (V.getD i 0))) (ay:∀i,i<m->Short (sqq G l k i*eOne (V.getD i 0))) (au:∀i,i<=m->Short (csum (sqq G l k) V i)) (hT:HasT w) :
  Calls prog 15 #[v,.slice (some ⟨gp,0,none⟩) m cp,.slice (some ⟨gw,0,none⟩) m vc] w fun e w'=>e=.returned (.tuple #[.agg #[.string (ftxt (csum (sqq G l k) V m)).1,.string (ftxt (csum (sqq G l k) V m)).2],.bool true])/\Below w.heap.size w w':=by
 obtain⟨a,b',o,d,rfl,hF⟩:=hM.parts;obtain⟨W1,aF,K1⟩:=nw2 w #[.int .i64 G.kind,.int .i64 G.inn,.slice (a 0) (G.row 0).length (d 0),.slice (a 1) (G.row 1).length (d 1),.slice (a 2) (G.row 2).length (d 2)] 38 #[.string ⟨#[]⟩,.string ⟨#[]⟩] 44;have HS:=qH (qgV G _ m gp 0 cp (some ⟨gp,0,none⟩) l W1 (hM.below K1.o.1) hm (by omega) (qgM ax hm) aL (hP.below K1.o.1) (hT.below K1.o.1));obtain⟨f,hf⟩:=qX (sqq G l k);have HA:=qH (qA aM (qA ax (qA Z (qA hf hm))));rw [hf] at ay au Z ⊢;have HQ:=qH (qA Z (qA ae (qA ay au)));have HN:=qH (qA hN (qA aO (qA aN hT)));clear hf hF hM aM ax hm aL hP hN aO aN Z ae ay au hT;go_enter func15,ntmps15;go_upto_region 1 with fail;rw [<-aF];clear aF
 go_wp2_with ((with_reducible refine lW_ rfl 38 _ rfl (w.heap.size) #[.int .i64 G.kind,.int .i64 G.inn,.slice (a 0) (G.row 0).length (d 0),.slice (a 1) (G.row 1).length (d 1),.slice (a 2) (G.row 2).length (d 2)] K1.o.2.1 underlying38 5 ?_))
 refine HS.o.mono ?_;intro e w2 aD;obtain⟨aI,g,rfl,ak⟩:=aD.only HA.o.2.1 HA.o.1 (by rw [HA.o.2.2.2.2];exact HA.o.2.2.1);rw [HA.o.2.2.2.2,HA.o.2.2.2.1] at ak;rw [HA.o.2.2.2.2];have K2:=(K1.below aI).also (q:=fun W=>FCells W (some ⟨g,0,none⟩) g 0 (told m f)) ak;clear aD aI ak K1 HS;go_wp2_with fail;refine (q1_at _ w2.heap.size ⟨#[48]⟩ ⟨#[48]⟩ ⟨#[49]⟩ (0:Rat) (qM _ _ _ rfl) (by rw [ft_0];decide +kernel) ft_0 (by decide)).mono ?_;rintro e wq ⟨gq,cq,rfl,⟨aX,aY⟩,aJ⟩;have Kq:=K2.below ((qbS qB qN).trans (aJ.mono (qbS qB qN).size));clear aJ K2;obtain⟨Ws,aH,Ns⟩:=nw1 wq #[.string ⟨#[48]⟩,.string ⟨#[49]⟩] 44;have aj:Hu (SuSt wq Ws wq.heap.size (csum f V 0)):=qH ⟨Ns.o.1,⟨_,_,ft_0,Ns.o.2⟩,(qG Ns.o.2).1⟩;go_upto_region 5 with fail;rw [<-aH];clear aH Ns aX aY;go_wp2_with fail
 go_loopw [39] (fun x39 W=>∃i:Nat,x39=.int .i64 (i:Int)/\i<=m/\Hu (SuSt wq W wq.heap.size (csum f V i))) (fun x39 _=>m-(intOf x39).toNat)
 case atStart=>exact⟨0,rfl,qam _,aj⟩
 case round =>
  obtain⟨i,rfl,hi,hS⟩:=hrel;obtain⟨s1,s2,Y,O⟩:=hS.o.row;have KB:=Kq.below hS.o.old
  by_cases I:i<m
  case neg =>
   obtain rfl:m=i:=by omega
   have aW:¬(m:Int)<(m:Int):=by omega
   have aC:=qH Y;have y0:=qC _ _ 0 _ _ _ O;have y1:=qC _ _ 1 _ _ _ O;have HE:=qH (qA KB.o.1.2.2 (qS KB.o.1.1 (g:=w.heap.size+1) (qbP _) #[.string s1,.string s2]));clear Y O hS aj
   go_wp2_with ((with_reducible refine sR_ rfl 44 _ _ rfl (w.heap.size+1) #[.string s1,.string s2] HE.o.1 2 ?_))
   exact qR (v:=.tuple #[.agg #[.string s1,.string s2],.bool true]) (rB_ rfl (w.heap.size+1) (qT _ _ _ _ _ _ HE.o.1) underlying44 2) rfl ⟨by rw [aC.o],HE.o.2⟩
  have aW:(i:Int)<(m:Int):=by omega
  have ai:=qH (qA hS.o.old (qA Y hS.o.lt));have U:=qH O;obtain⟨aU,aV,av⟩:=qb6 (f i);obtain⟨x0,x1⟩:=KB.o.2.cell i (by rw [qbW];exact I);rw [qdg I,qaH,av] at x0 x1;obtain⟨Wp,aG,Np⟩:=nw1 wr #[.string aU,.string aV] 44;clear Y O hS aj;go_upto_region 8 with fail;rw [<-aG];clear aG x0 x1;replace U:=qH (zkeep Np.o.1 _ _ U.o);have rX:=qH Np.o.2;have F:Kn (fun W=>Below wr.heap.size wr W) Wp:=.of Np.o.1;have H:Hu (Below w.heap.size w wr/\wq.heap.size<wr.heap.size):=qH ⟨KB.o.1.1,ai.o.2.2⟩;clear Np;obtain⟨z,hz⟩:=qX (V.getD i 0);have o0:=(HN.o.1.below (H.o.1.trans (F.o.mono H.o.1.size))).cell i (by rw [HN.o.2.1];exact I);rw [qaH,hz] at o0;have aS:=HN.o.2.2.1 i I;have az:=HQ.o.2.1 i I;have aa:=HQ.o.2.2.1 i I;have aP:=HQ.o.2.2.2 i hi;have aA:Short (csum f V (i+1)):=HQ.o.2.2.2 (i+1) I;have aB:csum f V (i+1)=csum f V i+f i*eOne z:=by rw [<-hz];rfl
  have aQ:=HQ.o.1 i I;rw [hz] at aS az aa;rw [aB] at aA;have ah:=qH fun (W:World) (J:Below wr.heap.size wr W)=>of_int z 1 (by decide) ⟨by omega,by omega⟩ (by decide) W (HN.o.2.2.2.below (H.o.1.trans (J.mono H.o.1.size)))
  rw [show ((z:Int):Rat) / ((1:Int):Rat)=eOne z from rfl] at ah;have ag:=qH fun (W:World) (J:Below wr.heap.size wr W)=>mulq (p:=f i) (q:=eOne z) aQ az aa W (HN.o.2.2.2.below (H.o.1.trans (J.mono H.o.1.size)))
  have af:=qH fun (W:World) (J:Below wr.heap.size wr W)=>addq (p:=csum f V i) (q:=f i*eOne z) aP aa aA W (HN.o.2.2.2.below (H.o.1.trans (J.mono H.o.1.size)))
  rw [<-aB] at af;obtain⟨aZ,bf,aR⟩:=qb6 (eOne z);obtain⟨y1,y2,hy⟩:=qb6 (f i*eOne z);obtain⟨t1,t2,ht⟩:=qb6 (csum f V (i+1));rw [aR] at ah ag;rw [av,hy] at ag;rw [hy,ai.o.2.1,ht] at af;have aT:=qH ht;clear hz az aa aP aA aB aQ aR hy ht av;go_wp2_with fail;refine (ah.o Wp F.o).mono ?_;rintro e v1 ⟨rfl,J⟩;replace U:=qH (zkeep J _ _ U.o);replace rX:=qH (zkeep J _ _ rX.o);replace F:=Kn.below F J;clear J o0 aS;obtain⟨V1,hV,N⟩:=nw1 v1 #[.string aZ,.string bf] 44;go_upto_region 9 with fail;rw [<-hV];replace U:=qH (zkeep N.o.1 _ _ U.o);replace rX:=qH (zkeep N.o.1 _ _ rX.o);replace F:=Kn.below F N.o.1;have rZ:=qH N.o.2;clear hV N;have x0:=qC _ _ 0 _ _ _ rX.o;have x1:=qC _ _ 1 _ _ _ rX.o;have z0:=qC _ _ 0 _ _ _ rZ.o;have z1:=qC _ _ 1 _ _ _ rZ.o;go_wp2_with fail;refine (ag.o V1 F.o).mono ?_;rintro e v2 ⟨rfl,J⟩;replace U:=qH (zkeep J _ _ U.o);replace F:=Kn.below F J;clear J x0 x1 z0 z1 rX rZ;obtain⟨V2,hV,N⟩:=nw1 v2 #[.string y1,.string y2] 44;go_upto_region 10 with fail;rw [<-hV];replace U:=qH (zkeep N.o.1 _ _ U.o);replace F:=Kn.below F N.o.1;have rY:=qH N.o.2;clear hV N;have x0:=qC _ _ 0 _ _ _ U.o;have x1:=qC _ _ 1 _ _ _ U.o;have z0:=qC _ _ 0 _ _ _ rY.o;have z1:=qC _ _ 1 _ _ _ rY.o;go_wp2_with fail;refine (af.o V2 F.o).mono ?_;rintro e v3 ⟨rfl,J⟩;replace U:=qH (zkeep J _ _ U.o);replace F:=Kn.below F J;clear J x0 x1 z0 z1 rY;have aK:wq.heap.size<=wr.heap.size:=qaq H.o.2;have HE:Hu (SuSt wq (v3.setRow wq.heap.size #[.string t1,.string t2]) wq.heap.size (csum f V (i+1))):=qH ⟨qS (ai.o.1.trans (F.o.mono aK)) qN _,⟨t1,t2,aT.o,qT _ _ _ _ _ _ U.o⟩,(qG (qT _ _ _ #[.string t1,.string t2] _ _ U.o)).1⟩;clear aK
  go_wp2_with ((with_reducible refine sR_ rfl 44 _ _ rfl (wq.heap.size) #[.string t1,.string t2] U.o 2 ?_))
  go_roundw
  case rel=>exact⟨i+1,by go_num,I,HE⟩
  case measure=>simp [intOf];omega
end Go.Proofs.YtplkdeknjghobaaGreatDoor
namespace Go.Proofs.YtplkdeknjghobaaGreatDoor
open Go.RowKit
def labK (c:Nat->Int) (k:Nat) (p:Pt):Pt:=⟨p.name,p.dev,5000+labS c p.dev k,8*c 4,0⟩
theorem labK_all (c:Nat->Int) (p:Pt):labK c p.dev.length p=labE c p:=rfl
def labM (c:Nat->Int) (l:List Pt) (i:Nat):List Pt:=(List.range l.length).map fun j=>if j<i then labE c (l.getD j pt0) else l.getD j pt0
theorem qei (c:Nat->Int) (l:List Pt) (i:Nat):(labM c l i).length=l.length:=by unfold labM;simp
theorem qfm (c:Nat->Int) (l:List Pt) (i j:Nat):(labM c l i)[j]? = if j<l.length then some (if j<i then labE c (l.getD j pt0) else l.getD j pt0) else none:=by
 unfold labM;rw [qau]
 by_cases h:j<l.length
 ·rw [qbf h,if_pos h];rfl
 ·rw [qaA (by rw [qbI];omega),if_neg h];rfl
theorem qmf (c:Nat->Int) (l:List Pt):labM c l 0=l:=qbC fun j=>by
 rw [qfm]
 by_cases h:j<l.length
 ·rw [if_pos h,if_neg (qbM j),qad h,qaa,qad h];rfl
 ·rw [if_neg h,qaA (by omega)]
theorem labM_all (c:Nat->Int) (l:List Pt):labM c l l.length=labsE c l:=qbC fun j=>by
 rw [qfm];unfold labsE;rw [qau]
 by_cases h:j<l.length
 ·rw [if_pos h,if_pos h,qad h,qaa,qad h];rfl
 ·rw [if_neg h,qaA (by omega)];rfl
theorem labM_at (c:Nat->Int) {l:List Pt} {i:Nat} (F:i<l.length):(labM c l i).getD i pt0=l.getD i pt0:=by
 rw [qaa,qfm,if_pos F,if_neg (qbz i)];rfl
theorem qme (c:Nat->Int) {l:List Pt} {i:Nat} (F:i<l.length):(labM c l i).set i (labE c (l.getD i pt0))=labM c l (i+1):=qbC fun j=>by
 rw [List.getElem?_set,qfm,qfm,qei]
 by_cases e:i=j
 ·subst e;rw [if_pos rfl,if_pos F,if_pos F,if_pos (Nat.lt_succ_self _)]
 ·rw [if_neg e]
  by_cases h:j<i
  ·rw [if_pos h,if_pos (show j<i+1 by omega)]
  ·rw [if_neg h,if_neg (show ¬j<i+1 by omega)]
theorem PaOwn.setLab {W:World} {B:Nat} {F:Option Addr} {n k:Nat} {c:Nat->Int} {l:List Pt} {i:Nat} (Y:i<l.length) (h:PaOwn W B (.slice F n k) (labM c l i)) :
  ∃g,F=some ⟨g,0,none⟩/\B<=g/\W.there g (i*5+2) 3/\PaOwn (W.setCells g (i*5+2) [.int .i64 5000,.int .i64 (8*c 4),.int .i64 0]) B (.slice F n k) ((labM c l i).set i (labK c 0 (l.getD i pt0))):=by
 have hl:=qei c l i;obtain⟨g,e,V,J,H⟩:=h.setL (i:=i) (by omega) (.inl rfl:2=2\/2=3\/2=4) 5000;obtain⟨g3,e3,_,O,_⟩:=h.setL (i:=i) (by omega) (.inr (.inl rfl):3=2\/3=3\/3=4) 0;obtain⟨g4,e4,_,U,_⟩:=h.setL (i:=i) (by omega) (.inr (.inr rfl):4=2\/4=3\/4=4) 0;obtain⟨g5,e5,_,_,I⟩:=H.setL (i:=i) (by rw [qaC];omega) (.inr (.inl rfl):3=2\/3=3\/3=4) (8*c 4);obtain⟨g6,e6,_,_,G⟩:=I.setL (i:=i) (by rw [qaC,qaC];omega) (.inr (.inr rfl):4=2\/4=3\/4=4) 0;subst e;obtain rfl:g=g3:=by injection e3 with e3;injection e3
 obtain rfl:g=g4:=by injection e4 with e4;injection e4
 obtain rfl:g=g5:=by injection e5 with e5;injection e5
 obtain rfl:g=g6:=by injection e6 with e6;injection e6
 refine⟨g,rfl,V,fun j Z=>?_,?_⟩
 ·rcases (show j=0\/j=1\/j=2 by omega) with rfl | rfl | rfl
  ·exact J
  ·exact O
  ·exact U
 ·rw [qdZ _ _ _ _ (by (repeat rw [qaC]);omega),if_pos rfl,qdZ _ _ _ _ (by (repeat rw [qaC]);omega),if_pos rfl,List.set_set,List.set_set,labM_at c Y] at G;exact G
theorem PaOwn.stepLab {W:World} {B:Nat} {F:Option Addr} {n k q:Nat} {c:Nat->Int} {l:List Pt} {i:Nat} (J:i<l.length) (h:PaOwn W B (.slice F n k) ((labM c l i).set i (labK c q (l.getD i pt0)))) :
  ∃g,F=some ⟨g,0,none⟩/\B<=g/\((W.cell? ⟨g,i*5+2,none⟩).isSome=true/\W.frozen? ⟨g,i*5+2,none⟩=false)/\PaOwn (W.setCell ⟨g,i*5+2,none⟩ (.int .i64 (5000+labS c (l.getD i pt0).dev (q+1)))) B (.slice F n k) ((labM c l i).set i (labK c (q+1) (l.getD i pt0))):=by
 have O:=qei c l i;obtain⟨g,e,I,H,G⟩:=h.setL (i:=i) (by rw [qaC];omega) (.inl rfl:2=2\/2=3\/2=4) (5000+labS c (l.getD i pt0).dev (q+1));refine⟨g,e,I,H,?_⟩;rw [qdZ _ _ _ _ (by omega),if_pos rfl,List.set_set] at G;exact G
theorem PaOwn.at {W:World} {B gp n k:Nat} {l:List Pt} (h:PaOwn W B (.slice (some ⟨gp,0,none⟩) n k) l) {i:Nat} (Y:i<l.length):∃(Bd:Nat) (G:Option Addr) (H:Nat),
  W.cell? ⟨gp,i*5+1,none⟩=some (.slice G (l.getD i pt0).dev.length H)/\W.cell? ⟨gp,i*5+2,none⟩=some (.int .i64 (l.getD i pt0).l0)/\IOwn W Bd (.slice G (l.getD i pt0).dev.length H) (l.getD i pt0).dev:=by
 obtain⟨vs,F,I⟩:=h;obtain⟨Bd,G,H,⟨_,U,V,_⟩,Z⟩:=I i Y;have J:=World.ownsRow.cells (g:=gp) F rfl _ _ U;have O:=World.ownsRow.cells (g:=gp) F rfl _ _ V;rw [Addr.add_mid,qaH] at J O;exact⟨Bd,G,H,J,O,Z⟩
open Go.Proofs.Tryz
theorem qnx {m i:Nat} (F:i<m):(wts [] m).getD i 0=1:=by rw [wts_at F];rfl
theorem ones_w9 (m:Nat):W9 (wts [] m) m:=fun i F=>by rw [qnx F];decide
theorem ones_wok (m:Nat):WOk (wts [] m):=fun i F=>by
 rw [qe6] at F;rw [qnx F];decide
theorem qgi {f:Nat->Rat} {F:List Int}:∀{n:Nat},(∀i,i<n->f i=0)->csum f F n=0
 | 0,_=>rfl
 | n+1,h=>by
  show csum f F n+f n*_=0
  rw [qgi fun i G=>h i (by omega),h n (by omega)];grind
theorem qh8:Short 0:=qe4 ⟨by decide,by decide⟩
structure ExLaw (l:List Pt) (k n m M:Nat) (X:Nat->Nat->Rat):Prop where
 sq:∀i,i<m->sqq (mdq k n M X) l k i=0
 res:∀j,j<m*3->resA (mdq k n M X) l k j=0
 ap:∀i c,i<m->c<3->apq (mdq k n M X) (l.getD i pt0).dev k c=labq l c i
theorem qlP {l:List Pt} {k n m M:Nat} {C:Nat->Int} {U:List Int} {X:Nat->Nat->Rat} (hk:k=1\/k=2) (h:PtsOk l) (J:qd9 l) (Z:∀j,-128<=C j/\C j<=127) (hn:chans l=n) (hm:l.length=m) (V:many k n=M) (hs:¬Sing M (nq (labsE C l) k U 0)) (Y:∀c,c<3->FitX (labsE C l) k U c (X c)):ExLaw (labsE C l) k n m M X:=by
 subst hn hm V;have hne:=qe0 (c:=C) h.r1;have H:=qkj Z h J;have I:∀c i,c<3->i<l.length->rr (labsE C l) k X c i=0:=fun c i F G=>rr_exact (z:=zE C (chans l) c) (by rw [hne];exact hs) (Y c F) (fun i G=>by
  rw [hne];exact qk2 hk h J rfl F (by rwa [qcN] at G)) (by rw [qcN];exact G)
 refine⟨fun i G=>?_,fun j hj=>?_,fun i c G F=>?_⟩
 ·rw [<-hne];exact sqq_zero fun c F=>I c i F G
 ·have e:j=j / 3*3+j % 3:=by omega
  rw [e,qgP _ _ _ _ _ (qbA _ (by decide)),<-hne,resq_eq H (by rw [qcN];omega) (qbA _ (by decide))];exact I _ _ (qbA _ (by decide)) (by omega)
 ·have O:(((labsE C l).getD i pt0).dev).length=chans l:=((H.rows i (by rw [qcN];exact G)).2).trans hne;have:=I c i F G;unfold rr tqf at this;rw [qlz (by rw [O];exact qae _) F,O];rw [hne] at this;generalize (sumQ (many k (chans l)) fun j=>termQ k ((labsE C l).getD i pt0).dev j*X c j)=S at *
  grind
theorem qnk {n:Nat} {f:Nat->Rat} (h:∀j,j<n->f j=0) {i:Nat} (F:i<n):(told n f).getD i fd0=(⟨#[48]⟩,⟨#[49]⟩):=by rw [qdg F,h i F,ft_0]
theorem eq_3z (w:World):(Op.equalIn 10000 65 (.agg #[.string ⟨#[48]⟩,.string ⟨#[49]⟩,.string ⟨#[48]⟩,.string ⟨#[49]⟩,.string ⟨#[48]⟩,.string ⟨#[49]⟩]) (.agg #[.string ⟨#[48]⟩,.string ⟨#[49]⟩,.string ⟨#[48]⟩,.string ⟨#[49]⟩,.string ⟨#[48]⟩,.string ⟨#[49]⟩])).run prog w=.ok true w:=by kernel_rfl
def cE (c0 c1 c2 c3 c4:Int) (j:Nat):Int:=[c0,c1,c2,c3,c4].getD j 0
theorem qiA (ch kd:Nat) (c0 c1 c2 c3 c4:Int) (L:List (List Int)) (v:Value) (w0:World) (hv:PdAt w0 v ch L) (fV:kd<256) (hc:∀j,-128<=cE c0 c1 c2 c3 c4 j/\cE c0 c1 c2 c3 c4 j<=127) (hT:HasT w0) (hE:HasE w0) :
    Calls prog 5 #[v,.agg #[.int .i8 c0,.int .i8 c1,.int .i8 c2,.int .i8 c3,.int .i8 c4],.int .u8 (kd:Int)] w0 fun e w'=>e=.returned (.bool true)/\Below w0.heap.size w0 w':=by
  obtain⟨ao,b,off,cd,rfl,eT,hL,hP⟩:=hv;obtain⟨W1,dm,K1⟩:=nw2 w0 #[.int .u8 (ch:Int),.slice ao L.length cd] 24 #[.int .i8 c0,.int .i8 c1,.int .i8 c2,.int .i8 c3,.int .i8 c4] 61;have H0:=qH (qA hP (qA hT hE));have HL:=qH hL;obtain⟨C,hC⟩:=qX (cE c0 c1 c2 c3 c4);have h4:C 4=c4:=by rw [<-hC];rfl
  rw [hC] at hc;have HC:=qH (qA hc hC);clear hP hT hE hL hc hC;go_enter func5,ntmps5;go_upto_region 1 with fail;rw [<-dm];clear dm;go_wp2_with fail;refine (qnt W1 (H0.o.2.1.below K1.o.1) (H0.o.2.2.below K1.o.1)).mono ?_;rintro e w2 ⟨rfl,U⟩;have K2:=K1.below U;clear U K1
  go_wp2_with ((with_reducible refine lW_ rfl 24 _ rfl (w0.heap.size) #[.int .u8 (ch:Int),.slice ao L.length cd] K2.o.2.1 underlying24 2 ?_))
  refine (qjN ch L ao b off cd w2 HL.o (H0.o.1.below K2.o.1)).mono ?_;rintro e w4 ⟨u,rfl,⟨Bp,cO,ae⟩,U⟩;have bR:Hu (w2.heap.size<=Bp/\Below w2.heap.size w2 w4):=qH ⟨cO,U⟩;clear U cO;obtain⟨n,hn⟩:=qX (1+ch % 4);have bg:1<=n/\n<=4:=by omega
  rw [hn] at ae;have av:=ptsD_ok L bg.1 bg.2;have h8:=qi1 (n:=n) L;have aX:=qhz n L;obtain⟨l,hl⟩:=qX (ptsD n L);rw [hl] at ae av h8 aX;obtain⟨gp,cp,rfl,aA⟩:=ae.cells av.r1 (fun j hj=>(av.rows j hj).1.n1);obtain⟨m,hm⟩:=qX l.length;have dI:m<=12:=by rw [<-hm];exact h8.1
  have bK:1<=m:=by rw [<-hm];exact av.r1
  rw [hm] at ae ⊢;have F:=qH (qA ae (qA av (qA h8 (qA aX hm))));clear hn hl eT;have dE:(kd:Int) % 2=((kd % 2:Nat):Int):=by omega
  obtain⟨y,hy⟩:=qX (kd % 2);rw [hy] at dE;obtain⟨k,eZ⟩:=qX (1+y);have dC:k=1\/k=2:=by omega
  have dD:(1:Int)+(y:Int)=(k:Int):=by omega
  obtain⟨_,⟨ra,rb,ro,rc,p1,_⟩,_⟩:=aA.cell 0 (by rw [hm];exact bK);have dB:(l.getD 0 pt0).dev.length=n:=(av.rows 0 (by rw [hm];exact bK)).2.trans aX;rw [dB] at p1;have fe:(0:Int)<(m:Int):=by omega
  clear aA ae av h8 aX hm hy eZ dB;go_upto_region 6 with fail;clear p1 dE fe
  try rw [dD]
  clear dD;go_wp2_with fail;have eO:-128<=c4/\c4<=127:=by rw [<-h4];exact HC.o.1 4
  obtain⟨z8,bP⟩:∃z,8*C 4=z:=⟨_,rfl⟩;have eQ:c4*8=z8:=by rw [<-bP,h4];omega
  have bZ:=qH bP;clear bP h4
  go_loopw [41] (fun x41 W=>∃i:Nat,x41=.int .i64 (i:Int)/\i<=m/\Hu (PaOwn W Bp (.slice (some ⟨gp,0,none⟩) m cp) (labM C l i)/\Below w2.heap.size w2 W)) (fun x41 _=>m-(intOf x41).toNat)
  case atStart=>exact⟨0,rfl,qam _,qH ⟨by rw [qmf];exact F.o.1,bR.o.2⟩⟩
  case round =>
    obtain⟨i,rfl,hi,hS⟩:=hrel
    by_cases aa:i<m
    case pos =>
      have eY:(i:Int)<(m:Int):=by omega
      obtain⟨g',e',cB,dS,G⟩:=PaOwn.setLab (by rw [F.o.2.2.2.2];exact aa) hS.o.1;obtain rfl:gp=g':=by injection e' with e1;injection e1
      rw [bZ.o] at G;have eP:=qC _ _ 4 _ _ _ (K2.below hS.o.2).o.2.2;have aL:w2.heap.size<=gp:=qaj bR.o.1 cB;obtain⟨W5,aW⟩:=qY (wr.setCells gp (i*5+2) (#[.int .i64 5000,.int .i64 z8,.int .i64 0]:Array Value).toList);have G:PaOwn W5 Bp (.slice (some ⟨gp,0,none⟩) m cp) ((labM C l i).set i (labK C 0 (l.getD i pt0))):=by rw [aW];exact G
      have aB:Below w2.heap.size w2 W5:=aW▸((hS.o.2.setCell (p:=⟨gp,i*5+2,none⟩) aL _).setCell (p:=⟨gp,i*5+2+1,none⟩) aL _).setCell (p:=⟨gp,i*5+2+1+1,none⟩) aL _;have bA:=qH (qA G aB);clear e' G aB hS cB
      go_upto_region 10 with (refine wpList_store_mid rfl 53 _ _ rfl gp (i*5+2) #[.int .i64 5000,.int .i64 z8,.int .i64 0] ?_ ?_ ?_ ?_ ?_ ?_;(next=>first | rfl | with_unfolding_all rfl);(next=>first | rfl | with_unfolding_all rfl);(next=>exact dS);(next=>first | kernel_rfl | exact⟨_,rfl,rfl⟩);(next=>first | rfl | with_unfolding_all rfl | simp))
      rw [<-aW];clear aW dS eP;have aD:i<l.length:=by rw [F.o.2.2.2.2];exact aa
      have ai:i<((labM C l i).set i (labK C 0 (l.getD i pt0))).length:=by rw [qaC,qei];exact aD
      obtain⟨Bd,da,dc,e1,_,ho⟩:=bA.o.1.at ai;rw [qdZ _ _ _ _ (by rw [qei];exact aD),if_pos rfl] at e1 ho;have aY:(l.getD i pt0).dev.length=n:=(F.o.2.1.rows i aD).2.trans F.o.2.2.2.1;obtain⟨d,hd⟩:=qX ((l.getD i pt0).dev);rw [show (labK C 0 (l.getD i pt0)).dev=d from hd] at e1 ho;rw [hd] at aY;rw [aY] at e1 ho;have cz:∀j,∃m:Nat,m<=8/\d.getD j 0=1250*m:=by rw [<-hd];exact F.o.2.2.1.2 i aD
      obtain⟨gd,fI,ed,_⟩:=IOwn.cells ho (by omega);obtain rfl:da=some ⟨gd,0,none⟩:=by injection ed
      have HI:=qH (qA e1 (qA hd (qA aY (qA cz (qA aD aL)))));clear ho ed hd aY cz aD ai aL;go_wp2_with fail;clear e1
      go_loopw [59] (fun x59 W=>∃q:Nat,x59=.int .i64 (q:Int)/\q<=n/\Hu (PaOwn W Bp (.slice (some ⟨gp,0,none⟩) m cp) ((labM C l i).set i (labK C q (l.getD i pt0)))/\W.cell? ⟨gp,i*5+1,none⟩=some (.slice (some ⟨gd,0,none⟩) n dc)/\Below w2.heap.size w2 W)) (fun x59 _=>n-(intOf x59).toNat)
      case atStart=>exact⟨0,rfl,qam _,qH ⟨bA.o.1,HI.o.1,bA.o.2⟩⟩
      case round =>
        obtain⟨q,rfl,hq,hR⟩:=hrel
        by_cases dQ:q<n
        case neg =>
          obtain rfl:n=q:=by omega
          have fq:¬(n:Int)<(n:Int):=by omega
          go_wp2;go_roundw
          case rel=>exact⟨i+1,by go_num,aa,qH ⟨by rw [<-qme C HI.o.2.2.2.2.1,<-labK_all];rw [HI.o.2.1,HI.o.2.2.1];exact hR.o.1,hR.o.2.2⟩⟩
          case measure=>simp [intOf];omega
        have fq:(q:Int)<(n:Int):=by omega
        have ai:i<((labM C l i).set i (labK C q (l.getD i pt0))).length:=by rw [qaC,qei];exact HI.o.2.2.2.2.1
        obtain⟨fF,ek,fJ,e1,e2,ho⟩:=hR.o.1.at ai;rw [qdZ _ _ _ _ (by rw [qei];exact HI.o.2.2.2.2.1),if_pos rfl] at e1 e2 ho;rw [show (labK C q (l.getD i pt0)).dev=d from HI.o.2.1] at e1 ho;rw [show (labK C q (l.getD i pt0)).l0=5000+labS C d q by show 5000+labS C (l.getD i pt0).dev q=_;rw [HI.o.2.1]] at e2;rw [HI.o.2.2.1] at e1 ho;have eu:ek=some ⟨gd,0,none⟩:=by rw [hR.o.2.1] at e1;injection e1 with e1;injection e1 with e1 _ _;exact e1.symm
        subst eu;have eX:wr.cell? ⟨gd,q,none⟩=some (.int .i64 (d.getD q 0)):=by
          obtain⟨gx,cx,ex,aH⟩:=IOwn.cells ho (by rw [HI.o.2.2.1];omega);obtain rfl:gd=gx:=by injection ex with e1;injection e1 with e1;injection e1
          have:=aH.cell q (by rw [HI.o.2.2.1];exact dQ)
          rwa [qaH] at this
        have eU:wr.cell? ⟨w0.heap.size+1,q,none⟩=some (.int .i8 (C q)):=by
          have hr:=(K2.below hR.o.2.2).o.2.2;rw [<-HC.o.2];rcases (show q=0\/q=1\/q=2\/q=3 by omega) with rfl | rfl | rfl | rfl
          · exact qC _ _ 0 _ _ _ hr
          · exact qC _ _ 1 _ _ _ hr
          · exact qC _ _ 2 _ _ _ hr
          · exact qC _ _ 3 _ _ _ hr
        obtain⟨mm,fo,bM⟩:=HI.o.2.2.2.1 q;have dG:=qjE HC.o.1 HI.o.2.2.2.1 q;have fA:=HC.o.1 q;have bq:(C q*d.getD q 0).tdiv 1250=C q*mm:=qhQ bM;have dR:labS C d (q+1)=labS C d q+C q*mm:=by rw [<-bq];rfl
        obtain⟨g7,e7,eB,⟨fT,fU⟩,G⟩:=PaOwn.stepLab HI.o.2.2.2.2.1 hR.o.1;obtain rfl:gp=g7:=by injection e7 with e1;injection e1
        rw [HI.o.2.1,dR] at G;obtain⟨t,ht⟩:=qX (C q*(mm:Int));have gu:-1024<=t/\t<=1024:=by
          have h1:(C q*(mm:Int)).natAbs<=128*8:=by
            rw [qaD,qan];exact Nat.mul_le_mul (by omega) fo
          rw [ht] at h1;omega
        have dL:C q*d.getD q 0=t*1250:=by rw [bM,<-ht,qbs,qbc (1250:Int)]
        rw [ht] at bq G;obtain⟨x,hx⟩:=qX (d.getD q 0);obtain⟨z,hz⟩:=qX (C q);obtain⟨s,hs⟩:=qX (labS C d q);have gy:0<=x/\x<=10000:=by omega
        rw [hx] at eX bq dL;rw [hz] at eU bq dL fA;rw [hs] at e2 dG G;have gm:-5000<=s/\s<=5000:=by omega
        have fE:5000+s+t=5000+(s+t):=Int.add_assoc _ _ _;have HN:=qH (qA G (qA (hR.o.2.2.setCell (p:=⟨gp,i*5+2,none⟩) HI.o.2.2.2.2.2 (.int .i64 (5000+(s+t)))) ((World.cell?_setCell_other _ _ _ _ (fun e=>by injection e with e1 e2 e3;omega)).trans hR.o.2.1:(wr.setCell ⟨gp,i*5+2,none⟩ (.int .i64 (5000+(s+t)))).cell? ⟨gp,i*5+1,none⟩=_)));clear G e7 eB hx hz hs bM dR ht ho e1 dG hR ai;go_wp2_with fail
        go_region
        go_wp2;go_roundw
        case rel=>exact⟨q+1,by go_num,dQ,qH ⟨HN.o.1,HN.o.2.2,HN.o.2.1.drew⟩⟩
        case measure=>simp [intOf];omega
    obtain rfl:m=i:=by omega
    have eY:¬(m:Int)<(m:Int):=by omega
    obtain⟨ae,cK⟩:=hS.o;rw [show labM C l m=labsE C l by rw [<-F.o.2.2.2.2];exact labM_all C l] at ae;have aj:=qkj HC.o.1 F.o.2.1 F.o.2.2.1;have bB:=qhR (c:=C) F.o.2.2.1;have aK:chans (labsE C l)=n:=(qe0 F.o.2.1.r1).trans F.o.2.2.2.1;have bL:(labsE C l).length=m:=(qcN C l).trans F.o.2.2.2.2;obtain⟨g8,c8,e8,aA⟩:=ae.cells aj.r1 (fun j hj=>(aj.rows j hj).1.n1);obtain rfl:gp=g8:=by injection e8 with e1;injection e1 with e1;injection e1
    have V:=fun (M:Nat) (ws:List Int) (X:Nat->Nat->Rat) (hM:many k n=M) (hs:¬Sing M (nq (labsE C l) k ws 0)) (hX:∀c,c<3->FitX (labsE C l) k ws c (X c))=>qlP dC F.o.2.1 F.o.2.2.1 HC.o.1 F.o.2.2.2.1 F.o.2.2.2.2 hM hs hX
    obtain⟨lE,dF⟩:∃x,labsE C l=x:=⟨_,rfl⟩;rw [dF] at aA aj bB aK bL V;have I:=qH (qA aA (qA aj (qA bB (qA aK (qA bL V)))));have bS:=qH cK;have fZ:(m:Int)<=12:=by omega
    clear ae cK aj bB aK bL aA V dF e8 hS F bZ eO eQ;have bX:=qH (qjV (some ⟨gp,0,none⟩) none m cp 0 0 0 [] wr (by omega) (by decide) ⟨fun h=>absurd h (by decide),fun k h=>absurd h (by simp)⟩ (fun k=>by simp));go_wp2_with fail;refine bX.o.mono ?_;rintro e w5 ⟨u2,rfl,bE,aB⟩;obtain⟨va,vc,rfl⟩:=qdD bE (qe6 [] m);obtain⟨gw,cw,ew,aH⟩:=IOwn.cells bE (by rw [qe6];exact bK);obtain rfl:va=some ⟨gw,0,none⟩:=by injection ew
    have bN:=ones_w9 m;have bO:=ones_wok m;have bu:=qe6 [] m;obtain⟨ws,dU⟩:=qX (wts [] m);rw [dU] at aH bN bO bu;have aS:Hu (Below w2.heap.size w2 w5):=qH (bS.o.trans (aB.mono bS.o.size));have HX:Kn (fun W=>PCells W (some ⟨gp,0,none⟩) gp 0 lE/\NCells W (some ⟨gw,0,none⟩) gw 0 ws) w5:=.of ⟨I.o.1.below aB,aH⟩;have az:=qH (qA bu (qA bN bO));have cZ:HasT w5:=H0.o.2.1.below (K2.o.1.trans (aS.o.mono K2.o.1.size));have HF:=qH (qjA m gp 0 cp gw 0 m vc (some ⟨gp,0,none⟩) (some ⟨gw,0,none⟩) lE (k:Int) ws w5 I.o.2.2.2.2.1 (by omega) (qgM I.o.2.1 I.o.2.2.2.2.1) bu (by omega) HX.o.1 HX.o.2 cZ);clear bu bN bO dU aH bE aB ew cZ bX;go_wp2_with fail;refine HF.o.mono ?_;intro e w6 bC;obtain⟨bF,bC⟩:=bC;have aT:=qH (aS.o.trans (bF.mono aS.o.size));have bY:=HX.below bF;clear bF HF HX;have af:1<=k/\k<=3:=by omega
    have aM:¬(k=3/\chans lE=4):=fun e=>by omega
    have aQ:W9 ws lE.length:=by rw [I.o.2.2.2.2.1];exact az.o.2.1
    have aR:ws.length=lE.length:=by rw [I.o.2.2.2.2.1];exact az.o.1
    rcases bC with ⟨v6,rfl,eF⟩ | ⟨c6,rfl,eD⟩
    case inr =>
      obtain rfl:c6=7:=by
        rcases eD with ⟨h,_⟩ | ⟨_,h,_⟩ | ⟨_,_,_,kk,aZ,h⟩
        · exact absurd I.o.2.1 h
        · exact absurd ⟨⟨k,kindN af⟩,aR,az.o.2.2⟩ h
        · obtain rfl:=(kindN af).uniq aZ
          rcases h with ⟨h1,h2,_⟩ | ⟨_,⟨_,h⟩ | ⟨hs,c,X,hc,hX,hn,_⟩⟩
          · exact absurd ⟨h1,h2⟩ aM
          · exact h
          · exact absurd (qkU I.o.2.1 I.o.2.2.1 af aM aQ hc hs hX) hn
      have dY:=qH (K2.o.1.trans ((qbS (o:=.cells #[.int .i64 0,.int .i64 0,.slice none 0 0,.slice none 0 0,.slice none 0 0] 38) aT.o qN).mono K2.o.1.size));clear aM aQ aR;unfold mdv0;go_wp2;go_ret;exact⟨rfl,dY.o⟩
    obtain⟨_,_,_,kk,aZ,_,bn,X,hX,au⟩:=eF;obtain rfl:k=kk:=((kindN af).uniq aZ).symm;have aF:=mdq_ok (n:=chans lE) af (by rw [I.o.2.2.2.1];omega) (by rw [I.o.2.2.2.1];omega) aM (fun c hc=>(hX c hc).2);rw [I.o.2.2.2.1] at au aF bn;obtain⟨M,aV⟩:=qX (many k n);rw [aV] at au aF bn;have fD:1<=M/\M<=10:=by rw [<-aV];exact qgx (kindN af) bg.1 bg.2 (fun e=>by omega)
    have V:=I.o.2.2.2.2.2 M ws X aV bn (fun c hc=>(hX c hc).1);obtain⟨a,b',o,d,rfl,H⟩:=au.parts;have ag:∀c,c<3->((mdq k n M X).row c).length=M:=fun c hc=>by rw [qez hc,qbW]
    have aO:(mdq k n M X).kind=(k:Int):=rfl;have ay:(mdq k n M X).inn=(n:Int):=rfl;have aG:=V.sq;have aP:=V.res;have Z:=V.ap;obtain⟨md,dJ⟩:=qX (mdq k n M X);rw [dJ] at au aF H ag aO ay aG aP Z ⊢;rw [aO,ay,ag 0 (by decide),ag 1 (by decide),ag 2 (by decide)] at au ⊢;obtain⟨W7,dn,N7⟩:=nw1 w6 #[.int .i64 (k:Int),.int .i64 (n:Int),.slice (a 0) M (d 0),.slice (a 1) M (d 1),.slice (a 2) M (d 2)] 38;have K7:=(bY.below N7.o.1).also (q:=fun W=>Below w2.heap.size w2 W/\W.heap[w6.heap.size]? = some (.cells #[.int .i64 (k:Int),.int .i64 (n:Int),.slice (a 0) M (d 0),.slice (a 1) M (d 1),.slice (a 2) M (d 2)] 38 (0,0))/\MdAt W (.agg #[.int .i64 (k:Int),.int .i64 (n:Int),.slice (a 0) M (d 0),.slice (a 1) M (d 1),.slice (a 2) M (d 2)]) md) ⟨aT.o.trans (N7.o.1.mono aT.o.size),N7.o.2,au.below N7.o.1⟩;have bJ:=fun q (hq:q<3)=>(show (md.row q).length<=4611686018427387904 by rw [ag q hq];omega)
    have df:=H0.o.2.1.below (K2.o.1.trans (K7.o.2.1.mono K2.o.1.size));have aN:MdOk md k (chans lE):=by rw [I.o.2.2.2.1];exact aF
    have bH:=cost_any md k m gp cp gw vc lE ws _ W7 K7.o.2.2.2 aN I.o.2.1 I.o.2.2.2.2.1 dI bJ K7.o.1.1 K7.o.1.2 az.o.1 az.o.2.1 (fun i hi=>by rw [aG i hi];exact qh8) (fun i hi=>(eOne_cd _).short (by decide) (qaL (show (ws.getD i 0).natAbs<=9 by have:=az.o.2.1 i hi;omega) (by decide +kernel)) (by decide +kernel)) (fun i hi=>by rw [aG i hi,Rat.zero_mul];exact qh8) (fun i hi=>by rw [qgi fun j hj=>aG j (by omega)];exact qh8) df
    rw [qgi aG,ft_0] at bH;have bU:=qH bH;have Y:=qH (qA aN (qA aF (qA aP (qA Z (qA bJ ay)))));clear aM aQ aR V aP Z aG aV aF aN ay aO ag au H hX bn dJ bJ N7 bY aS aT bH df aZ;go_upto_region 20 with fail;rw [<-dn];clear dn
    go_wp2_with ((with_reducible refine lW_ rfl 38 _ rfl (w6.heap.size) #[.int .i64 (k:Int),.int .i64 (n:Int),.slice (a 0) M (d 0),.slice (a 1) M (d 1),.slice (a 2) M (d 2)] K7.o.2.2.1 underlying38 5 ?_))
    refine bU.o.mono ?_;rintro e w8 ⟨rfl,bG⟩;obtain⟨W9,dw,N9⟩:=nw1 w8 #[.string ⟨#[48]⟩,.string ⟨#[49]⟩] 44;have K9:=(K7.below (bG.trans (N9.o.1.mono bG.size))).also (q:=fun W=>W.heap[w8.heap.size]? = some (.cells #[.string ⟨#[48]⟩,.string ⟨#[49]⟩] 44 (0,0))) N9.o.2;clear bG N9 bU K7;go_upto_region 21 with fail;rw [<-dw];clear dw;have HR:=qH (qh7 md _ m gp 0 cp (some ⟨gp,0,none⟩) lE W9 K9.o.1.2.2.2 I.o.2.2.2.2.1 (by omega) (qgM I.o.2.1 I.o.2.2.2.2.1) Y.o.2.2.2.2.1 K9.o.1.1.1 (H0.o.2.1.below (K2.o.1.trans (K9.o.1.2.1.mono K2.o.1.size))))
    go_wp2_with ((with_reducible refine lW_ rfl 38 _ rfl (w6.heap.size) #[.int .i64 (k:Int),.int .i64 (n:Int),.slice (a 0) M (d 0),.slice (a 1) M (d 1),.slice (a 2) M (d 2)] K9.o.1.2.2.1 underlying38 5 ?_))
    refine HR.o.mono ?_;intro e ak eH;obtain⟨bv,⟨gD,rfl,_,kk,ax,_,gz,rfl,bD⟩ | ⟨c10,rfl,eG⟩⟩:=eH
    case inr =>
      exfalso;rcases eG with ⟨h,_⟩ | ⟨_,h,_⟩ | ⟨_,_,h,_⟩ | ⟨_,_,kk,ax,h⟩
      · exact h ⟨_,_,Y.o.1⟩
      · exact h I.o.2.1
      · exact h (by rw [I.o.2.2.2.1];exact Y.o.2.2.2.2.2)
      · obtain rfl:k=kk:=(Y.o.1.uniq ax).1.symm
        refine h fun j hj=>?_
        rw [I.o.2.2.2.2.1] at hj;rw [Y.o.2.2.1 j hj];exact qh8
    obtain rfl:k=kk:=(Y.o.1.uniq ax).1.symm;rw [I.o.2.2.2.2.1] at bD ⊢;have ah:=(K9.below bv).also (q:=fun W=>FCells W (some ⟨gz,0,none⟩) gz 0 (told (m*3) (resA md lE k))) bD;clear bv bD ax K9 HR;go_upto_region 22 with fail;have d9:=qC _ _ 0 _ _ _ ah.o.1.2;have dZ:=qC _ _ 1 _ _ _ ah.o.1.1.2.2.1;go_wp2_with fail;clear d9 dZ
    go_loopw [135] (fun x135 W=>∃i:Nat,x135=.int .i64 (i:Int)/\i<=m/\Hu (Below ak.heap.size ak W)) (fun x135 _=>m-(intOf x135).toNat)
    case atStart=>exact⟨0,rfl,qam _,qH qB⟩
    case round =>
      obtain⟨i,rfl,hi,aU⟩:=hrel
      by_cases aa:i<m
      case neg =>
        have fw:¬(i:Int)<(m:Int):=by omega
        have dX:=qH (K2.o.1.trans ((ah.below aU.o).o.1.1.2.1.mono K2.o.1.size));go_wp2;go_ret;exact⟨rfl,dX.o⟩
      have fw:(i:Int)<(m:Int):=by omega
      have Kr:=ah.below aU.o;obtain⟨p0,⟨ra,rb,ro,rc,p1,bI⟩,p2,p3,p4⟩:=Kr.o.1.1.1.1.cell i (by rw [I.o.2.2.2.2.1];exact aa);rw [qaH] at p0 p1 p2 p3 p4;have aC:=(I.o.2.1.rows i (by rw [I.o.2.2.2.2.1];exact aa)).2;rw [I.o.2.2.2.1] at aC;have bi:=(I.o.2.1.rows i (by rw [I.o.2.2.2.2.1];exact aa)).1;have Z:=fun c hc=>Y.o.2.2.2.1 i c aa hc
      have bf:labq lE 0 i=(((lE.getD i pt0).l0:Int):Rat) / ((100:Int):Rat):=rfl;have dH:∀c,Short (labq lE c i):=fun c=>I.o.2.1.labs i (by rw [I.o.2.2.2.2.1];exact aa)
      obtain⟨pt,bz⟩:=qX (lE.getD i pt0);rw [bz] at p0 p1 p2 p3 p4 bI aC bi Z bf;rw [aC] at p1;obtain⟨a1,a2,ha⟩:=qb6 (labq lE 0 i);obtain⟨b1,b2,dz⟩:=qb6 (labq lE 1 i);obtain⟨c1,c2,dA⟩:=qb6 (labq lE 2 i);obtain⟨pn,dK⟩:∃z,pt.name=z:=⟨_,rfl⟩;have dN:=bi.l0;obtain⟨q0,dM⟩:∃z,pt.l0=z:=⟨_,rfl⟩;obtain⟨q1,dO⟩:∃z,pt.l1=z:=⟨_,rfl⟩;obtain⟨q2,dP⟩:∃z,pt.l2=z:=⟨_,rfl⟩;rw [dK] at p0;rw [dM] at p2 bf dN;rw [dO] at p3;rw [dP] at p4;obtain⟨Wp,dx,Np⟩:=nw1 wr #[.string pn,.slice ra n rc,.int .i64 q0,.int .i64 q1,.int .i64 q2] 55;have KP:Kn (fun W=>Below ak.heap.size ak W/\W.heap[wr.heap.size]? = some (.cells #[.string pn,.slice ra n rc,.int .i64 q0,.int .i64 q1,.int .i64 q2] 55 (0,0))) Wp:=.of ⟨aU.o.trans (Np.o.1.mono aU.o.size),Np.o.2⟩;have bQ:Hu (Calls prog 22 #[.agg #[.int .i64 (k:Int),.int .i64 (n:Int),.slice (a 0) M (d 0),.slice (a 1) M (d 1),.slice (a 2) M (d 2)],.slice ra n rc] Wp fun e w'=>e=.returned (.tuple #[.agg #[.string a1,.string a2,.string b1,.string b2,.string c1,.string c2],.int .i64 0])/\Below Wp.heap.size Wp w'):=qH ((qii md _ n rb ro rc ra pt.dev Wp ((ah.below KP.o.1).o.1.1.2.2.2) aC (by omega) Y.o.2.2.2.2.1 (bI.below Np.o.1) (H0.o.2.1.below (K2.o.1.trans ((ah.below KP.o.1).o.1.1.2.1.mono K2.o.1.size)))).mono fun e w' h=>by
        obtain⟨h1,h2⟩:=h.only (k:=k) (by rw [aC];exact Y.o.2.1) bi.vals (fun c hc=>by rw [Z c hc];exact dH c);rw [Z 0 (by decide),Z 1 (by decide),Z 2 (by decide),ha,dz,dA] at h2;exact⟨h2,h1⟩)
      have bV:Hu (∀W,Below ak.heap.size ak W->Calls prog 23 #[.int .i64 q0,.int .i64 100] W fun e w'=>e=.returned (.tuple #[.agg #[.string a1,.string a2],.int .i64 0])/\Below W.heap.size W w'):=qH fun W U=>by
        have:=of_int q0 100 (by decide) (by omega) (by decide) W (H0.o.2.1.below (K2.o.1.trans ((ah.below U).o.1.1.2.1.mono K2.o.1.size)))
        rwa [<-bf,ha] at this
      have bW:=qH (fun (W:World) (U:Below ak.heap.size ak W) (j:Nat) (hj:j<3)=>(by
        have h1:=(ah.below U).o.2.cell (i*3+j) (by rw [qbW];omega);rw [qnk Y.o.2.2.1 (by omega),qaH,show (i*3+j)*2=i*6+j*2 by omega] at h1;exact h1:W.cell? ⟨gz,i*6+j*2,none⟩=some (.string ⟨#[48]⟩)/\W.cell? ⟨gz,i*6+j*2+1,none⟩=some (.string ⟨#[49]⟩)))
      clear dK dM dO dP bI aC bi bz Z bf dH ha dz dA Kr;go_upto_region 27 with fail;rw [<-dx];clear dx p0 p1 p2 p3 p4 Np;have fB:=qC _ _ 1 _ _ _ KP.o.2
      go_wp2_with ((with_reducible refine lW_ rfl 38 _ rfl (w6.heap.size) #[.int .i64 (k:Int),.int .i64 (n:Int),.slice (a 0) M (d 0),.slice (a 1) M (d 1),.slice (a 2) M (d 2)] (ah.below KP.o.1).o.1.1.2.2.1 underlying38 5 ?_))
      refine bQ.o.mono ?_;rintro e dV ⟨rfl,aI⟩;obtain⟨Va,dh,Na⟩:=nw1 dV #[.string a1,.string a2,.string b1,.string b2,.string c1,.string c2] 65;have KA:=(KP.below (aI.trans (Na.o.1.mono aI.size))).also (q:=fun W=>W.heap[dV.heap.size]? = some (.cells #[.string a1,.string a2,.string b1,.string b2,.string c1,.string c2] 65 (0,0))) Na.o.2;clear fB aI Na bQ KP;go_upto_region 28 with fail;rw [<-dh];clear dh;have fC:=qC _ _ 2 _ _ _ KA.o.1.2;go_wp2_with fail;refine (bV.o Va KA.o.1.1).mono ?_;rintro e dW ⟨rfl,aJ⟩;obtain⟨Vw,di,Nw⟩:=nw1 dW #[.string a1,.string a2] 44;have KW:=(KA.below (aJ.trans (Nw.o.1.mono aJ.size))).also (q:=fun W=>W.heap[dW.heap.size]? = some (.cells #[.string a1,.string a2] 44 (0,0))) Nw.o.2;clear fC aJ Nw bV KA;go_upto_region 29 with fail;rw [<-di];clear di;have la:=(qG KW.o.1.2).1;have lw:=(qG KW.o.2).1;have fG:=rowC (B:=Vw.heap.size) KW.o.1.2 0;have fH:=rowC (B:=Vw.heap.size) KW.o.1.2 1;have gB:=rowC (B:=Vw.heap.size) KW.o.2 0;have gF:=rowC (B:=Vw.heap.size) KW.o.2 1;have hz:=fun (W:World) (h:Below Vw.heap.size Vw W) (j:Nat) (hj:j<3)=>bW.o W (KW.o.1.1.1.trans (h.mono KW.o.1.1.1.size)) j hj
      have z0:∀W,Below Vw.heap.size Vw W->W.cell? ⟨gz,i*6,none⟩=some (.string ⟨#[48]⟩):=fun W h=>(hz W h 0 (by decide)).1
      have z1:∀W,Below Vw.heap.size Vw W->W.cell? ⟨gz,i*6+1,none⟩=some (.string ⟨#[49]⟩):=fun W h=>(hz W h 0 (by decide)).2
      have z2:∀W,Below Vw.heap.size Vw W->W.cell? ⟨gz,i*6+2,none⟩=some (.string ⟨#[48]⟩):=fun W h=>(hz W h 1 (by decide)).1
      have z3:∀W,Below Vw.heap.size Vw W->W.cell? ⟨gz,i*6+3,none⟩=some (.string ⟨#[49]⟩):=fun W h=>(hz W h 1 (by decide)).2
      have z4:∀W,Below Vw.heap.size Vw W->W.cell? ⟨gz,i*6+4,none⟩=some (.string ⟨#[48]⟩):=fun W h=>(hz W h 2 (by decide)).1
      have z5:∀W,Below Vw.heap.size Vw W->W.cell? ⟨gz,i*6+5,none⟩=some (.string ⟨#[49]⟩):=fun W h=>(hz W h 2 (by decide)).2
      have bT:=qH KW.o.1.1.1;clear hz bW;refine wp_region_held_drew (S:=fun W=>Below Vw.heap.size Vw W) (by kernel_rfl) qB.drew (fun hS0=>?_);refine hT 0 (h:=hT 1 (h:=hT 2 (h:=hT 3 (h:=hT 4 (h:=hT 5 (h:=hT 6 (h:=hT 7 (h:=hT 8 (h:=hT 9 (h:=?_))))))))));refine hT 10 (h:=?_);refine hT 11 (h:=hT 12 (h:=hT 13 (h:=hT 14 (h:=hT 15 (h:=?_)))));refine hT 16 (h:=?_);refine Go.Proofs.YtplkdeknjghobaaGreatDoor.gr [(17,171),(18,172),(19,173),(20,174),(21,175),(22,176),(23,177),(24,178),(25,179),(26,180),(27,181),(28,182),(29,183),(30,184),(31,185)] [(18,[17]),(19,[18]),(20,[19]),(22,[21]),(23,[22]),(24,[23]),(26,[25]),(27,[26]),(28,[27]),(29,[20,24,28]),(30,[29]),(31,[30])] [0,1,2,3,4,5,6,7,8,9,10,11,12,13,14,15,16] [17,18,19,20,21,22,23,24,25,26,27,28,29,30,31] [] 32 32 (fl2 [(17,SC ⟨#[48]⟩),(18,QC ⟨#[48]⟩ ⟨#[49]⟩),(19,PC ⟨#[48]⟩ ⟨#[49]⟩),(20,fun z _=>z=.agg #[.string ⟨#[48]⟩,.string ⟨#[49]⟩]),(21,SC ⟨#[48]⟩),(22,QC ⟨#[48]⟩ ⟨#[49]⟩),(23,PC ⟨#[48]⟩ ⟨#[49]⟩),(24,fun z _=>z=.agg #[.string ⟨#[48]⟩,.string ⟨#[49]⟩]),(25,SC ⟨#[48]⟩),(26,QC ⟨#[48]⟩ ⟨#[49]⟩),(27,PC ⟨#[48]⟩ ⟨#[49]⟩),(28,fun z _=>z=.agg #[.string ⟨#[48]⟩,.string ⟨#[49]⟩]),(29,fun z _=>z=.agg #[.string ⟨#[48]⟩,.string ⟨#[49]⟩,.string ⟨#[48]⟩,.string ⟨#[49]⟩,.string ⟨#[48]⟩,.string ⟨#[49]⟩]),(30,fun z _=>z=.bool false),(31,fun z _=>z=.bool false)]) _ 0
        (hS:=fun w' h=>qb2 h) (hstep:=⟨⟨_,rfl,fun v J U H K O=>?_⟩,⟨_,rfl,fun v J U H K O=>?_⟩,⟨_,rfl,fun v J U H K O=>?_⟩,⟨_,rfl,fun v J U H K O=>?_⟩,⟨_,rfl,fun v J U H K O=>?_⟩,⟨_,rfl,fun v J U H K O=>?_⟩,⟨_,rfl,fun v J U H K O=>?_⟩,⟨_,rfl,fun v J U H K O=>?_⟩,⟨_,rfl,fun v J U H K O=>?_⟩,⟨_,rfl,fun v J U H K O=>?_⟩,⟨_,rfl,fun v J U H K O=>?_⟩,⟨_,rfl,fun v J U H K O=>?_⟩,⟨_,rfl,fun v J U H K O=>?_⟩,⟨_,rfl,fun v J U H K O=>?_⟩,⟨_,rfl,fun v J U H K O=>?_⟩,trivial⟩) (hend:=fun v J U H _ fu=>?_)
      · exact gW O (h:=⟨⟨J.heap.size,rfl,qM _ _ _ rfl⟩,qbS qB qN⟩)
      · obtain⟨g5,eg,h5⟩:SC ⟨#[48]⟩ _ J:=H.1
        exact gC O (q1_at J g5 ⟨#[48]⟩ _ _ (0:Rat) h5 (by rw [ft_0];decide +kernel) ft_0 (by decide)) (h:=fun e w4 ⟨g,c,e1,h1,h2⟩=>⟨_,e1,⟨g,c,rfl,h1⟩,h2⟩)
      · obtain⟨g5,c5,eg,h5⟩:QC ⟨#[48]⟩ ⟨#[49]⟩ _ J:=H.1
        exact gV O ⟨g5,rfl,h5⟩
      · obtain⟨g5,eg,h5,h6⟩:PC ⟨#[48]⟩ ⟨#[49]⟩ _ J:=H.1
        exact gV O rfl
      · exact gW O (h:=⟨⟨J.heap.size,rfl,qM _ _ _ rfl⟩,qbS qB qN⟩)
      · obtain⟨g5,eg,h5⟩:SC ⟨#[48]⟩ _ J:=H.1
        exact gC O (q1_at J g5 ⟨#[48]⟩ _ _ (0:Rat) h5 (by rw [ft_0];decide +kernel) ft_0 (by decide)) (h:=fun e w4 ⟨g,c,e1,h1,h2⟩=>⟨_,e1,⟨g,c,rfl,h1⟩,h2⟩)
      · obtain⟨g5,c5,eg,h5⟩:QC ⟨#[48]⟩ ⟨#[49]⟩ _ J:=H.1
        exact gV O ⟨g5,rfl,h5⟩
      · obtain⟨g5,eg,h5,h6⟩:PC ⟨#[48]⟩ ⟨#[49]⟩ _ J:=H.1
        exact gV O rfl
      · exact gW O (h:=⟨⟨J.heap.size,rfl,qM _ _ _ rfl⟩,qbS qB qN⟩)
      · obtain⟨g5,eg,h5⟩:SC ⟨#[48]⟩ _ J:=H.1
        exact gC O (q1_at J g5 ⟨#[48]⟩ _ _ (0:Rat) h5 (by rw [ft_0];decide +kernel) ft_0 (by decide)) (h:=fun e w4 ⟨g,c,e1,h1,h2⟩=>⟨_,e1,⟨g,c,rfl,h1⟩,h2⟩)
      · obtain⟨g5,c5,eg,h5⟩:QC ⟨#[48]⟩ ⟨#[49]⟩ _ J:=H.1
        exact gV O ⟨g5,rfl,h5⟩
      · obtain⟨g5,eg,h5,h6⟩:PC ⟨#[48]⟩ ⟨#[49]⟩ _ J:=H.1
        exact gV O rfl
      · have fK:v 20=_:=H.1
        have fM:v 24=_:=H.2.1;have fO:v 28=_:=H.2.2.1;exact gV O rfl
      · have fP:v 29=_:=H.1
        exact gV O (he:=by go_simp;rw [eq_3z];rfl) rfl
      · have fQ:v 30=_:=H.1
        exact gV O rfl
      have cu:v 31=_:=H 31 (by decide) (by decide);rw [cu];have HN:=qH (bT.o.trans ((qb2 U).mono bT.o.size));clear cu H U;refine wpAnyH_done (by kernel_rfl) ?_ _;go_wp2;go_roundw
      case rel=>exact⟨i+1,by go_num,aa,HN⟩
      case measure=>simp [intOf];omega
end Go.Proofs.YtplkdeknjghobaaGreatDoor
namespace Go.Proofs.YtplkdeknjghobaaGreatDoor
theorem five_i8 {G:List Int} (I:G.length=5) (H:∀z∈G,(Lit.int .i8 z).wf=true):∃a b c d e,G=[a,b,c,d,e]/\∀j,-128<=cE a b c d e j/\cE a b c d e j<=127:=by
 match G,I with
 | [a,b,c,d,e],_ =>
  have F:∀z∈[a,b,c,d,e],-128<=z/\z<=127:=fun z J=>by
   have:=H z J
   simpa [Lit.wf,IntKind.min,IntKind.max,IntKind.signed,IntKind.bits] using this
  refine⟨a,b,c,d,e,rfl,fun j=>?_⟩;unfold cE;rcases (show j=0\/j=1\/j=2\/j=3\/j=4\/5<=j by omega) with rfl | rfl | rfl | rfl | rfl | h
  ·exact F a (by simp)
  ·exact F b (by simp)
  ·exact F c (by simp)
  ·exact F d (by simp)
  ·exact F e (by simp)
  ·rw [qaa,qaA (by simpa using h)];exact⟨by decide,by decide⟩
end Go.Proofs.YtplkdeknjghobaaGreatDoor
section
namespace Go.Proofs.YtplkdeknjghobaaGreatDoor
open Go.ChangeShapes Go.WideShapes Go.ChangeAt Go.RowKit Go.Proofs.Tryz
open Go.ChangeMaps (open_string shut_string)
namespace LfitExact
theorem lifted (os:Os) (I:os.Started) (H:Type) (enc:TypeId×Value->H) :
  ReturnsInHanded {} Tryz.checked os 5 .any (fun w args=>(Rows.fitExactSpec.pre enc prog Tryz.f5 [] false w args/\laidMetH prog laidK w)/\sizedMet enc prog Tryz.f5 (OpenSpec.ofChange Rows.fitExactSpec) false w args)
   (Rows.fitExactSpec.post enc prog Tryz.f5 false true false false):=by
 refine returnsInHanded_of_change_and (C:=Tryz.checked) (X:=fun w _=>laidMetH prog laidK w) (fun _ _ _ hh h=>h.of_heap hh) Tryz.own I (by kernel_rfl) func5
  (ChangeSpec.witness_shaped (enc:=enc) (C:=Tryz.checked) (os:=os) (X:=fun w _=>laidMetH prog laidK w) false (World.laidAll prog os laidK) #[.agg #[.int .u8 0,.slice none 0 0],.agg #[.int .i8 0,.int .i8 0,.int .i8 0,.int .i8 0,.int .i8 0],.int .u8 0] 8 (World.laidAll_os _ _ _) (World.shaped_of_ZipB (by kernel_rfl) (by kernel_rfl)) (by kernel_rfl) (by kernel_rfl) (by kernel_rfl) (by rw [MakeChecks.laidMetH_plain _ _ _ (by kernel_rfl)];exact laidMet_laidAll _ (by kernel_rfl) (by kernel_rfl))) ?_
 intro W base args ds gs Y G hW _ ag hL _;have F:∀(j:Nat) t v,Tryz.f5.params[j]? = some t->args[j]? = some v->Value.okWide prog W .any base t v:=G;have U:=hW;obtain⟨p,q,O,hV,rfl,ai,aj⟩:=hW;have hA:DataW.TrodAll enc prog W 0 (fun _=>true) true Tryz.f5.params.toList args.toList ds p:=O;rw [Tryz.params5] at hA F;obtain⟨v0,v1,v2,d0,d1,d2,p0,p1,p2,rfl,rfl,rfl,h0,h1,h2⟩:=trodAll_three hA;obtain⟨rfl,rfl⟩:=trodVars_none hV;have k0:=h0;have ah:∀x∈p0,x.block<W.heap.size:=by obtain⟨m,hm⟩:=k0;exact DataW.trod_lt m _ _ _ hm
 obtain⟨ch,L,Z⟩:=open_pd (F 0 24 v0 rfl rfl) h0;obtain⟨zs,rfl,ae,V,rfl,rfl,J⟩:=qh1 underlying61 underlying34 (by kernel_rfl) (by kernel_rfl) (F 1 61 v1 rfl rfl) h1;obtain⟨c0,c1,c2,c3,c4,rfl,aa⟩:=five_i8 ae V;obtain⟨z2,rfl,rfl,rfl,w2⟩:=open_int underlying5 (F 2 5 v2 rfl rfl) h2;obtain⟨t,rfl,kt⟩:=wf_u8 w2;clear O G ag;simp only [List.append_nil] at U;refine (qiA ch t c0 c1 c2 c3 c4 L _ W Z kt aa (qmI hL).1 (qmI hL).2).mono fun e W' ⟨he,hb⟩=>?_
 subst he;exact⟨_,rfl,qh3 (pa:=p0) (pv:=[]) U (fun _ _ _=>trodAll_mk1 (shut_bool underlying4 _)) (fun sp af=>(by have h:=trodAll_mk3 (show DataW.Trod enc prog _ 0 sp true 24 _ d0 p0 from (WideElems.Trod_stays Tryz.laidOut (by kernel_rfl) (of_decide_eq_true (by kernel_rfl)) k0 (fun x hx=>hb.same (ah x hx)) (fun x hx=>af x (by simp [hx])))) (J _ _ _ _) (shut_int underlying5 w2);simp only [List.append_nil] at h;exact h)) (fun _ _=>rfl) (by simp) hb (ok_one (by kernel_rfl) rfl (okWide_bool_mk underlying4 _))⟩
theorem j1:(Rows.fitExactRow.inPlace == Tryz.prog.inPlace 5)=true:=by kernel_rfl
theorem j2:(Rows.fitExactRow.unfollowed == Tryz.prog.unfollowed 5)=true:=by kernel_rfl
theorem j3:(Rows.fitExactRow.recurses == Tryz.prog.recurses 5)=true:=by kernel_rfl
theorem j4:(Rows.fitExactRow.named == Tryz.prog.varsNamed 5)=true:=by kernel_rfl
theorem j5:Rows.fitExactRow.wf (OpenSpec.ofChange Rows.fitExactSpec)=true:=by kernel_rfl
theorem j6:(Rows.fitExactRow.lifted == Tryz.prog.liftsFinal)=true:=jf6
theorem j7:(Tryz.prog.make == some Rows.fitExactRow.make)=true:=jf7
theorem facts:joinedFacts prog 5 Tryz.f5 Rows.fitExactSpec Rows.fitExactRow=true:=by
 simp only [joinedFacts,jf1,jf2,jf3,jf4,jf5,j1,j2,j3,j4,j5,j6,j7,Bool.and_true,Bool.true_and]
 kernel_rfl
theorem holds:Rows.FitExactSaid :=
 OpenClaim.holds_of_wide 5 Tryz.f5 rfl rfl rfl rfl rfl rfl rfl ⟨rfl,rfl,rfl,rfl,rfl⟩ rfl rfl rfl rfl rfl (by kernel_rfl) func5 facts
  (of_decide_eq_true (by kernel_rfl)) (by unfold Func.isWrapper;first | (rw [if_pos (by decide +kernel)];kernel_rfl) | (rw [if_neg (by decide +kernel)];exact⟨rfl,rfl⟩))
  (fun os F H enc _=>lifted os F H enc)
end LfitExact
theorem fitExact_card:Rows.FitExactCardSaid :=
 Claim7.holds_tied_plain_at .later [] [.data,.data,.data,.sentinel,.sentinel] true (true, "9b05d2fc1ff85d5dc0477f326f390b72a370e4f499729e5259227d07228ba241") true
  LfitExact.holds (fun _ h=>by cases h) (by as_aux_lemma=>kernel_rfl) (fun _ h=>by cases h) fitExact_row_tie rfl ⟨rfl,rfl⟩ (by as_aux_lemma=>kernel_rfl) rfl
  (fun f I J G=>by
   obtain rfl:f=5:=qah ((show Tryz.prog.funcNamed "verdigris/verdigrislaw32.FitExact" = some 5 by as_aux_lemma=>kernel_rfl).symm.trans J) |>.symm
   obtain rfl:I=Tryz.f5:=(qah (Tryz.func5.symm.trans G)).symm;exact⟨by as_aux_lemma=>kernel_rfl,fun j t H=>by
    rw [Tryz.params5] at H;have O:t∈([24,61,5]:List Nat):=by simpa using Array.mem_of_getElem? H
    have F:(([24,61,5]:List Nat).all fun u=>!Tryz.prog.wantsStandIn u)=true:=by as_aux_lemma=>kernel_rfl
    exact (show Tryz.prog.wantsStandIn t=false by simpa using qa4.1 F t O)⟩)
  (by as_aux_lemma=>kernel_rfl)
#print axioms fitExact_card
