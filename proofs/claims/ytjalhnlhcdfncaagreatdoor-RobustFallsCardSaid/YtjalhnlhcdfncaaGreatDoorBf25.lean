import Derived.Test.YtjalhnlhcdfncaaGreatDoorBf24
set_option maxRecDepth 100000
set_option maxHeartbeats 0
namespace Go.Proofs.YtjalhnlhcdfncaaGreatDoor
open Go.RowKit Go.Proofs.Tryz
def RBlk (W:World) (g:Nat) (q:Rat):Prop:=∃(a:Option Addr) (n c:Nat) (b:Bool) (d:Option Addr) (m f:Nat),W.heap[g]? = some (.cells #[.slice a n c,.bool b,.slice d m f] 127 (0,0))/\RatV W (.agg #[.slice a n c,.bool b,.slice d m f]) q
theorem RBlk.below {W W':World} {g:Nat} {q:Rat} (h:RBlk W g q) (F:Below W.heap.size W W'):RBlk W' g q:=by
 obtain⟨a,n,c,b,d,m,f,G,H⟩:=h;exact⟨a,n,c,b,d,m,f,zkeep F _ _ G,H.below F⟩
theorem qiA {a:Option Addr} {n c:Nat} {b:Bool} {d:Option Addr} {m f:Nat}:∀x∈(#[.slice a n c,.bool b,.slice d m f]:Array Value).toList,∀z,x≠.int .u32 z:=by
 intro x F z;simp at F;rcases F with rfl | rfl | rfl <;> intro h <;> cases h
theorem RatV.keep {W W':World} {v:Value} {q:Rat} {g:Nat} {cs:Array Value} {t:TypeId} (h:RatV W v q) (F:W.grownBy W' (some g)) (hg:W.heap[g]? = some (.cells cs t (0,0))) (G:∀x∈cs.toList,∀z,x≠.int .u32 z):RatV W' v q:=by
 obtain⟨m,o,H,I,J⟩:=h;exact⟨m,o,H,qcj I F hg G,qcj J F hg G⟩
theorem qk3 (S P:Rat) (K:Nat) (V:K<=34359738368) (H:Nat) (v:Value) (w:World) (hs:RBlk w H S) (Z:RatV w v P) (hS:RFit S K) (hP:RFit P K) :
  Calls prog 164 #[v,.pointer (some ⟨H,0,none⟩)] w fun e w'=>e=.returned (.tuple #[])/\RBlk w' H (S+P)/\w.grownBy w' (some H):=by
 obtain⟨a,n,c,b,d,m,f,h1,h2⟩:=hs;obtain⟨a0,n0,c0,b0,d0,m0,f0,rfl⟩:=qcU Z;obtain⟨W1,O,I⟩:=nw1 w #[.slice a0 n0 c0,.bool b0,.slice d0 m0 f0] 127;have G:=zkeep I.o.1 _ _ h1;have x0:=qC _ _ 0 _ _ _ G;have x1:=qC _ _ 1 _ _ _ G;have x2:=qC _ _ 2 _ _ _ G;have y0:=qC _ _ 0 _ _ _ I.o.2;have y1:=qC _ _ 1 _ _ _ I.o.2;have y2:=qC _ _ 2 _ _ _ I.o.2;have HA:=qH (radd_any S P K V _ _ W1 (h2.below I.o.1) (Z.below I.o.1) hS hP);have HX:=qH G;clear h1 h2 Z G hS hP;go_enter func164,ntmps164;go_upto_region 1 with fail;rw [<-O];clear O;go_wp2_with fail;refine HA.o.mono ?_;rintro e w2 ⟨r,rfl,Y,G⟩;obtain⟨e0,e1,e2,e3,e4,e5,e6,rfl⟩:=qcU G;have F:=zkeep Y _ _ HX.o;have U:=qH (qA (qT _ _ _ #[.slice e0 e1 e2,.bool e3,.slice e4 e5 e6] _ _ F) (qA (qbR (qcd (keepB (g:=H) I.o.1) Y) (qb5 w2 H #[.slice e0 e1 e2,.bool e3,.slice e4 e5 e6])) (G.keep (qb5 w2 H #[.slice e0 e1 e2,.bool e3,.slice e4 e5 e6]) F qiA)));have J:=qH F;clear Y G F HA;rename_i V;dsimp only;refine V _ _ ?_
 go_wp2_with ((with_reducible refine sR_ rfl 127 _ _ rfl (H) #[.slice e0 e1 e2,.bool e3,.slice e4 e5 e6] J.o 3 ?_))
 go_end0
 exact⟨rfl,⟨e0,e1,e2,e3,e4,e5,e6,U.o.1,U.o.2.2⟩,U.o.2.1⟩
theorem RFit.plus {p q:Rat} {K J:Nat} (F:RFit p K) (G:RFit q J):RFit (p+q) (K+J+1):=by
 have H:Fit (p.num*q.den+q.num*p.den).natAbs (K+J+1):=by
  refine (Fit.add (x:=(p.num*q.den).natAbs) (y:=(q.num*p.den).natAbs) (K:=K+J) ?_ ?_).le (Int.natAbs_add_le _ _)
  ·rw [qaE,qaq];exact F.1.mul G.2
  ·rw [qaE,qaq,Nat.add_comm K J];exact G.1.mul F.2
 have I:Fit (p.den*q.den) (K+J+1):=(F.2.mul G.2).mono (by omega);rw [Rat.add_def'];have hne:=qbH p.den_nz q.den_nz
 constructor
 ·rw [Rat.num_mkRat,if_neg hne];refine H.le ?_;rw [Int.natAbs_ediv_of_dvd (Int.ofNat_dvd_left.2 (qaS _ _))];exact qaN _ _
 ·rw [Rat.den_mkRat,if_neg hne];exact I.le (qaN _ _)
theorem RFit.up {q:Rat} {K J:Nat} (h:RFit q K) (F:K<=J):RFit q J:=⟨h.1.mono F,h.2.mono F⟩
structure RCells (W:World) (b n:Nat) (x:Nat->Rat):Prop where
 cell:∀k,k<n->∃(a:Option Addr) (m c:Nat) (bb:Bool) (d:Option Addr) (e f:Nat),W.cell? ⟨b,k*3,none⟩=some (.slice a m c)/\W.cell? ⟨b,k*3+1,none⟩=some (.bool bb)/\W.cell? ⟨b,k*3+2,none⟩=some (.slice d e f)/\RatV W (.agg #[.slice a m c,.bool bb,.slice d e f]) (x k)
theorem RCells.below {W W':World} {b n:Nat} {x:Nat->Rat} (h:RCells W b n x) (F:Below W.heap.size W W'):RCells W' b n x:=⟨fun k O=>by
 obtain⟨a,m,c,bb,d,e,f,G,H,I,J⟩:=h.cell k O;exact⟨a,m,c,bb,d,e,f,(F.cell (qac W _ G)).trans G,(F.cell (qac W _ H)).trans H,(F.cell (qac W _ I)).trans I,J.below F⟩⟩
theorem one_mag (W:World) (g:Nat) (h:W.heap[g]? = some (.cells #[.int .u32 1] 201 (0,0))):MagAt W (.slice (some ⟨g,0,none⟩) 1 1) 1:=by
 refine⟨some ⟨g,0,none⟩,g,0,1,1,[1],rfl,⟨rfl,qaf _,⟨fun _=>rfl,fun k F=>?_⟩,fun k=>?_,qak (by decide)⟩,by decide⟩
 ·obtain rfl:k=0:=by simp at F;omega
  exact qC _ _ 0 _ _ _ h
 ·rcases k with _ | k
  ·decide
  ·simp
theorem qm3 (b n c:Nat) (ao:Option Addr) (x:Nat->Rat) (w:World) (aa:0<n->ao=some ⟨b,0,none⟩) (hn:n<=300) (hx:∀k,k<n->RFit (x k) 67) (hC:RCells w b n x) :
  Calls prog 92 #[.slice ao n c] w fun e w'=>∃r,e=.returned r/\Below w.heap.size w w'/\RatV w' r (sumQ n x)/\RFit (sumQ n x) (68*n+1):=by
 obtain⟨W1,J,N1⟩:=nw1 w #[.slice none 0 0,.bool false,.slice none 0 0] 127;obtain⟨W2,O,N2⟩:=nw1 W1 #[.int .u32 1] 201;have V:W1.heap.size=w.heap.size+1:=by rw [J];simp
 have ah:W2.heap.size=w.heap.size+1+1:=by rw [O];simp [V]
 obtain⟨W3,Z,N3⟩:=nw1 W2 #[.slice none 0 0,.bool false,.slice (some ⟨w.heap.size+1,0,none⟩) 1 1] 127;have I:W1.heap[w.heap.size]? = some (.cells #[.slice none 0 0,.bool false,.slice none 0 0] 127 (0,0)):=N1.o.2;have Y:=N2.o.2;rw [V] at Y;have H:=N3.o.2;rw [ah] at H;have af:Below w.heap.size w W3:=N1.o.1.trans ((N2.o.1.trans (N3.o.1.mono N2.o.1.size)).mono N1.o.1.size);have hz:RBlk W3 (w.heap.size+1+1) 0:=by
  refine⟨none,0,0,false,_,1,1,H,.slice none 0 0,.slice (some ⟨w.heap.size+1,0,none⟩) 1 1,rfl,MagAt.nil _,?_⟩;exact (one_mag _ _ Y).below N3.o.1
 have ag:=zkeep N3.o.1 _ _ (zkeep N2.o.1 _ _ I);have ak:=@hmf_ prog;have H0:=qH (qA af (qA hz ag));have HX:=qH (qA aa (qA hx (hC)));clear I Y H af hz ag V ah N1 N2 N3 aa hx hC;go_enter func92,ntmps92;go_upto_region 2 with fail;rw [<-J,<-O,<-Z];clear J O Z;go_wp2_with fail
 go_loopw [12] (fun x12 W=>∃i:Nat,x12=.int .i64 i/\i<=n/\Hu (Below w.heap.size w W/\RBlk W (w.heap.size+1+1) (sumQ i x)/\W.heap[w.heap.size]? = some (.cells #[.slice none 0 0,.bool false,.slice none 0 0] 127 (0,0))/\RFit (sumQ i x) (68*i+1))) (fun x12 _=>n-(intOf x12).toNat)
 case atStart =>
  exact⟨0,rfl,qam _,qH ⟨H0.o.1,H0.o.2.1,H0.o.2.2,⟨(by show (0:Nat)<1000000000 ^ 1;decide),(by show (1:Nat)<1000000000 ^ 1;decide)⟩⟩⟩
 case round =>
  obtain⟨i,rfl,aj,F⟩:=hrel
  by_cases hi:i<n
  ·have ai:(i:Int)<n:=by omega
   have ha:=HX.o.1 (by omega);subst ha;obtain⟨a0,m0,c0,b0,d0,e0,f0,y0,y1,y2,hv⟩:=(HX.o.2.2.below F.o.1).cell i hi;have au:i*3<n*3:=by omega
   have HV:=qH hv;clear hv;go_wp2_with fail;have G:Below wr.heap.size wr (wr.alloc (.cells #[.slice a0 m0 c0,.bool b0,.slice d0 e0 f0] 127)):=qB.alloc qN _;refine (qk3 (sumQ i x) (x i) (68*n+68) (by omega) (w.heap.size+1+1) _ _ (F.o.2.1.below G) (HV.o.below G) (F.o.2.2.2.up (by omega)) ((HX.o.2.1 i hi).up (by omega))).mono ?_;rintro e w5 ⟨rfl,hr,U⟩;have HN:Hu (Below w.heap.size w w5/\RBlk w5 (w.heap.size+1+1) (sumQ i x+x i)/\w5.heap[w.heap.size]? = some (.cells #[.slice none 0 0,.bool false,.slice none 0 0] 127 (0,0))):=qH (by
    have ae:=F.o.1.trans (G.mono F.o.1.size);refine⟨ae.trans ⟨U.os,U.tape,U.output,U.size,fun j hj=>U.block j (by have:=ae.size;omega) (fun e=>by have:=qag e;omega)⟩,hr,?_⟩;have hg:=zkeep G _ _ F.o.2.2.1;exact (U.block _ (qG hg).1 (fun e=>by have:=qag e;omega)).trans hg)
   clear hr U;go_wp2;go_roundw
   case rel=>exact⟨i+1,by go_num,hi,qH ⟨HN.o.1,HN.o.2.1,HN.o.2.2,(F.o.2.2.2.plus (HX.o.2.1 i hi)).up (by omega)⟩⟩
   case measure=>simp [intOf];omega
  ·obtain rfl:i=n:=by omega
   obtain⟨hb,⟨a,m,c',bb,d,e',f,h1,Y⟩,H,h4⟩:=F.o;have x0:=qC _ _ 0 _ _ _ h1;have x1:=qC _ _ 1 _ _ _ h1;have x2:=qC _ _ 2 _ _ _ h1;have HE:=qH (qA (qT _ _ _ #[.slice a m c',.bool bb,.slice d e' f] _ _ H) (qA (qS hb qN #[.slice a m c',.bool bb,.slice d e' f]) (qA (Y.keep (qb5 _ w.heap.size #[.slice a m c',.bool bb,.slice d e' f]) H qiA) h4)));have Hr:=qH H;clear F hb h1 Y H h4
   go_wp2_with ((with_reducible refine sR_ rfl 127 _ _ rfl (w.heap.size) #[.slice a m c',.bool bb,.slice d e' f] Hr.o 3 ?_))
   exact qR (v:=.agg #[.slice a m c',.bool bb,.slice d e' f]) (rA_ rfl (w.heap.size) HE.o.1 underlying127 3) rfl ⟨_,rfl,HE.o.2.1,HE.o.2.2.1,HE.o.2.2.2⟩
def RRow (W:World) (g n:Nat) (x:Nat->Rat) (i:Nat):Prop:=∃cs:Array Value,W.heap[g]? = some (.cells cs 127 (0,0))/\cs.size=n*3/\(∀y∈cs.toList,∀z,y≠.int .u32 z)/\RCells W g i x
theorem RRow.below {W W':World} {g n i:Nat} {x:Nat->Rat} (h:RRow W g n x i) (F:Below W.heap.size W W'):RRow W' g n x i:=by
 obtain⟨cs,G,H,I,J⟩:=h;exact⟨cs,zkeep F _ _ G,H,I,J.below F⟩
theorem RRow.at {W:World} {g n i:Nat} {x:Nat->Rat} (h:RRow W g n x i) (I:i<n):(∃v0 G v2,W.cell? ⟨g,i*3,none⟩=some v0/\W.cell? ⟨g,i*3+1,none⟩=some G/\W.cell? ⟨g,i*3+2,none⟩=some v2)/\∀j,W.frozen? ⟨g,j,none⟩=false:=by
 obtain⟨cs,F,H,_,_⟩:=h;refine⟨⟨cs[i*3]'(by omega),cs[i*3+1]'(by omega),cs[i*3+2]'(by omega),?_,?_,?_⟩,fun j=>qF _ _ _ _ _ F⟩
 ·exact (qC _ _ _ _ _ _ F).trans (Array.getElem?_eq_getElem _)
 ·exact (qC _ _ _ _ _ _ F).trans (Array.getElem?_eq_getElem _)
 ·exact (qC _ _ _ _ _ _ F).trans (Array.getElem?_eq_getElem _)
theorem qje {cs:Array Value} {k:Nat} {v y:Value} (h:y∈(cs.setIfInBounds k v).toList):y∈cs.toList\/y=v:=by
 rw [Array.toList_setIfInBounds] at h;exact List.mem_or_eq_of_mem_set h
theorem RRow.set {W:World} {g n i:Nat} {x:Nat->Rat} (h:RRow W g n x i) (hi:i<n) {a:Option Addr} {m c:Nat} {b:Bool} {d:Option Addr} {e f:Nat} (Z:RatV W (.agg #[.slice a m c,.bool b,.slice d e f]) (x i)) :
  RRow (((W.setCell ⟨g,i*3,none⟩ (.slice a m c)).setCell ⟨g,i*3+1,none⟩ (.bool b)).setCell ⟨g,i*3+2,none⟩ (.slice d e f)) g n x (i+1):=by
 obtain⟨cs,H,U,I,V⟩:=h;have O:W.grownBy (((W.setCell ⟨g,i*3,none⟩ (.slice a m c)).setCell ⟨g,i*3+1,none⟩ (.bool b)).setCell ⟨g,i*3+2,none⟩ (.slice d e f)) (some g):=qbR (qbR (qbP W g (i*3) _) (qbP _ g (i*3+1) _)) (qbP _ g (i*3+2) _);have J:=heap_setCell_same _ g (i*3+2) _ _ (.slice d e f) (heap_setCell_same _ g (i*3+1) _ _ (.bool b) (heap_setCell_same _ g (i*3) _ _ (.slice a m c) H));refine⟨_,J,by simp [U],fun y G z=>?_,⟨fun k Y=>?_⟩⟩
 ·rcases qje G with G | rfl
  ·rcases qje G with G | rfl
   ·rcases qje G with G | rfl
    ·exact I y G z
    ·intro h;cases h
   ·intro h;cases h
  ·intro h;cases h
 ·have F:∀j,(((W.setCell ⟨g,i*3,none⟩ (.slice a m c)).setCell ⟨g,i*3+1,none⟩ (.bool b)).setCell ⟨g,i*3+2,none⟩ (.slice d e f)).cell? ⟨g,j,none⟩=(((cs.setIfInBounds (i*3) (.slice a m c)).setIfInBounds (i*3+1) (.bool b)).setIfInBounds (i*3+2) (.slice d e f))[j]?:=fun j=>qC _ _ _ _ _ _ J
  rcases qaT k i with hlt | hge
  ·obtain⟨a',m',c',b',d',e',f',g1,g2,g3,g4⟩:=V.cell k hlt;rw [qC _ _ _ _ _ _ H] at g1 g2 g3;refine⟨a',m',c',b',d',e',f',?_,?_,?_,g4.keep O H I⟩
   ·rw [F,qaO (by omega),qaO (by omega),qaO (by omega)];exact g1
   ·rw [F,qaO (by omega),qaO (by omega),qaO (by omega)];exact g2
   ·rw [F,qaO (by omega),qaO (by omega),qaO (by omega)];exact g3
  ·obtain rfl:k=i:=by omega
   refine⟨a,m,c,b,d,e,f,?_,?_,?_,Z.keep O H I⟩
   ·rw [F,qaO (by omega),qaO (by omega),Array.getElem?_setIfInBounds_self_of_lt (by omega)]
   ·rw [F,qaO (by omega),Array.getElem?_setIfInBounds_self_of_lt (by simp;omega)]
   ·rw [F,Array.getElem?_setIfInBounds_self_of_lt (by simp;omega)]
theorem infoRt:(Tryz.prog.info? 127).map (fun i=>(i.zero,i.size,i.bytes))=some (some (.agg #[.slice none 0 0,.bool false,.slice none 0 0]),3,56):=by kernel_rfl
theorem make_rts (n:Nat) (J:n<=1000) (w:World):(Instr.makeSlice 158 (.int .i64 (n:Int)) (.int .i64 (n:Int))).run prog w=.ok (.slice (some ⟨w.heap.size,0,none⟩) n n) (w.alloc (.cells (madeCells #[.slice none 0 0,.bool false,.slice none 0 0] (n*3)) 127)):=by
 obtain⟨i,I,F,G,H⟩:=info_parts infoRt;have h:=run_make (P:=prog) w 158 127 i _ underlying158 I F .i64 .i64 (n:Int) (n:Int) (by omega) (Int.le_refl _) (by rw [H];omega) (by omega);rw [G,Int.toNat_natCast] at h;exact h
theorem RRow.made (W:World) (n:Nat) (x:Nat->Rat):RRow (W.alloc (.cells (madeCells #[.slice none 0 0,.bool false,.slice none 0 0] (n*3)) 127)) W.heap.size n x 0:=by
 refine⟨_,qM _ _ _ rfl,size_madeCells _ _,fun y F z=>?_,⟨fun k G=>absurd G (Nat.not_lt_zero _)⟩⟩;simp [madeCells] at F;obtain⟨j,_,rfl⟩:=F;rcases (show j % 3=0\/j % 3=1\/j % 3=2 by omega) with e | e | e <;> rw [e] <;> intro h <;> cases h
theorem sum_any (b n c:Nat) (ao:Option Addr) (x:Nat->Rat) (w:World) (hn:n<=300) (hF:FCells w ao b 0 (told n x)) (hx:qbS n x) (hs:Short (sumQ n x)) (hT:HasT w) :
  Calls prog 49 #[.slice ao n c] w fun e w'=>e=.returned (.tuple #[.agg #[.string (ftxt (sumQ n x)).1,.string (ftxt (sumQ n x)).2],.int .i64 0])/\Below w.heap.size w w':=by
 obtain⟨r1,r2,hr⟩:=qco (sumQ n x);rw [hr];obtain⟨W1,Y,N1⟩:=nw1 w #[.string ⟨#[]⟩,.string ⟨#[]⟩] 27;have ae:W1.heap.size=w.heap.size+1:=by rw [Y];simp
 have ai:=make_rts n (by omega) W1;obtain⟨W2,J⟩:=qY (W1.alloc (.cells (madeCells #[.slice none 0 0,.bool false,.slice none 0 0] (n*3)) 127));rw [<-J,ae] at ai;have ak:RRow W2 (w.heap.size+1) n x 0:=by rw [J,<-ae];exact RRow.made W1 n x
 have Z:Below W1.heap.size W1 W2:=J▸qB.alloc qN _;have H0:=qH (qA (N1.o.1.trans (Z.mono N1.o.1.size)) (qA ak (zkeep Z _ _ N1.o.2)));have V:=qH (qA hF (qA hx (qA hs (qA hT hr))));have aA:¬(300:Int)<n:=by omega
 clear N1 ae ak Z hF hx hs hT hr J;go_enter func49,ntmps49;go_upto_region 1 with fail;rw [<-Y];clear Y;go_wp2_with fail;clear ai
 go_loopw [18] (fun x18 W=>∃i:Nat,x18=.int .i64 i/\i<=n/\Hu (Below w.heap.size w W/\RRow W (w.heap.size+1) n x i/\W.heap[w.heap.size]? = some (.cells #[.string ⟨#[]⟩,.string ⟨#[]⟩] 27 (0,0)))) (fun x18 _=>n-(intOf x18).toNat)
 case atStart=>exact⟨0,rfl,qam _,H0⟩
 case round =>
  obtain⟨i,rfl,az,U⟩:=hrel
  by_cases hi:i<n
  ·have ay:(i:Int)<n:=by omega
   have ha:=V.o.1.addr (by rw [qbT];omega);subst ha;obtain⟨d0,d1⟩:=(V.o.1.below U.o.1).cell i (by rw [qbT];exact hi);rw [qdy hi] at d0 d1;have G:=fun W=>readq (V.o.2.1 i hi) W
   obtain⟨t1,t2,ht⟩:=qco (x i);rw [ht] at d0 d1 G;rw [qaM] at d0 d1;have G:=qH G;clear ht;go_wp2_with fail;refine (G.o _).mono ?_;rintro e w5 ⟨a0,m0,c0,b0,e0,e1,e2,rfl,hv,F,hb⟩;have O:Below wr.heap.size wr w5:=(qB.alloc qN _).trans (hb.mono (by simp only [qaa];omega));have HN:=qH (qA (U.o.1.trans (O.mono U.o.1.size)) (qA (U.o.2.1.below O) (qA (zkeep O _ _ U.o.2.2) (qA hv F))));clear hv F hb O G;obtain⟨V6,ah,N6⟩:=nw1 w5 #[.slice a0 m0 c0,.bool b0,.slice e0 e1 e2] 127;obtain⟨⟨v0,v1,v2,q0,q1,q2⟩,qf⟩:=(HN.o.2.1.below N6.o.1).at hi;have aB:=qf (i*3);have aC:=qf (i*3+1);have aD:=qf (i*3+2);have HS:=qH (qA (HN.o.1.trans (N6.o.1.mono HN.o.1.size)) (qA ((HN.o.2.1.below N6.o.1).set hi (HN.o.2.2.2.1.below N6.o.1)) (zkeep N6.o.1 _ _ HN.o.2.2.1)));go_upto_region 10 with fail;rw [<-ah];clear ah;have y0:=qC _ _ 0 _ _ _ N6.o.2;have y1:=qC _ _ 1 _ _ _ N6.o.2;have y2:=qC _ _ 2 _ _ _ N6.o.2;have ax:i*3<n*3:=by omega
   clear qf N6;go_wp2;go_roundw
   case rel =>
    refine⟨i+1,by go_num,hi,qH ⟨((HS.o.1.setCell (p:=⟨w.heap.size+1,i*3,none⟩) (show w.heap.size<=w.heap.size+1 by omega) _).setCell (p:=⟨w.heap.size+1,i*3+1,none⟩) (show w.heap.size<=w.heap.size+1 by omega) _).setCell (p:=⟨w.heap.size+1,i*3+2,none⟩) (show w.heap.size<=w.heap.size+1 by omega) _,HS.o.2.1,?_⟩⟩;exact (qW _ _ _ _ (show w.heap.size≠w.heap.size+1 by omega)).trans ((qW _ _ _ _ (show w.heap.size≠w.heap.size+1 by omega)).trans ((qW _ _ _ _ (show w.heap.size≠w.heap.size+1 by omega)).trans HS.o.2.2))
   case measure=>simp [intOf];omega
  ·obtain rfl:i=n:=by omega
   have I:∀k,k<i->RFit (x k) 67:=fun k hk=>by
    have:=(qdZ (V.o.2.1 k hk)).fit;rw [qc9] at this;exact this
   have aj:RCells wr (w.heap.size+1) i x:=by obtain⟨cs,_,_,_,h⟩:=U.o.2.1;exact h
   have af:=qH (qm3 (w.heap.size+1) i i (some ⟨w.heap.size+1,0,none⟩) x wr (fun _=>rfl) hn I aj);have HI:=qH U.o;clear U I aj;go_wp2_with fail;refine af.o.mono ?_;rintro e w5 ⟨r,rfl,hb,hv,F⟩;obtain⟨a0,m0,c0,b0,e0,e1,e2,rfl⟩:=qcU hv;have HB:=qH (HI.o.1.trans (hb.mono HI.o.1.size));have ag:=qH (zkeep hb _ _ HI.o.2.2);have HW:=qH (qfu (sumQ i x) (68*i+1) (by omega) (by omega) _ w5 hv F (V.o.2.2.2.1.below HB.o));clear hb hv F af;go_wp2_with fail;refine HW.o.mono ?_;rintro e w6 ⟨h,aa⟩;have au:=qH (HB.o.trans (aa.mono HB.o.size));have H:=qH (zkeep aa _ _ ag.o);clear aa HW;rcases h with ⟨_,rfl⟩ | ⟨av,_⟩
   case inr=>exact absurd V.o.2.2.1 av
   rw [qfK,V.o.2.2.2.2];have HE:=qH (qA (qT _ _ _ #[.string r1,.string r2] _ _ H.o) (qS au.o qN #[.string r1,.string r2]))
   go_wp2_with ((with_reducible refine sR_ rfl 27 _ _ rfl (w.heap.size) #[.string r1,.string r2] H.o 2 ?_))
   exact qR (v:=.tuple #[.agg #[.string r1,.string r2],.int .i64 0]) (rB_ rfl w.heap.size HE.o.1 underlying27 2) rfl ⟨rfl,HE.o.2⟩
def Rises (K:List Int) (R i:Nat):Prop:=∀j,j<i->(0<=K.getD j 0/\K.getD j 0<(R:Int))/\(0<j->K.getD (j-1) 0<K.getD j 0)
theorem Rises.more {K:List Int} {R i:Nat} (h:Rises K R i) (F:0<=K.getD i 0/\K.getD i 0<(R:Int)) (G:0<i->K.getD (i-1) 0<K.getD i 0):Rises K R (i+1):=fun j H=>by
 rcases (show j<i\/j=i by omega) with h3 | rfl
 ·exact h j h3
 ·exact⟨F,G⟩
def CoAs (w:World) (m:Md) (l:List Pt) (K:List Int) (e:Ending) (w':World):Prop:=Below w.heap.size w w' /\
  ((∃c,e=.returned (.tuple #[.agg #[.string ⟨#[]⟩,.string ⟨#[]⟩],.int .i64 c])/\SqF m l c) \/
   ∃F,PtsOk l/\MdOk m F (chans l)/\qbS l.length (sqq m l F) /\
    ((¬Rises K l.length K.length/\e=.returned (.tuple #[.agg #[.string ⟨#[]⟩,.string ⟨#[]⟩],.int .i64 2])) \/
     (Rises K l.length K.length/\e=.returned (.tuple #[.agg #[.string (ftxt (sumQ K.length fun i=>sqq m l F (K.getD i 0).toNat)).1,.string (ftxt (sumQ K.length fun i=>sqq m l F (K.getD i 0).toNat)).2],.int .i64 0]))))
theorem qfU (R b aQ c n kb ko kc:Nat) (ao ka:Option Addr) (m:Md) (v:Value) (l:List Pt) (K:List Int) (w:World) (hM:MdAt w v m) (hR:l.length=R) (hl:R<=1000) (hs:∀k,k<R->(l.getD k pt0).name.size<=4611686018427387904/\(l.getD k pt0).dev.length<=4611686018427387904) (aI:∀q,q<3->(m.row q).length<=4611686018427387904)
  (hn:K.length=n) (aX:n<=300) (hP:PCells w ao b aQ l) (hK:NCells w ka kb ko K) (hT:HasT w)
  (ag:∀Z,MdOk m Z (chans l)->qbS l.length (sqq m l Z)->Rises K R n->Short (sumQ n fun i=>sqq m l Z (K.getD i 0).toNat)) :
  Calls prog 20 #[v,.slice ao R c,.slice ka n kc] w fun e w'=>CoAs w m l K e w':=by
 obtain⟨k5,i5,A0,A1,A2,L0,C0,L1,C1,L2,C2,rfl⟩:=hM.five;obtain⟨W1,ai,N1⟩:=nw2 w #[.int .i64 k5,.int .i64 i5,.slice A0 L0 C0,.slice A1 L1 C1,.slice A2 L2 C2] 46 #[.string ⟨#[]⟩,.string ⟨#[]⟩] 27;have aL:W1.heap.size=w.heap.size+1+1:=by rw [ai];simp
 have HQ:=qH (qgv m _ R b aQ c ao l W1 (hM.below N1.o.1) hR (by omega) hs aI (hP.below N1.o.1) (hT.below N1.o.1));have H:=qH (qA hR (qA hn (qA hK (qA hT (qA ag aL)))));have aK:=N1.o.2.1;clear hM hP hR hs aI hn hK hT ag aL;go_enter func20,ntmps20;go_upto_region 1 with fail;rw [<-ai];clear ai
 go_wp2_with (first | (with_reducible refine lW_ rfl 46 _ rfl (w.heap.size) #[.int .i64 k5,.int .i64 i5,.slice A0 L0 C0,.slice A1 L1 C1,.slice A2 L2 C2] aK underlying46 5 ?_) | fail)
 refine HQ.o.mono ?_;rintro e w2 ⟨aj,h⟩;have ay:=qH aj;have af:=zkeep aj _ _ N1.o.2.2;clear HQ aK aj;rcases h with ⟨v2,rfl,hG⟩ | ⟨cc,rfl,hf⟩
 case inr =>
  have aY:(cc == (0:Int))=false:=beq_false_of_ne hf.ne;have bu:(cc != (0:Int))=true:=by rw [bne,aY];rfl
  have aS:=qH hf;clear hf
  go_wp2_with (first | (with_reducible refine sR_ rfl 27 _ _ rfl (w.heap.size+1) #[.string ⟨#[]⟩,.string ⟨#[]⟩] af 2 ?_) | fail)
  refine qR (v:=.tuple #[.agg #[.string ⟨#[]⟩,.string ⟨#[]⟩],.int .i64 cc]) (rB_ rfl (w.heap.size+1) (qT _ _ _ _ _ _ af) underlying27 2) rfl ?_;exact⟨qS (N1.o.1.trans (ay.o.mono N1.o.1.size)) (qa9 _) _,.inl ⟨cc,rfl,aS.o⟩⟩
 obtain⟨aJ,Z,aH,aM,g2,rfl,ae⟩:=hG;have J:=qH (qA aJ (qA aH aM));obtain⟨sq,ax⟩:=qX (sqq m l Z);rw [ax] at ae;rw [H.o.1] at ae ⊢;have HS:=qH ax;obtain⟨f,hf⟩:∃f:Nat->Rat,(fun i=>sq (K.getD i 0).toNat)=f:=⟨_,rfl⟩;have aa:=qH hf;have K2:Kn (fun W=>(Below W1.heap.size W1 W/\W.heap[w.heap.size+1]? = some (.cells #[.string ⟨#[]⟩,.string ⟨#[]⟩] 27 (0,0)))/\FCells W (some ⟨g2,0,none⟩) g2 0 (told R sq)) w2:=.of ⟨⟨ay.o,af⟩,ae⟩;clear aJ aH aM ax hf ae af;go_wp2_with fail
 go_loopw [10,25] (fun x10 x25 W=>∃i:Nat,x25=.int .i64 (i:Int)/\i<=n/\Hu (Rises K R i)/\Kn (fun W=>((Below W1.heap.size W1 W/\W.heap[w.heap.size+1]? = some (.cells #[.string ⟨#[]⟩,.string ⟨#[]⟩] 27 (0,0)))/\FCells W (some ⟨g2,0,none⟩) g2 0 (told R sq))/\Below w2.heap.size w2 W/\Rws W w2.heap.size 27 2 x10 i (fflat (told i f))) W) (fun _ x25 _=>n-(intOf x25).toNat)
 case atStart=>exact⟨0,rfl,qam _,qH fun j hj=>absurd hj (Nat.not_lt_zero j),.of ⟨K2.o,Below.refl _ _,Rws.nil _ _ _ _⟩⟩
 case round =>
  obtain⟨i,rfl,hi,O,K3⟩:=hrel;have G:=K3.o.1.1.2;have I:=qH (N1.o.1.trans (K3.o.1.1.1.mono N1.o.1.size))
  by_cases au:i<n
  case neg =>
   obtain rfl:i=n:=by omega
   have aV:¬(i:Int)<(i:Int):=by omega
   obtain⟨aT,g3,aB,rfl,aD,_⟩:=qdG K3.o.2.2 (qbT _ _);have aG:qbS i f:=fun j hj=>by
    have h:=(O.o j hj).1;have h2:=J.o.2.2 ((K.getD j 0).toNat) (by rw [H.o.1];omega);rw [HS.o] at h2;rw [<-aa.o];exact h2
   have aN:Short (sumQ i f):=by
    have h:=H.o.2.2.2.2.1 Z J.o.2.1 J.o.2.2 O.o;rw [HS.o] at h;rw [<-aa.o];exact h
   obtain⟨r1,r2,hr⟩:=qco (sumQ i f);have U:=sum_any g3 i aB aT f wr aX aD aG aN (H.o.2.2.2.1.below I.o);rw [hr] at U;have aA:=qH U;have HX:=qH hr;clear aG aN aD U hr;go_wp2_with fail;refine aA.o.mono ?_;rintro e w9 ⟨rfl,ak⟩;have aP:=zkeep ak _ _ G;have aR:=qH (I.o.trans (ak.mono I.o.size));clear ak aA G
   go_wp2_with (first | (with_reducible refine sR_ rfl 27 _ _ rfl (w.heap.size+1) #[.string r1,.string r2] aP 2 ?_) | fail)
   refine qR (v:=.tuple #[.agg #[.string r1,.string r2],.int .i64 0]) (rB_ rfl (w.heap.size+1) (qT _ _ _ _ _ _ aP) underlying27 2) rfl ?_;refine⟨qS aR.o (qa9 _) _,.inr ⟨Z,J.o.1,J.o.2.1,J.o.2.2,.inr ⟨by rw [H.o.1,H.o.2.1];exact O.o,?_⟩⟩⟩;rw [H.o.2.1,HS.o,aa.o,HX.o]
  have aV:(i:Int)<(n:Int):=by omega
  have aW:=H.o.2.2.1.addr (by rw [H.o.2.1];omega);subst aW;have ck:∀j,j<n->wr.cell? ⟨kb,ko+j,none⟩=some (.int .i64 (K.getD j 0)):=fun j hj=>(H.o.2.2.1.below I.o).cell j (by rw [H.o.2.1];exact hj)
  have aC:=ck i au;obtain⟨z,hz⟩:=qX (K.getD i 0);rw [hz] at aC;have HZ:=qH hz;have F:∀{P:Prop},(Rises K R (i+1)->P)->Rises K R n->P:=fun h1 h2=>h1 fun j hj=>h2 j (by omega)
  clear hz
  by_cases bn:z<0
  ·have HN:Hu (¬Rises K l.length K.length):=qH (by rw [H.o.1,H.o.2.1];exact F fun h=>by have:=(h i (Nat.lt_succ_self i)).1;rw [HZ.o] at this;omega);clear F ck
   go_wp2_with (first | (with_reducible refine sR_ rfl 27 _ _ rfl (w.heap.size+1) #[.string ⟨#[]⟩,.string ⟨#[]⟩] G 2 ?_) | fail)
   refine qR (v:=.tuple #[.agg #[.string ⟨#[]⟩,.string ⟨#[]⟩],.int .i64 2]) (rB_ rfl (w.heap.size+1) (qT _ _ _ _ _ _ G) underlying27 2) rfl ?_;exact⟨qS I.o (qa9 _) _,.inr ⟨Z,J.o.1,J.o.2.1,J.o.2.2,.inl ⟨HN.o,rfl⟩⟩⟩
  by_cases bq:z≥(R:Int)
  ·have HN:Hu (¬Rises K l.length K.length):=qH (by rw [H.o.1,H.o.2.1];exact F fun h=>by have:=(h i (Nat.lt_succ_self i)).1;rw [HZ.o] at this;omega);clear F ck
   go_wp2_with (first | (with_reducible refine sR_ rfl 27 _ _ rfl (w.heap.size+1) #[.string ⟨#[]⟩,.string ⟨#[]⟩] G 2 ?_) | fail)
   refine qR (v:=.tuple #[.agg #[.string ⟨#[]⟩,.string ⟨#[]⟩],.int .i64 2]) (rB_ rfl (w.heap.size+1) (qT _ _ _ _ _ _ G) underlying27 2) rfl ?_;exact⟨qS I.o (qa9 _) _,.inr ⟨Z,J.o.1,J.o.2.1,J.o.2.2,.inl ⟨HN.o,rfl⟩⟩⟩
  obtain⟨x,rfl⟩:∃x:Nat,z=(x:Int):=⟨z.toNat,by omega⟩;have aO:x<R:=by omega
  have bi:(x:Int)<(R:Int):=by omega
  obtain⟨d0,d1⟩:=K3.o.1.2.cell x (by rw [qbT];exact aO);rw [qdy aO] at d0 d1;obtain⟨x1,x2,hx⟩:=qco (sq x);rw [hx,qaM] at d0 d1;have aF:told (i+1) f=told i f++[(x1,x2)]:=by
   rw [qfj,<-aa.o]
   show _++[ftxt (sq (K.getD i 0).toNat)]=_
   rw [HZ.o,Int.toNat_natCast,hx]
  have az:=qH aF;have HX:=qH hx;clear aF hx;rcases i with _ | Y
  ·have ah:Hu (Rises K R (0+1)):=qH (O.o.more (by rw [HZ.o];omega) fun h=>absurd h (by decide));rw [qbD] at aC;clear F ck G
   go_wp2_with (first | (at_builtin;refine qeO rfl _ _ rfl K3.o.2.1 rfl K3.o.2.2 rfl rfl rfl (by omega) ?_;intro v' w' av V) | fail)
   go_roundw
   case rel=>exact⟨1,by go_num,au,ah,.of ⟨(K2.below V.o).o,V.o,by rw [az.o];exact av.o⟩⟩
   case measure=>simp [intOf] <;> omega
  obtain⟨y,hy⟩:=qX (K.getD Y 0);have aU:=ck Y (by omega);rw [hy] at aU;have p0:(0:Int)<=(Y:Int):=by omega
  have p1:(Y:Int)<(n:Int):=by omega
  have aZ:(0:Int)<(Y:Int)+1:=by omega
  have bg:IntKind.i64.wrap (Y:Int)=(Y:Int):=by rw [IntKind.wrap_i64];omega
  by_cases bf:(x:Int)<=y
  ·have HN:Hu (¬Rises K l.length K.length):=qH (by
    rw [H.o.1,H.o.2.1];exact F fun h=>by
     have:=(h (Y+1) (Nat.lt_succ_self _)).2 (Nat.succ_pos _);rw [HZ.o,Nat.add_sub_cancel,hy] at this;omega)
   clear F ck hy
   go_wp2_with (first | (with_reducible refine sR_ rfl 27 _ _ rfl (w.heap.size+1) #[.string ⟨#[]⟩,.string ⟨#[]⟩] G 2 ?_) | fail)
   refine qR (v:=.tuple #[.agg #[.string ⟨#[]⟩,.string ⟨#[]⟩],.int .i64 2]) (rB_ rfl (w.heap.size+1) (qT _ _ _ _ _ _ G) underlying27 2) rfl ?_;exact⟨qS I.o (qa9 _) _,.inr ⟨Z,J.o.1,J.o.2.1,J.o.2.2,.inl ⟨HN.o,rfl⟩⟩⟩
  ·have ah:Hu (Rises K R (Y+1+1)):=qH (O.o.more (by rw [HZ.o];omega) fun _=>by rw [HZ.o,Nat.add_sub_cancel,hy];omega);clear F ck G hy
   go_wp2_with (first | (at_builtin;refine qeO rfl _ _ rfl K3.o.2.1 rfl K3.o.2.2 rfl rfl rfl (by omega) ?_;intro v' w' av V) | fail)
   go_roundw
   case rel=>exact⟨Y+1+1,by go_num,au,ah,.of ⟨(K2.below V.o).o,V.o,by rw [az.o];exact av.o⟩⟩
   case measure=>simp [intOf] <;> omega
theorem FitF.not {l:List Pt} {k:Nat} {K:List Nat} {X:Nat->Nat->Rat} {c:Int} (U:PtsOk l) (V:1<=k/\k<=3) (O:¬(k=3/\chans l=4)) (G:KFit l k K X) (I:∀c,c<3->qbS (many k (chans l)) (X c)):¬FitF l (k:Int) (keepW K l.length) c:=by
 have F:qcN (k:Int) k:=⟨rfl,V⟩;rintro (⟨h,_⟩ | ⟨_,h,_⟩ | ⟨_,_,_,k',H,h⟩)
 ·exact h U
 ·exact h ⟨⟨k,F⟩,qdK _ _,qjS _ _⟩
 ·obtain rfl:=F.uniq H;rcases h with ⟨a,b,_⟩ | ⟨_,⟨h,_⟩ | ⟨_,c,x,J,Z,Y,_⟩⟩
  ·exact O ⟨a,b⟩
  ·exact G.1 h
  ·exact Y ((I c J).congr (qcs.uniq (fun I=>G.1 (qeM I)) (G.2 c J) Z))
theorem SqF.not {m:Md} {k:Nat} {l:List Pt} {c:Int} (H:PtsOk l) (F:MdOk m k (chans l)) (I:qbS l.length (sqq m l k)):¬SqF m l c:=by
 rintro (⟨h,_⟩ | ⟨_,h,_⟩ | ⟨_,_,h,_⟩ | ⟨_,_,k',G,h⟩)
 ·exact h ⟨_,_,F⟩
 ·exact h H
 ·exact h F.inn.1
 ·obtain rfl:=(F.uniq G).1;exact h I
theorem RunF.not {l:List Pt} {k keep F:Nat} {c:Int} (I:PtsOk l) (Z:1<=k/\k<=3) (U:¬(k=3/\chans l=4))
  (h:∀p,p<=F->∃K X,Runs l k keep p K X/\(∀c,c<3->qbS (many k (chans l)) (X c))/\(p<F->qbS l.length (sqq (mdX l k X) l k))):¬RunF l k keep F c:=by
 rintro (G | ⟨p,K,X,hp,O,G⟩)
 ·obtain⟨K,X,O,hs,_⟩:=h 0 (qam _);rw [<-O.1] at G;exact FitF.not I Z U O.2 hs G
 ·obtain⟨K0,X0,J,af,ae⟩:=h p (qap hp);obtain⟨ah,aa⟩:=O.uniq J;rw [aa] at G;rcases G with G | G
  ·exact SqF.not I (ql6 Z I.n1 I.n4 U af) (ae hp) G
  ·obtain⟨K1,X1,⟨K2,X2,V,H,Y⟩,ag,_⟩:=h (p+1) hp;rw [(V.uniq J).2] at H;rw [<-H] at G;exact FitF.not I Z U Y ag G
theorem qdd.uniq {k d p G F H:Nat} (h:qdd (k:Int) (d:Int) (p:Int) G F H):G=k/\F=d/\H=p:=by
 obtain⟨I,_,J,_,O,_⟩:=h;omega
theorem RFAs.only {w w':World} {l:List Pt} {k d p:Nat} {e:Ending} {K:List Nat} {X:Nat->Nat->Rat} (h:RFAs w l (k:Int) (d:Int) (p:Int) e w') (J:PtsOk l) (Y:1<=k/\k<=3) (U:d<=50) (hp:p<=8)
  (O:Runs l k (keepN l.length d) p K X) (G:∀c,¬RunF l k (keepN l.length d) p c):Below w.heap.size w w' /\
  ∃v g,e=.returned (.tuple #[v,.slice (some ⟨g,0,none⟩) K.length K.length,.int .i64 0])/\NatR w' w.heap.size g K.length K.length K/\MdAt w' v (mdX l k X):=by
 refine⟨h.1,?_⟩;rcases h.2 with ⟨h,_⟩ | ⟨_,h,_⟩ | ⟨_,k',d',p',I,hr⟩
 ·exact absurd J h
 ·exact absurd ⟨k,d,p,rfl,Y,rfl,U,rfl,hp⟩ h
 ·obtain⟨rfl,rfl,rfl⟩:=I.uniq;rcases hr.2 with ⟨c,_,_,V⟩ | ⟨v,g,K',m,he,hN,H,X',F,rfl,_⟩
  ·exact absurd V (G c)
  ·obtain⟨rfl,Z⟩:=F.uniq O;rw [Z] at H;exact⟨v,g,he,hN,H⟩
theorem RFAs.bad {w w':World} {l:List Pt} {kind drop F:Int} {e:Ending} (h:RFAs w l kind drop F e w') (H:PtsOk l) (G:¬∃k d p,qdd kind drop F k d p):Below w.heap.size w w'/\e=.returned (.tuple #[mdv0,.slice none 0 0,.int .i64 2]):=by
 refine⟨h.1,?_⟩;rcases h.2 with ⟨h,_⟩ | ⟨_,_,h⟩ | ⟨_,k',d',p',h,_⟩
 ·exact absurd H h
 ·exact h
 ·exact absurd ⟨k',d',p',h⟩ G
theorem CoAs.only {w w':World} {m:Md} {k:Nat} {l:List Pt} {K:List Int} {e:Ending} (h:CoAs w m l K e w') (H:PtsOk l) (G:MdOk m k (chans l)) (J:qbS l.length (sqq m l k)):Below w.heap.size w w' /\
    ((¬Rises K l.length K.length/\e=.returned (.tuple #[.agg #[.string ⟨#[]⟩,.string ⟨#[]⟩],.int .i64 2])) \/
     (Rises K l.length K.length/\e=.returned (.tuple #[.agg #[.string (ftxt (sumQ K.length fun i=>sqq m l k (K.getD i 0).toNat)).1,.string (ftxt (sumQ K.length fun i=>sqq m l k (K.getD i 0).toNat)).2],.int .i64 0]))):=by
  refine⟨h.1,?_⟩;rcases h.2 with ⟨c,_,I⟩ | ⟨kk,_,F,_,h⟩
  · exact absurd I (SqF.not H G J)
  · obtain rfl:=(G.uniq F).1;exact h
theorem qg2:qbS 5 (sqq (mdX line5 1 linX0) line5 1):=fun i F=>by
 rw [qjb i F];rcases (show i=0\/i=1\/i=2\/i=3\/i=4 by omega) with rfl | rfl | rfl | rfl | rfl <;> exact qdj (N:=10000) ⟨by decide +kernel,by decide +kernel⟩ (by decide +kernel)
theorem qg4:qbS 5 (sqq (mdX line5 1 linX1) line5 1):=fun i F=>by
 rw [qlZ i F];rcases (show i=0\/i=1\/i=2\/i=3\/i=4 by omega) with rfl | rfl | rfl | rfl | rfl <;> exact qdj (N:=10000) ⟨by decide +kernel,by decide +kernel⟩ (by decide +kernel)
theorem lin_no (keep:Nat) (c:Int):¬RunF line5 1 keep 0 c:=RunF.not qee (by decide) (by decide) fun p G=>by
 obtain rfl:p=0:=by omega
 exact⟨_,_,qg1 keep,fun c F=>(qie c F).2,fun h=>absurd h (by decide)⟩
theorem lin_no4 (c:Int):¬RunF line5 1 4 1 c:=RunF.not qee (by decide) (by decide) fun p G=>by
 rcases (show p=0\/p=1 by omega) with rfl | rfl
 ·exact⟨_,_,qg1 4,fun c F=>(qie c F).2,fun _=>qg2⟩
 ·exact⟨_,_,lin_r1,fun c F=>(ql1 c F).2,fun h=>absurd h (by decide)⟩
theorem lin_no5 (c:Int):¬RunF line5 1 5 1 c:=RunF.not qee (by decide) (by decide) fun p G=>by
 rcases (show p=0\/p=1 by omega) with rfl | rfl
 ·exact⟨_,_,qg1 5,fun c F=>(qie c F).2,fun _=>qg2⟩
 ·exact⟨_,_,lin_r5,fun c F=>(qie c F).2,fun h=>absurd h (by decide)⟩
theorem qer:∀k,k<5->(line5.getD k pt0).name.size<=4611686018427387904/\(line5.getD k pt0).dev.length<=4611686018427387904:=qgl qee rfl
theorem qi9 (W:World) (b c d p:Nat) {K:List Nat} {X:Nat->Nat->Rat} (G:PCells W (some ⟨b,0,none⟩) b 0 line5) (hT:HasT W) (I:d<=50) (J:p<=8) (H:Runs line5 1 (keepN 5 d) p K X) (F:∀c,¬RunF line5 1 (keepN 5 d) p c) :
  Calls prog 22 #[.slice (some ⟨b,0,none⟩) 5 c,.int .i64 1,.int .i64 (d:Int),.int .i64 (p:Int)] W fun e w'=>Below W.heap.size W w' /\
   ∃v g,e=.returned (.tuple #[v,.slice (some ⟨g,0,none⟩) K.length K.length,.int .i64 0])/\NatR w' W.heap.size g K.length K.length K/\MdAt w' v (mdX line5 1 X) :=
 (qgp 5 b 0 c 1 d p (some ⟨b,0,none⟩) line5 W rfl (by decide) (fun _=>by decide) qer G hT).mono fun _ _ h=>RFAs.only (k:=1) h qee (by decide) I J H F
theorem qit {s F:Nat->Rat} {n:Nat} (h:∀i,i<n->s i=F i):qcF s n=qcF F n:=qf4 fun a G b H=>by rw [h a (qat.1 G),h b (qat.1 H)]
theorem qh3 {R:Nat} {x:Nat->Rat} {z:Int} (h:ExIs (told R x) z) (F:qbS R x) (G:R<=40):z=0:=by
 rcases h with ⟨h,_⟩ | ⟨_,h,_⟩ | ⟨_,_,h⟩
 ·rw [qbT] at h;omega
 ·exact absurd (qcR F) h
 ·exact h
theorem OrdAs.only {w w':World} {x:Nat->Rat} {R:Nat} {e:Ending} (h:OrdAs w (told R x) e w') (H:qbS R x) (F:R<=40):Below w.heap.size w w' /\
  ∃g,e=.returned (.tuple #[.slice (some ⟨g,0,none⟩) R R,.int .i64 0])/\NatR w' w.heap.size g R R (qcF x R):=by
 refine⟨h.1,?_⟩;rcases h.2 with ⟨z,I,he,_⟩ | ⟨_,g,he,hN⟩
 ·exact absurd (qh3 he H F) I
 ·rw [qbT] at he hN;have:qcF (lval (told R x)) R=qcF x R:=qit fun i G=>qcH G
  rw [this] at hN;exact⟨g,he,hN⟩
theorem qgL.much {w w':World} {x:Nat->Rat} {R:Nat} {m:Int} {e:Ending} (h:qgL w (told R x) m e w') (I:qbS R x) (F:R<=40) (H:¬(0<=m/\m<=R)):Below w.heap.size w w'/\e=.returned (.tuple #[.slice none 0 0,.int .i64 2]):=by
 refine⟨h.1,?_⟩;rcases h.2 with ⟨z,J,he,_⟩ | ⟨_,_,he⟩ | ⟨_,g,j,O,G,_⟩
 ·exact absurd (qh3 he I F) J
 ·exact he
 ·rw [qbT] at G;exact absurd ⟨by omega,by omega⟩ H
theorem qhR {F:List Int} {n:Nat} (h:∀z∈F,z.natAbs<=10000) (I:F.length=n):qbS n (zq F):=fun i H=>by
 have G:F.getD i 0∈F:=by rw [qab,qad (by omega)];exact qbx (by omega)
 exact qdj (N:=10000) ⟨by show ((F.getD i 0:Int):Rat).num.natAbs<=10000;rw [Rat.num_intCast];exact h _ G,by show ((F.getD i 0:Int):Rat).den<=10000;rw [Rat.den_intCast];decide⟩ (by decide +kernel)
theorem ord_3121:qcF (zq [3,1,2,1]) 4=[1,3,2,0]:=by decide +kernel
theorem qld:bestL (zq [3,1,2,1]) 4 2=[1,3]:=by decide +kernel
theorem qja:MdOk (mdX line5 1 linX1) 1 (chans line5):=ql6 (by decide) (by decide) (by decide) (by decide) fun c F=>(ql1 c F).2
theorem ql0:(sumQ 1 fun i=>sqq (mdX line5 1 linX1) line5 1 (([2]:List Int).getD i 0).toNat)=1600:=by
 show 0+sqq (mdX line5 1 linX1) line5 1 2=1600
 rw [qlZ 2 (by decide)]
 decide +kernel
theorem qjV:∀q,q<3->((mdX line5 1 linX1).row q).length<=4611686018427387904:=fun q F=>by
 unfold mdX;rw [qfp F,qbT]
 decide
theorem lin_cost (W:World) (v:Value) (b c g F:Nat) (I:MdAt W v (mdX line5 1 linX1)) (J:PCells W (some ⟨b,0,none⟩) b 0 line5) (H:NCells W (some ⟨g,0,none⟩) g 0 [2]) (hT:HasT W) :
  Calls prog 20 #[v,.slice (some ⟨b,0,none⟩) 5 c,.slice (some ⟨g,0,none⟩) 1 F] W fun e w'=>e=.returned (.tuple #[.agg #[.string (ftxt 1600).1,.string (ftxt 1600).2],.int .i64 0])/\Below W.heap.size W w':=by
 refine (qfU 5 b 0 c 1 g 0 F (some ⟨b,0,none⟩) (some ⟨g,0,none⟩) _ v line5 [2] W I rfl (by decide) qer qjV rfl (by decide) J H hT fun Z V _ _=>?_).mono fun e w' h=>?_
 ·obtain rfl:=(qja.uniq V).1;rw [ql0];exact qdj (N:=10000) ⟨by decide +kernel,by decide +kernel⟩ (by decide +kernel)
 ·obtain⟨O,⟨Y,_⟩ | ⟨_,he⟩⟩:=CoAs.only h qee qja qg4
  ·exact absurd (fun j U=>by
    obtain rfl:j=0:=by have:j<1:=U;omega
    exact⟨by decide,fun h=>absurd h (by decide)⟩) Y
  ·have G:(sumQ ([2]:List Int).length fun i=>sqq (mdX line5 1 linX1) line5 1 (([2]:List Int).getD i 0).toNat)=1600:=ql0;rw [G] at he;exact⟨he,O⟩
theorem qid (W:World) (v:Value) (b c g G:Nat) (I:MdAt W v (mdX line5 1 linX1)) (J:PCells W (some ⟨b,0,none⟩) b 0 line5) (H:NCells W (some ⟨g,0,none⟩) g 0 [2,1]) (hT:HasT W) :
  Calls prog 20 #[v,.slice (some ⟨b,0,none⟩) 5 c,.slice (some ⟨g,0,none⟩) 2 G] W fun e w'=>e=.returned (.tuple #[.agg #[.string ⟨#[]⟩,.string ⟨#[]⟩],.int .i64 2])/\Below W.heap.size W w':=by
 have F:¬Rises [2,1] 5 2:=fun h=>absurd ((h 1 (by decide)).2 (by decide)) (by decide)
 refine (qfU 5 b 0 c 2 g 0 G (some ⟨b,0,none⟩) (some ⟨g,0,none⟩) _ v line5 [2,1] W I rfl (by decide) qer qjV rfl (by decide) J H hT fun V U _ h=>absurd h F).mono fun e w' h=>?_
 obtain⟨O,⟨_,he⟩ | ⟨h,_⟩⟩:=CoAs.only h qee qja qg4
 ·exact⟨he,O⟩
 ·exact absurd h F
theorem qdn {W:World} {B:Nat} {v:Value} (h:PaOwn W B v line5):∃g c,v=.slice (some ⟨g,0,none⟩) 5 c/\PCells W (some ⟨g,0,none⟩) g 0 line5 :=
 h.cells (by decide) fun j F=>by
  have F:j<5:=F;rcases (show j=0\/j=1\/j=2\/j=3\/j=4 by omega) with rfl | rfl | rfl | rfl | rfl <;> decide
theorem qg5:List.range line5.length=[0,1,2,3,4]:=by decide
theorem ex_f1 (W:World) (b c:Nat) (F:PCells W (some ⟨b,0,none⟩) b 0 line5) (hT:HasT W):Calls prog 22 #[.slice (some ⟨b,0,none⟩) 5 c,.int .i64 1,.int .i64 20,.int .i64 1] W fun e w'=>Below W.heap.size W w' /\
  ∃v g,e=.returned (.tuple #[v,.slice (some ⟨g,0,none⟩) 4 4,.int .i64 0])/\NatR w' W.heap.size g 4 4 [0,1,3,4]/\MdAt w' v (mdX line5 1 linX1) :=
 qi9 W b c 20 1 F hT (by decide) (by decide) lin_r1 lin_no4
theorem ex_f2 (W:World) (b c:Nat) (F:PCells W (some ⟨b,0,none⟩) b 0 line5) (hT:HasT W):Calls prog 22 #[.slice (some ⟨b,0,none⟩) 5 c,.int .i64 1,.int .i64 19,.int .i64 1] W fun e w'=>Below W.heap.size W w' /\
  ∃v g,e=.returned (.tuple #[v,.slice (some ⟨g,0,none⟩) 5 5,.int .i64 0])/\NatR w' W.heap.size g 5 5 [0,1,2,3,4]/\MdAt w' v (mdX line5 1 linX0):=by
 have h:=qi9 W b c 19 1 F hT (by decide) (by decide) lin_r5 lin_no5;rw [qg5] at h;exact h
theorem ex_f3 (W:World) (b c:Nat) (F:PCells W (some ⟨b,0,none⟩) b 0 line5) (hT:HasT W):Calls prog 22 #[.slice (some ⟨b,0,none⟩) 5 c,.int .i64 1,.int .i64 20,.int .i64 0] W fun e w'=>Below W.heap.size W w' /\
  ∃v g,e=.returned (.tuple #[v,.slice (some ⟨g,0,none⟩) 5 5,.int .i64 0])/\NatR w' W.heap.size g 5 5 [0,1,2,3,4]/\MdAt w' v (mdX line5 1 linX0):=by
 have h:=qi9 W b c 20 0 F hT (by decide) (by decide) (qg1 4) (lin_no 4);rw [qg5] at h;exact h
theorem ex_f4 (W:World) (b c:Nat) (F:PCells W (some ⟨b,0,none⟩) b 0 line5) (hT:HasT W):Calls prog 22 #[.slice (some ⟨b,0,none⟩) 5 c,.int .i64 1,.int .i64 51,.int .i64 1] W fun e w'=>Below W.heap.size W w'/\e=.returned (.tuple #[mdv0,.slice none 0 0,.int .i64 2]) :=
 (qgp 5 b 0 c 1 51 1 (some ⟨b,0,none⟩) line5 W rfl (by decide) (fun _=>by decide) qer F hT).mono fun _ _ h=>h.bad qee fun⟨k,d,p,_,_,h,G,_⟩=>by omega
section
variable {P:Program} {ops:Array Oper} {Q:Exit->Act->World->Prop} {md:Region.Mode} {S:World->Prop}
theorem qlC {L M:Nat->Bool} (h:∀k,L k=true->M k=true) {i:Nat} (G:Region.free md ops (arr ops.size L) i=true):Region.free md ops (arr ops.size M) i=true:=by
 unfold Region.free at G ⊢;cases e:ops[i]? with
 | none=>rw [e] at G;exact G
 | some oi =>
  rw [e] at G;refine qax.2 fun j I=>?_
  have F:=(qax.1 G) j I;have H:=qat.1 I;rw [qaU,qaU,qfk,if_pos H] at F ⊢;rcases F with (F | F) | F
  ·exact .inl (.inl F)
  ·exact .inl (.inr (h j F))
  ·exact .inr F
def growY (H:Region.Mode) (F:Array Oper) (rl:List (Nat×List Nat)) (T Y:List Nat) (G:Nat):Bool :=
 ((List.range G).all fun i=>T.contains i || (((nthOp F.toList i).map fun o=>(dep rl i).all fun k=>(waits H o).contains k && (!T.contains k && decide (k<G))).getD false)) &&
 (((List.range G).all fun k=>(T.contains k || Y.contains k) || (List.range (G+1)).any fun j=>decide (k<j) && (!Y.contains j && ((nthOp F.toList j).map fun o=>(waits H o).contains k).getD false)) &&
 (!T.contains G && (!Y.contains G && (decide (G<F.size) && (((List.range F.size).all fun i=>decide (i<=G) || (T.contains i || ((nthOp F.toList i).map fun o=>(waits H o).any fun k=>decide (G<=k) && !T.contains k).getD false)) &&
 (Region.noSelect F && Y.all fun y=>decide (y<G) && (!T.contains y && ((nthOp F.toList y).map fun o=>((waits H o).all fun k=>T.contains k || (decide (k<G) && !Y.contains k)) && Region.free H F (arr F.size fun k=>T.contains k || (waits H o).contains k) y).getD false)))))))
theorem qgS {rl:List (Nat×List Nat)} {T Y:List Nat} {H:Nat} (h:growY md ops rl T Y H=true) {i:Nat} {o:Oper} (I:i<H) (hT:i∉T) (O:nthOp ops.toList i=some o):∀k∈dep rl i,k∈waits md o/\k∉T/\k<H:=by
 intro k J;unfold growY at h;rw [qau] at h;have F:=(qax.1 h.1) i (qat.2 I);rw [qaU,O] at F;rcases F with F | F
 ·exact absurd (qah.1 F) hT
 ·have G:=(qax.1 (show ((dep rl i).all fun k=>(waits md o).contains k && (!T.contains k && decide (k<H)))=true from F)) k J;simp only [qau,decide_eq_true_eq,qbE] at G;refine⟨qah.1 G.1,fun e=>?_,G.2.2⟩;rw [qah.2 e] at G;exact absurd G.2.1 (by decide)
theorem qkz {rl:List (Nat×List Nat)} {T Y:List Nat} {H:Nat} (h:growY md ops rl T Y H=true) {k:Nat} (O:k<H) (hT:k∉T) (J:k∉Y):∃j o,k<j/\j<=H/\j∉Y/\nthOp ops.toList j=some o/\k∈waits md o:=by
 unfold growY at h;rw [qau,qau] at h;have G:=(qax.1 h.2.1) k (qat.2 O);rw [qaU,qaU] at G;rcases G with (G | G) | G
 ·exact absurd (qah.1 G) hT
 ·exact absurd (qah.1 G) J
 obtain⟨j,I,F⟩:=List.any_eq_true.1 G;rw [qau,qau,decide_eq_true_eq,qbE] at F;have I:=qat.1 I;cases e:nthOp ops.toList j with
 | none=>rw [e] at F;exact absurd F.2.2 (by simp)
 | some o=>rw [e] at F;exact⟨j,o,F.1,by omega,(fun e=>by rw [qah.2 e] at F;cases F.2.1),e,qah.1 F.2.2⟩
theorem qky {rl:List (Nat×List Nat)} {T Y:List Nat} {H:Nat} (h:growY md ops rl T Y H=true) {i:Nat} {o:Oper} (U:H<i) (hT:i∉T) (O:i<ops.size) (J:nthOp ops.toList i=some o):∃k∈waits md o,H<=k/\k∉T:=by
 unfold growY at h;simp only [qau] at h;have G:=(qax.1 h.2.2.2.2.2.1) i (qat.2 O);rw [qaU,decide_eq_true_eq,qaU,J] at G;rcases G with G | G | G
 ·omega
 ·exact absurd (qah.1 G) hT
 ·obtain⟨k,I,F⟩:=List.any_eq_true.1 (show ((waits md o).any fun k=>decide (H<=k) && !T.contains k)=true from G);rw [qau,decide_eq_true_eq,qbE] at F;exact⟨k,I,F.1,fun e=>by rw [qah.2 e] at F;cases F.2⟩
theorem qgR {rl:List (Nat×List Nat)} {T Y:List Nat} {H:Nat} (h:growY md ops rl T Y H=true) {y:Nat} (O:y∈Y):Region.noSelect ops=true/\y<H/\y∉T/\∃o,nthOp ops.toList y=some o/\(∀k∈waits md o,k∈T\/(k<H/\k∉Y))/\Region.free md ops (arr ops.size fun k=>T.contains k || (waits md o).contains k) y=true:=by
 unfold growY at h;simp only [qau] at h;have F:=(qax.1 h.2.2.2.2.2.2.2) y O;rw [qau,decide_eq_true_eq,qau,qbE] at F;refine⟨h.2.2.2.2.2.2.1,F.1,(fun e=>by rw [qah.2 e] at F;cases F.2.1),?_⟩;cases e:nthOp ops.toList y with
 | none=>rw [e] at F;exact absurd F.2.2 (by simp)
 | some o =>
  rw [e] at F;have I:(((waits md o).all fun k=>T.contains k || (decide (k<H) && !Y.contains k)) && Region.free md ops (arr ops.size fun k=>T.contains k || (waits md o).contains k) y)=true:=F.2.2;rw [qau] at I;refine⟨o,rfl,fun k J=>?_,I.2⟩;have G:=(qax.1 I.1) k J;rw [qaU,qau,decide_eq_true_eq,qbE] at G;rcases G with G | G
  ·exact .inl (qah.1 G)
  ·exact .inr ⟨G.1,fun e=>by rw [qah.2 e] at G;cases G.2⟩
theorem qk4 {o:Oper} {n:Nat} {L:Nat->Bool} (h:∀k∈waits md o,k<n/\L k=true):(o.after.all fun e=>!Region.binds md e || (decide (e.on<n) && L e.on))=true:=by
 refine Array.all_eq_true.2 fun j I=>?_
 cases H:Region.binds md o.after[j] with
 | false=>rfl
 | true =>
  have J:(o.after[j]).on∈waits md o:=qbo.2 ⟨o.after[j],List.mem_filter.2 ⟨Array.mem_toList_iff.2 (Array.getElem_mem I),H⟩,rfl⟩;obtain⟨F,G⟩:=h _ J;rw [qV F,G];rfl
theorem dag_lt (F:dagB md ops=true) {i:Nat} {o:Oper} (G:i<ops.size) (I:nthOp ops.toList i=some o):∀k∈waits md o,k<i:=fun k H=>by
 have h:=(qax.1 F) i (qat.2 G);rw [I] at h;exact of_decide_eq_true ((qax.1 (show ((waits md o).all fun k=>decide (k<i))=true from h)) k H)
theorem qiP (a:Act) (D:List (Nat×Tmp)) (rl:List (Nat×List Nat)) (T Y:List Nat) (J:Nat) (F:Nat->Value->World->Prop) (w0:World) (T2:List Nat) (hQ:∀c (d:Tmp) (x:Value) (a:Act) (w:World),Q (.panic c) (a.put (some d) x) w->Q (.panic c) a w)
  (az:∀i x w w',F i x w->Below w.heap.size w w'->F i x w')
  (ah:dagB md ops=true) (h1:(D.map (·.1)).Nodup) (h2:(D.map (·.2)).Nodup) (av:dstB ops D T2=true) (aH:∀k,k<J->k∈T2->k∈T) (hB:growY md ops rl T Y J=true) (hn:J<ops.size) (kl:Nat) (aN:leftN ops.size (fun i=>decide (i<J) || T.contains i)=kl)
  (hS:∀w,Below w0.heap.size w0 w->S w)
  (hstep:∀i o,nthOp ops.toList i=some o->i<J->i∉T->i∉Y->∀(v:Nat->Value) (w:World),Below w0.heap.size w0 w->(∀k∈dep rl i,F k (v k) w) ->
   ∀A,A=pf a v D->∀K,Grows F [] i w A o.dst K->if Region.wanted o (yielded ops A.tmps)=true then Oper.wp P o A w K Q else K (A.put o.dst undef) w)
  (htake:∀y∈Y,∀o,nthOp ops.toList y=some o->∀(v:Nat->Value) (w:World),Below w0.heap.size w0 w->(∀k∈dep rl y,F k (v k) w) ->
   ∀A,A=pf a v D->∃x,Region.wanted o (yielded ops A.tmps)=true/\(∀w,S w->(execOp A.eval o).run P w=.ok (.value x) w)/\F y x w)
  (hend:∀v w,Grown md ops T [] J F w0 (fun i=>decide (i<J) || T.contains i) v w->∀A,A=pf a v D->∀f,wpAnyH P md ops Q S (f+kl) (arr ops.size fun i=>decide (i<J) || T.contains i) A w) :
  ∀(G:Nat) (L:Nat->Bool) (v:Nat->Value) (w:World),leftN ops.size L<=G->Grown md ops T [] J F w0 L v w->wpAnyH P md ops Q S G (arr ops.size L) (pf a v D) w:=by
 have ak:∀(G:Nat) (L:Nat->Bool) (v:Nat->Value) (w:World),leftN ops.size L<=G->Grown md ops T [] J F w0 L v w->(∀i,i<J->L i=true)->wpAnyH P md ops Q S G (arr ops.size L) (pf a v D) w:=by
  intro G L v w hf H V;have aG:L=fun i=>decide (i<J) || T.contains i:=funext fun i=>by
   by_cases h:i<J
   ·rw [V i h,qV h];rfl
   ·by_cases h2:i∈T
    ·rw [H.took i h2,qah.2 h2,Bool.or_true]
    ·rw [H.top i (by omega) h2,qU h,Bool.false_or];exact (Bool.not_eq_true _▸fun e=>h2 (qah.1 e):T.contains i=false).symm
  subst aG;rw [aN] at hf;obtain⟨f,rfl⟩:∃f,G=f+kl:=⟨G-kl,by omega⟩;exact hend v w H _ rfl f
 have next:∀(L:Nat->Bool) (v:Nat->Value) (w w':World) (i:Nat) (o:Oper) (x:Value),Grown md ops T [] J F w0 L v w->i<J->i∉T->L i=false->ops[i]? = some o->(∀k∈waits md o,L k=true)->F i x w'->Below w.heap.size w w' ->
   (pf a v D).put o.dst x=pf a (upd v i x) D/\Grown md ops T [] J F w0 (upd L i true) (upd v i x) w':=by
  intro L v w w' i o x H Z aa hL U hw hF O;have ag:i<ops.size:=by omega
  refine⟨?_,H.old.trans (O.mono H.old.size),fun j hj aj=>?_,fun k I=>?_,fun j p hp hj k I=>?_,fun j hj aj au=>?_,fun j hj=>absurd hj (by simp),fun j hj=>absurd hj (by simp)⟩
  ·have O:=(qax.1 av) i (qat.2 ag);rw [qaU,qcn U] at O;rcases O with O | O
   ·exact absurd (aH i Z (qah.1 O)) aa
   ·cases e:o.dst with
    | none =>
     show pf a v D=_
     refine (qew a v i x D fun p hp e2=>?_).symm;have O:(!(D.map (·.1)).contains i)=true:=by
      have:(match o.dst with | none=>!(D.map (·.1)).contains i | some d=>D.contains (i,d))=true:=O;rw [e] at this;exact this
     rw [qbE,<-Bool.not_eq_true] at O;exact O (qah.2 (qbo.2 ⟨p,hp,e2⟩))
    | some d =>
     have O:D.contains (i,d)=true:=by
      have:(match o.dst with | none=>!(D.map (·.1)).contains i | some d=>D.contains (i,d))=true:=O;rw [e] at this;exact this
     exact qmu a v x D h1 h2 (qah.1 O)
  ·rw [qbY _ _ (by omega)];exact H.top j hj aj
  ·rw [qbY _ _ (by rintro rfl;exact aa I)];exact H.took k I
  ·by_cases e:k=i
   ·rw [e,upd_same]
   ·rw [qbY _ _ e]
    by_cases e2:j=i
    ·subst e2;rw [qcn U] at hp;cases hp;exact hw k I
    ·rw [qbY _ _ e2] at hj;exact H.shut j p hp hj k I
  ·by_cases e:j=i
   ·subst e;rw [upd_same];exact hF
   ·rw [qbY _ _ e] at au ⊢;exact az _ _ _ _ (H.fact j hj aj au) O
 intro G
 induction G with
 | zero =>
  intro L v w hf H;exact ak 0 L v w hf H fun i hi=>qgZ (Nat.le_zero.1 hf) i (by omega)
 | succ G ih =>
  intro L v w hf H
  by_cases V:∀i,i<J->L i=true
  ·exact ak (G+1) L v w hf H V
  by_cases hY:∃y∈Y,L y=false/\∀o,nthOp ops.toList y=some o->∀k∈waits md o,L k=true
  ·obtain⟨y,hy,hL,hw⟩:=hY;obtain⟨aO,aB,aC,o,U,aA,aJ⟩:=qgR hB hy;have hw:=hw o U;obtain⟨x,aQ,ay,hF⟩:=htake y hy o U v w H.old (fun k I=>by obtain⟨a1,a2,a3⟩:=qgS hB aB aC U k I;exact H.fact k a3 a2 (hw k a1)) _ rfl;obtain⟨af,ai⟩:=next L v w w y o x H aB aC hL (qeu U) hw hF qB
   refine wpAnyH_take (qeu U) aO (qlC (fun k I=>?_) aJ) ?_ (hQ:=fun c a w h=>by
    cases e:o.dst with
    | none=>rw [e] at h;exact h
    | some d=>rw [e] at h;exact hQ c d x a w h) (qaw ⟨aQ,ay⟩) (hS _ H.old) ?_
   ·rw [qaU] at I;rcases I with I | I
    ·exact H.took k (qah.1 I)
    ·exact hw k (qah.1 I)
   ·refine qah.2 ((qff _ L rfl y).2 ⟨by omega,hL,o,qeu U,?_⟩);exact qk4 fun k I=>⟨by have:=dag_lt ah (show y<ops.size by omega) U k I;omega,hw k I⟩
   ·rw [qiV,af];exact ih _ _ _ (by have:=qga (show y<ops.size by omega) hL;omega) ai
  refine⟨fun h0=>absurd (fun i hi=>qg9 ah h0 i (by omega)) V,fun i hi=>?_⟩;obtain⟨ag,hL,o,U,hd⟩:=(qff _ L rfl i).1 hi;have hw:∀k∈waits md o,L k=true:=fun k I=>(qiN hd k I).2
  have aa:i∉T:=fun h=>by have:=H.took i h;rw [hL] at this;cases this
  have aK:i∉Y:=fun h=>hY ⟨i,h,hL,fun p hp k I=>by rw [qcn U] at hp;cases hp;exact hw k I⟩
  have Z:i<J:=by
   apply Classical.byContradiction;intro aR;rcases qaT J i with hgt | hle
   ·obtain⟨k,I,aL,aM⟩:=qky hB hgt aa ag (qcn U);have:=hw k I;rw [H.top k aL aM] at this;cases this
   ·obtain rfl:i=J:=by omega
    have aD:∀m k,k<i->k∉Y->i-k=m->L k=true:=by
     intro m
     induction m using Nat.strongRecOn with
     | ind m ihm =>
      intro k I ae hm
      by_cases ax:k∈T
      ·exact H.took k ax
      obtain⟨j,p,h1,h2,aF,h3,h4⟩:=qkz hB I ax ae;rcases qaT j i with h | h
      ·exact H.shut j p h3 (ihm (i-j) (by omega) j h aF rfl) k h4
      ·obtain rfl:j=i:=by omega
       rw [qcn U] at h3;cases h3;exact hw k h4
    refine V fun k I=>?_
    by_cases ae:k∈Y
    ·cases e:L k with
     | true=>rfl
     | false =>
      refine absurd ⟨k,ae,e,fun p hp q hq=>?_⟩ hY;obtain⟨_,_,_,o',aP,aA,_⟩:=qgR hB ae;rw [aP] at hp;cases hp;rcases aA q hq with h | ⟨h,h'⟩
      ·exact H.took q h
      ·exact aD _ q h h' rfl
    ·exact aD _ k I ae rfl
  refine wpOp_step U fun K' hK=>hstep i o (qcn U) Z aa aK v w H.old (fun k I=>by obtain⟨a1,a2,a3⟩:=qgS hB Z aa (qcn U) k I;exact H.fact k a3 a2 (hw k a1)) _ rfl K' fun x A' w' hA hF _ O=>?_
  have aI:Below w0.heap.size w0 w':=H.old.trans (O.mono H.old.size);obtain⟨af,ai⟩:=next L v w w' i o x H Z aa hL U hw hF O
  refine hK _ _ ⟨hS _ aI,?_⟩;rw [qiV,hA,af];exact ih _ _ _ (by have:=qga ag hL;omega) ai
theorem gy {J:Nat} {G:Array Bool} {a:Act} {w:World} (D:List (Nat×Tmp)) (rl:List (Nat×List Nat)) (T Y C:List Nat) (I N:Nat) (F:Nat->Value->World->Prop) (A:(Nat->Value)->Act) (kl:Nat) {m:Nat} (hm:a.tmps.size=m:=by rfl) (hA:∀v,pf a v D=A v:=by (intro v;simp only [pf,Act.put,qaI,qbi,List.set_cons_succ];with_reducible rfl))
  (ay:∀i x,Stays (F i x):=by intro i x;infer_instance)
  (O:(dagB md ops && (decide ((D.map (·.1)).Nodup) && (decide ((D.map (·.2)).Nodup) && (dstB ops D (T++(List.range ops.size).filter fun k=>decide (I<=k)) && ((D.all fun p=>decide (D.lookup p.1=some p.2) && decide (p.2<m)) && (decide (G.size=ops.size) && (decide (leftN ops.size (fun k=>G.getD k false)<=J) &&
   (growY md ops rl T Y I && (decide (I<ops.size) && (decide (leftN ops.size (fun i=>decide (i<I) || T.contains i)=kl) && (decide (G=arr ops.size fun k=>T.contains k) && ((T.all fun k=>((nthOp ops.toList k).map fun o=>(waits md o).all fun j=>T.contains j).getD false) && (decide (arr N (fun i=>decide (i<I) || T.contains i)=arr ops.size (fun i=>decide (i<I) || T.contains i)) && (List.range I).all (fun i=>(T.contains i || Y.contains i) || C.contains i))))))))))))))=true:=by kernel_rfl)
  (hQ:∀c (d:Tmp) (x:Value) (a:Act) (w:World),Q (.panic c) (a.put (some d) x) w->Q (.panic c) a w:=by exact fun _ _ _ _ _ h=>h)
  (hS:∀w',Below w.heap.size w w'->S w')
  (hstep:AllC (fun i=>∃o,nthOp ops.toList i=some o/\∀(v:Nat->Value) (w':World),Below w.heap.size w w'->AllC (fun k=>F k (v k) w') (dep rl i)->∀K,Grows F [] i w' (A v) o.dst K->if Region.wanted o (yielded ops (A v).tmps)=true then Oper.wp P o (A v) w' K Q else K ((A v).put o.dst undef) w') C)
  (htake:AllC (fun i=>∃o,nthOp ops.toList i=some o/\∀(v:Nat->Value) (w':World),Below w.heap.size w w'->AllC (fun k=>F k (v k) w') (dep rl i)->∃x,Region.wanted o (yielded ops (A v).tmps)=true/\(∀w,S w->(execOp (A v).eval o).run P w=.ok (.value x) w)/\F i x w') Y)
  (hend:∀(v:Nat->Value) (w':World),Below w.heap.size w w'->(∀i,i<I->i∉T->F i (v i) w')->∀f,wpAnyH P md ops Q S (f+kl) (arr N (fun i=>decide (i<I) || T.contains i)) (A v) w'):wpAnyH P md ops Q S J G a w:=by
 simp only [qau,decide_eq_true_eq] at O;obtain⟨ae,h1,h2,af,hD,az,hf,ag,hn,ax,U,aj,ai,hC⟩:=O;have aa:pf a (fun i=>a.tmps.getD ((D.lookup i).getD 0) undef) D=a:=qjm a _ D fun p hp=>by
  have:=(qax.1 hD) p hp;simp only [qau,decide_eq_true_eq] at this;exact⟨by rw [this.1];rfl,by rw [hm];exact this.2⟩
 have h0:Grown md ops T [] I F w (fun k=>T.contains k) (fun i=>a.tmps.getD ((D.lookup i).getD 0) undef) w :=
  ⟨Below.refl _ _,fun i _ H=>by
   rw [<-Bool.not_eq_true];intro h;exact H (qah.1 h),fun k hk=>qah.2 hk,fun j o Z hj k hk=>by
   have:=(qax.1 aj) j (qah.1 hj);rw [Z] at this;exact (qax.1 (show ((waits md o).all fun j=>T.contains j)=true from this)) k hk,fun i _ h hL=>absurd (qah.1 hL) h,fun i H=>absurd H (by simp),fun i H=>absurd H (by simp)⟩
 have facts:∀(v:Nat->Value) (w':World) (i:Nat),(∀k∈dep rl i,F k (v k) w')->AllC (fun k=>F k (v k) w') (dep rl i):=fun v w' i V=>by
  generalize dep rl i=l at V
  induction l with
  | nil=>exact trivial
  | cons k l ih=>exact⟨V k (qa7 ..),ih fun j hj=>V j (qbn _ hj)⟩
 have ah:=qiP (P:=P) (Q:=Q) (S:=S) a D rl T Y I F w (T++(List.range ops.size).filter fun k=>decide (I<=k)) hQ (fun i x w w' h hb=>(ay i x).go h hb) ae h1 h2 af (fun k hk av=>by
  rcases qaH.1 av with h | h
  ·exact h
  ·have:=of_decide_eq_true (List.mem_filter.1 h).2;omega) ag hn kl ax hS (fun i o Z H ak au v w' hb V B O K hK=>by
   obtain⟨p,hp,h⟩:=hstep.get i (by
    have:=(qax.1 hC) i (qat.2 H);rw [qaU,qaU] at this;rcases this with (h | h) | h
    ·exact absurd (qah.1 h) ak
    ·exact absurd (qah.1 h) au
    ·exact qah.1 h)
   rw [hp] at Z;cases Z;rw [hA] at O;subst O;exact h v w' hb (facts v w' i V) K hK) (fun y hy o Z v w' hb V B O=>by
   obtain⟨p,hp,h⟩:=htake.get y hy;rw [hp] at Z;cases Z;rw [hA] at O;subst O;exact h v w' hb (facts v w' y V)) (fun v w' h B O f=>by
   rw [<-ai];rw [hA] at O;subst O;exact hend v w' h.old (fun i H hT=>h.fact i H hT (by rw [qV H];rfl)) f) J _ _ _ (by rw [qf9 (M:=fun k=>G.getD k false)];exact hf;intro i H;rw [U,qfk,if_pos H]) h0
 rw [aa,<-U] at ah;exact ah
end
theorem lits (W:World) (F:List Int):NCells (W.alloc (.cells (F.map fun z=>Value.int .i64 z).toArray 3)) (some ⟨W.heap.size,0,none⟩) W.heap.size 0 F:=by
 have h:=qjO (q:=F) (t:=3) (heap_alloc_new W _) 0
 rwa [List.drop_zero] at h
theorem qef (W:World) (o:Obj):Below W.heap.size W (W.alloc o):=qbN qB qN
theorem hasT_old {W:World} (h:HasT W) (o:Obj):HasT (W.alloc o):=h.below (qef W o)
theorem q_ex (W:World) (F:List Int) (n:Nat) (O:F.length=n) (H:n<=1000) (U:∀z∈F,-9223372036854775808<=z/\z<=9223372036854775807) (hT:HasT W) :
  Calls prog 29 #[.slice (some ⟨W.heap.size,0,none⟩) n n] (W.alloc (.cells (F.map fun z=>Value.int .i64 z).toArray 3)) fun e w'=>∃(G:Option Addr) (g cap:Nat),e=.returned (.slice G n cap)/\FCells w' G g 0 (told n (zq F))/\Below W.heap.size W w' :=
 (lq_any W.heap.size 0 n n F _ O H (lits W F) U (hasT_old hT _)).mono fun _e _w' ⟨G,g,cap,he,I,J⟩=>⟨G,g,cap,he,I,(qef W _).trans (J.mono (qef W _).size)⟩
theorem is_ex (W:World) (F:List Int) (n:Nat):Calls prog 27 #[.slice (some ⟨W.heap.size,0,none⟩) n n] (W.alloc (.cells (F.map fun z=>Value.int .i64 z).toArray 3)) fun e w' =>
  ∃b,e=.returned (.func (.func 72) #[] #[.pointer (some ⟨b,0,none⟩)])/\Below W.heap.size W w'/\w'.heap[b]? = some (.cells #[.slice (some ⟨W.heap.size,0,none⟩) n n] 30 (0,0))/\NCells w' (some ⟨W.heap.size,0,none⟩) W.heap.size 0 F :=
 (lis_any (some ⟨W.heap.size,0,none⟩) n n _).mono fun _e _w' ⟨b,he,G,h⟩=>⟨b,he,(qef W _).trans (G.mono (qef W _).size),h,(lits W F).below G⟩
theorem eqk (W:World) (g c n:Nat) (F:List Int) (G:F.length=n) (I:n<=1000) (h:NCells W (some ⟨g,0,none⟩) g 0 F) :
  Calls prog 15 #[.slice (some ⟨g,0,none⟩) n c,.slice (some ⟨W.heap.size,0,none⟩) n n] (W.alloc (.cells (F.map fun z=>Value.int .i64 z).toArray 3)) fun e w'=>e=.returned (.bool true)/\Below W.heap.size W w' :=
 (qhv g 0 c W.heap.size 0 n F F n n _ G G (by omega) (by omega) (h.below (qef W _)) (lits W F)).mono fun e w' ⟨he,H⟩=>⟨by rw [he,show (F == F)=true from beq_self_eq_true F],(qef W _).trans (H.mono (qef W _).size)⟩
theorem MdAt.row0 {W:World} {k5 i5:Int} {F H I:Option Addr} {G J V O Y U:Nat} {m:Md} (h:MdAt W (.agg #[.int .i64 k5,.int .i64 i5,.slice F G J,.slice H V O,.slice I Y U]) m):G=(m.row 0).length/\∃b o,FCells W F b o (m.row 0):=by
 obtain⟨a0,a1,a2,b0,o0,c0,b1,o1,c1,b2,o2,c2,he,Z,_⟩:=h;simp only [qa2,qa4,qaW,qbF] at he;obtain⟨_,_,⟨rfl,rfl,_⟩,_⟩:=he;exact⟨rfl,b0,o0,Z⟩
theorem lin_row1:(mdX line5 1 linX1).row 0=told 2 (zq [0,100]):=qdq (n:=2) fun i F=>by
 rcases (show i=0\/i=1 by omega) with rfl | rfl <;> decide +kernel
theorem lin_row0:(mdX line5 1 linX0).row 0=told 2 (zq [8,100]):=qdq (n:=2) fun i F=>by
 rcases (show i=0\/i=1 by omega) with rfl | rfl <;> decide +kernel
theorem eqF_same (x0 x1:ByteArray) (w:World):(binOp .eql 27 (.agg #[.string x0,.string x1]) (.agg #[.string x0,.string x1])).run prog w=.ok (.bool true) w:=by
 go_simp
theorem qk5 (w:World) (hT:HasT w):Calls prog 11 #[] w fun e w'=>e=.returned (.bool true)/\Below w.heap.size w w':=by
 have HT:=qH hT;have eH:∀(x y p:Value) (W:World),(callFunc 72 #[x,y,p]).run prog W=.ok (.enter 72 #[x,y,p]) W:=fun x y p W=>enters func72 (by kernel_rfl) (by kernel_rfl) _ W
 have eO:∀(x y p:Value) (W:World),(callFunc 73 #[x,y,p]).run prog W=.ok (.enter 73 #[x,y,p]) W:=fun x y p W=>enters func73 (by kernel_rfl) (by kernel_rfl) _ W
 have HI:=qH (qA is_ex q_ex);clear hT;go_enter func11,ntmps11;go_wp2_with fail;refine (HI.o.1 w [1,3,2,0] 4).mono ?_;rintro e w2 ⟨b2,rfl,dx,dK,dH⟩;have K2:Kn (fun W=>(Below w.heap.size w W/\W.heap[b2]? = some (.cells #[.slice (some ⟨w.heap.size,0,none⟩) 4 4] 30 (0,0)))/\NCells W (some ⟨w.heap.size,0,none⟩) w.heap.size 0 [1,3,2,0]) w2:=.of ⟨⟨dx,dK⟩,dH⟩;clear dx dK dH;go_wp2_with fail;refine (HI.o.2 w2 [3,1,2,1] 4 rfl (by decide) (by decide) (HT.o.below K2.o.1.1)).mono ?_;rintro e J ⟨df,g3,c3,rfl,bR,dz⟩;have K3:=(K2.below dz).also (q:=fun W=>FCells W df g3 0 (told 4 (zq [3,1,2,1]))) bR;have HO:=qH (qiu 4 g3 0 c3 df _ J (qbT _ _) (by decide) (fun _=>by decide) bR);clear dz bR;go_wp2_with fail;refine HO.o.mono ?_;intro e w4 h4;obtain⟨ah,g4,rfl,bS⟩:=h4.only (qhR (by decide) rfl) (by decide);rw [ord_3121] at bS;have K4:=(K3.below ah).also (q:=fun W=>NatR W J.heap.size g4 4 4 [1,3,2,0]) bS;clear h4 ah bS HO;have HL:=qH (qjW g4 0 4 4 w.heap.size 0 4 4 b2 [1,3,2,0] [1,3,2,0] 0 w4 K4.o.1.1.1.2 rfl rfl (by decide) (by decide) K4.o.2.all K4.o.1.1.2);go_wp2_with fail;refine HL.o.mono ?_;rintro e w5 ⟨rfl,dA⟩;have K5:=K4.below dA;clear dA HL;go_wp2_with fail;refine (HI.o.1 w5 [1,3] 2).mono ?_;rintro e w6 ⟨b6,rfl,dB,dL,aI⟩;have K6:Kn (fun W=>(Below w.heap.size w W/\W.heap[b6]? = some (.cells #[.slice (some ⟨w5.heap.size,0,none⟩) 2 2] 30 (0,0)))/\NCells W (some ⟨w5.heap.size,0,none⟩) w5.heap.size 0 [1,3]) w6:=.of ⟨⟨(K5.below dB).o.1.1.1.1,dL⟩,aI⟩;clear dB dL aI K5 K4 K3 K2;go_wp2_with fail;refine (HI.o.2 w6 [3,1,2,1] 4 rfl (by decide) (by decide) (HT.o.below K6.o.1.1)).mono ?_;rintro e w7 ⟨dS,g7,c7,rfl,di,dC⟩;have K7:=K6.below dC;have HO:=qH (qhp 4 g7 0 c7 2 dS _ w7 (qbT _ _) (by decide) (fun _=>by decide) di);clear dC di;go_wp2_with fail;refine HO.o.mono ?_;intro e w8 h8;obtain⟨dD,g8,rfl,bT⟩:=qgL.only (k:=2) h8 (qhR (by decide) rfl) (by decide) (by decide);rw [qld] at bT;have K8:=(K7.below dD).also (q:=fun W=>NatR W w7.heap.size g8 2 2 [1,3]) bT;clear h8 dD bT HO;have HL:=qH (qjW g8 0 2 2 w5.heap.size 0 2 2 b6 [1,3] [1,3] 0 w8 K8.o.1.1.2 rfl rfl (by decide) (by decide) K8.o.2.all K8.o.1.2);go_wp2_with fail;refine HL.o.mono ?_;rintro e w9 ⟨rfl,dE⟩;have K9:Kn (fun W=>Below w.heap.size w W) w9:=.of (K8.below dE).o.1.1.1;clear dE HL K8 K7 K6;go_wp2_with fail;refine (qkG 2 w9).mono ?_;rintro e dZ ⟨b10,rfl,aW,bH⟩;have bJ:=(K9.below aW).also (q:=fun W=>W.heap[b10]? = some (.cells #[.int .i64 2] 31 (0,0))) bH;clear aW bH K9;go_wp2_with fail;refine (HI.o.2 dZ [1] 1 rfl (by decide) (by decide) (HT.o.below bJ.o.1)).mono ?_;rintro e d9 ⟨cZ,g11,c11,rfl,aK,aX⟩;have bV:=bJ.below aX;have HO:=qH (qhp 1 g11 0 c11 2 cZ _ d9 (qbT _ _) (by decide) (fun _=>by decide) aK);clear aX aK bJ;go_wp2_with fail;refine HO.o.mono ?_;intro e ed dh;obtain⟨aY,rfl⟩:=dh.much (qhR (by decide) rfl) (by decide) (by decide);have bK:=bV.below aY;clear dh aY HO bV;have HL:=qH (qi8 2 b10 0 none ed bK.o.2);go_wp2_with fail;refine HL.o.mono ?_;rintro e dM ⟨rfl,rfl⟩;have bW:Kn (fun W=>Below w.heap.size w W) dM:=.of bK.o.1;clear HL bK;go_wp2_with fail;refine (qdM dM).mono ?_;rintro e dN ⟨eX,rfl,hO,aZ⟩;obtain⟨g14,c14,rfl,aO⟩:=qdn hO;have bL:=bW.below aZ;have HF:=qH (ex_f1 dN g14 c14 aO (HT.o.below bL.o));clear hO aZ aO;go_wp2_with fail;refine HF.o.mono ?_;rintro e aJ ⟨bf,eY,g15,rfl,aM,ax⟩;obtain⟨ka,ia,Aa,Da,Fa,La,Ca,Ma,Ea,Ga,Ha,rfl⟩:=ax.five;obtain⟨dQ,aS,bP⟩:=nw1 aJ #[.int .i64 ka,.int .i64 ia,.slice Aa La Ca,.slice Da Ma Ea,.slice Fa Ga Ha] 46;have bX:Kn (fun W=>(Below w.heap.size w W/\NatR W dN.heap.size g15 4 4 [0,1,3,4])/\MdAt W (.agg #[.int .i64 ka,.int .i64 ia,.slice Aa La Ca,.slice Da Ma Ea,.slice Fa Ga Ha]) (mdX line5 1 linX1)) aJ:=.of ⟨⟨(bL.below bf).o,aM⟩,ax⟩;have bY:=(bX.below bP.o.1).also (q:=fun W=>W.heap[aJ.heap.size]? = some (.cells #[.int .i64 ka,.int .i64 ia,.slice Aa La Ca,.slice Da Ma Ea,.slice Fa Ga Ha] 46 (0,0))) bP.o.2;clear bf aM ax HF bL bW bP bX
 go_upto_region 3 with (first | ((with_reducible refine qbZ rfl 46 _ _ rfl #[.int .i64 0,.int .i64 0,.slice none 0 0,.slice none 0 0,.slice none 0 0] #[.int .i64 ka,.int .i64 ia,.slice Aa La Ca,.slice Da Ma Ea,.slice Fa Ga Ha] ?_ ?_ 5 ?_ ?_ ?_ ?_ ?_);(next=>rfl);(next=>rfl);(next=>kernel_rfl);(next=>rfl);(next=>rfl);(next=>rfl)) | fail)
 rw [<-aS];clear aS;go_wp2_with fail;refine (qdM dQ).mono ?_;rintro e dO ⟨eZ,rfl,hO,bg⟩;obtain⟨g17,c17,rfl,aP⟩:=qdn hO;have bM:=bY.below bg;have HF:=qH (ex_f2 dO g17 c17 aP (HT.o.below bM.o.1.1.1));clear hO bg aP;go_wp2_with fail;refine HF.o.mono ?_;rintro e ek ⟨bi,fe,g18,rfl,aN,aL⟩;obtain⟨kb,ib,Ab,Db,Fb,Lb,Cb,Mb,Eb,Gb,Hb,rfl⟩:=aL.five;obtain⟨dR,aT,cK⟩:=nw1 ek #[.int .i64 kb,.int .i64 ib,.slice Ab Lb Cb,.slice Db Mb Eb,.slice Fb Gb Hb] 46;have bZ:=(bM.below bi).also (q:=fun W=>NatR W dO.heap.size g18 5 5 [0,1,2,3,4]) aN;have cu:=bZ.below cK.o.1;clear bi aN aL HF bZ bM bY cK
 go_upto_region 4 with (first | ((with_reducible refine qbZ rfl 46 _ _ rfl #[.int .i64 0,.int .i64 0,.slice none 0 0,.slice none 0 0,.slice none 0 0] #[.int .i64 kb,.int .i64 ib,.slice Ab Lb Cb,.slice Db Mb Eb,.slice Fb Gb Hb] ?_ ?_ 5 ?_ ?_ ?_ ?_ ?_);(next=>rfl);(next=>rfl);(next=>kernel_rfl);(next=>rfl);(next=>rfl);(next=>rfl)) | fail)
 rw [<-aT];clear aT;go_wp2_with fail;refine (qdM dR).mono ?_;rintro e eu ⟨v20,rfl,hO,bn⟩;obtain⟨g20,c20,rfl,aQ⟩:=qdn hO;have bN:=cu.below bn;have HF:=qH (ex_f3 eu g20 c20 aQ (HT.o.below bN.o.1.1.1.1));clear hO bn aQ;go_wp2_with fail;refine HF.o.mono ?_;rintro e dP ⟨bq,fo,g21,rfl,dm,ay⟩;obtain⟨kc,ic,Ac,Dc,Fc,Lc,Cc,Mc,Ec,Gc,Hc,rfl⟩:=ay.five;obtain⟨F,aU,bQ⟩:=nw1 dP #[.int .i64 kc,.int .i64 ic,.slice Ac Lc Cc,.slice Dc Mc Ec,.slice Fc Gc Hc] 46;have cz:=(bN.below bq).also (q:=fun W=>MdAt W (.agg #[.int .i64 kc,.int .i64 ic,.slice Ac Lc Cc,.slice Dc Mc Ec,.slice Fc Gc Hc]) (mdX line5 1 linX0)) ay;have Y:=(cz.below bQ.o.1).also (q:=fun W=>W.heap[dP.heap.size]? = some (.cells #[.int .i64 kc,.int .i64 ic,.slice Ac Lc Cc,.slice Dc Mc Ec,.slice Fc Gc Hc] 46 (0,0))) bQ.o.2;clear bq dm ay HF cz bN cu bQ
 go_upto_region 5 with (first | ((with_reducible refine qbZ rfl 46 _ _ rfl #[.int .i64 0,.int .i64 0,.slice none 0 0,.slice none 0 0,.slice none 0 0] #[.int .i64 kc,.int .i64 ic,.slice Ac Lc Cc,.slice Dc Mc Ec,.slice Fc Gc Hc] ?_ ?_ 5 ?_ ?_ ?_ ?_ ?_);(next=>rfl);(next=>rfl);(next=>kernel_rfl);(next=>rfl);(next=>rfl);(next=>rfl)) | fail)
 rw [<-aU];clear aU;obtain⟨rfl,ba,oa,dn⟩:La=2/\∃b o,FCells F Aa b o (told 2 (zq [0,100])):=by
  obtain⟨h1,b,o,h2⟩:=MdAt.row0 Y.o.1.1.1.1.2;rw [lin_row1] at h1 h2;exact⟨h1,b,o,h2⟩
 obtain⟨rfl,bc,oc,dw⟩:Lc=2/\∃b o,FCells F Ac b o (told 2 (zq [8,100])):=by
  obtain⟨h1,b,o,h2⟩:=MdAt.row0 Y.o.1.2;rw [lin_row0] at h1 h2;exact⟨h1,b,o,h2⟩
 have ai:=qH Y.o.1.1.1.1.1.1;have la:=(qG Y.o.1.1.1.2).1;have lc:=(qG Y.o.2).1;have m2:=rowC (B:=F.heap.size) Y.o.1.1.1.2 2;have s2:=rowC (B:=F.heap.size) Y.o.2 2;have bI:=qH (fun (W:World) (h:Below F.heap.size F W) (zs:List Int) (n:Nat) (hn:zs.length=n) (aI:n<=1000) (hz:∀z∈zs,-9223372036854775808<=z/\z<=9223372036854775807)=>q_ex W zs n hn aI hz (HT.o.below (ai.o.trans (h.mono ai.o.size))));have ak:=qH (qA dn (qA dw (qA Y.o.1.1.1.1.1.2.all Y.o.1.1.2.all)));clear dn dw;refine wp_region_held_drew (S:=fun W=>Below F.heap.size F W) (by kernel_rfl) qB.drew (fun hS0=>?_);refine hT 0 (h:=hT 1 (h:=hT 2 (h:=hT 3 (h:=hT 4 (h:=hT 5 (h:=hT 6 (h:=hT 7 (h:=hT 8 (h:=?_)))))))));have Z:Below F.heap.size F F.drew:=qB.drew;refine hE 9 (h:=⟨qbN Z qN,hN (h:=?_)⟩);refine hC 10 (bI.o _ Z [0,100] 2 rfl (by decide) (by decide)) (h:=?_);rintro e u0 ⟨eP,eT,dY,rfl,dI,bz⟩;have aB:Below F.heap.size F u0:=Z.trans (bz.mono Z.size);refine⟨_,rfl,aB,hN (h:=?_)⟩;refine hC 11 (qhL _ _ _ 2 Ca _ _ _ _ 2 dY _ u0 (qbT _ _) (by decide) (ak.o.1.below aB) (qbT _ _) (by decide) dI) (h:=?_);rintro e t0 ⟨ok0,rfl,bF,bB⟩;obtain rfl:ok0=true:=bF.2 rfl;have af:Below F.heap.size F t0:=aB.trans (bB.mono aB.size);refine⟨_,rfl,af,hN (h:=?_)⟩;clear dI bz bF bB aB;refine hT 12 (hS:=af) (h:=hT 13 (hS:=af) (h:=hT 14 (hS:=af) (h:=?_)));refine hE 15 (h:=⟨qbN af qN,hN (h:=?_)⟩);refine hC 16 (eqk _ g15 4 4 [0,1,3,4] rfl (by decide) (ak.o.2.2.1.below af)) (h:=?_);rintro e t1 ⟨rfl,bC⟩;have U:Below F.heap.size F t1:=af.trans (bC.mono af.size);refine⟨_,rfl,U,hN (h:=?_)⟩;clear bC;refine hT 17 (hS:=U) (h:=hT 18 (hS:=U) (h:=hT 19 (hS:=U) (h:=hT 20 (hS:=U) (h:=hT 21 (hS:=U) (h:=hT 22 (hS:=U) (h:=hT 23 (hS:=U) (h:=?_)))))));refine hE 24 (h:=⟨qbN U qN,hN (h:=?_)⟩);refine hC 25 (eqk _ g18 5 5 [0,1,2,3,4] rfl (by decide) (ak.o.2.2.2.below U)) (h:=?_);rintro e t2 ⟨rfl,bD⟩;have I:Below F.heap.size F t2:=U.trans (bD.mono U.size);refine⟨_,rfl,I,hN (h:=?_)⟩;clear bD;refine hT 26 (hS:=I) (h:=hT 27 (hS:=I) (h:=hT 28 (hS:=I) (h:=hT 29 (hS:=I) (h:=hT 30 (hS:=I) (h:=hT 31 (hS:=I) (h:=hT 32 (hS:=I) (h:=hT 33 (hS:=I) (h:=hT 34 (hS:=I) (h:=?_)))))))));refine hE 35 (h:=⟨qbN I qN,hN (h:=?_)⟩);refine hC 36 (bI.o _ I [8,100] 2 rfl (by decide) (by decide)) (h:=?_);rintro e u3 ⟨eQ,eU,qc3,rfl,dJ,bA⟩;have aC:Below F.heap.size F u3:=I.trans (bA.mono I.size);refine⟨_,rfl,aC,hN (h:=?_)⟩;refine hC 37 (qhL _ _ _ 2 Cc _ _ _ _ 2 qc3 _ u3 (qbT _ _) (by decide) (ak.o.2.1.below aC) (qbT _ _) (by decide) dJ) (h:=?_);rintro e t3 ⟨dX,rfl,bG,bE⟩;obtain rfl:dX=true:=bG.2 rfl;have aA:Below F.heap.size F t3:=aC.trans (bE.mono aC.size);refine⟨_,rfl,aA,hN (h:=?_)⟩;clear dJ bA bG bE aC;refine hT 38 (hS:=aA) (h:=hT 39 (hS:=aA) (h:=?_));refine wpAnyH_done (by kernel_rfl) ?_ _;have aG:=Y.below aA;have aF:Kn (fun W=>(Below w.heap.size w W/\MdAt W (.agg #[.int .i64 ka,.int .i64 ia,.slice Aa 2 Ca,.slice Da Ma Ea,.slice Fa Ga Ha]) (mdX line5 1 linX1))/\W.heap[aJ.heap.size]? = some (.cells #[.int .i64 ka,.int .i64 ia,.slice Aa 2 Ca,.slice Da Ma Ea,.slice Fa Ga Ha] 46 (0,0))) t3:=.of ⟨⟨aG.o.1.1.1.1.1.1,aG.o.1.1.1.1.2⟩,aG.o.1.1.1.2⟩;clear af U I hS0 Z ak bI la lc m2 s2 Y aA aG ai;obtain⟨y1,y2,hy⟩:=qco (1600:Rat);have HY:=qH hy;have aj:=@lin_cost;simp only [hy] at aj;have bU:=qH aj;clear aj hy;go_wp2_with fail;refine wp_region_held_drew (S:=fun W=>Below t3.heap.size t3 W) (by kernel_rfl) qB.drew (fun hS0=>?_);refine Go.Proofs.YtjalhnlhcdfncaaGreatDoor.gy [(0,103),(1,104),(2,105),(3,106),(4,102),(5,107),(6,108),(7,11)] [(3,[0,1,2]),(4,[3]),(5,[4]),(6,[4])] [] [6] [0,1,2,3,4,5,7] 8 10 (fl2 [(0,fun z _=>z=.agg #[.int .i64 ka,.int .i64 ia,.slice Aa 2 Ca,.slice Da Ma Ea,.slice Fa Ga Ha]),(1,fun z W=>∃g c:Nat,z=.slice (some ⟨g,0,none⟩) 5 c/\PCells W (some ⟨g,0,none⟩) g 0 line5),(2,fun z W=>∃g:Nat,z=.slice (some ⟨g,0,none⟩) 1 1/\NCells W (some ⟨g,0,none⟩) g 0 [2]),(3,fun z _=>z=.tuple #[.agg #[.string y1,.string y2],.int .i64 0]),(4,fun z _=>z=.tuple #[.agg #[.string y1,.string y2],.int .i64 0]),(5,fun z _=>z=.agg #[.string y1,.string y2]),(6,fun z _=>z=.int .i64 0),(7,fun z W=>∃g:Nat,z=.pointer (some ⟨g,0,none⟩)/\W.heap[g]? = some (.cells #[.string ⟨#[]⟩,.string ⟨#[]⟩] 27 (0,0))/\t3.heap.size<=g)]) _ 2
  (hS:=fun w' h=>hS0.trans (h.mono hS0.size)) (hstep:=⟨⟨_,rfl,fun v J V H K O=>?_⟩,⟨_,rfl,fun v J V H K O=>?_⟩,⟨_,rfl,fun v J V H K O=>?_⟩,⟨_,rfl,fun v J V H K O=>?_⟩,⟨_,rfl,fun v J V H K O=>?_⟩,⟨_,rfl,fun v J V H K O=>?_⟩,⟨_,rfl,fun v J V H K O=>?_⟩,trivial⟩) (htake:=⟨⟨_,rfl,fun v J V H=>?_⟩,trivial⟩) (hend:=fun v eB V H fu=>?_)
 ·have hz:=zkeep (hS0.trans (V.mono hS0.size)) _ _ aF.o.2;have x0:=qC _ _ 0 _ _ _ hz;have x1:=qC _ _ 1 _ _ _ hz;have x2:=qC _ _ 2 _ _ _ hz;have x3:=qC _ _ 3 _ _ _ hz;have x4:=qC _ _ 4 _ _ _ hz;exact gV O rfl
 ·exact gC O (qdM J) (h:=fun e w4 ⟨v,e1,hO,ah⟩=>⟨v,e1,qdn hO,ah⟩)
 ·exact gW O (h:=⟨⟨J.heap.size,rfl,lits J [2]⟩,qbN qB qN⟩)
 ·have e0:v 0=_:=H.1;obtain⟨gl,cl,e1,hl⟩:∃g c:Nat,_:=H.2.1;obtain⟨gk,e2,hk⟩:∃g:Nat,_:=H.2.2.1;have au:=aF.below (hS0.trans (V.mono hS0.size));exact gC O (bU.o J _ gl cl gk 1 au.o.1.2 hl hk (HT.o.below au.o.1.1)) (h:=fun e w4 ⟨e1,h1⟩=>⟨_,e1,rfl,h1⟩)
 ·have e3:v 3=_:=H.1;exact gV O rfl
 ·have e4:v 4=_:=H.1;exact gV O rfl
 ·exact gW O (h:=⟨⟨J.heap.size,rfl,qM _ _ _ rfl,(hS0.trans (V.mono hS0.size)).size⟩,qbN qB qN⟩)
 ·have e4:v 4=_:=H.1;exact⟨_,rfl,fun W hW=>by (go_simp <;> with_reducible rfl),rfl⟩
 have e4:v 4=_:=H 4 (by decide) (by decide);have e5:v 5=_:=H 5 (by decide) (by decide);have e6:v 6=_:=H 6 (by decide) (by decide);obtain⟨g7,e7,h7,aD⟩:∃g:Nat,_:=H 7 (by decide) (by decide);rw [e4,e5,e6,e7];have az:=hS0.trans (V.mono hS0.size);have ae:=qS az aD #[.string y1,.string y2];have av:=(aF.below ae).also (q:=fun W=>W.heap[g7]? = some (.cells #[.string y1,.string y2] 27 (0,0))) (qT _ _ _ #[.string y1,.string y2] _ _ h7);refine hSn 8 2 h7 (h:=⟨ae,?_⟩);refine hT 9 (hS:=ae) (h:=?_);refine wpAnyH_done (by kernel_rfl) ?_ _;obtain⟨u7,hu⟩:∃u,u=eB.setRow g7 #[.string y1,.string y2]:=⟨_,rfl⟩;rw [<-hu] at av ⊢;clear hu H e4 e5 e6 e7 h7 aD V az ae aF hS0;go_wp2_with fail;refine wp_region_held_drew (S:=fun W=>Below u7.heap.size u7 W) (by kernel_rfl) qB.drew (fun hS0=>?_);refine Go.Proofs.YtjalhnlhcdfncaaGreatDoor.gy [(0,110),(1,111),(2,112),(3,113),(4,109),(5,114),(6,115),(7,13)] [(3,[0,1,2]),(4,[3]),(5,[4]),(6,[4])] [] [6] [0,1,2,3,4,5,7] 8 10 (fl2 [(0,fun z _=>z=.agg #[.int .i64 ka,.int .i64 ia,.slice Aa 2 Ca,.slice Da Ma Ea,.slice Fa Ga Ha]),(1,fun z W=>∃g c:Nat,z=.slice (some ⟨g,0,none⟩) 5 c/\PCells W (some ⟨g,0,none⟩) g 0 line5),(2,fun z W=>∃g:Nat,z=.slice (some ⟨g,0,none⟩) 2 2/\NCells W (some ⟨g,0,none⟩) g 0 [2,1]),(3,fun z _=>z=.tuple #[.agg #[.string ⟨#[]⟩,.string ⟨#[]⟩],.int .i64 2]),(4,fun z _=>z=.tuple #[.agg #[.string ⟨#[]⟩,.string ⟨#[]⟩],.int .i64 2]),(5,fun z _=>z=.agg #[.string ⟨#[]⟩,.string ⟨#[]⟩]),(6,fun z _=>z=.int .i64 2),(7,fun z W=>∃g:Nat,z=.pointer (some ⟨g,0,none⟩)/\W.heap[g]? = some (.cells #[.string ⟨#[]⟩,.string ⟨#[]⟩] 27 (0,0))/\u7.heap.size<=g)]) _ 2
  (hS:=fun w' h=>hS0.trans (h.mono hS0.size)) (hstep:=⟨⟨_,rfl,fun v J V H K O=>?_⟩,⟨_,rfl,fun v J V H K O=>?_⟩,⟨_,rfl,fun v J V H K O=>?_⟩,⟨_,rfl,fun v J V H K O=>?_⟩,⟨_,rfl,fun v J V H K O=>?_⟩,⟨_,rfl,fun v J V H K O=>?_⟩,⟨_,rfl,fun v J V H K O=>?_⟩,trivial⟩) (htake:=⟨⟨_,rfl,fun v J V H=>?_⟩,trivial⟩) (hend:=fun v eD V H fu=>?_)
 ·have hz:=zkeep (hS0.trans (V.mono hS0.size)) _ _ av.o.1.2;have x0:=qC _ _ 0 _ _ _ hz;have x1:=qC _ _ 1 _ _ _ hz;have x2:=qC _ _ 2 _ _ _ hz;have x3:=qC _ _ 3 _ _ _ hz;have x4:=qC _ _ 4 _ _ _ hz;exact gV O rfl
 ·exact gC O (qdM J) (h:=fun e w4 ⟨v,e1,hO,ah⟩=>⟨v,e1,qdn hO,ah⟩)
 ·exact gW O (h:=⟨⟨J.heap.size,rfl,lits J [2,1]⟩,qbN qB qN⟩)
 ·have e0:v 0=_:=H.1;obtain⟨gl,cl,e1,hl⟩:∃g c:Nat,_:=H.2.1;obtain⟨gk,e2,hk⟩:∃g:Nat,_:=H.2.2.1;have au:=av.below (hS0.trans (V.mono hS0.size));exact gC O (qid J _ gl cl gk 2 au.o.1.1.2 hl hk (HT.o.below au.o.1.1.1)) (h:=fun e w4 ⟨e1,h1⟩=>⟨_,e1,rfl,h1⟩)
 ·have e3:v 3=_:=H.1;exact gV O rfl
 ·have e4:v 4=_:=H.1;exact gV O rfl
 ·exact gW O (h:=⟨⟨J.heap.size,rfl,qM _ _ _ rfl,(hS0.trans (V.mono hS0.size)).size⟩,qbN qB qN⟩)
 ·have e4:v 4=_:=H.1;exact⟨_,rfl,fun W hW=>by (go_simp <;> with_reducible rfl),rfl⟩
 have e4:v 4=_:=H 4 (by decide) (by decide);have e5:v 5=_:=H 5 (by decide) (by decide);have e6:v 6=_:=H 6 (by decide) (by decide);obtain⟨g8,e7,h7,aD⟩:∃g:Nat,_:=H 7 (by decide) (by decide);rw [e4,e5,e6,e7];have az:=hS0.trans (V.mono hS0.size);have ae:=qS az aD #[.string ⟨#[]⟩,.string ⟨#[]⟩];have aH:=(av.below ae).also (q:=fun W=>W.heap[g8]? = some (.cells #[.string ⟨#[]⟩,.string ⟨#[]⟩] 27 (0,0))) (qT _ _ _ #[.string ⟨#[]⟩,.string ⟨#[]⟩] _ _ h7);refine hSn 8 2 h7 (h:=⟨ae,?_⟩);refine hT 9 (hS:=ae) (h:=?_);refine wpAnyH_done (by kernel_rfl) ?_ _;obtain⟨u8,hu⟩:∃u,u=eD.setRow g8 #[.string ⟨#[]⟩,.string ⟨#[]⟩]:=⟨_,rfl⟩;rw [<-hu] at aH ⊢;clear hu H e4 e5 e6 e7 h7 aD V az ae av hS0;have cB:Kn (fun W=>Below w.heap.size w W/\W.heap[g7]? = some (.cells #[.string y1,.string y2] 27 (0,0))) u8:=.of ⟨aH.o.1.1.1.1,aH.o.1.2⟩;clear aH bU;go_wp2_with fail;refine (qdM u8).mono ?_;rintro e eF ⟨fq,rfl,hO,bu⟩;obtain⟨dU,c40,rfl,aR⟩:=qdn hO;have bO:=cB.below bu;have HF:=qH (ex_f4 eF dU c40 aR (HT.o.below bO.o.1));clear hO bu aR cB;go_wp2_with fail;refine HF.o.mono ?_;rintro e eG ⟨bv,rfl⟩;unfold mdv0;obtain⟨aa,aV,cO⟩:=nw1 eG #[.int .i64 0,.int .i64 0,.slice none 0 0,.slice none 0 0,.slice none 0 0] 46;have ag:=(bO.below bv).below cO.o.1;clear bv HF bO cO
 go_upto_region 9 with (first | ((with_reducible refine qbZ rfl 46 _ _ rfl #[.int .i64 0,.int .i64 0,.slice none 0 0,.slice none 0 0,.slice none 0 0] #[.int .i64 0,.int .i64 0,.slice none 0 0,.slice none 0 0,.slice none 0 0] ?_ ?_ 5 ?_ ?_ ?_ ?_ ?_);(next=>rfl);(next=>rfl);(next=>kernel_rfl);(next=>rfl);(next=>rfl);(next=>rfl)) | fail)
 rw [<-aV];clear aV;have lg:=(qG ag.o.2).1;have f0:=rowC (B:=aa.heap.size) ag.o.2 0;have f1:=rowC (B:=aa.heap.size) ag.o.2 1;have dV:=fun W=>eqF_same y1 y2 W
 refine wp_region_held_drew (S:=fun W=>Below aa.heap.size aa W) (by kernel_rfl) qB.drew (fun hS0=>?_);have Z:Below aa.heap.size aa aa.drew:=qB.drew;refine hT 0 (h:=hT 1 (h:=hT 2 (h:=?_)));refine hE 3 (h:=⟨qbN Z qN,hN (h:=?_)⟩);refine hC 4 (q_ex _ [1600] 1 rfl (by decide) (by decide) (HT.o.below (ag.below Z).o.1)) (h:=?_);rintro e u9 ⟨qa,qg,qc,rfl,hq,dF⟩;have G:Below aa.heap.size aa u9:=Z.trans (dF.mono Z.size);refine⟨_,rfl,G,hN (h:=?_)⟩;have dW:=hq.addr (by rw [qbT];decide);subst dW;have hc:=hq.cell 0 (by rw [qbT];decide);have dG:(told 1 (zq [1600])).getD 0 fd0=(y1,y2):=HY.o;rw [dG] at hc;have d0:u9.cell? ⟨qg,0,none⟩=some (.string y1):=hc.1;have d1:u9.cell? ⟨qg,1,none⟩=some (.string y2):=hc.2;clear hc dG hq dF;refine hT 5 (hS:=G) (h:=?_);refine hE 6 (h:=⟨G,hN (h:=?_)⟩);refine hT 7 (hS:=G) (h:=hT 8 (hS:=G) (h:=hT 9 (hS:=G) (h:=hT 10 (hS:=G) (h:=hT 11 (hS:=G) (h:=hT 12 (hS:=G) (h:=hT 13 (hS:=G) (h:=?_)))))));refine hT 14 (hS:=G) (h:=hT 15 (hS:=G) (h:=hT 16 (hS:=G) (h:=hT 17 (hS:=G) (h:=hT 18 (hS:=G) (h:=hT 19 (hS:=G) (h:=hT 20 (hS:=G) (h:=hT 21 (hS:=G) (h:=?_))))))));refine wpAnyH_done (by kernel_rfl) ?_ _;have HB:=qH ((ag.below G).o.1);clear G hS0 Z d0 d1 f0 f1 lg dV ag;go_wp2;go_ret;exact⟨rfl,HB.o⟩
theorem fit_two {l:List Pt} {k:Nat} (V:PtsOk l) (Z:qdc l) (hk:k=1\/k=2) {K:List Nat} {w w':World} {e:Ending} (J:FitAs w l (k:Int) (keepW K l.length) e w'):Below w.heap.size w w' /\
    ((Sing (many k (chans l)) (nq l k (keepW K l.length) 0)/\e=.returned (.tuple #[mdv0,.int .i64 7])) \/
     ∃v X,e=.returned (.tuple #[v,.int .i64 0])/\KFit l k K X/\(∀c,c<3->qbS (many k (chans l)) (X c))/\MdAt w' v (mdX l k X)):=by
  have I:1<=k/\k<=3:=by omega
  have U:¬(k=3/\chans l=4):=by omega
  have G:qcN (k:Int) k:=⟨rfl,I⟩;refine⟨J.1,?_⟩;obtain⟨_,J⟩:=J;rcases J with ⟨v,rfl,_,_,_,k',F,_,O,X,Y,hM⟩ | ⟨c,rfl,hf⟩
  · obtain rfl:=G.uniq F
    exact .inr ⟨v,X,rfl,⟨O,fun c H=>(Y c H).1⟩,fun c H=>(Y c H).2,hM⟩
  · left
    rcases hf with ⟨h,_⟩ | ⟨_,h,_⟩ | ⟨_,_,_,k',F,h⟩
    · exact absurd V h
    · exact absurd ⟨⟨k,G⟩,qdK _ _,qjS _ _⟩ h
    · obtain rfl:=G.uniq F
      rcases h with ⟨a,b,_⟩ | ⟨_,⟨h,rfl⟩ | ⟨O,c,x,H,hx,hn,_⟩⟩
      · exact absurd ⟨a,b⟩ U
      · exact⟨h,rfl⟩
      · exact absurd (qgQ V Z I U (qe5 _ _) H O hx) hn
theorem KFit.all {l:List Pt} {k:Nat} (G:PtsOk l) (F:qdc l) (I:k=1\/k=2) {K:List Nat} {X:Nat->Nat->Rat} (h:KFit l k K X) :
  (∀c,c<3->qbS (many k (chans l)) (X c))/\qbS l.length (sqq (mdX l k X) l k) :=
 ⟨fun c H=>qgQ G F (by omega) (by omega) (qe5 _ _) H h.1 (h.2 c H),(qjH G F (by omega) (by omega) (qe5 K _) h.1 h.2).sq⟩
theorem qiJ (f:Nat->Rat):∀(K:List Nat),(sumQ K.length fun i=>f ((natI K).getD i 0).toNat)=sumL f K:=by
 have H:∀(K:List Nat) (x:Nat),(sumQ (K++[x]).length fun i=>f ((natI (K++[x])).getD i 0).toNat)=(sumQ K.length fun i=>f ((natI K).getD i 0).toNat)+f x:=fun K x=>by
  have U:(K++[x]).length=K.length+1:=by simp
  rw [U]
  show sumQ K.length _+f _=_
  have J:((natI (K++[x])).getD K.length 0).toNat=x:=by
   rw [qeh (x:=x) (by rw [qar qN,qaK];rfl)];rfl
  rw [J,qbQ fun i F=>by
   have I:K[i]? = some (K[i]'F):=qad F
   show f ((natI (K++[x])).getD i 0).toNat=f ((natI K).getD i 0).toNat
   rw [qeh (x:=K[i]'F) (by rw [qav F];exact I),qeh I]]
 intro K;obtain⟨G,O⟩:∃G,K=List.reverse G:=⟨K.reverse,by simp⟩;subst O
 induction G with
 | nil=>rfl
 | cons a l ih=>rw [List.reverse_cons,H,ih,qjq];show _=_+(f a+0);grind
theorem up_rises {K:List Nat} {R:Nat} (h:Up K) (H:∀i∈K,i<R):Rises (natI K) R K.length:=fun j F=>by
 have e:K[j]? = some (K[j]'F):=qad F;have J:=H _ (qbx F);rw [qeh e];refine⟨by omega,fun I=>?_⟩;have G:K[j-1]? = some (K[j-1]'(by omega)):=qad (by omega);rw [qeh G];have:=(List.pairwise_iff_getElem.1 h) (j-1) j (by omega) F (by omega);omega
theorem up_len {K:List Nat} {R:Nat} (h:Up K) (J:∀i∈K,i<R):K.length<=R:=by
 have F:∀j (G:j<K.length),j<=K[j]:=fun j=>by
  induction j with
  | zero=>exact fun _=>qam _
  | succ j ih =>
   intro G;have H:=ih (by omega);have I:=(List.pairwise_iff_getElem.1 h) j (j+1) (by omega) G (Nat.lt_succ_self _);omega
 rcases qaV K.length with e | e
 ·omega
 ·have H:=F (K.length-1) (by omega);have I:=J _ (qbx (show K.length-1<K.length by omega));omega
theorem KFit.sum {l:List Pt} {k:Nat} (J:PtsOk l) (I:qdc l) (O:k=1\/k=2) {K:List Nat} {X:Nat->Nat->Rat} (h:KFit l k K X) (G:Up K) (F:∀i∈K,i<l.length):Short (sumL (sqq (mdX l k X) l k) K):=by
 have H:=(qjH J I (k:=k) (by omega) (by omega) (qe5 K _) h.1 h.2).cs l.length qN
 rwa [qfV G.nodup F] at H
theorem mdX_ok {l:List Pt} {k:Nat} (F:PtsOk l) (H:k=1\/k=2) {X:Nat->Nat->Rat} (G:∀c,c<3->qbS (many k (chans l)) (X c)):MdOk (mdX l k X) k (chans l):=ql6 (by omega) F.n1 F.n4 (by omega) G
theorem qjd {l:List Pt} {k:Nat} (F:PtsOk l) (H:k=1\/k=2) {X:Nat->Nat->Rat}:∀q,q<3->((mdX l k X).row q).length<=1000000:=fun q G=>by
 unfold mdX;rw [qfp G,qbT];have:=(qeK (kind:=k) ⟨rfl,by omega⟩ F.n1 F.n4 (by omega)).2;omega
theorem kcost {l:List Pt} {k:Nat} (I:PtsOk l) (O:qdc l) (U:k=1\/k=2) {K:List Nat} {X:Nat->Nat->Rat} (h:KFit l k K X) (H:Up K) (G:∀i∈K,i<l.length) (n:Nat) (Z:K.length=n) (R b c B g kc:Nat) (hR:l.length=R) (v:Value) (W:World)
  (hM:MdAt W v (mdX l k X)) (hC:PCells W (some ⟨b,0,none⟩) b 0 l) (hN:NatR W B g n kc K) (hT:HasT W) :
  Calls prog 20 #[v,.slice (some ⟨b,0,none⟩) R c,.slice (some ⟨g,0,none⟩) n kc] W fun e w'=>e=.returned (.tuple #[.agg #[.string (ftxt (sumL (sqq (mdX l k X) l k) K)).1,.string (ftxt (sumL (sqq (mdX l k X) l k) K)).2],.int .i64 0])/\Below W.heap.size W w':=by
 subst Z;have F:=h.all I O U;have J:=mdX_ok (X:=X) I U F.1;have hs:=h.sum I O U H G;have V:K.length<=300:=by
  have h1:=up_len H G;have:=O.1;omega
 refine (qfU R b 0 c K.length g 0 kc (some ⟨b,0,none⟩) (some ⟨g,0,none⟩) _ v l (natI K) W hM hR (by have:=O.1;omega) (qgl I hR) (fun q hq=>qaj (qjd I U q hq) (by decide)) (qcw K) V hC hN.all hT fun kk Y _ _=>?_).mono fun e w' h=>?_
 ·obtain rfl:=(J.uniq Y).1;rw [qiJ];exact hs
 ·obtain⟨hb,⟨Z,_⟩ | ⟨_,he⟩⟩:=CoAs.only h I J F.2
  ·exact absurd (by rw [qcw];exact up_rises H G) Z
  ·rw [qcw,qiJ] at he;exact⟨he,hb⟩
theorem run_two {l:List Pt} {k d p:Nat} (H:PtsOk l) (h8:qdc l) (hk:k=1\/k=2) (hd:d<=50) (hp:p<=8) {w w':World} {e:Ending} (h:RFAs w l (k:Int) (d:Int) (p:Int) e w'):Below w.heap.size w w' /\
    ((e=.returned (.tuple #[mdv0,.slice none 0 0,.int .i64 7])/\¬∃K X,Runs l k (keepN l.length d) p K X) \/
     ∃v g K X,e=.returned (.tuple #[v,.slice (some ⟨g,0,none⟩) K.length K.length,.int .i64 0])/\NatR w' w.heap.size g K.length K.length K/\MdAt w' v (mdX l k X)/\Runs l k (keepN l.length d) p K X):=by
  have U:1<=k/\k<=3:=by omega
  have h3:¬(k=3/\chans l=4):=by omega
  refine⟨h.1,?_⟩;rcases h.2 with ⟨h,_⟩ | ⟨_,h,_⟩ | ⟨_,k',d',p',hA,hr⟩
  · exact absurd H h
  · exact absurd ⟨k,d,p,rfl,U,rfl,hd,rfl,hp⟩ h
  obtain⟨rfl,rfl,rfl⟩:=hA.uniq;rcases hr.2 with ⟨c,_,rfl,F⟩ | ⟨v,g,K,m,rfl,hN,hM,X,I,rfl,_⟩
  case inr=>exact .inr ⟨v,g,K,X,rfl,hN,hM,I⟩
  left
  have G:∀{K:List Nat},FitF l (k':Int) (keepW K l.length) c->c=7/\Sing (many k' (chans l)) (nq l k' (keepW K l.length) 0):=fun {K} F=>by
    obtain⟨_,hq⟩:=fit_two H h8 hk (K:=K) (w:=w) (w':=w) (e:=.returned (.tuple #[mdv0,.int .i64 c])) ⟨Below.refl _ _,.inr ⟨c,rfl,F⟩⟩;rcases hq with ⟨J,h⟩ | ⟨v,X,_,Z,ae,_⟩
    · simp only [Ending.returned.injEq,Value.tuple.injEq,qa4,qaW,Value.int.injEq] at h
      exact⟨h.2.1.2,J⟩
    · exact absurd F (FitF.not H U h3 Z ae)
  rcases F with F | ⟨q,K,X,hq,I,F | F⟩
  · obtain⟨rfl,J⟩:=G F
    refine⟨rfl,fun⟨K,X,I⟩=>?_⟩;obtain⟨K0,X0,e0,O⟩:=Runs.before (p:=0) (q:=p') (by rw [qaM];exact I);rw [e0] at O;exact O.1 J
  · have ha:=I.fit.all H h8 hk
    exact absurd F (SqF.not H (mdX_ok H hk ha.1) ha.2)
  · obtain⟨rfl,J⟩:=G F
    refine⟨rfl,fun⟨K2,X2,V⟩=>?_⟩;obtain⟨r,rfl⟩:∃r,p'=q+1+r:=⟨p'-(q+1),by omega⟩;obtain⟨K3,X3,K4,X4,Y,e3,aa⟩:=Runs.before V;rw [(Y.uniq I).2] at e3;rw [<-e3] at J;exact aa.1 J
theorem qec (n d:Nat):keepN n d<=n:=Nat.sub_le _ _
theorem qlu {l:List Pt} {k d p:Nat} {K K2:List Nat} {X X2:Nat->Nat->Rat} (h:Runs l k (keepN l.length d) (p+1) K X) (Y:Runs l k (keepN l.length d) (p+1+1) K2 X2) :
  K.length=keepN l.length d/\sumL (sqq (mdX l k X2) l k) K2<=sumL (sqq (mdX l k X) l k) K/\(K=K2->mdX l k X=mdX l k X2):=by
 obtain⟨O,U,V,e0,I⟩:=h;have G:Runs l k (keepN l.length d) (p+1) K X:=⟨O,U,V,e0,I⟩;obtain⟨Z,X1,H,e2,F⟩:=Y;obtain⟨eK,eM⟩:=H.uniq G;have J:K.length=keepN l.length d:=by rw [e0];exact qfS (qec _ _)
 rw [eM] at e2;refine⟨J,falls rfl G.up.nodup G.lt (B:=K2) (by rw [J];exact e2) (by rw [J];exact qec _ _) F.1 F.2,fun e=>?_⟩;subst e;exact G.fit.same F
theorem runs_no {l:List Pt} {k keep p:Nat} (h:¬∃K X,Runs l k keep p K X):¬∃K X,Runs l k keep (p+1) K X:=fun⟨_,_,F⟩=>h (Runs.before (q:=1) F)
theorem cmp_le {p q:Rat} (h:p<=q):cmp3 (p.num*(q.den:Int) + -(q.num*(p.den:Int))) 0<=0:=by
 have F:=(Rat.le_iff p q).1 h;generalize p.num*(q.den:Int)=X at *;generalize q.num*(p.den:Int)=Y at *;unfold cmp3;split
 ·omega
 ·split <;> omega
theorem cmpq_le {p q:Rat} (J:Short p) (O:Short q) (h:p<=q) (w:World) :
  Calls prog 25 #[.agg #[.string (ftxt p).1,.string (ftxt p).2],.agg #[.string (ftxt q).1,.string (ftxt q).2]] w fun e w'=>∃c:Int,e=.returned (.tuple #[.int .i64 c,.int .i64 0])/\c<=0/\Below w.heap.size w w':=by
 refine (qjG _ _ _ _ w).mono ?_;rintro e w' ⟨⟨_,rfl⟩ | ⟨I,_⟩,H⟩
 ·have F:fval (ftxt p).1.data.toList (ftxt p).2.data.toList=p:=qc9 p;have G:fval (ftxt q).1.data.toList (ftxt q).2.data.toList=q:=qc9 q;rw [F,G];exact⟨_,rfl,cmp_le h,H⟩
 ·exact absurd ⟨qdZ J,qdZ O⟩ I
theorem qgq (ch kd dr ps:Nat) (L:List (List Int)) (v:Value) (w0:World) (hv:PdAt w0 v ch L) (bJ:kd<256) (bH:dr<256) (bR:ps<256) (hT:HasT w0) :
  Calls prog 6 #[v,.int .u8 (kd:Int),.int .u8 (dr:Int),.int .u8 (ps:Int)] w0 fun e w'=>e=.returned (.bool true)/\Below w0.heap.size w0 w':=by
 obtain⟨ao,b,off,cd,rfl,bA,hL,hP⟩:=hv;obtain⟨W1,aP,K1⟩:=nw1 w0 #[.int .u8 (ch:Int),.slice ao L.length cd] 43;have H0:=qH (qA hP (qA hT hL));clear hP hT hL;go_enter func6,ntmps6;go_upto_region 1 with fail;rw [<-aP];clear aP;go_wp2_with fail;refine (qk5 W1 (H0.o.2.1.below K1.o.1)).mono ?_;rintro e w2 ⟨rfl,hb⟩;have K2:=K1.below hb;clear hb K1
 go_wp2_with ((with_reducible refine lW_ rfl 43 _ rfl (w0.heap.size) #[.int .u8 (ch:Int),.slice ao L.length cd] K2.o.2 underlying43 2 ?_))
 refine (qjl ch L ao b off cd w2 H0.o.2.2 (H0.o.1.below K2.o.1)).mono ?_;rintro e w4 ⟨u,rfl,⟨Bp,_,ax⟩,hb⟩;have K4:Kn (fun W=>Below w0.heap.size w0 W) w4:=.of (K2.below hb).o.1;clear hb K2;obtain⟨n,hn⟩:=qX (1+ch % 4);have aH:1<=n/\n<=4:=by omega
 rw [hn] at ax;have J:=ptsD_ok L aH.1 aH.2;have h8:=qiy (n:=n) L;obtain⟨l,hl⟩:=qX (ptsD n L);rw [hl] at ax J h8;obtain⟨gp,cp,rfl,aO⟩:=ax.cells J.r1 (fun j hj=>(J.rows j hj).1.n1);obtain⟨m,hm⟩:=qX l.length;have az:m<=12:=by rw [<-hm];exact h8.1
 have bL:1<=m:=by rw [<-hm];exact J.r1
 rw [hm];have K5:=K4.also (q:=fun W=>PCells W (some ⟨gp,0,none⟩) gp 0 l) aO;have F:=qH (qA J (qA h8 hm));clear ax J h8 hl hn aO aH hm K4 bA;obtain⟨x,hx⟩:=qX (kd % 2);have bM:(kd:Int) % 2=(x:Int):=by omega
 have bU:x<2:=by omega
 obtain⟨k,hk⟩:=qX (1+x);have bI:(1:Int)+(x:Int)=(k:Int):=by omega
 have HK:Hu (k=1\/k=2):=qH (by omega);obtain⟨d,hd⟩:=qX (dr % 51);have bD:(dr:Int) % 51=(d:Int):=by omega
 have bG:d<51:=by omega
 obtain⟨y,hy⟩:=qX (ps % 4);have bP:(ps:Int) % 4=(y:Int):=by omega
 have bV:y<4:=by omega
 obtain⟨p,hp⟩:=qX (y+1);have bN:(1:Int)+(y:Int)=(p:Int):=by omega
 have bQ:p<5:=by omega
 obtain⟨p',bf⟩:=qX (p+1);have bO:(p:Int)+1=(p':Int):=by omega
 have O:=qH (qA hp bf);have HF:=qH (fun (W:World) (q:Nat) (h:PCells W (some ⟨gp,0,none⟩) gp 0 l) (hT:HasT W)=>qgp m gp 0 cp (k:Int) (d:Int) (q:Int) (some ⟨gp,0,none⟩) l W F.o.2.2 (by omega) (fun _=>by omega) (qgl F.o.1 F.o.2.2) h hT);have HR:=qH (fun (q:Nat) (hq:q<=8) (w w':World) (e:Ending) (h:RFAs w l (k:Int) (d:Int) (q:Int) e w')=>run_two F.o.1 F.o.2.1 HK.o (show d<=50 by omega) hq h);have aJ:=qH (HF.o w4 p K5.o.2 (H0.o.2.1.below K5.o.1));clear hk hx hd hy hp bf;go_wp2_with fail;refine aJ.o.mono ?_;intro e w5 hA;obtain⟨aT,hA⟩:=HR.o p (by omega) _ _ _ hA;have K6:=K5.below aT;clear aT aJ K5;have ay:Hu (∀K X,Runs l k (keepN l.length d) p K X->K.length=keepN m d/\K.length<=m):=qH fun K X h=>by
  obtain⟨y,rfl⟩:∃y,p=y+1:=⟨y,O.o.1.symm⟩;obtain⟨K0,X0,h0,e0,_⟩:=h;have:K.length=keepN l.length d:=by rw [e0];exact qfS (qec _ _)
  rw [F.o.2.2] at this;exact⟨this,by rw [this];exact qec _ _⟩
 rcases hA with ⟨rfl,aZ⟩ | ⟨v,g,K,X,rfl,hN,hM,aF⟩
 ·have HN:=qH (O.o.2▸runs_no aZ);clear aZ;unfold mdv0;obtain⟨W7,ag,N7⟩:=nw1 w5 #[.int .i64 0,.int .i64 0,.slice none 0 0,.slice none 0 0,.slice none 0 0] 46;have K7:=K6.below N7.o.1;have ae:=qH (HF.o W7 p' K7.o.2 (H0.o.2.1.below K7.o.1));clear N7 K6
  go_upto_region 6 with (first | ((with_reducible refine qbZ rfl 46 _ _ rfl #[.int .i64 0,.int .i64 0,.slice none 0 0,.slice none 0 0,.slice none 0 0] #[.int .i64 0,.int .i64 0,.slice none 0 0,.slice none 0 0,.slice none 0 0] ?_ ?_ 5 ?_ ?_ ?_ ?_ ?_);(next=>rfl);(next=>rfl);(next=>kernel_rfl);(next=>rfl);(next=>rfl);(next=>rfl)) | fail)
  rw [<-ag];clear ag;go_wp2_with fail;refine ae.o.mono ?_;intro e w8 hA;obtain⟨ah,hA⟩:=HR.o p' (by have:=O.o.2;omega) _ _ _ hA;have K8:=K7.below ah;clear ah ae K7;rcases hA with ⟨rfl,_⟩ | ⟨_,_,K2,X2,_,_,_,G⟩
  case inr=>exact absurd ⟨K2,X2,G⟩ HN.o
  unfold mdv0;have HB:=qH (qbN (o:=.cells #[.int .i64 0,.int .i64 0,.slice none 0 0,.slice none 0 0,.slice none 0 0] 46) K8.o.1 qN)
  go_wp2_with (first | ((with_reducible refine qbZ rfl 46 _ _ rfl #[.int .i64 0,.int .i64 0,.slice none 0 0,.slice none 0 0,.slice none 0 0] #[.int .i64 0,.int .i64 0,.slice none 0 0,.slice none 0 0,.slice none 0 0] ?_ ?_ 5 ?_ ?_ ?_ ?_ ?_);(next=>rfl);(next=>rfl);(next=>kernel_rfl);(next=>rfl);(next=>rfl);(next=>rfl)) | fail)
  go_ret;exact⟨rfl,HB.o⟩
 obtain⟨V,aG⟩:∃z,K.length=z:=⟨_,rfl⟩;obtain⟨H,au⟩:=ay.o K X aF;rw [aG] at H au hN ⊢;have aK:=qH (qA H au);have K7:=(K6.also (q:=fun W=>NatR W w4.heap.size g V V K) hN).also (q:=fun W=>MdAt W v (mdX l k X)) hM;have I:=qH (qA aF aG);clear hN aF aG K6 ay H au;obtain⟨k5,i5,A0,A1,A2,L0,C0,L1,C1,L2,C2,rfl⟩:=hM.five;obtain⟨W7,ag,N7⟩:=nw1 w5 #[.int .i64 k5,.int .i64 i5,.slice A0 L0 C0,.slice A1 L1 C1,.slice A2 L2 C2] 46;have K8:=(K7.below N7.o.1).also (q:=fun W=>W.heap[w5.heap.size]? = some (.cells #[.int .i64 k5,.int .i64 i5,.slice A0 L0 C0,.slice A1 L1 C1,.slice A2 L2 C2] 46 (0,0))) N7.o.2;have ae:=qH (HF.o W7 p' K8.o.1.1.1.2 (H0.o.2.1.below K8.o.1.1.1.1));clear hM N7 K7
 go_upto_region 6 with (first | ((with_reducible refine qbZ rfl 46 _ _ rfl #[.int .i64 0,.int .i64 0,.slice none 0 0,.slice none 0 0,.slice none 0 0] #[.int .i64 k5,.int .i64 i5,.slice A0 L0 C0,.slice A1 L1 C1,.slice A2 L2 C2] ?_ ?_ 5 ?_ ?_ ?_ ?_ ?_);(next=>rfl);(next=>rfl);(next=>kernel_rfl);(next=>rfl);(next=>rfl);(next=>rfl)) | fail)
 rw [<-ag];clear ag;go_wp2_with fail;refine ae.o.mono ?_;intro e w8 hA;obtain⟨ah,hA⟩:=HR.o p' (by have:=O.o.2;omega) _ _ _ hA;have K9:=K8.below ah;clear ah ae K8 HF;obtain⟨md,av⟩:∃z,m*d=z:=⟨_,rfl⟩;have bE:(m:Int)*(d:Int)=(md:Int):=by rw [<-av];exact (Int.natCast_mul m d).symm
 have bF:md<=600:=by rw [<-av];exact Nat.mul_le_mul az (show d<=50 by omega)
 obtain⟨qq,bn⟩:∃z,md / 100=z:=⟨_,rfl⟩;have bT:(md:Int).tdiv 100=(qq:Int):=by rw [Int.tdiv_eq_ediv_of_nonneg (by omega)];omega
 have bS:(md:Int) / 100=(qq:Int):=by omega
 have bK:(m:Int)-(qq:Int)=(V:Int):=by
  have H:=aK.o.1;unfold keepN at H;rw [av,bn] at H;have:m*d<=m*50:=qaG _ (by omega);omega
 have au:V<=12:=qaj aK.o.2 az;clear av bn;rcases hA with ⟨rfl,_⟩ | ⟨v2,g2,K2,X2,rfl,aD,aC,G⟩
 ·unfold mdv0;have HB:=qH (qbN (o:=.cells #[.int .i64 0,.int .i64 0,.slice none 0 0,.slice none 0 0,.slice none 0 0] 46) K9.o.1.1.1.1 qN);clear K9
  go_wp2_with (first | ((with_reducible refine qbZ rfl 46 _ _ rfl #[.int .i64 0,.int .i64 0,.slice none 0 0,.slice none 0 0,.slice none 0 0] #[.int .i64 0,.int .i64 0,.slice none 0 0,.slice none 0 0,.slice none 0 0] ?_ ?_ 5 ?_ ?_ ?_ ?_ ?_);(next=>rfl);(next=>rfl);(next=>kernel_rfl);(next=>rfl);(next=>rfl);(next=>rfl)) | fail)
  go_ret;exact⟨rfl,HB.o⟩
 have Z:=qlu (p:=y) (d:=d) (K:=K) (K2:=K2) (X:=X) (X2:=X2) (by have h:=I.o.1;rw [<-O.o.1] at h;exact h) (by rw [<-O.o.2,<-O.o.1] at G;exact G);have Y:K2.length=V:=by
  rw [<-I.o.2,Z.1];rw [<-O.o.2] at G;obtain⟨K0,X0,_,e0,_⟩:=G;rw [e0];exact qfS (qec _ _)
 rw [Y] at aD ⊢;have KA:=(K9.also (q:=fun W=>NatR W W7.heap.size g2 V V K2) aD).also (q:=fun W=>MdAt W v2 (mdX l k X2)) aC;obtain⟨k6,i6,B0,B1,B2,M0,D0,M1,D1,M2,D2,rfl⟩:=aC.five;have aj:=qH (fun (W:World) hM hP hN hT=>kcost F.o.1 F.o.2.1 HK.o I.o.1.fit I.o.1.up I.o.1.lt V I.o.2 m gp cp w4.heap.size g V F.o.2.2 (.agg #[.int .i64 k5,.int .i64 i5,.slice A0 L0 C0,.slice A1 L1 C1,.slice A2 L2 C2]) W hM hP hN hT);have ak:=qH (fun (W:World) hM hP hN hT=>kcost F.o.1 F.o.2.1 HK.o G.fit G.up G.lt V Y m gp cp W7.heap.size g2 V F.o.2.2 (.agg #[.int .i64 k6,.int .i64 i6,.slice B0 M0 D0,.slice B1 M1 D1,.slice B2 M2 D2]) W hM hP hN hT);have bq:=I.o.1.fit.sum F.o.1 F.o.2.1 HK.o I.o.1.up I.o.1.lt;have bu:=G.fit.sum F.o.1 F.o.2.1 HK.o G.up G.lt;have aa:=fun W=>cmpq_le bu bq Z.2.1 W
 have bv:=qH Z.2.2;obtain⟨q1,bg⟩:∃q,sumL (sqq (mdX l k X) l k) K=q:=⟨_,rfl⟩;obtain⟨q2,bi⟩:∃q,sumL (sqq (mdX l k X2) l k) K2=q:=⟨_,rfl⟩;rw [bg] at aj aa;rw [bi] at ak aa;obtain⟨s1,s2,aA⟩:=qco q1;obtain⟨t1,t2,aB⟩:=qco q2;rw [aA] at aj aa;rw [aB] at ak aa;have aI:=qH aa;have aL:=qH Y;clear bq bu aa bg bi aA aB Z G aD K9 Y;obtain⟨WB,aQ,NB⟩:=nw1 w8 #[.int .i64 k6,.int .i64 i6,.slice B0 M0 D0,.slice B1 M1 D1,.slice B2 M2 D2] 46;have KB:=(KA.below NB.o.1).also (q:=fun W=>W.heap[w8.heap.size]? = some (.cells #[.int .i64 k6,.int .i64 i6,.slice B0 M0 D0,.slice B1 M1 D1,.slice B2 M2 D2] 46 (0,0))) NB.o.2;clear aC NB KA
 go_upto_region 7 with (first | ((with_reducible refine qbZ rfl 46 _ _ rfl #[.int .i64 0,.int .i64 0,.slice none 0 0,.slice none 0 0,.slice none 0 0] #[.int .i64 k6,.int .i64 i6,.slice B0 M0 D0,.slice B1 M1 D1,.slice B2 M2 D2] ?_ ?_ 5 ?_ ?_ ?_ ?_ ?_);(next=>rfl);(next=>rfl);(next=>kernel_rfl);(next=>rfl);(next=>rfl);(next=>rfl)) | fail)
 rw [<-aQ];clear aQ;have aM:=qH (aj.o WB KB.o.1.1.1.1.2 KB.o.1.1.1.1.1.1.2 KB.o.1.1.1.1.1.2 (H0.o.2.1.below KB.o.1.1.1.1.1.1.1))
 go_wp2_with (first | (with_reducible refine lW_ rfl 46 _ rfl (w5.heap.size) #[.int .i64 k5,.int .i64 i5,.slice A0 L0 C0,.slice A1 L1 C1,.slice A2 L2 C2] KB.o.1.1.1.2 underlying46 5 ?_) | fail)
 refine aM.o.mono ?_;rintro e wC ⟨rfl,aU⟩;obtain⟨WD,aR,ND⟩:=nw1 wC #[.string s1,.string s2] 27;have KD:=((KB.below aU).below ND.o.1).also (q:=fun W=>W.heap[wC.heap.size]? = some (.cells #[.string s1,.string s2] 27 (0,0))) ND.o.2;clear aU ND aM KB aj
 go_upto_region 14 with (first | ((with_reducible refine qbZ rfl 27 _ _ rfl #[.string ⟨#[]⟩,.string ⟨#[]⟩] #[.string s1,.string s2] ?_ ?_ 2 ?_ ?_ ?_ ?_ ?_);(next=>rfl);(next=>rfl);(next=>kernel_rfl);(next=>rfl);(next=>rfl);(next=>rfl)) | fail)
 rw [<-aR];clear aR;have aN:=qH (ak.o WD KD.o.1.1.2 KD.o.1.1.1.1.1.1.1.2 KD.o.1.1.1.2 (H0.o.2.1.below KD.o.1.1.1.1.1.1.1.1))
 go_wp2_with (first | (with_reducible refine lW_ rfl 46 _ rfl (w8.heap.size) #[.int .i64 k6,.int .i64 i6,.slice B0 M0 D0,.slice B1 M1 D1,.slice B2 M2 D2] KD.o.1.2 underlying46 5 ?_) | fail)
 refine aN.o.mono ?_;rintro e wE ⟨rfl,aV⟩;obtain⟨WF,aS,NF⟩:=nw1 wE #[.string t1,.string t2] 27;have KF:=((KD.below aV).below NF.o.1).also (q:=fun W=>W.heap[wE.heap.size]? = some (.cells #[.string t1,.string t2] 27 (0,0))) NF.o.2;clear aV NF aN KD ak
 go_upto_region 15 with (first | ((with_reducible refine qbZ rfl 27 _ _ rfl #[.string ⟨#[]⟩,.string ⟨#[]⟩] #[.string t1,.string t2] ?_ ?_ 2 ?_ ?_ ?_ ?_ ?_);(next=>rfl);(next=>rfl);(next=>kernel_rfl);(next=>rfl);(next=>rfl);(next=>rfl)) | fail)
 rw [<-aS];clear aS;have y0:=qC _ _ 0 _ _ _ KF.o.1.2;have y1:=qC _ _ 1 _ _ _ KF.o.1.2;have z0:=qC _ _ 0 _ _ _ KF.o.2;have z1:=qC _ _ 1 _ _ _ KF.o.2;go_wp2_with fail;refine (aI.o WF).mono ?_;rintro e wG ⟨cz,rfl,bB,aW⟩;have bz:¬(0<cz):=by omega
 have KG:=KF.below aW;clear y0 y1 z0 z1 aW KF aI bB;have HQ:=qH (qhv g 0 V g2 0 V (natI K) (natI K2) V V wG (by rw [qcw];exact I.o.2) (by rw [qcw];exact aL.o) (by omega) (by omega) KG.o.1.1.1.1.1.1.1.2.all KG.o.1.1.1.1.2.all);go_wp2_with fail;refine HQ.o.mono ?_;rintro e wH ⟨rfl,aX⟩;have U:=KG.below aX;clear aX KG HQ bz
 by_cases af:natI K=natI K2
 ·have ai:(natI K == natI K2)=true:=by rw [af];exact beq_self_eq_true _
  have bC:=bv.o (qjZ af);rw [ai];have HS:=qH (ql9 _ _ _ _ wH U.o.1.1.1.1.1.1.2 U.o.1.1.1.2 (qjd F.o.1 HK.o) (qjd F.o.1 HK.o));clear ai af;have a0:=qC _ _ 0 _ _ _ U.o.1.1.2;have a1:=qC _ _ 1 _ _ _ U.o.1.1.2;have a2:=qC _ _ 2 _ _ _ U.o.1.1.2;have a3:=qC _ _ 3 _ _ _ U.o.1.1.2;have a4:=qC _ _ 4 _ _ _ U.o.1.1.2;have b0:=qC _ _ 0 _ _ _ U.o.1.1.1.1.1.2;have b1:=qC _ _ 1 _ _ _ U.o.1.1.1.1.1.2;have b2:=qC _ _ 2 _ _ _ U.o.1.1.1.1.1.2;have b3:=qC _ _ 3 _ _ _ U.o.1.1.1.1.1.2;have b4:=qC _ _ 4 _ _ _ U.o.1.1.1.1.1.2;go_wp2_with fail;refine HS.o.mono ?_;rintro e wI ⟨ok,rfl,J,aY⟩;obtain rfl:ok=true:=J.2 bC;have HB:=qH ((U.below aY).o.1.1.1.1.1.1.1.1.1);clear J aY HS U a0 a1 a2 a3 a4 b0 b1 b2 b3 b4;go_wp2;go_ret;exact⟨rfl,HB.o⟩
 ·have ai:(natI K == natI K2)=false:=beq_false_of_ne af;rw [ai];clear ai af;go_wp2;go_ret;exact⟨rfl,U.o.1.1.1.1.1.1.1.1.1⟩
