import Derived.Test.YtjalhnlhcdfncaaGreatDoorBo26
set_option maxRecDepth 100000
set_option maxHeartbeats 0
namespace Go.Proofs.YtjalhnlhcdfncaaGreatDoor
open Go.RowKit Go.Proofs.Tryz
def RRow (W:World) (g n:Nat) (x:Nat->Rat) (i:Nat):Prop:=∃cs:Array Value,W.heap[g]? = some (.cells cs 127 (0,0))/\cs.size=n*3/\(∀y∈cs.toList,∀z,y≠.int .u32 z)/\RCells W g i x
theorem RRow.below {W W':World} {g n i:Nat} {x:Nat->Rat} (h:RRow W g n x i) (E:Below W.heap.size W W'):RRow W' g n x i:=by
 obtain⟨cs,F,H,I,J⟩:=h;exact⟨cs,zkeep E _ _ F,H,I,J.below E⟩
theorem RRow.at {W:World} {g n i:Nat} {x:Nat->Rat} (h:RRow W g n x i) (I:i<n):(∃v0 F v2,W.cell? ⟨g,i*3,none⟩=some v0/\W.cell? ⟨g,i*3+1,none⟩=some F/\W.cell? ⟨g,i*3+2,none⟩=some v2)/\∀j,W.frozen? ⟨g,j,none⟩=false:=by
 obtain⟨cs,E,H,_,_⟩:=h;refine⟨⟨cs[i*3]'(by omega),cs[i*3+1]'(by omega),cs[i*3+2]'(by omega),?_,?_,?_⟩,fun j=>qF _ _ _ _ _ E⟩
 ·exact (qC _ _ _ _ _ _ E).trans (Array.getElem?_eq_getElem _)
 ·exact (qC _ _ _ _ _ _ E).trans (Array.getElem?_eq_getElem _)
 ·exact (qC _ _ _ _ _ _ E).trans (Array.getElem?_eq_getElem _)
theorem qkI {cs:Array Value} {k:Nat} {v y:Value} (h:y∈(cs.setIfInBounds k v).toList):y∈cs.toList\/y=v:=by
 rw [Array.toList_setIfInBounds] at h;exact List.mem_or_eq_of_mem_set h
theorem RRow.set {W:World} {g n i:Nat} {x:Nat->Rat} (h:RRow W g n x i) (Z:i<n) {a:Option Addr} {m c:Nat} {b:Bool} {d:Option Addr} {e f:Nat} (Y:RatV W (.agg #[.slice a m c,.bool b,.slice d e f]) (x i)) :
  RRow (((W.setCell ⟨g,i*3,none⟩ (.slice a m c)).setCell ⟨g,i*3+1,none⟩ (.bool b)).setCell ⟨g,i*3+2,none⟩ (.slice d e f)) g n x (i+1):=by
 obtain⟨cs,F,O,H,U⟩:=h;have J:W.grownBy (((W.setCell ⟨g,i*3,none⟩ (.slice a m c)).setCell ⟨g,i*3+1,none⟩ (.bool b)).setCell ⟨g,i*3+2,none⟩ (.slice d e f)) (some g):=qb5 (qb5 (qb7 W g (i*3) _) (qb7 _ g (i*3+1) _)) (qb7 _ g (i*3+2) _);have I:=heap_setCell_same _ g (i*3+2) _ _ (.slice d e f) (heap_setCell_same _ g (i*3+1) _ _ (.bool b) (heap_setCell_same _ g (i*3) _ _ (.slice a m c) F));refine⟨_,I,by simp [O],fun y hy z=>?_,⟨fun k V=>?_⟩⟩
 ·rcases qkI hy with hy | rfl
  ·rcases qkI hy with hy | rfl
   ·rcases qkI hy with hy | rfl
    ·exact H y hy z
    ·intro h;cases h
   ·intro h;cases h
  ·intro h;cases h
 ·have E:∀j,(((W.setCell ⟨g,i*3,none⟩ (.slice a m c)).setCell ⟨g,i*3+1,none⟩ (.bool b)).setCell ⟨g,i*3+2,none⟩ (.slice d e f)).cell? ⟨g,j,none⟩=(((cs.setIfInBounds (i*3) (.slice a m c)).setIfInBounds (i*3+1) (.bool b)).setIfInBounds (i*3+2) (.slice d e f))[j]?:=fun j=>qC _ _ _ _ _ _ I
  rcases qaB k i with hlt | hge
  ·obtain⟨a',m',c',b',d',e',f',g1,g2,g3,g4⟩:=U.cell k hlt;rw [qC _ _ _ _ _ _ F] at g1 g2 g3;refine⟨a',m',c',b',d',e',f',?_,?_,?_,g4.keep J F H⟩
   ·rw [E,qa5 (by omega),qa5 (by omega),qa5 (by omega)];exact g1
   ·rw [E,qa5 (by omega),qa5 (by omega),qa5 (by omega)];exact g2
   ·rw [E,qa5 (by omega),qa5 (by omega),qa5 (by omega)];exact g3
  ·obtain rfl:k=i:=by omega
   refine⟨a,m,c,b,d,e,f,?_,?_,?_,Y.keep J F H⟩
   ·rw [E,qa5 (by omega),qa5 (by omega),Array.getElem?_setIfInBounds_self_of_lt (by omega)]
   ·rw [E,qa5 (by omega),Array.getElem?_setIfInBounds_self_of_lt (by simp;omega)]
   ·rw [E,Array.getElem?_setIfInBounds_self_of_lt (by simp;omega)]
theorem infoRt:(Tryz.prog.info? 127).map (fun i=>(i.zero,i.size,i.bytes))=some (some (.agg #[.slice none 0 0,.bool false,.slice none 0 0]),3,56):=by kernel_rfl
theorem make_rts (n:Nat) (J:n<=1000) (w:World):(Instr.makeSlice 158 (.int .i64 (n:Int)) (.int .i64 (n:Int))).run prog w=.ok (.slice (some ⟨w.heap.size,0,none⟩) n n) (w.alloc (.cells (madeCells #[.slice none 0 0,.bool false,.slice none 0 0] (n*3)) 127)):=by
 obtain⟨i,I,E,F,H⟩:=info_parts infoRt;have h:=run_make (P:=prog) w 158 127 i _ underlying158 I E .i64 .i64 (n:Int) (n:Int) (by omega) (Int.le_refl _) (by rw [H];omega) (by omega);rw [F,qbO] at h;exact h
theorem RRow.made (W:World) (n:Nat) (x:Nat->Rat):RRow (W.alloc (.cells (madeCells #[.slice none 0 0,.bool false,.slice none 0 0] (n*3)) 127)) W.heap.size n x 0:=by
 refine⟨_,qM _ _ _ rfl,size_madeCells _ _,fun y hy z=>?_,⟨fun k E=>absurd E (qb1 _)⟩⟩;simp [madeCells] at hy;obtain⟨j,_,rfl⟩:=hy;rcases (show j % 3=0\/j % 3=1\/j % 3=2 by omega) with e | e | e <;> rw [e] <;> intro h <;> cases h
theorem qkX (b n c:Nat) (ao:Option Addr) (x:Nat->Rat) (w:World) (hn:n<=300) (hF:FCells w ao b 0 (told n x)) (hx:qb9 n x) (hs:Short (sumQ n x)) (hT:HasT w) :
  Calls prog 49 #[.slice ao n c] w fun e w'=>e=.returned (.tuple #[.agg #[.string (ftxt (sumQ n x)).1,.string (ftxt (sumQ n x)).2],.int .i64 0])/\Below w.heap.size w w':=by
 obtain⟨r1,r2,hr⟩:=qcW (sumQ n x);rw [hr];obtain⟨W1,Y,N1⟩:=nw1 w #[.string ⟨#[]⟩,.string ⟨#[]⟩] 27;have ae:W1.heap.size=w.heap.size+1:=by rw [Y];simp
 have ai:=make_rts n (by omega) W1;obtain⟨W2,J⟩:=qY (W1.alloc (.cells (madeCells #[.slice none 0 0,.bool false,.slice none 0 0] (n*3)) 127));rw [<-J,ae] at ai;have ak:RRow W2 (w.heap.size+1) n x 0:=by rw [J,<-ae];exact RRow.made W1 n x
 have Z:Below W1.heap.size W1 W2:=J▸qB.alloc qN _;have H0:=qH (qA (N1.o.1.trans (Z.mono N1.o.1.size)) (qA ak (zkeep Z _ _ N1.o.2)));have V:=qH (qA hF (qA hx (qA hs (qA hT hr))));have aA:¬(300:Int)<n:=by omega
 clear N1 ae ak Z hF hx hs hT hr J;go_enter func49,ntmps49;go_upto_region 1 with fail;rw [<-Y];clear Y;go_wp2_with fail;clear ai
 go_loopw [18] (fun x18 W=>∃i:Nat,x18=.int .i64 i/\i<=n/\Hu (Below w.heap.size w W/\RRow W (w.heap.size+1) n x i/\W.heap[w.heap.size]? = some (.cells #[.string ⟨#[]⟩,.string ⟨#[]⟩] 27 (0,0)))) (fun x18 _=>n-(intOf x18).toNat)
 case atStart=>exact⟨0,rfl,qaj _,H0⟩
 case round =>
  obtain⟨i,rfl,az,U⟩:=hrel
  by_cases hi:i<n
  ·have ay:(i:Int)<n:=by omega
   have ha:=V.o.1.addr (by rw [qcb];omega);subst ha;obtain⟨d0,d1⟩:=(V.o.1.below U.o.1).cell i (by rw [qcb];exact hi);rw [qed hi] at d0 d1;have F:=fun W=>readq (V.o.2.1 i hi) W
   obtain⟨t1,t2,ht⟩:=qcW (x i);rw [ht] at d0 d1 F;rw [qaT] at d0 d1;have F:=qH F;clear ht;go_wp2_with fail;refine (F.o _).mono ?_;rintro e w5 ⟨a0,m0,c0,b0,e0,e1,e2,rfl,hv,E,hb⟩;have O:Below wr.heap.size wr w5:=(qB.alloc qN _).trans (hb.mono (by simp only [qab];omega));have HN:=qH (qA (U.o.1.trans (O.mono U.o.1.size)) (qA (U.o.2.1.below O) (qA (zkeep O _ _ U.o.2.2) (qA hv E))));clear hv E hb O F;obtain⟨V6,ah,N6⟩:=nw1 w5 #[.slice a0 m0 c0,.bool b0,.slice e0 e1 e2] 127;obtain⟨⟨v0,v1,v2,q0,q1,q2⟩,qf⟩:=(HN.o.2.1.below N6.o.1).at hi;have aB:=qf (i*3);have aC:=qf (i*3+1);have aD:=qf (i*3+2);have HS:=qH (qA (HN.o.1.trans (N6.o.1.mono HN.o.1.size)) (qA ((HN.o.2.1.below N6.o.1).set hi (HN.o.2.2.2.1.below N6.o.1)) (zkeep N6.o.1 _ _ HN.o.2.2.1)));go_upto_region 10 with fail;rw [<-ah];clear ah;have y0:=qC _ _ 0 _ _ _ N6.o.2;have y1:=qC _ _ 1 _ _ _ N6.o.2;have y2:=qC _ _ 2 _ _ _ N6.o.2;have ax:i*3<n*3:=by omega
   clear qf N6;go_wp2;go_roundw
   case rel =>
    refine⟨i+1,by go_num,hi,qH ⟨((HS.o.1.setCell (p:=⟨w.heap.size+1,i*3,none⟩) (show w.heap.size<=w.heap.size+1 by omega) _).setCell (p:=⟨w.heap.size+1,i*3+1,none⟩) (show w.heap.size<=w.heap.size+1 by omega) _).setCell (p:=⟨w.heap.size+1,i*3+2,none⟩) (show w.heap.size<=w.heap.size+1 by omega) _,HS.o.2.1,?_⟩⟩;exact (qW _ _ _ _ (show w.heap.size≠w.heap.size+1 by omega)).trans ((qW _ _ _ _ (show w.heap.size≠w.heap.size+1 by omega)).trans ((qW _ _ _ _ (show w.heap.size≠w.heap.size+1 by omega)).trans HS.o.2.2))
   case measure=>simp [intOf];omega
  ·obtain rfl:i=n:=by omega
   have I:∀k,k<i->RFit (x k) 67:=fun k hk=>by
    have:=(qfU (V.o.2.1 k hk)).fit;rw [qeo] at this;exact this
   have aj:RCells wr (w.heap.size+1) i x:=by obtain⟨cs,_,_,_,h⟩:=U.o.2.1;exact h
   have af:=qH (qpf (w.heap.size+1) i i (some ⟨w.heap.size+1,0,none⟩) x wr (fun _=>rfl) hn I aj);have HI:=qH U.o;clear U I aj;go_wp2_with fail;refine af.o.mono ?_;rintro e w5 ⟨r,rfl,hb,hv,E⟩;obtain⟨a0,m0,c0,b0,e0,e1,e2,rfl⟩:=qdu hv;have HB:=qH (HI.o.1.trans (hb.mono HI.o.1.size));have ag:=qH (zkeep hb _ _ HI.o.2.2);have HW:=qH (qgy (sumQ i x) (68*i+1) (by omega) (by omega) _ w5 hv E (V.o.2.2.2.1.below HB.o));clear hb hv E af;go_wp2_with fail;refine HW.o.mono ?_;rintro e w6 ⟨h,aa⟩;have au:=qH (HB.o.trans (aa.mono HB.o.size));have H:=qH (zkeep aa _ _ ag.o);clear aa HW;rcases h with ⟨_,rfl⟩ | ⟨av,_⟩
   case inr=>exact absurd V.o.2.2.1 av
   rw [qe7,V.o.2.2.2.2];have HE:=qH (qA (qT _ _ _ #[.string r1,.string r2] _ _ H.o) (qS au.o qN #[.string r1,.string r2]))
   go_wp2_with ((with_reducible refine sR_ rfl 27 _ _ rfl (w.heap.size) #[.string r1,.string r2] H.o 2 ?_))
   exact qR (v:=.tuple #[.agg #[.string r1,.string r2],.int .i64 0]) (rB_ rfl w.heap.size HE.o.1 underlying27 2) rfl ⟨rfl,HE.o.2⟩
def Rises (K:List Int) (R i:Nat):Prop:=∀j,j<i->(0<=K.getD j 0/\K.getD j 0<(R:Int))/\(0<j->K.getD (j-1) 0<K.getD j 0)
theorem Rises.more {K:List Int} {R i:Nat} (h:Rises K R i) (E:0<=K.getD i 0/\K.getD i 0<(R:Int)) (F:0<i->K.getD (i-1) 0<K.getD i 0):Rises K R (i+1):=fun j H=>by
 rcases (show j<i\/j=i by omega) with h3 | rfl
 ·exact h j h3
 ·exact⟨E,F⟩
def CoAs (w:World) (m:Md) (l:List Pt) (K:List Int) (e:Ending) (w':World):Prop:=Below w.heap.size w w' /\
  ((∃c,e=.returned (.tuple #[.agg #[.string ⟨#[]⟩,.string ⟨#[]⟩],.int .i64 c])/\SqF m l c) \/
   ∃E,PtsOk l/\MdOk m E (chans l)/\qb9 l.length (sqq m l E) /\
    ((¬Rises K l.length K.length/\e=.returned (.tuple #[.agg #[.string ⟨#[]⟩,.string ⟨#[]⟩],.int .i64 2])) \/
     (Rises K l.length K.length/\e=.returned (.tuple #[.agg #[.string (ftxt (sumQ K.length fun i=>sqq m l E (K.getD i 0).toNat)).1,.string (ftxt (sumQ K.length fun i=>sqq m l E (K.getD i 0).toNat)).2],.int .i64 0]))))
theorem qjd (R b off c n kb ko kc:Nat) (ao ka:Option Addr) (m:Md) (v:Value) (l:List Pt) (K:List Int) (w:World) (hM:MdAt w v m) (hR:l.length=R) (hl:R<=1000) (hs:∀k,k<R->(l.getD k pt0).name.size<=4611686018427387904/\(l.getD k pt0).dev.length<=4611686018427387904) (aI:∀q,q<3->(m.row q).length<=4611686018427387904)
  (hn:K.length=n) (aW:n<=300) (hP:PCells w ao b off l) (hK:NCells w ka kb ko K) (hT:HasT w)
  (ag:∀Z,MdOk m Z (chans l)->qb9 l.length (sqq m l Z)->Rises K R n->Short (sumQ n fun i=>sqq m l Z (K.getD i 0).toNat)) :
  Calls prog 20 #[v,.slice ao R c,.slice ka n kc] w fun e w'=>CoAs w m l K e w':=by
 obtain⟨k5,i5,A0,A1,A2,L0,C0,L1,C1,L2,C2,rfl⟩:=hM.five;obtain⟨W1,ai,N1⟩:=nw2 w #[.int .i64 k5,.int .i64 i5,.slice A0 L0 C0,.slice A1 L1 C1,.slice A2 L2 C2] 46 #[.string ⟨#[]⟩,.string ⟨#[]⟩] 27;have aL:W1.heap.size=w.heap.size+1+1:=by rw [ai];simp
 have HQ:=qH (qhL m _ R b off c ao l W1 (hM.below N1.o.1) hR (by omega) hs aI (hP.below N1.o.1) (hT.below N1.o.1));have H:=qH (qA hR (qA hn (qA hK (qA hT (qA ag aL)))));have aK:=N1.o.2.1;clear hM hP hR hs aI hn hK hT ag aL;go_enter func20,ntmps20;go_upto_region 1 with fail;rw [<-ai];clear ai
 go_wp2_with (first | (with_reducible refine lW_ rfl 46 _ rfl (w.heap.size) #[.int .i64 k5,.int .i64 i5,.slice A0 L0 C0,.slice A1 L1 C1,.slice A2 L2 C2] aK underlying46 5 ?_) | fail)
 refine HQ.o.mono ?_;rintro e w2 ⟨aj,h⟩;have ay:=qH aj;have af:=zkeep aj _ _ N1.o.2.2;clear HQ aK aj;rcases h with ⟨v2,rfl,hG⟩ | ⟨cc,rfl,hf⟩
 case inr =>
  have aX:(cc == (0:Int))=false:=beq_false_of_ne hf.ne;have bq:(cc != (0:Int))=true:=by rw [bne,aX];rfl
  have aR:=qH hf;clear hf
  go_wp2_with (first | (with_reducible refine sR_ rfl 27 _ _ rfl (w.heap.size+1) #[.string ⟨#[]⟩,.string ⟨#[]⟩] af 2 ?_) | fail)
  refine qR (v:=.tuple #[.agg #[.string ⟨#[]⟩,.string ⟨#[]⟩],.int .i64 cc]) (rB_ rfl (w.heap.size+1) (qT _ _ _ _ _ _ af) underlying27 2) rfl ?_;exact⟨qS (N1.o.1.trans (ay.o.mono N1.o.1.size)) (qbf _) _,.inl ⟨cc,rfl,aR.o⟩⟩
 obtain⟨aJ,Z,aH,aM,g2,rfl,ae⟩:=hG;have J:=qH (qA aJ (qA aH aM));obtain⟨sq,ax⟩:=qX (sqq m l Z);rw [ax] at ae;rw [H.o.1] at ae ⊢;have HS:=qH ax;obtain⟨f,hf⟩:∃f:Nat->Rat,(fun i=>sq (K.getD i 0).toNat)=f:=⟨_,rfl⟩;have aa:=qH hf;have K2:Kn (fun W=>(Below W1.heap.size W1 W/\W.heap[w.heap.size+1]? = some (.cells #[.string ⟨#[]⟩,.string ⟨#[]⟩] 27 (0,0)))/\FCells W (some ⟨g2,0,none⟩) g2 0 (told R sq)) w2:=.of ⟨⟨ay.o,af⟩,ae⟩;clear aJ aH aM ax hf ae af;go_wp2_with fail
 go_loopw [10,25] (fun x10 x25 W=>∃i:Nat,x25=.int .i64 (i:Int)/\i<=n/\Hu (Rises K R i)/\Kn (fun W=>((Below W1.heap.size W1 W/\W.heap[w.heap.size+1]? = some (.cells #[.string ⟨#[]⟩,.string ⟨#[]⟩] 27 (0,0)))/\FCells W (some ⟨g2,0,none⟩) g2 0 (told R sq))/\Below w2.heap.size w2 W/\Rws W w2.heap.size 27 2 x10 i (fflat (told i f))) W) (fun _ x25 _=>n-(intOf x25).toNat)
 case atStart=>exact⟨0,rfl,qaj _,qH fun j hj=>absurd hj (qb1 j),.of ⟨K2.o,Below.refl _ _,Rws.nil _ _ _ _⟩⟩
 case round =>
  obtain⟨i,rfl,hi,O,K3⟩:=hrel;have F:=K3.o.1.1.2;have I:=qH (N1.o.1.trans (K3.o.1.1.1.mono N1.o.1.size))
  by_cases au:i<n
  case neg =>
   obtain rfl:i=n:=by omega
   have aU:¬(i:Int)<(i:Int):=by omega
   obtain⟨aS,g3,aB,rfl,aD,_⟩:=qdD K3.o.2.2 (qcb _ _);have aG:qb9 i f:=fun j hj=>by
    have h:=(O.o j hj).1;have h2:=J.o.2.2 ((K.getD j 0).toNat) (by rw [H.o.1];omega);rw [HS.o] at h2;rw [<-aa.o];exact h2
   have aN:Short (sumQ i f):=by
    have h:=H.o.2.2.2.2.1 Z J.o.2.1 J.o.2.2 O.o;rw [HS.o] at h;rw [<-aa.o];exact h
   obtain⟨r1,r2,hr⟩:=qcW (sumQ i f);have U:=qkX g3 i aB aS f wr aW aD aG aN (H.o.2.2.2.1.below I.o);rw [hr] at U;have aA:=qH U;have HX:=qH hr;clear aG aN aD U hr;go_wp2_with fail;refine aA.o.mono ?_;rintro e w9 ⟨rfl,ak⟩;have aP:=zkeep ak _ _ F;have aQ:=qH (I.o.trans (ak.mono I.o.size));clear ak aA F
   go_wp2_with (first | (with_reducible refine sR_ rfl 27 _ _ rfl (w.heap.size+1) #[.string r1,.string r2] aP 2 ?_) | fail)
   refine qR (v:=.tuple #[.agg #[.string r1,.string r2],.int .i64 0]) (rB_ rfl (w.heap.size+1) (qT _ _ _ _ _ _ aP) underlying27 2) rfl ?_;refine⟨qS aQ.o (qbf _) _,.inr ⟨Z,J.o.1,J.o.2.1,J.o.2.2,.inr ⟨by rw [H.o.1,H.o.2.1];exact O.o,?_⟩⟩⟩;rw [H.o.2.1,HS.o,aa.o,HX.o]
  have aU:(i:Int)<(n:Int):=by omega
  have aV:=H.o.2.2.1.addr (by rw [H.o.2.1];omega);subst aV;have ck:∀j,j<n->wr.cell? ⟨kb,ko+j,none⟩=some (.int .i64 (K.getD j 0)):=fun j hj=>(H.o.2.2.1.below I.o).cell j (by rw [H.o.2.1];exact hj)
  have aC:=ck i au;obtain⟨z,hz⟩:=qX (K.getD i 0);rw [hz] at aC;have HZ:=qH hz;have E:∀{P:Prop},(Rises K R (i+1)->P)->Rises K R n->P:=fun h1 h2=>h1 fun j hj=>h2 j (by omega)
  clear hz
  by_cases bi:z<0
  ·have HN:Hu (¬Rises K l.length K.length):=qH (by rw [H.o.1,H.o.2.1];exact E fun h=>by have:=(h i (qbU i)).1;rw [HZ.o] at this;omega);clear E ck
   go_wp2_with (first | (with_reducible refine sR_ rfl 27 _ _ rfl (w.heap.size+1) #[.string ⟨#[]⟩,.string ⟨#[]⟩] F 2 ?_) | fail)
   refine qR (v:=.tuple #[.agg #[.string ⟨#[]⟩,.string ⟨#[]⟩],.int .i64 2]) (rB_ rfl (w.heap.size+1) (qT _ _ _ _ _ _ F) underlying27 2) rfl ?_;exact⟨qS I.o (qbf _) _,.inr ⟨Z,J.o.1,J.o.2.1,J.o.2.2,.inl ⟨HN.o,rfl⟩⟩⟩
  by_cases bn:z≥(R:Int)
  ·have HN:Hu (¬Rises K l.length K.length):=qH (by rw [H.o.1,H.o.2.1];exact E fun h=>by have:=(h i (qbU i)).1;rw [HZ.o] at this;omega);clear E ck
   go_wp2_with (first | (with_reducible refine sR_ rfl 27 _ _ rfl (w.heap.size+1) #[.string ⟨#[]⟩,.string ⟨#[]⟩] F 2 ?_) | fail)
   refine qR (v:=.tuple #[.agg #[.string ⟨#[]⟩,.string ⟨#[]⟩],.int .i64 2]) (rB_ rfl (w.heap.size+1) (qT _ _ _ _ _ _ F) underlying27 2) rfl ?_;exact⟨qS I.o (qbf _) _,.inr ⟨Z,J.o.1,J.o.2.1,J.o.2.2,.inl ⟨HN.o,rfl⟩⟩⟩
  obtain⟨x,rfl⟩:∃x:Nat,z=(x:Int):=⟨z.toNat,by omega⟩;have aO:x<R:=by omega
  have bg:(x:Int)<(R:Int):=by omega
  obtain⟨d0,d1⟩:=K3.o.1.2.cell x (by rw [qcb];exact aO);rw [qed aO] at d0 d1;obtain⟨x1,x2,hx⟩:=qcW (sq x);rw [hx,qaT] at d0 d1;have aF:told (i+1) f=told i f++[(x1,x2)]:=by
   rw [qe3,<-aa.o]
   show _++[ftxt (sq (K.getD i 0).toNat)]=_
   rw [HZ.o,qbO,hx]
  have az:=qH aF;have HX:=qH hx;clear aF hx;rcases i with _ | Y
  ·have ah:Hu (Rises K R (0+1)):=qH (O.o.more (by rw [HZ.o];omega) fun h=>absurd h (by decide));rw [qbt] at aC;clear E ck F
   go_wp2_with (first | (at_builtin;refine qeI rfl _ _ rfl K3.o.2.1 rfl K3.o.2.2 rfl rfl rfl (by omega) ?_;intro v' w' av V) | fail)
   go_roundw
   case rel=>exact⟨1,by go_num,au,ah,.of ⟨(K2.below V.o).o,V.o,by rw [az.o];exact av.o⟩⟩
   case measure=>simp [intOf] <;> omega
  obtain⟨y,hy⟩:=qX (K.getD Y 0);have aT:=ck Y (by omega);rw [hy] at aT;have p0:(0:Int)<=(Y:Int):=by omega
  have p1:(Y:Int)<(n:Int):=by omega
  have aY:(0:Int)<(Y:Int)+1:=by omega
  have bf:IntKind.i64.wrap (Y:Int)=(Y:Int):=by rw [IntKind.wrap_i64];omega
  by_cases aZ:(x:Int)<=y
  ·have HN:Hu (¬Rises K l.length K.length):=qH (by
    rw [H.o.1,H.o.2.1];exact E fun h=>by
     have:=(h (Y+1) (qbU _)).2 (Nat.succ_pos _);rw [HZ.o,qbR,hy] at this;omega)
   clear E ck hy
   go_wp2_with (first | (with_reducible refine sR_ rfl 27 _ _ rfl (w.heap.size+1) #[.string ⟨#[]⟩,.string ⟨#[]⟩] F 2 ?_) | fail)
   refine qR (v:=.tuple #[.agg #[.string ⟨#[]⟩,.string ⟨#[]⟩],.int .i64 2]) (rB_ rfl (w.heap.size+1) (qT _ _ _ _ _ _ F) underlying27 2) rfl ?_;exact⟨qS I.o (qbf _) _,.inr ⟨Z,J.o.1,J.o.2.1,J.o.2.2,.inl ⟨HN.o,rfl⟩⟩⟩
  ·have ah:Hu (Rises K R (Y+1+1)):=qH (O.o.more (by rw [HZ.o];omega) fun _=>by rw [HZ.o,qbR,hy];omega);clear E ck F hy
   go_wp2_with (first | (at_builtin;refine qeI rfl _ _ rfl K3.o.2.1 rfl K3.o.2.2 rfl rfl rfl (by omega) ?_;intro v' w' av V) | fail)
   go_roundw
   case rel=>exact⟨Y+1+1,by go_num,au,ah,.of ⟨(K2.below V.o).o,V.o,by rw [az.o];exact av.o⟩⟩
   case measure=>simp [intOf] <;> omega
theorem FitF.not {l:List Pt} {k:Nat} {K:List Nat} {X:Nat->Nat->Rat} {c:Int} (U:PtsOk l) (V:1<=k/\k<=3) (O:¬(k=3/\chans l=4)) (F:KFit l k K X) (I:∀c,c<3->qb9 (many k (chans l)) (X c)):¬FitF l (k:Int) (keepW K l.length) c:=by
 have E:qdy (k:Int) k:=⟨rfl,V⟩;rintro (⟨h,_⟩ | ⟨_,h,_⟩ | ⟨_,_,_,k',H,h⟩)
 ·exact h U
 ·exact h ⟨⟨k,E⟩,qeP _ _,keepW_ok _ _⟩
 ·obtain rfl:=E.uniq H;rcases h with ⟨a,b,_⟩ | ⟨_,⟨h,_⟩ | ⟨_,c,x,J,hx,Y,_⟩⟩
  ·exact O ⟨a,b⟩
  ·exact F.1 h
  ·exact Y ((I c J).congr (qcZ.uniq (fun I=>F.1 (qgs I)) (F.2 c J) hx))
theorem SqF.not {m:Md} {k:Nat} {l:List Pt} {c:Int} (H:PtsOk l) (E:MdOk m k (chans l)) (I:qb9 l.length (sqq m l k)):¬SqF m l c:=by
 rintro (⟨h,_⟩ | ⟨_,h,_⟩ | ⟨_,_,h,_⟩ | ⟨_,_,k',F,h⟩)
 ·exact h ⟨_,_,E⟩
 ·exact h H
 ·exact h E.inn.1
 ·obtain rfl:=(E.uniq F).1;exact h I
theorem RunF.not {l:List Pt} {k keep E:Nat} {c:Int} (I:PtsOk l) (Z:1<=k/\k<=3) (U:¬(k=3/\chans l=4))
  (h:∀p,p<=E->∃K X,Runs l k keep p K X/\(∀c,c<3->qb9 (many k (chans l)) (X c))/\(p<E->qb9 l.length (sqq (mdX l k X) l k))):¬RunF l k keep E c:=by
 rintro (F | ⟨p,K,X,hp,O,F⟩)
 ·obtain⟨K,X,O,hs,_⟩:=h 0 (qaj _);rw [<-O.1] at F;exact FitF.not I Z U O.2 hs F
 ·obtain⟨K0,X0,J,af,ae⟩:=h p (qan hp);obtain⟨ah,aa⟩:=O.uniq J;rw [aa] at F;rcases F with F | F
  ·exact SqF.not I (mdq_ok Z I.n1 I.n4 U af) (ae hp) F
  ·obtain⟨K1,X1,⟨K2,X2,V,H,Y⟩,ag,_⟩:=h (p+1) hp;rw [(V.uniq J).2] at H;rw [<-H] at F;exact FitF.not I Z U Y ag F
theorem qdS.uniq {k d p F E H:Nat} (h:qdS (k:Int) (d:Int) (p:Int) F E H):F=k/\E=d/\H=p:=by
 obtain⟨I,_,J,_,O,_⟩:=h;omega
theorem RFAs.only {w w':World} {l:List Pt} {k d p:Nat} {e:Ending} {K:List Nat} {X:Nat->Nat->Rat} (h:RFAs w l (k:Int) (d:Int) (p:Int) e w') (J:PtsOk l) (Y:1<=k/\k<=3) (U:d<=50) (hp:p<=8)
  (O:Runs l k (keepN l.length d) p K X) (F:∀c,¬RunF l k (keepN l.length d) p c):Below w.heap.size w w' /\
  ∃v g,e=.returned (.tuple #[v,.slice (some ⟨g,0,none⟩) K.length K.length,.int .i64 0])/\NatR w' w.heap.size g K.length K.length K/\MdAt w' v (mdX l k X):=by
 refine⟨h.1,?_⟩;rcases h.2 with ⟨h,_⟩ | ⟨_,h,_⟩ | ⟨_,k',d',p',I,hr⟩
 ·exact absurd J h
 ·exact absurd ⟨k,d,p,rfl,Y,rfl,U,rfl,hp⟩ h
 ·obtain⟨rfl,rfl,rfl⟩:=I.uniq;rcases hr.2 with ⟨c,_,_,V⟩ | ⟨v,g,K',m,he,hN,H,X',E,rfl,_⟩
  ·exact absurd V (F c)
  ·obtain⟨rfl,Z⟩:=E.uniq O;rw [Z] at H;exact⟨v,g,he,hN,H⟩
theorem RFAs.bad {w w':World} {l:List Pt} {kind drop E:Int} {e:Ending} (h:RFAs w l kind drop E e w') (H:PtsOk l) (F:¬∃k d p,qdS kind drop E k d p):Below w.heap.size w w'/\e=.returned (.tuple #[mdv0,.slice none 0 0,.int .i64 2]):=by
 refine⟨h.1,?_⟩;rcases h.2 with ⟨h,_⟩ | ⟨_,_,h⟩ | ⟨_,k',d',p',h,_⟩
 ·exact absurd H h
 ·exact h
 ·exact absurd ⟨k',d',p',h⟩ F
theorem CoAs.only {w w':World} {m:Md} {k:Nat} {l:List Pt} {K:List Int} {e:Ending} (h:CoAs w m l K e w') (H:PtsOk l) (F:MdOk m k (chans l)) (J:qb9 l.length (sqq m l k)):Below w.heap.size w w' /\
    ((¬Rises K l.length K.length/\e=.returned (.tuple #[.agg #[.string ⟨#[]⟩,.string ⟨#[]⟩],.int .i64 2])) \/
     (Rises K l.length K.length/\e=.returned (.tuple #[.agg #[.string (ftxt (sumQ K.length fun i=>sqq m l k (K.getD i 0).toNat)).1,.string (ftxt (sumQ K.length fun i=>sqq m l k (K.getD i 0).toNat)).2],.int .i64 0]))):=by
  refine⟨h.1,?_⟩;rcases h.2 with ⟨c,_,I⟩ | ⟨kk,_,E,_,h⟩
  · exact absurd I (SqF.not H F J)
  · obtain rfl:=(F.uniq E).1;exact h
theorem qie:qb9 5 (sqq (mdX line5 1 linX0) line5 1):=fun i E=>by
 rw [qkG i E];rcases (show i=0\/i=1\/i=2\/i=3\/i=4 by omega) with rfl | rfl | rfl | rfl | rfl <;> exact qdM (N:=10000) ⟨by decide +kernel,by decide +kernel⟩ (by decide +kernel)
theorem qif:qb9 5 (sqq (mdX line5 1 linX1) line5 1):=fun i E=>by
 rw [qn5 i E];rcases (show i=0\/i=1\/i=2\/i=3\/i=4 by omega) with rfl | rfl | rfl | rfl | rfl <;> exact qdM (N:=10000) ⟨by decide +kernel,by decide +kernel⟩ (by decide +kernel)
theorem lin_no (keep:Nat) (c:Int):¬RunF line5 1 keep 0 c:=RunF.not qeR (by decide) (by decide) fun p F=>by
 obtain rfl:p=0:=by omega
 exact⟨_,_,qid keep,fun c E=>(qjt c E).2,fun h=>absurd h (by decide)⟩
theorem lin_no4 (c:Int):¬RunF line5 1 4 1 c:=RunF.not qeR (by decide) (by decide) fun p F=>by
 rcases (show p=0\/p=1 by omega) with rfl | rfl
 ·exact⟨_,_,qid 4,fun c E=>(qjt c E).2,fun _=>qie⟩
 ·exact⟨_,_,lin_r1,fun c E=>(qn7 c E).2,fun h=>absurd h (by decide)⟩
theorem lin_no5 (c:Int):¬RunF line5 1 5 1 c:=RunF.not qeR (by decide) (by decide) fun p F=>by
 rcases (show p=0\/p=1 by omega) with rfl | rfl
 ·exact⟨_,_,qid 5,fun c E=>(qjt c E).2,fun _=>qie⟩
 ·exact⟨_,_,lin_r5,fun c E=>(qjt c E).2,fun h=>absurd h (by decide)⟩
theorem qfd:∀k,k<5->(line5.getD k pt0).name.size<=4611686018427387904/\(line5.getD k pt0).dev.length<=4611686018427387904:=qoA qeR rfl
theorem qkE (W:World) (b c d p:Nat) {K:List Nat} {X:Nat->Nat->Rat} (F:PCells W (some ⟨b,0,none⟩) b 0 line5) (hT:HasT W) (I:d<=50) (J:p<=8) (H:Runs line5 1 (keepN 5 d) p K X) (E:∀c,¬RunF line5 1 (keepN 5 d) p c) :
  Calls prog 22 #[.slice (some ⟨b,0,none⟩) 5 c,.int .i64 1,.int .i64 (d:Int),.int .i64 (p:Int)] W fun e w'=>Below W.heap.size W w' /\
   ∃v g,e=.returned (.tuple #[v,.slice (some ⟨g,0,none⟩) K.length K.length,.int .i64 0])/\NatR w' W.heap.size g K.length K.length K/\MdAt w' v (mdX line5 1 X) :=
 (qjU 5 b 0 c 1 d p (some ⟨b,0,none⟩) line5 W rfl (by decide) (fun _=>by decide) qfd F hT).mono fun _ _ h=>RFAs.only (k:=1) h qeR (by decide) I J H E
theorem qjJ {s E:Nat->Rat} {n:Nat} (h:∀i,i<n->s i=E i):qce s n=qce E n:=qhg fun a F b H=>by rw [h a (qaq.1 F),h b (qaq.1 H)]
theorem qdO {R:Nat} {x:Nat->Rat} {z:Int} (h:ExIs (told R x) z) (hx:qb9 R x) (E:R<=40):z=0:=by
 rcases h with ⟨h,_⟩ | ⟨_,h,_⟩ | ⟨_,_,h⟩
 ·rw [qcb] at h;omega
 ·exact absurd (qdp hx) h
 ·exact h
theorem OrdAs.only {w w':World} {x:Nat->Rat} {R:Nat} {e:Ending} (h:OrdAs w (told R x) e w') (hx:qb9 R x) (E:R<=40):Below w.heap.size w w' /\
  ∃g,e=.returned (.tuple #[.slice (some ⟨g,0,none⟩) R R,.int .i64 0])/\NatR w' w.heap.size g R R (qce x R):=by
 refine⟨h.1,?_⟩;rcases h.2 with ⟨z,H,he,_⟩ | ⟨_,g,he,hN⟩
 ·exact absurd (qdO he hx E) H
 ·rw [qcb] at he hN;have:qce (lval (told R x)) R=qce x R:=qjJ fun i F=>qdf F
  rw [this] at hN;exact⟨g,he,hN⟩
theorem qfH.much {w w':World} {x:Nat->Rat} {R:Nat} {m:Int} {e:Ending} (h:qfH w (told R x) m e w') (hx:qb9 R x) (E:R<=40) (H:¬(0<=m/\m<=R)):Below w.heap.size w w'/\e=.returned (.tuple #[.slice none 0 0,.int .i64 2]):=by
 refine⟨h.1,?_⟩;rcases h.2 with ⟨z,I,he,_⟩ | ⟨_,_,he⟩ | ⟨_,g,j,J,F,_⟩
 ·exact absurd (qdO he hx E) I
 ·exact he
 ·rw [qcb] at F;exact absurd ⟨by omega,by omega⟩ H
theorem qi3 {E:List Int} {n:Nat} (h:∀z∈E,z.natAbs<=10000) (I:E.length=n):qb9 n (zq E):=fun i H=>by
 have F:E.getD i 0∈E:=by rw [qaa,qac (by omega)];exact qbz (by omega)
 exact qdM (N:=10000) ⟨by show ((E.getD i 0:Int):Rat).num.natAbs<=10000;rw [Rat.num_intCast];exact h _ F,by show ((E.getD i 0:Int):Rat).den<=10000;rw [Rat.den_intCast];decide⟩ (by decide +kernel)
theorem ord_3121:qce (zq [3,1,2,1]) 4=[1,3,2,0]:=by decide +kernel
theorem qnd:bestL (zq [3,1,2,1]) 4 2=[1,3]:=by decide +kernel
theorem qkF:MdOk (mdX line5 1 linX1) 1 (chans line5):=mdq_ok (by decide) (by decide) (by decide) (by decide) fun c E=>(qn7 c E).2
theorem qn6:(sumQ 1 fun i=>sqq (mdX line5 1 linX1) line5 1 (([2]:List Int).getD i 0).toNat)=1600:=by
 show 0+sqq (mdX line5 1 linX1) line5 1 2=1600
 rw [qn5 2 (by decide)]
 decide +kernel
theorem qlu:∀q,q<3->((mdX line5 1 linX1).row q).length<=4611686018427387904:=fun q E=>by
 unfold mdX;rw [qhq E,qcb]
 decide
theorem lin_cost (W:World) (v:Value) (b c g E:Nat) (I:MdAt W v (mdX line5 1 linX1)) (J:PCells W (some ⟨b,0,none⟩) b 0 line5) (H:NCells W (some ⟨g,0,none⟩) g 0 [2]) (hT:HasT W) :
  Calls prog 20 #[v,.slice (some ⟨b,0,none⟩) 5 c,.slice (some ⟨g,0,none⟩) 1 E] W fun e w'=>e=.returned (.tuple #[.agg #[.string (ftxt 1600).1,.string (ftxt 1600).2],.int .i64 0])/\Below W.heap.size W w':=by
 refine (qjd 5 b 0 c 1 g 0 E (some ⟨b,0,none⟩) (some ⟨g,0,none⟩) _ v line5 [2] W I rfl (by decide) qfd qlu rfl (by decide) J H hT fun Z V _ _=>?_).mono fun e w' h=>?_
 ·obtain rfl:=(qkF.uniq V).1;rw [qn6];exact qdM (N:=10000) ⟨by decide +kernel,by decide +kernel⟩ (by decide +kernel)
 ·obtain⟨O,⟨Y,_⟩ | ⟨_,he⟩⟩:=CoAs.only h qeR qkF qif
  ·exact absurd (fun j U=>by
    obtain rfl:j=0:=by have:j<1:=U;omega
    exact⟨by decide,fun h=>absurd h (by decide)⟩) Y
  ·have F:(sumQ ([2]:List Int).length fun i=>sqq (mdX line5 1 linX1) line5 1 (([2]:List Int).getD i 0).toNat)=1600:=qn6;rw [F] at he;exact⟨he,O⟩
theorem qjs (W:World) (v:Value) (b c g F:Nat) (I:MdAt W v (mdX line5 1 linX1)) (J:PCells W (some ⟨b,0,none⟩) b 0 line5) (H:NCells W (some ⟨g,0,none⟩) g 0 [2,1]) (hT:HasT W) :
  Calls prog 20 #[v,.slice (some ⟨b,0,none⟩) 5 c,.slice (some ⟨g,0,none⟩) 2 F] W fun e w'=>e=.returned (.tuple #[.agg #[.string ⟨#[]⟩,.string ⟨#[]⟩],.int .i64 2])/\Below W.heap.size W w':=by
 have E:¬Rises [2,1] 5 2:=fun h=>absurd ((h 1 (by decide)).2 (by decide)) (by decide)
 refine (qjd 5 b 0 c 2 g 0 F (some ⟨b,0,none⟩) (some ⟨g,0,none⟩) _ v line5 [2,1] W I rfl (by decide) qfd qlu rfl (by decide) J H hT fun V U _ h=>absurd h E).mono fun e w' h=>?_
 obtain⟨O,⟨_,he⟩ | ⟨h,_⟩⟩:=CoAs.only h qeR qkF qif
 ·exact⟨he,O⟩
 ·exact absurd h E
theorem qd1 {W:World} {B:Nat} {v:Value} (h:PaOwn W B v line5):∃g c,v=.slice (some ⟨g,0,none⟩) 5 c/\PCells W (some ⟨g,0,none⟩) g 0 line5 :=
 h.cells (by decide) fun j E=>by
  have E:j<5:=E;rcases (show j=0\/j=1\/j=2\/j=3\/j=4 by omega) with rfl | rfl | rfl | rfl | rfl <;> decide
theorem qig:List.range line5.length=[0,1,2,3,4]:=by decide
theorem ex_f1 (W:World) (b c:Nat) (E:PCells W (some ⟨b,0,none⟩) b 0 line5) (hT:HasT W):Calls prog 22 #[.slice (some ⟨b,0,none⟩) 5 c,.int .i64 1,.int .i64 20,.int .i64 1] W fun e w'=>Below W.heap.size W w' /\
  ∃v g,e=.returned (.tuple #[v,.slice (some ⟨g,0,none⟩) 4 4,.int .i64 0])/\NatR w' W.heap.size g 4 4 [0,1,3,4]/\MdAt w' v (mdX line5 1 linX1) :=
 qkE W b c 20 1 E hT (by decide) (by decide) lin_r1 lin_no4
theorem ex_f2 (W:World) (b c:Nat) (E:PCells W (some ⟨b,0,none⟩) b 0 line5) (hT:HasT W):Calls prog 22 #[.slice (some ⟨b,0,none⟩) 5 c,.int .i64 1,.int .i64 19,.int .i64 1] W fun e w'=>Below W.heap.size W w' /\
  ∃v g,e=.returned (.tuple #[v,.slice (some ⟨g,0,none⟩) 5 5,.int .i64 0])/\NatR w' W.heap.size g 5 5 [0,1,2,3,4]/\MdAt w' v (mdX line5 1 linX0):=by
 have h:=qkE W b c 19 1 E hT (by decide) (by decide) lin_r5 lin_no5;rw [qig] at h;exact h
theorem ex_f3 (W:World) (b c:Nat) (E:PCells W (some ⟨b,0,none⟩) b 0 line5) (hT:HasT W):Calls prog 22 #[.slice (some ⟨b,0,none⟩) 5 c,.int .i64 1,.int .i64 20,.int .i64 0] W fun e w'=>Below W.heap.size W w' /\
  ∃v g,e=.returned (.tuple #[v,.slice (some ⟨g,0,none⟩) 5 5,.int .i64 0])/\NatR w' W.heap.size g 5 5 [0,1,2,3,4]/\MdAt w' v (mdX line5 1 linX0):=by
 have h:=qkE W b c 20 0 E hT (by decide) (by decide) (qid 4) (lin_no 4);rw [qig] at h;exact h
theorem ex_f4 (W:World) (b c:Nat) (E:PCells W (some ⟨b,0,none⟩) b 0 line5) (hT:HasT W):Calls prog 22 #[.slice (some ⟨b,0,none⟩) 5 c,.int .i64 1,.int .i64 51,.int .i64 1] W fun e w'=>Below W.heap.size W w'/\e=.returned (.tuple #[mdv0,.slice none 0 0,.int .i64 2]) :=
 (qjU 5 b 0 c 1 51 1 (some ⟨b,0,none⟩) line5 W rfl (by decide) (fun _=>by decide) qfd E hT).mono fun _ _ h=>h.bad qeR fun⟨k,d,p,_,_,h,F,_⟩=>by omega
section
variable {P:Program} {ops:Array Oper} {Q:Exit->Act->World->Prop} {md:Region.Mode} {S:World->Prop}
theorem qnD {L M:Nat->Bool} (h:∀k,L k=true->M k=true) {i:Nat} (F:Region.free md ops (arr ops.size L) i=true):Region.free md ops (arr ops.size M) i=true:=by
 unfold Region.free at F ⊢;cases e:ops[i]? with
 | none=>rw [e] at F;exact F
 | some oi =>
  rw [e] at F;refine qaC.2 fun j I=>?_
  have E:=(qaC.1 F) j I;have H:=qaq.1 I;rw [qbc,qbc,qgm,if_pos H] at E ⊢;rcases E with (E | E) | E
  ·exact .inl (.inl E)
  ·exact .inl (.inr (h j E))
  ·exact .inr E
def growY (F:Region.Mode) (E:Array Oper) (rl:List (Nat×List Nat)) (T Y:List Nat) (n0:Nat):Bool :=
 ((List.range n0).all fun i=>T.contains i || (((nthOp E.toList i).map fun o=>(dep rl i).all fun k=>(waits F o).contains k && (!T.contains k && decide (k<n0))).getD false)) &&
 (((List.range n0).all fun k=>(T.contains k || Y.contains k) || (List.range (n0+1)).any fun j=>decide (k<j) && (!Y.contains j && ((nthOp E.toList j).map fun o=>(waits F o).contains k).getD false)) &&
 (!T.contains n0 && (!Y.contains n0 && (decide (n0<E.size) && (((List.range E.size).all fun i=>decide (i<=n0) || (T.contains i || ((nthOp E.toList i).map fun o=>(waits F o).any fun k=>decide (n0<=k) && !T.contains k).getD false)) &&
 (Region.noSelect E && Y.all fun y=>decide (y<n0) && (!T.contains y && ((nthOp E.toList y).map fun o=>((waits F o).all fun k=>T.contains k || (decide (k<n0) && !Y.contains k)) && Region.free F E (arr E.size fun k=>T.contains k || (waits F o).contains k) y).getD false)))))))
theorem qh7 {rl:List (Nat×List Nat)} {T Y:List Nat} {n0:Nat} (h:growY md ops rl T Y n0=true) {i:Nat} {o:Oper} (H:i<n0) (hT:i∉T) (J:nthOp ops.toList i=some o):∀k∈dep rl i,k∈waits md o/\k∉T/\k<n0:=by
 intro k I;unfold growY at h;rw [qaA] at h;have E:=(qaC.1 h.1) i (qaq.2 H);rw [qbc,J] at E;rcases E with E | E
 ·exact absurd (qal.1 E) hT
 ·have F:=(qaC.1 (show ((dep rl i).all fun k=>(waits md o).contains k && (!T.contains k && decide (k<n0)))=true from E)) k I;simp only [qaA,decide_eq_true_eq,qbW] at F;refine⟨qal.1 F.1,fun e=>?_,F.2.2⟩;rw [qal.2 e] at F;exact absurd F.2.1 (by decide)
theorem qma {rl:List (Nat×List Nat)} {T Y:List Nat} {n0:Nat} (h:growY md ops rl T Y n0=true) {k:Nat} (J:k<n0) (hT:k∉T) (I:k∉Y):∃j o,k<j/\j<=n0/\j∉Y/\nthOp ops.toList j=some o/\k∈waits md o:=by
 unfold growY at h;rw [qaA,qaA] at h;have F:=(qaC.1 h.2.1) k (qaq.2 J);rw [qbc,qbc] at F;rcases F with (F | F) | F
 ·exact absurd (qal.1 F) hT
 ·exact absurd (qal.1 F) I
 obtain⟨j,H,E⟩:=List.any_eq_true.1 F;rw [qaA,qaA,decide_eq_true_eq,qbW] at E;have H:=qaq.1 H;cases e:nthOp ops.toList j with
 | none=>rw [e] at E;exact absurd E.2.2 (by simp)
 | some o=>rw [e] at E;exact⟨j,o,E.1,by omega,(fun e=>by rw [qal.2 e] at E;cases E.2.1),e,qal.1 E.2.2⟩
theorem ql9 {rl:List (Nat×List Nat)} {T Y:List Nat} {n0:Nat} (h:growY md ops rl T Y n0=true) {i:Nat} {o:Oper} (O:n0<i) (hT:i∉T) (J:i<ops.size) (I:nthOp ops.toList i=some o):∃k∈waits md o,n0<=k/\k∉T:=by
 unfold growY at h;simp only [qaA] at h;have F:=(qaC.1 h.2.2.2.2.2.1) i (qaq.2 J);rw [qbc,decide_eq_true_eq,qbc,I] at F;rcases F with F | F | F
 ·omega
 ·exact absurd (qal.1 F) hT
 ·obtain⟨k,H,E⟩:=List.any_eq_true.1 (show ((waits md o).any fun k=>decide (n0<=k) && !T.contains k)=true from F);rw [qaA,decide_eq_true_eq,qbW] at E;exact⟨k,H,E.1,fun e=>by rw [qal.2 e] at E;cases E.2⟩
theorem qh6 {rl:List (Nat×List Nat)} {T Y:List Nat} {n0:Nat} (h:growY md ops rl T Y n0=true) {y:Nat} (hy:y∈Y):Region.noSelect ops=true/\y<n0/\y∉T/\∃o,nthOp ops.toList y=some o/\(∀k∈waits md o,k∈T\/(k<n0/\k∉Y))/\Region.free md ops (arr ops.size fun k=>T.contains k || (waits md o).contains k) y=true:=by
 unfold growY at h;simp only [qaA] at h;have E:=(qaC.1 h.2.2.2.2.2.2.2) y hy;rw [qaA,decide_eq_true_eq,qaA,qbW] at E;refine⟨h.2.2.2.2.2.2.1,E.1,(fun e=>by rw [qal.2 e] at E;cases E.2.1),?_⟩;cases e:nthOp ops.toList y with
 | none=>rw [e] at E;exact absurd E.2.2 (by simp)
 | some o =>
  rw [e] at E;have H:(((waits md o).all fun k=>T.contains k || (decide (k<n0) && !Y.contains k)) && Region.free md ops (arr ops.size fun k=>T.contains k || (waits md o).contains k) y)=true:=E.2.2;rw [qaA] at H;refine⟨o,rfl,fun k I=>?_,H.2⟩;have F:=(qaC.1 H.1) k I;rw [qbc,qaA,decide_eq_true_eq,qbW] at F;rcases F with F | F
  ·exact .inl (qal.1 F)
  ·exact .inr ⟨F.1,fun e=>by rw [qal.2 e] at F;cases F.2⟩
theorem qm0 {o:Oper} {n:Nat} {L:Nat->Bool} (h:∀k∈waits md o,k<n/\L k=true):(o.after.all fun e=>!Region.binds md e || (decide (e.on<n) && L e.on))=true:=by
 refine Array.all_eq_true.2 fun j I=>?_
 cases H:Region.binds md o.after[j] with
 | false=>rfl
 | true =>
  have J:(o.after[j]).on∈waits md o:=qbb.2 ⟨o.after[j],List.mem_filter.2 ⟨Array.mem_toList_iff.2 (Array.getElem_mem I),H⟩,rfl⟩;obtain⟨E,F⟩:=h _ J;rw [qV E,F];rfl
theorem dag_lt (E:dagB md ops=true) {i:Nat} {o:Oper} (F:i<ops.size) (I:nthOp ops.toList i=some o):∀k∈waits md o,k<i:=fun k H=>by
 have h:=(qaC.1 E) i (qaq.2 F);rw [I] at h;exact of_decide_eq_true ((qaC.1 (show ((waits md o).all fun k=>decide (k<i))=true from h)) k H)
theorem qka (a:Act) (D:List (Nat×Tmp)) (rl:List (Nat×List Nat)) (T Y:List Nat) (n0:Nat) (F:Nat->Value->World->Prop) (w0:World) (T2:List Nat) (hQ:∀c (d:Tmp) (x:Value) (a:Act) (w:World),Q (.panic c) (a.put (some d) x) w->Q (.panic c) a w)
  (ay:∀i x w w',F i x w->Below w.heap.size w w'->F i x w')
  (ag:dagB md ops=true) (h1:(D.map (·.1)).Nodup) (h2:(D.map (·.2)).Nodup) (au:dstB ops D T2=true) (aG:∀k,k<n0->k∈T2->k∈T) (hB:growY md ops rl T Y n0=true) (hn:n0<ops.size) (kl:Nat) (aM:leftN ops.size (fun i=>decide (i<n0) || T.contains i)=kl)
  (hS:∀w,Below w0.heap.size w0 w->S w)
  (hstep:∀i o,nthOp ops.toList i=some o->i<n0->i∉T->i∉Y->∀(v:Nat->Value) (w:World),Below w0.heap.size w0 w->(∀k∈dep rl i,F k (v k) w) ->
   ∀A,A=pf a v D->∀K,Grows F [] i w A o.dst K->if Region.wanted o (yielded ops A.tmps)=true then Oper.wp P o A w K Q else K (A.put o.dst undef) w)
  (htake:∀y∈Y,∀o,nthOp ops.toList y=some o->∀(v:Nat->Value) (w:World),Below w0.heap.size w0 w->(∀k∈dep rl y,F k (v k) w) ->
   ∀A,A=pf a v D->∃x,Region.wanted o (yielded ops A.tmps)=true/\(∀w,S w->(execOp A.eval o).run P w=.ok (.value x) w)/\F y x w)
  (hend:∀v w,Grown md ops T [] n0 F w0 (fun i=>decide (i<n0) || T.contains i) v w->∀A,A=pf a v D->∀f,wpAnyH P md ops Q S (f+kl) (arr ops.size fun i=>decide (i<n0) || T.contains i) A w) :
  ∀(E:Nat) (L:Nat->Bool) (v:Nat->Value) (w:World),leftN ops.size L<=E->Grown md ops T [] n0 F w0 L v w->wpAnyH P md ops Q S E (arr ops.size L) (pf a v D) w:=by
 have aj:∀(E:Nat) (L:Nat->Bool) (v:Nat->Value) (w:World),leftN ops.size L<=E->Grown md ops T [] n0 F w0 L v w->(∀i,i<n0->L i=true)->wpAnyH P md ops Q S E (arr ops.size L) (pf a v D) w:=by
  intro E L v w hf H U;have aF:L=fun i=>decide (i<n0) || T.contains i:=funext fun i=>by
   by_cases h:i<n0
   ·rw [U i h,qV h];rfl
   ·by_cases h2:i∈T
    ·rw [H.took i h2,qal.2 h2,Bool.or_true]
    ·rw [H.top i (by omega) h2,qU h,Bool.false_or];exact (Bool.not_eq_true _▸fun e=>h2 (qal.1 e):T.contains i=false).symm
  subst aF;rw [aM] at hf;obtain⟨f,rfl⟩:∃f,E=f+kl:=⟨E-kl,by omega⟩;exact hend v w H _ rfl f
 have next:∀(L:Nat->Bool) (v:Nat->Value) (w w':World) (i:Nat) (o:Oper) (x:Value),Grown md ops T [] n0 F w0 L v w->i<n0->i∉T->L i=false->ops[i]? = some o->(∀k∈waits md o,L k=true)->F i x w'->Below w.heap.size w w' ->
   (pf a v D).put o.dst x=pf a (upd v i x) D/\Grown md ops T [] n0 F w0 (upd L i true) (upd v i x) w':=by
  intro L v w w' i o x H V Z hL O hw hF J;have af:i<ops.size:=by omega
  refine⟨?_,H.old.trans (J.mono H.old.size),fun j hj ai=>?_,fun k I=>?_,fun j p hp hj k I=>?_,fun j hj ai ak=>?_,fun j hj=>absurd hj (by simp),fun j hj=>absurd hj (by simp)⟩
  ·have J:=(qaC.1 au) i (qaq.2 af);rw [qbc,qcT O] at J;rcases J with J | J
   ·exact absurd (aG i V (qal.1 J)) Z
   ·cases e:o.dst with
    | none =>
     show pf a v D=_
     refine (qfj a v i x D fun p hp e2=>?_).symm;have J:(!(D.map (·.1)).contains i)=true:=by
      have:(match o.dst with | none=>!(D.map (·.1)).contains i | some d=>D.contains (i,d))=true:=J;rw [e] at this;exact this
     rw [qbW,<-Bool.not_eq_true] at J;exact J (qal.2 (qbb.2 ⟨p,hp,e2⟩))
    | some d =>
     have J:D.contains (i,d)=true:=by
      have:(match o.dst with | none=>!(D.map (·.1)).contains i | some d=>D.contains (i,d))=true:=J;rw [e] at this;exact this
     exact qoy a v x D h1 h2 (qal.1 J)
  ·rw [qci _ _ (by omega)];exact H.top j hj ai
  ·rw [qci _ _ (by rintro rfl;exact Z I)];exact H.took k I
  ·by_cases e:k=i
   ·rw [e,upd_same]
   ·rw [qci _ _ e]
    by_cases e2:j=i
    ·subst e2;rw [qcT O] at hp;cases hp;exact hw k I
    ·rw [qci _ _ e2] at hj;exact H.shut j p hp hj k I
  ·by_cases e:j=i
   ·subst e;rw [upd_same];exact hF
   ·rw [qci _ _ e] at ak ⊢;exact ay _ _ _ _ (H.fact j hj ai ak) J
 intro E
 induction E with
 | zero =>
  intro L v w hf H;exact aj 0 L v w hf H fun i hi=>qic (Nat.le_zero.1 hf) i (by omega)
 | succ E ih =>
  intro L v w hf H
  by_cases U:∀i,i<n0->L i=true
  ·exact aj (E+1) L v w hf H U
  by_cases hY:∃y∈Y,L y=false/\∀o,nthOp ops.toList y=some o->∀k∈waits md o,L k=true
  ·obtain⟨y,hy,hL,hw⟩:=hY;obtain⟨aN,aA,aB,o,O,az,aI⟩:=qh6 hB hy;have hw:=hw o O;obtain⟨x,aP,ax,hF⟩:=htake y hy o O v w H.old (fun k I=>by obtain⟨a1,a2,a3⟩:=qh7 hB aA aB O k I;exact H.fact k a3 a2 (hw k a1)) _ rfl;obtain⟨ae,ah⟩:=next L v w w y o x H aA aB hL (qfh O) hw hF qB
   refine wpAnyH_take (qfh O) aN (qnD (fun k I=>?_) aI) ?_ (hQ:=fun c a w h=>by
    cases e:o.dst with
    | none=>rw [e] at h;exact h
    | some d=>rw [e] at h;exact hQ c d x a w h) (qaw ⟨aP,ax⟩) (hS _ H.old) ?_
   ·rw [qbc] at I;rcases I with I | I
    ·exact H.took k (qal.1 I)
    ·exact hw k (qal.1 I)
   ·refine qal.2 ((qgd _ L rfl y).2 ⟨by omega,hL,o,qfh O,?_⟩);exact qm0 fun k I=>⟨by have:=dag_lt ag (show y<ops.size by omega) O k I;omega,hw k I⟩
   ·rw [qkk,ae];exact ih _ _ _ (by have:=qhm (show y<ops.size by omega) hL;omega) ah
  refine⟨fun h0=>absurd (fun i hi=>qij ag h0 i (by omega)) U,fun i hi=>?_⟩;obtain⟨af,hL,o,O,hd⟩:=(qgd _ L rfl i).1 hi;have hw:∀k∈waits md o,L k=true:=fun k I=>(qj8 hd k I).2
  have Z:i∉T:=fun h=>by have:=H.took i h;rw [hL] at this;cases this
  have aJ:i∉Y:=fun h=>hY ⟨i,h,hL,fun p hp k I=>by rw [qcT O] at hp;cases hp;exact hw k I⟩
  have V:i<n0:=by
   apply Classical.byContradiction;intro aQ;rcases qaB n0 i with hgt | hle
   ·obtain⟨k,I,aK,aL⟩:=ql9 hB hgt Z af (qcT O);have:=hw k I;rw [H.top k aK aL] at this;cases this
   ·obtain rfl:i=n0:=by omega
    have aC:∀m k,k<i->k∉Y->i-k=m->L k=true:=by
     intro m
     induction m using Nat.strongRecOn with
     | ind m ihm =>
      intro k I aa hm
      by_cases av:k∈T
      ·exact H.took k av
      obtain⟨j,p,h1,h2,aD,h3,h4⟩:=qma hB I av aa;rcases qaB j i with h | h
      ·exact H.shut j p h3 (ihm (i-j) (by omega) j h aD rfl) k h4
      ·obtain rfl:j=i:=by omega
       rw [qcT O] at h3;cases h3;exact hw k h4
    refine U fun k I=>?_
    by_cases aa:k∈Y
    ·cases e:L k with
     | true=>rfl
     | false =>
      refine absurd ⟨k,aa,e,fun p hp q hq=>?_⟩ hY;obtain⟨_,_,_,o',aO,az,_⟩:=qh6 hB aa;rw [aO] at hp;cases hp;rcases az q hq with h | ⟨h,h'⟩
      ·exact H.took q h
      ·exact aC _ q h h' rfl
    ·exact aC _ k I aa rfl
  refine wpOp_step O fun K' hK=>hstep i o (qcT O) V Z aJ v w H.old (fun k I=>by obtain⟨a1,a2,a3⟩:=qh7 hB V Z (qcT O) k I;exact H.fact k a3 a2 (hw k a1)) _ rfl K' fun x A' w' hA hF _ J=>?_
  have aH:Below w0.heap.size w0 w':=H.old.trans (J.mono H.old.size);obtain⟨ae,ah⟩:=next L v w w' i o x H V Z hL O hw hF J
  refine hK _ _ ⟨hS _ aH,?_⟩;rw [qkk,hA,ae];exact ih _ _ _ (by have:=qhm af hL;omega) ah
theorem gy {I:Nat} {E:Array Bool} {a:Act} {w:World} (D:List (Nat×Tmp)) (rl:List (Nat×List Nat)) (T Y C:List Nat) (n0 N:Nat) (F:Nat->Value->World->Prop) (A:(Nat->Value)->Act) (kl:Nat) {m:Nat} (hm:a.tmps.size=m:=by rfl) (hA:∀v,pf a v D=A v:=by (intro v;simp only [pf,Act.put,qaQ,qbx,List.set_cons_succ];with_reducible rfl))
  (ax:∀i x,Stays (F i x):=by intro i x;infer_instance)
  (hB:(dagB md ops && (decide ((D.map (·.1)).Nodup) && (decide ((D.map (·.2)).Nodup) && (dstB ops D (T++(List.range ops.size).filter fun k=>decide (n0<=k)) && ((D.all fun p=>decide (D.lookup p.1=some p.2) && decide (p.2<m)) && (decide (E.size=ops.size) && (decide (leftN ops.size (fun k=>E.getD k false)<=I) &&
   (growY md ops rl T Y n0 && (decide (n0<ops.size) && (decide (leftN ops.size (fun i=>decide (i<n0) || T.contains i)=kl) && (decide (E=arr ops.size fun k=>T.contains k) && ((T.all fun k=>((nthOp ops.toList k).map fun o=>(waits md o).all fun j=>T.contains j).getD false) && (decide (arr N (fun i=>decide (i<n0) || T.contains i)=arr ops.size (fun i=>decide (i<n0) || T.contains i)) && (List.range n0).all (fun i=>(T.contains i || Y.contains i) || C.contains i))))))))))))))=true:=by kernel_rfl)
  (hQ:∀c (d:Tmp) (x:Value) (a:Act) (w:World),Q (.panic c) (a.put (some d) x) w->Q (.panic c) a w:=by exact fun _ _ _ _ _ h=>h)
  (hS:∀w',Below w.heap.size w w'->S w')
  (hstep:AllC (fun i=>∃o,nthOp ops.toList i=some o/\∀(v:Nat->Value) (w':World),Below w.heap.size w w'->AllC (fun k=>F k (v k) w') (dep rl i)->∀K,Grows F [] i w' (A v) o.dst K->if Region.wanted o (yielded ops (A v).tmps)=true then Oper.wp P o (A v) w' K Q else K ((A v).put o.dst undef) w') C)
  (htake:AllC (fun i=>∃o,nthOp ops.toList i=some o/\∀(v:Nat->Value) (w':World),Below w.heap.size w w'->AllC (fun k=>F k (v k) w') (dep rl i)->∃x,Region.wanted o (yielded ops (A v).tmps)=true/\(∀w,S w->(execOp (A v).eval o).run P w=.ok (.value x) w)/\F i x w') Y)
  (hend:∀(v:Nat->Value) (w':World),Below w.heap.size w w'->(∀i,i<n0->i∉T->F i (v i) w')->∀f,wpAnyH P md ops Q S (f+kl) (arr N (fun i=>decide (i<n0) || T.contains i)) (A v) w'):wpAnyH P md ops Q S I E a w:=by
 simp only [qaA,decide_eq_true_eq] at hB;obtain⟨aa,h1,h2,ae,hD,ay,hf,af,hn,av,J,ai,ah,hC⟩:=hB;have V:pf a (fun i=>a.tmps.getD ((D.lookup i).getD 0) undef) D=a:=qkR a _ D fun p hp=>by
  have:=(qaC.1 hD) p hp;simp only [qaA,decide_eq_true_eq] at this;exact⟨by rw [this.1];rfl,by rw [hm];exact this.2⟩
 have h0:Grown md ops T [] n0 F w (fun k=>T.contains k) (fun i=>a.tmps.getD ((D.lookup i).getD 0) undef) w :=
  ⟨Below.refl _ _,fun i _ H=>by
   rw [<-Bool.not_eq_true];intro h;exact H (qal.1 h),fun k hk=>qal.2 hk,fun j o U hj k hk=>by
   have:=(qaC.1 ai) j (qal.1 hj);rw [U] at this;exact (qaC.1 (show ((waits md o).all fun j=>T.contains j)=true from this)) k hk,fun i _ h hL=>absurd (qal.1 hL) h,fun i H=>absurd H (by simp),fun i H=>absurd H (by simp)⟩
 have facts:∀(v:Nat->Value) (w':World) (i:Nat),(∀k∈dep rl i,F k (v k) w')->AllC (fun k=>F k (v k) w') (dep rl i):=fun v w' i O=>by
  generalize dep rl i=l at O
  induction l with
  | nil=>exact trivial
  | cons k l ih=>exact⟨O k (qba ..),ih fun j hj=>O j (qbn _ hj)⟩
 have ag:=qka (P:=P) (Q:=Q) (S:=S) a D rl T Y n0 F w (T++(List.range ops.size).filter fun k=>decide (n0<=k)) hQ (fun i x w w' h Z=>(ax i x).go h Z) aa h1 h2 ae (fun k hk au=>by
  rcases qaL.1 au with h | h
  ·exact h
  ·have:=of_decide_eq_true (List.mem_filter.1 h).2;omega) af hn kl av hS (fun i o U H aj ak v w' Z O B hB K hK=>by
   obtain⟨p,hp,h⟩:=hstep.get i (by
    have:=(qaC.1 hC) i (qaq.2 H);rw [qbc,qbc] at this;rcases this with (h | h) | h
    ·exact absurd (qal.1 h) aj
    ·exact absurd (qal.1 h) ak
    ·exact qal.1 h)
   rw [hp] at U;cases U;rw [hA] at hB;subst hB;exact h v w' Z (facts v w' i O) K hK) (fun y hy o U v w' Z O B hB=>by
   obtain⟨p,hp,h⟩:=htake.get y hy;rw [hp] at U;cases U;rw [hA] at hB;subst hB;exact h v w' Z (facts v w' y O)) (fun v w' h B hB f=>by
   rw [<-ah];rw [hA] at hB;subst hB;exact hend v w' h.old (fun i H hT=>h.fact i H hT (by rw [qV H];rfl)) f) I _ _ _ (by rw [qhl (M:=fun k=>E.getD k false)];exact hf;intro i H;rw [J,qgm,if_pos H]) h0
 rw [V,<-J] at ag;exact ag
end
theorem lits (W:World) (E:List Int):NCells (W.alloc (.cells (E.map fun z=>Value.int .i64 z).toArray 3)) (some ⟨W.heap.size,0,none⟩) W.heap.size 0 E:=by
 have h:=ints_row (q:=E) (t:=3) (heap_alloc_new W _) 0
 rwa [List.drop_zero] at h
theorem qeS (W:World) (o:Obj):Below W.heap.size W (W.alloc o):=qb4 qB qN
theorem hasT_old {W:World} (h:HasT W) (o:Obj):HasT (W.alloc o):=h.below (qeS W o)
theorem q_ex (W:World) (E:List Int) (n:Nat) (O:E.length=n) (H:n<=1000) (U:∀z∈E,-9223372036854775808<=z/\z<=9223372036854775807) (hT:HasT W) :
  Calls prog 29 #[.slice (some ⟨W.heap.size,0,none⟩) n n] (W.alloc (.cells (E.map fun z=>Value.int .i64 z).toArray 3)) fun e w'=>∃(F:Option Addr) (g cap:Nat),e=.returned (.slice F n cap)/\FCells w' F g 0 (told n (zq E))/\Below W.heap.size W w' :=
 (lq_any W.heap.size 0 n n E _ O H (lits W E) U (hasT_old hT _)).mono fun _e _w' ⟨F,g,cap,he,I,J⟩=>⟨F,g,cap,he,I,(qeS W _).trans (J.mono (qeS W _).size)⟩
theorem is_ex (W:World) (E:List Int) (n:Nat):Calls prog 27 #[.slice (some ⟨W.heap.size,0,none⟩) n n] (W.alloc (.cells (E.map fun z=>Value.int .i64 z).toArray 3)) fun e w' =>
  ∃b,e=.returned (.func (.func 72) #[] #[.pointer (some ⟨b,0,none⟩)])/\Below W.heap.size W w'/\w'.heap[b]? = some (.cells #[.slice (some ⟨W.heap.size,0,none⟩) n n] 30 (0,0))/\NCells w' (some ⟨W.heap.size,0,none⟩) W.heap.size 0 E :=
 (lis_any (some ⟨W.heap.size,0,none⟩) n n _).mono fun _e _w' ⟨b,he,F,h⟩=>⟨b,he,(qeS W _).trans (F.mono (qeS W _).size),h,(lits W E).below F⟩
theorem eqk (W:World) (g c n:Nat) (E:List Int) (F:E.length=n) (I:n<=1000) (h:NCells W (some ⟨g,0,none⟩) g 0 E) :
  Calls prog 15 #[.slice (some ⟨g,0,none⟩) n c,.slice (some ⟨W.heap.size,0,none⟩) n n] (W.alloc (.cells (E.map fun z=>Value.int .i64 z).toArray 3)) fun e w'=>e=.returned (.bool true)/\Below W.heap.size W w' :=
 (qiA g 0 c W.heap.size 0 n E E n n _ F F (by omega) (by omega) (h.below (qeS W _)) (lits W E)).mono fun e w' ⟨he,H⟩=>⟨by rw [he,show (E == E)=true from beq_self_eq_true E],(qeS W _).trans (H.mono (qeS W _).size)⟩
theorem MdAt.row0 {W:World} {k5 i5:Int} {E H I:Option Addr} {F J V O Y U:Nat} {m:Md} (h:MdAt W (.agg #[.int .i64 k5,.int .i64 i5,.slice E F J,.slice H V O,.slice I Y U]) m):F=(m.row 0).length/\∃b o,FCells W E b o (m.row 0):=by
 obtain⟨a0,a1,a2,b0,o0,c0,b1,o1,c1,b2,o2,c2,he,Z,_⟩:=h;simp only [qaX,qa1,qaV,qbY] at he;obtain⟨_,_,⟨rfl,rfl,_⟩,_⟩:=he;exact⟨rfl,b0,o0,Z⟩
theorem lin_row1:(mdX line5 1 linX1).row 0=told 2 (zq [0,100]):=qd4 (n:=2) fun i E=>by
 rcases (show i=0\/i=1 by omega) with rfl | rfl <;> decide +kernel
theorem lin_row0:(mdX line5 1 linX0).row 0=told 2 (zq [8,100]):=qd4 (n:=2) fun i E=>by
 rcases (show i=0\/i=1 by omega) with rfl | rfl <;> decide +kernel
theorem eqF_same (x0 x1:ByteArray) (w:World):(binOp .eql 27 (.agg #[.string x0,.string x1]) (.agg #[.string x0,.string x1])).run prog w=.ok (.bool true) w:=by
 go_simp
theorem qm1 (w:World) (hT:HasT w):Calls prog 11 #[] w fun e w'=>e=.returned (.bool true)/\Below w.heap.size w w':=by
 have HT:=qH hT;have eH:∀(x y p:Value) (W:World),(callFunc 72 #[x,y,p]).run prog W=.ok (.enter 72 #[x,y,p]) W:=fun x y p W=>enters func72 (by kernel_rfl) (by kernel_rfl) _ W
 have eO:∀(x y p:Value) (W:World),(callFunc 73 #[x,y,p]).run prog W=.ok (.enter 73 #[x,y,p]) W:=fun x y p W=>enters func73 (by kernel_rfl) (by kernel_rfl) _ W
 have HI:=qH (qA is_ex q_ex);clear hT;go_enter func11,ntmps11;go_wp2_with fail;refine (HI.o.1 w [1,3,2,0] 4).mono ?_;rintro e w2 ⟨b2,rfl,dx,dK,dH⟩;have K2:Kn (fun W=>(Below w.heap.size w W/\W.heap[b2]? = some (.cells #[.slice (some ⟨w.heap.size,0,none⟩) 4 4] 30 (0,0)))/\NCells W (some ⟨w.heap.size,0,none⟩) w.heap.size 0 [1,3,2,0]) w2:=.of ⟨⟨dx,dK⟩,dH⟩;clear dx dK dH;go_wp2_with fail;refine (HI.o.2 w2 [3,1,2,1] 4 rfl (by decide) (by decide) (HT.o.below K2.o.1.1)).mono ?_;rintro e J ⟨df,g3,c3,rfl,bR,dz⟩;have K3:=(K2.below dz).also (q:=fun W=>FCells W df g3 0 (told 4 (zq [3,1,2,1]))) bR;have HO:=qH (qeW 4 g3 0 c3 df _ J (qcb _ _) (by decide) (fun _=>by decide) bR);clear dz bR;go_wp2_with fail;refine HO.o.mono ?_;intro e w4 h4;obtain⟨ah,g4,rfl,bS⟩:=h4.only (qi3 (by decide) rfl) (by decide);rw [ord_3121] at bS;have K4:=(K3.below ah).also (q:=fun W=>NatR W J.heap.size g4 4 4 [1,3,2,0]) bS;clear h4 ah bS HO;have HL:=qH (qlv g4 0 4 4 w.heap.size 0 4 4 b2 [1,3,2,0] [1,3,2,0] 0 w4 K4.o.1.1.1.2 rfl rfl (by decide) (by decide) K4.o.2.all K4.o.1.1.2);go_wp2_with fail;refine HL.o.mono ?_;rintro e w5 ⟨rfl,dA⟩;have K5:=K4.below dA;clear dA HL;go_wp2_with fail;refine (HI.o.1 w5 [1,3] 2).mono ?_;rintro e w6 ⟨b6,rfl,dB,dL,aI⟩;have K6:Kn (fun W=>(Below w.heap.size w W/\W.heap[b6]? = some (.cells #[.slice (some ⟨w5.heap.size,0,none⟩) 2 2] 30 (0,0)))/\NCells W (some ⟨w5.heap.size,0,none⟩) w5.heap.size 0 [1,3]) w6:=.of ⟨⟨(K5.below dB).o.1.1.1.1,dL⟩,aI⟩;clear dB dL aI K5 K4 K3 K2;go_wp2_with fail;refine (HI.o.2 w6 [3,1,2,1] 4 rfl (by decide) (by decide) (HT.o.below K6.o.1.1)).mono ?_;rintro e w7 ⟨dS,g7,c7,rfl,di,dC⟩;have K7:=K6.below dC;have HO:=qH (qix 4 g7 0 c7 2 dS _ w7 (qcb _ _) (by decide) (fun _=>by decide) di);clear dC di;go_wp2_with fail;refine HO.o.mono ?_;intro e w8 h8;obtain⟨dD,g8,rfl,bT⟩:=qfH.only (k:=2) h8 (qi3 (by decide) rfl) (by decide) (by decide);rw [qnd] at bT;have K8:=(K7.below dD).also (q:=fun W=>NatR W w7.heap.size g8 2 2 [1,3]) bT;clear h8 dD bT HO;have HL:=qH (qlv g8 0 2 2 w5.heap.size 0 2 2 b6 [1,3] [1,3] 0 w8 K8.o.1.1.2 rfl rfl (by decide) (by decide) K8.o.2.all K8.o.1.2);go_wp2_with fail;refine HL.o.mono ?_;rintro e w9 ⟨rfl,dE⟩;have K9:Kn (fun W=>Below w.heap.size w W) w9:=.of (K8.below dE).o.1.1.1;clear dE HL K8 K7 K6;go_wp2_with fail;refine (qmh 2 w9).mono ?_;rintro e dZ ⟨b10,rfl,aW,bH⟩;have bJ:=(K9.below aW).also (q:=fun W=>W.heap[b10]? = some (.cells #[.int .i64 2] 31 (0,0))) bH;clear aW bH K9;go_wp2_with fail;refine (HI.o.2 dZ [1] 1 rfl (by decide) (by decide) (HT.o.below bJ.o.1)).mono ?_;rintro e d9 ⟨cZ,g11,c11,rfl,aK,aX⟩;have bV:=bJ.below aX;have HO:=qH (qix 1 g11 0 c11 2 cZ _ d9 (qcb _ _) (by decide) (fun _=>by decide) aK);clear aX aK bJ;go_wp2_with fail;refine HO.o.mono ?_;intro e ed dh;obtain⟨aY,rfl⟩:=dh.much (qi3 (by decide) rfl) (by decide) (by decide);have bK:=bV.below aY;clear dh aY HO bV;have HL:=qH (qkD 2 b10 0 none ed bK.o.2);go_wp2_with fail;refine HL.o.mono ?_;rintro e dM ⟨rfl,rfl⟩;have bW:Kn (fun W=>Below w.heap.size w W) dM:=.of bK.o.1;clear HL bK;go_wp2_with fail;refine (qes dM).mono ?_;rintro e dN ⟨eX,rfl,hO,aZ⟩;obtain⟨g14,c14,rfl,aO⟩:=qd1 hO;have bL:=bW.below aZ;have HF:=qH (ex_f1 dN g14 c14 aO (HT.o.below bL.o));clear hO aZ aO;go_wp2_with fail;refine HF.o.mono ?_;rintro e aJ ⟨bf,eY,g15,rfl,aM,ax⟩;obtain⟨ka,ia,Aa,Da,Fa,La,Ca,Ma,Ea,Ga,Ha,rfl⟩:=ax.five;obtain⟨dQ,aS,bP⟩:=nw1 aJ #[.int .i64 ka,.int .i64 ia,.slice Aa La Ca,.slice Da Ma Ea,.slice Fa Ga Ha] 46;have bX:Kn (fun W=>(Below w.heap.size w W/\NatR W dN.heap.size g15 4 4 [0,1,3,4])/\MdAt W (.agg #[.int .i64 ka,.int .i64 ia,.slice Aa La Ca,.slice Da Ma Ea,.slice Fa Ga Ha]) (mdX line5 1 linX1)) aJ:=.of ⟨⟨(bL.below bf).o,aM⟩,ax⟩;have bY:=(bX.below bP.o.1).also (q:=fun W=>W.heap[aJ.heap.size]? = some (.cells #[.int .i64 ka,.int .i64 ia,.slice Aa La Ca,.slice Da Ma Ea,.slice Fa Ga Ha] 46 (0,0))) bP.o.2;clear bf aM ax HF bL bW bP bX
 go_upto_region 3 with (first | ((with_reducible refine qcC rfl 46 _ _ rfl #[.int .i64 0,.int .i64 0,.slice none 0 0,.slice none 0 0,.slice none 0 0] #[.int .i64 ka,.int .i64 ia,.slice Aa La Ca,.slice Da Ma Ea,.slice Fa Ga Ha] ?_ ?_ 5 ?_ ?_ ?_ ?_ ?_);(next=>rfl);(next=>rfl);(next=>kernel_rfl);(next=>rfl);(next=>rfl);(next=>rfl)) | fail)
 rw [<-aS];clear aS;go_wp2_with fail;refine (qes dQ).mono ?_;rintro e dO ⟨eZ,rfl,hO,bg⟩;obtain⟨g17,c17,rfl,aP⟩:=qd1 hO;have bM:=bY.below bg;have HF:=qH (ex_f2 dO g17 c17 aP (HT.o.below bM.o.1.1.1));clear hO bg aP;go_wp2_with fail;refine HF.o.mono ?_;rintro e ek ⟨bi,fe,g18,rfl,aN,aL⟩;obtain⟨kb,ib,Ab,Db,Fb,Lb,Cb,Mb,Eb,Gb,Hb,rfl⟩:=aL.five;obtain⟨dR,aT,cK⟩:=nw1 ek #[.int .i64 kb,.int .i64 ib,.slice Ab Lb Cb,.slice Db Mb Eb,.slice Fb Gb Hb] 46;have bZ:=(bM.below bi).also (q:=fun W=>NatR W dO.heap.size g18 5 5 [0,1,2,3,4]) aN;have cu:=bZ.below cK.o.1;clear bi aN aL HF bZ bM bY cK
 go_upto_region 4 with (first | ((with_reducible refine qcC rfl 46 _ _ rfl #[.int .i64 0,.int .i64 0,.slice none 0 0,.slice none 0 0,.slice none 0 0] #[.int .i64 kb,.int .i64 ib,.slice Ab Lb Cb,.slice Db Mb Eb,.slice Fb Gb Hb] ?_ ?_ 5 ?_ ?_ ?_ ?_ ?_);(next=>rfl);(next=>rfl);(next=>kernel_rfl);(next=>rfl);(next=>rfl);(next=>rfl)) | fail)
 rw [<-aT];clear aT;go_wp2_with fail;refine (qes dR).mono ?_;rintro e eu ⟨v20,rfl,hO,bn⟩;obtain⟨g20,c20,rfl,aQ⟩:=qd1 hO;have bN:=cu.below bn;have HF:=qH (ex_f3 eu g20 c20 aQ (HT.o.below bN.o.1.1.1.1));clear hO bn aQ;go_wp2_with fail;refine HF.o.mono ?_;rintro e dP ⟨bq,fo,g21,rfl,dm,ay⟩;obtain⟨kc,ic,Ac,Dc,Fc,Lc,Cc,Mc,Ec,Gc,Hc,rfl⟩:=ay.five;obtain⟨E,aU,bQ⟩:=nw1 dP #[.int .i64 kc,.int .i64 ic,.slice Ac Lc Cc,.slice Dc Mc Ec,.slice Fc Gc Hc] 46;have cz:=(bN.below bq).also (q:=fun W=>MdAt W (.agg #[.int .i64 kc,.int .i64 ic,.slice Ac Lc Cc,.slice Dc Mc Ec,.slice Fc Gc Hc]) (mdX line5 1 linX0)) ay;have Y:=(cz.below bQ.o.1).also (q:=fun W=>W.heap[dP.heap.size]? = some (.cells #[.int .i64 kc,.int .i64 ic,.slice Ac Lc Cc,.slice Dc Mc Ec,.slice Fc Gc Hc] 46 (0,0))) bQ.o.2;clear bq dm ay HF cz bN cu bQ
 go_upto_region 5 with (first | ((with_reducible refine qcC rfl 46 _ _ rfl #[.int .i64 0,.int .i64 0,.slice none 0 0,.slice none 0 0,.slice none 0 0] #[.int .i64 kc,.int .i64 ic,.slice Ac Lc Cc,.slice Dc Mc Ec,.slice Fc Gc Hc] ?_ ?_ 5 ?_ ?_ ?_ ?_ ?_);(next=>rfl);(next=>rfl);(next=>kernel_rfl);(next=>rfl);(next=>rfl);(next=>rfl)) | fail)
 rw [<-aU];clear aU;obtain⟨rfl,ba,oa,dn⟩:La=2/\∃b o,FCells E Aa b o (told 2 (zq [0,100])):=by
  obtain⟨h1,b,o,h2⟩:=MdAt.row0 Y.o.1.1.1.1.2;rw [lin_row1] at h1 h2;exact⟨h1,b,o,h2⟩
 obtain⟨rfl,bc,oc,dw⟩:Lc=2/\∃b o,FCells E Ac b o (told 2 (zq [8,100])):=by
  obtain⟨h1,b,o,h2⟩:=MdAt.row0 Y.o.1.2;rw [lin_row0] at h1 h2;exact⟨h1,b,o,h2⟩
 have ai:=qH Y.o.1.1.1.1.1.1;have la:=(qG Y.o.1.1.1.2).1;have lc:=(qG Y.o.2).1;have m2:=rowC (B:=E.heap.size) Y.o.1.1.1.2 2;have s2:=rowC (B:=E.heap.size) Y.o.2 2;have bI:=qH (fun (W:World) (h:Below E.heap.size E W) (zs:List Int) (n:Nat) (hn:zs.length=n) (aI:n<=1000) (hz:∀z∈zs,-9223372036854775808<=z/\z<=9223372036854775807)=>q_ex W zs n hn aI hz (HT.o.below (ai.o.trans (h.mono ai.o.size))));have ak:=qH (qA dn (qA dw (qA Y.o.1.1.1.1.1.2.all Y.o.1.1.2.all)));clear dn dw;refine wp_region_held_drew (S:=fun W=>Below E.heap.size E W) (by kernel_rfl) qB.drew (fun hS0=>?_);refine hT 0 (h:=hT 1 (h:=hT 2 (h:=hT 3 (h:=hT 4 (h:=hT 5 (h:=hT 6 (h:=hT 7 (h:=hT 8 (h:=?_)))))))));have Z:Below E.heap.size E E.drew:=qB.drew;refine hE 9 (h:=⟨qb4 Z qN,hN (h:=?_)⟩);refine hC 10 (bI.o _ Z [0,100] 2 rfl (by decide) (by decide)) (h:=?_);rintro e u0 ⟨eP,eT,dY,rfl,dI,bz⟩;have aB:Below E.heap.size E u0:=Z.trans (bz.mono Z.size);refine⟨_,rfl,aB,hN (h:=?_)⟩;refine hC 11 (qlJ _ _ _ 2 Ca _ _ _ _ 2 dY _ u0 (qcb _ _) (by decide) (ak.o.1.below aB) (qcb _ _) (by decide) dI) (h:=?_);rintro e t0 ⟨ok0,rfl,bF,bB⟩;obtain rfl:ok0=true:=bF.2 rfl;have af:Below E.heap.size E t0:=aB.trans (bB.mono aB.size);refine⟨_,rfl,af,hN (h:=?_)⟩;clear dI bz bF bB aB;refine hT 12 (hS:=af) (h:=hT 13 (hS:=af) (h:=hT 14 (hS:=af) (h:=?_)));refine hE 15 (h:=⟨qb4 af qN,hN (h:=?_)⟩);refine hC 16 (eqk _ g15 4 4 [0,1,3,4] rfl (by decide) (ak.o.2.2.1.below af)) (h:=?_);rintro e t1 ⟨rfl,bC⟩;have U:Below E.heap.size E t1:=af.trans (bC.mono af.size);refine⟨_,rfl,U,hN (h:=?_)⟩;clear bC;refine hT 17 (hS:=U) (h:=hT 18 (hS:=U) (h:=hT 19 (hS:=U) (h:=hT 20 (hS:=U) (h:=hT 21 (hS:=U) (h:=hT 22 (hS:=U) (h:=hT 23 (hS:=U) (h:=?_)))))));refine hE 24 (h:=⟨qb4 U qN,hN (h:=?_)⟩);refine hC 25 (eqk _ g18 5 5 [0,1,2,3,4] rfl (by decide) (ak.o.2.2.2.below U)) (h:=?_);rintro e t2 ⟨rfl,bD⟩;have I:Below E.heap.size E t2:=U.trans (bD.mono U.size);refine⟨_,rfl,I,hN (h:=?_)⟩;clear bD;refine hT 26 (hS:=I) (h:=hT 27 (hS:=I) (h:=hT 28 (hS:=I) (h:=hT 29 (hS:=I) (h:=hT 30 (hS:=I) (h:=hT 31 (hS:=I) (h:=hT 32 (hS:=I) (h:=hT 33 (hS:=I) (h:=hT 34 (hS:=I) (h:=?_)))))))));refine hE 35 (h:=⟨qb4 I qN,hN (h:=?_)⟩);refine hC 36 (bI.o _ I [8,100] 2 rfl (by decide) (by decide)) (h:=?_);rintro e u3 ⟨eQ,eU,qc3,rfl,dJ,bA⟩;have aC:Below E.heap.size E u3:=I.trans (bA.mono I.size);refine⟨_,rfl,aC,hN (h:=?_)⟩;refine hC 37 (qlJ _ _ _ 2 Cc _ _ _ _ 2 qc3 _ u3 (qcb _ _) (by decide) (ak.o.2.1.below aC) (qcb _ _) (by decide) dJ) (h:=?_);rintro e t3 ⟨dX,rfl,bG,bE⟩;obtain rfl:dX=true:=bG.2 rfl;have aA:Below E.heap.size E t3:=aC.trans (bE.mono aC.size);refine⟨_,rfl,aA,hN (h:=?_)⟩;clear dJ bA bG bE aC;refine hT 38 (hS:=aA) (h:=hT 39 (hS:=aA) (h:=?_));refine wpAnyH_done (by kernel_rfl) ?_ _;have aG:=Y.below aA;have aF:Kn (fun W=>(Below w.heap.size w W/\MdAt W (.agg #[.int .i64 ka,.int .i64 ia,.slice Aa 2 Ca,.slice Da Ma Ea,.slice Fa Ga Ha]) (mdX line5 1 linX1))/\W.heap[aJ.heap.size]? = some (.cells #[.int .i64 ka,.int .i64 ia,.slice Aa 2 Ca,.slice Da Ma Ea,.slice Fa Ga Ha] 46 (0,0))) t3:=.of ⟨⟨aG.o.1.1.1.1.1.1,aG.o.1.1.1.1.2⟩,aG.o.1.1.1.2⟩;clear af U I hS0 Z ak bI la lc m2 s2 Y aA aG ai;obtain⟨y1,y2,hy⟩:=qcW (1600:Rat);have HY:=qH hy;have aj:=@lin_cost;simp only [hy] at aj;have bU:=qH aj;clear aj hy;go_wp2_with fail;refine wp_region_held_drew (S:=fun W=>Below t3.heap.size t3 W) (by kernel_rfl) qB.drew (fun hS0=>?_);refine Go.Proofs.YtjalhnlhcdfncaaGreatDoor.gy [(0,103),(1,104),(2,105),(3,106),(4,102),(5,107),(6,108),(7,11)] [(3,[0,1,2]),(4,[3]),(5,[4]),(6,[4])] [] [6] [0,1,2,3,4,5,7] 8 10 (fl2 [(0,fun z _=>z=.agg #[.int .i64 ka,.int .i64 ia,.slice Aa 2 Ca,.slice Da Ma Ea,.slice Fa Ga Ha]),(1,fun z W=>∃g c:Nat,z=.slice (some ⟨g,0,none⟩) 5 c/\PCells W (some ⟨g,0,none⟩) g 0 line5),(2,fun z W=>∃g:Nat,z=.slice (some ⟨g,0,none⟩) 1 1/\NCells W (some ⟨g,0,none⟩) g 0 [2]),(3,fun z _=>z=.tuple #[.agg #[.string y1,.string y2],.int .i64 0]),(4,fun z _=>z=.tuple #[.agg #[.string y1,.string y2],.int .i64 0]),(5,fun z _=>z=.agg #[.string y1,.string y2]),(6,fun z _=>z=.int .i64 0),(7,fun z W=>∃g:Nat,z=.pointer (some ⟨g,0,none⟩)/\W.heap[g]? = some (.cells #[.string ⟨#[]⟩,.string ⟨#[]⟩] 27 (0,0))/\t3.heap.size<=g)]) _ 2
  (hS:=fun w' h=>hS0.trans (h.mono hS0.size)) (hstep:=⟨⟨_,rfl,fun v J V H K O=>?_⟩,⟨_,rfl,fun v J V H K O=>?_⟩,⟨_,rfl,fun v J V H K O=>?_⟩,⟨_,rfl,fun v J V H K O=>?_⟩,⟨_,rfl,fun v J V H K O=>?_⟩,⟨_,rfl,fun v J V H K O=>?_⟩,⟨_,rfl,fun v J V H K O=>?_⟩,trivial⟩) (htake:=⟨⟨_,rfl,fun v J V H=>?_⟩,trivial⟩) (hend:=fun v eB V H fu=>?_)
 ·have hz:=zkeep (hS0.trans (V.mono hS0.size)) _ _ aF.o.2;have x0:=qC _ _ 0 _ _ _ hz;have x1:=qC _ _ 1 _ _ _ hz;have x2:=qC _ _ 2 _ _ _ hz;have x3:=qC _ _ 3 _ _ _ hz;have x4:=qC _ _ 4 _ _ _ hz;exact gV O rfl
 ·exact gC O (qes J) (h:=fun e w4 ⟨v,e1,hO,ah⟩=>⟨v,e1,qd1 hO,ah⟩)
 ·exact gW O (h:=⟨⟨J.heap.size,rfl,lits J [2]⟩,qb4 qB qN⟩)
 ·have e0:v 0=_:=H.1;obtain⟨gl,cl,e1,hl⟩:∃g c:Nat,_:=H.2.1;obtain⟨gk,e2,hk⟩:∃g:Nat,_:=H.2.2.1;have au:=aF.below (hS0.trans (V.mono hS0.size));exact gC O (bU.o J _ gl cl gk 1 au.o.1.2 hl hk (HT.o.below au.o.1.1)) (h:=fun e w4 ⟨e1,h1⟩=>⟨_,e1,rfl,h1⟩)
 ·have e3:v 3=_:=H.1;exact gV O rfl
 ·have e4:v 4=_:=H.1;exact gV O rfl
 ·exact gW O (h:=⟨⟨J.heap.size,rfl,qM _ _ _ rfl,(hS0.trans (V.mono hS0.size)).size⟩,qb4 qB qN⟩)
 ·have e4:v 4=_:=H.1;exact⟨_,rfl,fun W hW=>by (go_simp <;> with_reducible rfl),rfl⟩
 have e4:v 4=_:=H 4 (by decide) (by decide);have e5:v 5=_:=H 5 (by decide) (by decide);have e6:v 6=_:=H 6 (by decide) (by decide);obtain⟨g7,e7,h7,aD⟩:∃g:Nat,_:=H 7 (by decide) (by decide);rw [e4,e5,e6,e7];have az:=hS0.trans (V.mono hS0.size);have ae:=qS az aD #[.string y1,.string y2];have av:=(aF.below ae).also (q:=fun W=>W.heap[g7]? = some (.cells #[.string y1,.string y2] 27 (0,0))) (qT _ _ _ #[.string y1,.string y2] _ _ h7);refine hSn 8 2 h7 (h:=⟨ae,?_⟩);refine hT 9 (hS:=ae) (h:=?_);refine wpAnyH_done (by kernel_rfl) ?_ _;obtain⟨u7,hu⟩:∃u,u=eB.setRow g7 #[.string y1,.string y2]:=⟨_,rfl⟩;rw [<-hu] at av ⊢;clear hu H e4 e5 e6 e7 h7 aD V az ae aF hS0;go_wp2_with fail;refine wp_region_held_drew (S:=fun W=>Below u7.heap.size u7 W) (by kernel_rfl) qB.drew (fun hS0=>?_);refine Go.Proofs.YtjalhnlhcdfncaaGreatDoor.gy [(0,110),(1,111),(2,112),(3,113),(4,109),(5,114),(6,115),(7,13)] [(3,[0,1,2]),(4,[3]),(5,[4]),(6,[4])] [] [6] [0,1,2,3,4,5,7] 8 10 (fl2 [(0,fun z _=>z=.agg #[.int .i64 ka,.int .i64 ia,.slice Aa 2 Ca,.slice Da Ma Ea,.slice Fa Ga Ha]),(1,fun z W=>∃g c:Nat,z=.slice (some ⟨g,0,none⟩) 5 c/\PCells W (some ⟨g,0,none⟩) g 0 line5),(2,fun z W=>∃g:Nat,z=.slice (some ⟨g,0,none⟩) 2 2/\NCells W (some ⟨g,0,none⟩) g 0 [2,1]),(3,fun z _=>z=.tuple #[.agg #[.string ⟨#[]⟩,.string ⟨#[]⟩],.int .i64 2]),(4,fun z _=>z=.tuple #[.agg #[.string ⟨#[]⟩,.string ⟨#[]⟩],.int .i64 2]),(5,fun z _=>z=.agg #[.string ⟨#[]⟩,.string ⟨#[]⟩]),(6,fun z _=>z=.int .i64 2),(7,fun z W=>∃g:Nat,z=.pointer (some ⟨g,0,none⟩)/\W.heap[g]? = some (.cells #[.string ⟨#[]⟩,.string ⟨#[]⟩] 27 (0,0))/\u7.heap.size<=g)]) _ 2
  (hS:=fun w' h=>hS0.trans (h.mono hS0.size)) (hstep:=⟨⟨_,rfl,fun v J V H K O=>?_⟩,⟨_,rfl,fun v J V H K O=>?_⟩,⟨_,rfl,fun v J V H K O=>?_⟩,⟨_,rfl,fun v J V H K O=>?_⟩,⟨_,rfl,fun v J V H K O=>?_⟩,⟨_,rfl,fun v J V H K O=>?_⟩,⟨_,rfl,fun v J V H K O=>?_⟩,trivial⟩) (htake:=⟨⟨_,rfl,fun v J V H=>?_⟩,trivial⟩) (hend:=fun v eD V H fu=>?_)
 ·have hz:=zkeep (hS0.trans (V.mono hS0.size)) _ _ av.o.1.2;have x0:=qC _ _ 0 _ _ _ hz;have x1:=qC _ _ 1 _ _ _ hz;have x2:=qC _ _ 2 _ _ _ hz;have x3:=qC _ _ 3 _ _ _ hz;have x4:=qC _ _ 4 _ _ _ hz;exact gV O rfl
 ·exact gC O (qes J) (h:=fun e w4 ⟨v,e1,hO,ah⟩=>⟨v,e1,qd1 hO,ah⟩)
 ·exact gW O (h:=⟨⟨J.heap.size,rfl,lits J [2,1]⟩,qb4 qB qN⟩)
 ·have e0:v 0=_:=H.1;obtain⟨gl,cl,e1,hl⟩:∃g c:Nat,_:=H.2.1;obtain⟨gk,e2,hk⟩:∃g:Nat,_:=H.2.2.1;have au:=av.below (hS0.trans (V.mono hS0.size));exact gC O (qjs J _ gl cl gk 2 au.o.1.1.2 hl hk (HT.o.below au.o.1.1.1)) (h:=fun e w4 ⟨e1,h1⟩=>⟨_,e1,rfl,h1⟩)
 ·have e3:v 3=_:=H.1;exact gV O rfl
 ·have e4:v 4=_:=H.1;exact gV O rfl
 ·exact gW O (h:=⟨⟨J.heap.size,rfl,qM _ _ _ rfl,(hS0.trans (V.mono hS0.size)).size⟩,qb4 qB qN⟩)
 ·have e4:v 4=_:=H.1;exact⟨_,rfl,fun W hW=>by (go_simp <;> with_reducible rfl),rfl⟩
 have e4:v 4=_:=H 4 (by decide) (by decide);have e5:v 5=_:=H 5 (by decide) (by decide);have e6:v 6=_:=H 6 (by decide) (by decide);obtain⟨g8,e7,h7,aD⟩:∃g:Nat,_:=H 7 (by decide) (by decide);rw [e4,e5,e6,e7];have az:=hS0.trans (V.mono hS0.size);have ae:=qS az aD #[.string ⟨#[]⟩,.string ⟨#[]⟩];have aH:=(av.below ae).also (q:=fun W=>W.heap[g8]? = some (.cells #[.string ⟨#[]⟩,.string ⟨#[]⟩] 27 (0,0))) (qT _ _ _ #[.string ⟨#[]⟩,.string ⟨#[]⟩] _ _ h7);refine hSn 8 2 h7 (h:=⟨ae,?_⟩);refine hT 9 (hS:=ae) (h:=?_);refine wpAnyH_done (by kernel_rfl) ?_ _;obtain⟨u8,hu⟩:∃u,u=eD.setRow g8 #[.string ⟨#[]⟩,.string ⟨#[]⟩]:=⟨_,rfl⟩;rw [<-hu] at aH ⊢;clear hu H e4 e5 e6 e7 h7 aD V az ae av hS0;have cB:Kn (fun W=>Below w.heap.size w W/\W.heap[g7]? = some (.cells #[.string y1,.string y2] 27 (0,0))) u8:=.of ⟨aH.o.1.1.1.1,aH.o.1.2⟩;clear aH bU;go_wp2_with fail;refine (qes u8).mono ?_;rintro e eF ⟨fq,rfl,hO,bu⟩;obtain⟨dU,c40,rfl,aR⟩:=qd1 hO;have bO:=cB.below bu;have HF:=qH (ex_f4 eF dU c40 aR (HT.o.below bO.o.1));clear hO bu aR cB;go_wp2_with fail;refine HF.o.mono ?_;rintro e eG ⟨bv,rfl⟩;unfold mdv0;obtain⟨aa,aV,cO⟩:=nw1 eG #[.int .i64 0,.int .i64 0,.slice none 0 0,.slice none 0 0,.slice none 0 0] 46;have ag:=(bO.below bv).below cO.o.1;clear bv HF bO cO
 go_upto_region 9 with (first | ((with_reducible refine qcC rfl 46 _ _ rfl #[.int .i64 0,.int .i64 0,.slice none 0 0,.slice none 0 0,.slice none 0 0] #[.int .i64 0,.int .i64 0,.slice none 0 0,.slice none 0 0,.slice none 0 0] ?_ ?_ 5 ?_ ?_ ?_ ?_ ?_);(next=>rfl);(next=>rfl);(next=>kernel_rfl);(next=>rfl);(next=>rfl);(next=>rfl)) | fail)
 rw [<-aV];clear aV;have lg:=(qG ag.o.2).1;have f0:=rowC (B:=aa.heap.size) ag.o.2 0;have f1:=rowC (B:=aa.heap.size) ag.o.2 1;have dV:=fun W=>eqF_same y1 y2 W
 refine wp_region_held_drew (S:=fun W=>Below aa.heap.size aa W) (by kernel_rfl) qB.drew (fun hS0=>?_);have Z:Below aa.heap.size aa aa.drew:=qB.drew;refine hT 0 (h:=hT 1 (h:=hT 2 (h:=?_)));refine hE 3 (h:=⟨qb4 Z qN,hN (h:=?_)⟩);refine hC 4 (q_ex _ [1600] 1 rfl (by decide) (by decide) (HT.o.below (ag.below Z).o.1)) (h:=?_);rintro e u9 ⟨qa,qg,qc,rfl,hq,dF⟩;have F:Below aa.heap.size aa u9:=Z.trans (dF.mono Z.size);refine⟨_,rfl,F,hN (h:=?_)⟩;have dW:=hq.addr (by rw [qcb];decide);subst dW;have hc:=hq.cell 0 (by rw [qcb];decide);have dG:(told 1 (zq [1600])).getD 0 fd0=(y1,y2):=HY.o;rw [dG] at hc;have d0:u9.cell? ⟨qg,0,none⟩=some (.string y1):=hc.1;have d1:u9.cell? ⟨qg,1,none⟩=some (.string y2):=hc.2;clear hc dG hq dF;refine hT 5 (hS:=F) (h:=?_);refine hE 6 (h:=⟨F,hN (h:=?_)⟩);refine hT 7 (hS:=F) (h:=hT 8 (hS:=F) (h:=hT 9 (hS:=F) (h:=hT 10 (hS:=F) (h:=hT 11 (hS:=F) (h:=hT 12 (hS:=F) (h:=hT 13 (hS:=F) (h:=?_)))))));refine hT 14 (hS:=F) (h:=hT 15 (hS:=F) (h:=hT 16 (hS:=F) (h:=hT 17 (hS:=F) (h:=hT 18 (hS:=F) (h:=hT 19 (hS:=F) (h:=hT 20 (hS:=F) (h:=hT 21 (hS:=F) (h:=?_))))))));refine wpAnyH_done (by kernel_rfl) ?_ _;have HB:=qH ((ag.below F).o.1);clear F hS0 Z d0 d1 f0 f1 lg dV ag;go_wp2;go_ret;exact⟨rfl,HB.o⟩
