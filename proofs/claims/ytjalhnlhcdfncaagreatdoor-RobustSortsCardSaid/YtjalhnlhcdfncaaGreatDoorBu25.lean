import Derived.Test.YtjalhnlhcdfncaaGreatDoorBu24
set_option maxRecDepth 100000
set_option maxHeartbeats 0
namespace Go.Proofs.YtjalhnlhcdfncaaGreatDoor
open Go.RowKit Go.Proofs.Tryz
def RRow (W:World) (g n:Nat) (x:Nat->Rat) (i:Nat):Prop:=∃cs:Array Value,W.heap[g]? = some (.cells cs 127 (0,0))/\cs.size=n*3/\(∀y∈cs.toList,∀z,y≠.int .u32 z)/\RCells W g i x
theorem RRow.below {W W':World} {g n i:Nat} {x:Nat->Rat} (h:RRow W g n x i) (E:Below W.heap.size W W'):RRow W' g n x i:=by
 obtain⟨cs,F,G,H,I⟩:=h;exact⟨cs,zkeep E _ _ F,G,H,I.below E⟩
theorem RRow.at {W:World} {g n i:Nat} {x:Nat->Rat} (h:RRow W g n x i) (H:i<n):(∃v0 F v2,W.cell? ⟨g,i*3,none⟩=some v0/\W.cell? ⟨g,i*3+1,none⟩=some F/\W.cell? ⟨g,i*3+2,none⟩=some v2)/\∀j,W.frozen? ⟨g,j,none⟩=false:=by
 obtain⟨cs,E,G,_,_⟩:=h;refine⟨⟨cs[i*3]'(by omega),cs[i*3+1]'(by omega),cs[i*3+2]'(by omega),?_,?_,?_⟩,fun j=>qF _ _ _ _ _ E⟩
 ·exact (qC _ _ _ _ _ _ E).trans (Array.getElem?_eq_getElem _)
 ·exact (qC _ _ _ _ _ _ E).trans (Array.getElem?_eq_getElem _)
 ·exact (qC _ _ _ _ _ _ E).trans (Array.getElem?_eq_getElem _)
theorem qjP {cs:Array Value} {k:Nat} {v y:Value} (h:y∈(cs.setIfInBounds k v).toList):y∈cs.toList\/y=v:=by
 rw [Array.toList_setIfInBounds] at h;exact List.mem_or_eq_of_mem_set h
theorem RRow.set {W:World} {g n i:Nat} {x:Nat->Rat} (h:RRow W g n x i) (Y:i<n) {a:Option Addr} {m c:Nat} {b:Bool} {d:Option Addr} {e f:Nat} (V:RatV W (.agg #[.slice a m c,.bool b,.slice d e f]) (x i)) :
  RRow (((W.setCell ⟨g,i*3,none⟩ (.slice a m c)).setCell ⟨g,i*3+1,none⟩ (.bool b)).setCell ⟨g,i*3+2,none⟩ (.slice d e f)) g n x (i+1):=by
 obtain⟨cs,F,J,G,O⟩:=h;have I:W.grownBy (((W.setCell ⟨g,i*3,none⟩ (.slice a m c)).setCell ⟨g,i*3+1,none⟩ (.bool b)).setCell ⟨g,i*3+2,none⟩ (.slice d e f)) (some g):=qbX (qbX (qb0 W g (i*3) _) (qb0 _ g (i*3+1) _)) (qb0 _ g (i*3+2) _);have H:=heap_setCell_same _ g (i*3+2) _ _ (.slice d e f) (heap_setCell_same _ g (i*3+1) _ _ (.bool b) (heap_setCell_same _ g (i*3) _ _ (.slice a m c) F));refine⟨_,H,by simp [J],fun y hy z=>?_,⟨fun k U=>?_⟩⟩
 ·rcases qjP hy with hy | rfl
  ·rcases qjP hy with hy | rfl
   ·rcases qjP hy with hy | rfl
    ·exact G y hy z
    ·intro h;cases h
   ·intro h;cases h
  ·intro h;cases h
 ·have E:∀j,(((W.setCell ⟨g,i*3,none⟩ (.slice a m c)).setCell ⟨g,i*3+1,none⟩ (.bool b)).setCell ⟨g,i*3+2,none⟩ (.slice d e f)).cell? ⟨g,j,none⟩=(((cs.setIfInBounds (i*3) (.slice a m c)).setIfInBounds (i*3+1) (.bool b)).setIfInBounds (i*3+2) (.slice d e f))[j]?:=fun j=>qC _ _ _ _ _ _ H
  rcases qaB k i with hlt | hge
  ·obtain⟨a',m',c',b',d',e',f',g1,g2,g3,g4⟩:=O.cell k hlt;rw [qC _ _ _ _ _ _ F] at g1 g2 g3;refine⟨a',m',c',b',d',e',f',?_,?_,?_,g4.keep I F G⟩
   ·rw [E,qa1 (by omega),qa1 (by omega),qa1 (by omega)];exact g1
   ·rw [E,qa1 (by omega),qa1 (by omega),qa1 (by omega)];exact g2
   ·rw [E,qa1 (by omega),qa1 (by omega),qa1 (by omega)];exact g3
  ·obtain rfl:k=i:=by omega
   refine⟨a,m,c,b,d,e,f,?_,?_,?_,V.keep I F G⟩
   ·rw [E,qa1 (by omega),qa1 (by omega),Array.getElem?_setIfInBounds_self_of_lt (by omega)]
   ·rw [E,qa1 (by omega),Array.getElem?_setIfInBounds_self_of_lt (by simp;omega)]
   ·rw [E,Array.getElem?_setIfInBounds_self_of_lt (by simp;omega)]
theorem infoRt:(Tryz.prog.info? 127).map (fun i=>(i.zero,i.size,i.bytes))=some (some (.agg #[.slice none 0 0,.bool false,.slice none 0 0]),3,56):=by kernel_rfl
theorem make_rts (n:Nat) (I:n<=1000) (w:World):(Instr.makeSlice 158 (.int .i64 (n:Int)) (.int .i64 (n:Int))).run prog w=.ok (.slice (some ⟨w.heap.size,0,none⟩) n n) (w.alloc (.cells (madeCells #[.slice none 0 0,.bool false,.slice none 0 0] (n*3)) 127)):=by
 obtain⟨i,H,E,F,G⟩:=info_parts infoRt;have h:=run_make (P:=prog) w 158 127 i _ underlying158 H E .i64 .i64 (n:Int) (n:Int) (by omega) (Int.le_refl _) (by rw [G];omega) (by omega);rw [F,Int.toNat_natCast] at h;exact h
theorem RRow.made (W:World) (n:Nat) (x:Nat->Rat):RRow (W.alloc (.cells (madeCells #[.slice none 0 0,.bool false,.slice none 0 0] (n*3)) 127)) W.heap.size n x 0:=by
 refine⟨_,qM _ _ _ rfl,size_madeCells _ _,fun y hy z=>?_,⟨fun k E=>absurd E (Nat.not_lt_zero _)⟩⟩;simp [madeCells] at hy;obtain⟨j,_,rfl⟩:=hy;rcases (show j % 3=0\/j % 3=1\/j % 3=2 by omega) with e | e | e <;> rw [e] <;> intro h <;> cases h
theorem sum_any (b n c:Nat) (ao:Option Addr) (x:Nat->Rat) (w:World) (hn:n<=300) (hF:FCells w ao b 0 (told n x)) (hx:qb3 n x) (hs:Short (sumQ n x)) (hT:HasT w) :
  Calls prog 49 #[.slice ao n c] w fun e w'=>e=.returned (.tuple #[.agg #[.string (ftxt (sumQ n x)).1,.string (ftxt (sumQ n x)).2],.int .i64 0])/\Below w.heap.size w w':=by
 obtain⟨r1,r2,hr⟩:=qcF (sumQ n x);rw [hr];obtain⟨W1,V,N1⟩:=nw1 w #[.string ⟨#[]⟩,.string ⟨#[]⟩] 27;have aa:W1.heap.size=w.heap.size+1:=by rw [V];simp
 have ah:=make_rts n (by omega) W1;obtain⟨W2,I⟩:=qY (W1.alloc (.cells (madeCells #[.slice none 0 0,.bool false,.slice none 0 0] (n*3)) 127));rw [<-I,aa] at ah;have aj:RRow W2 (w.heap.size+1) n x 0:=by rw [I,<-aa];exact RRow.made W1 n x
 have Y:Below W1.heap.size W1 W2:=I▸qB.alloc qN _;have H0:=qH (qA (N1.o.1.trans (Y.mono N1.o.1.size)) (qA aj (zkeep Y _ _ N1.o.2)));have U:=qH (qA hF (qA hx (qA hs (qA hT hr))));have az:¬(300:Int)<n:=by omega
 clear N1 aa aj Y hF hx hs hT hr I;go_enter func49,ntmps49;go_upto_region 1 with fail;rw [<-V];clear V;go_wp2_with fail;clear ah
 go_loopw [18] (fun x18 W=>∃i:Nat,x18=.int .i64 i/\i<=n/\Hu (Below w.heap.size w W/\RRow W (w.heap.size+1) n x i/\W.heap[w.heap.size]? = some (.cells #[.string ⟨#[]⟩,.string ⟨#[]⟩] 27 (0,0)))) (fun x18 _=>n-(intOf x18).toNat)
 case atStart=>exact⟨0,rfl,qaj _,H0⟩
 case round =>
  obtain⟨i,rfl,ay,O⟩:=hrel
  by_cases hi:i<n
  ·have ax:(i:Int)<n:=by omega
   have ha:=U.o.1.addr (by rw [qb1];omega);subst ha;obtain⟨d0,d1⟩:=(U.o.1.below O.o.1).cell i (by rw [qb1];exact hi);rw [qdr hi] at d0 d1;have F:=fun W=>readq (U.o.2.1 i hi) W
   obtain⟨t1,t2,ht⟩:=qcF (x i);rw [ht] at d0 d1 F;rw [qaR] at d0 d1;have F:=qH F;clear ht;go_wp2_with fail;refine (F.o _).mono ?_;rintro e w5 ⟨a0,m0,c0,b0,e0,e1,e2,rfl,hv,E,hb⟩;have J:Below wr.heap.size wr w5:=(qB.alloc qN _).trans (hb.mono (by simp only [qab];omega));have HN:=qH (qA (O.o.1.trans (J.mono O.o.1.size)) (qA (O.o.2.1.below J) (qA (zkeep J _ _ O.o.2.2) (qA hv E))));clear hv E hb J F;obtain⟨V6,ag,N6⟩:=nw1 w5 #[.slice a0 m0 c0,.bool b0,.slice e0 e1 e2] 127;obtain⟨⟨v0,v1,v2,q0,q1,q2⟩,qf⟩:=(HN.o.2.1.below N6.o.1).at hi;have aA:=qf (i*3);have aB:=qf (i*3+1);have aC:=qf (i*3+2);have HS:=qH (qA (HN.o.1.trans (N6.o.1.mono HN.o.1.size)) (qA ((HN.o.2.1.below N6.o.1).set hi (HN.o.2.2.2.1.below N6.o.1)) (zkeep N6.o.1 _ _ HN.o.2.2.1)));go_upto_region 10 with fail;rw [<-ag];clear ag;have y0:=qC _ _ 0 _ _ _ N6.o.2;have y1:=qC _ _ 1 _ _ _ N6.o.2;have y2:=qC _ _ 2 _ _ _ N6.o.2;have av:i*3<n*3:=by omega
   clear qf N6;go_wp2;go_roundw
   case rel =>
    refine⟨i+1,by go_num,hi,qH ⟨((HS.o.1.setCell (p:=⟨w.heap.size+1,i*3,none⟩) (show w.heap.size<=w.heap.size+1 by omega) _).setCell (p:=⟨w.heap.size+1,i*3+1,none⟩) (show w.heap.size<=w.heap.size+1 by omega) _).setCell (p:=⟨w.heap.size+1,i*3+2,none⟩) (show w.heap.size<=w.heap.size+1 by omega) _,HS.o.2.1,?_⟩⟩;exact (qW _ _ _ _ (show w.heap.size≠w.heap.size+1 by omega)).trans ((qW _ _ _ _ (show w.heap.size≠w.heap.size+1 by omega)).trans ((qW _ _ _ _ (show w.heap.size≠w.heap.size+1 by omega)).trans HS.o.2.2))
   case measure=>simp [intOf];omega
  ·obtain rfl:i=n:=by omega
   have H:∀k,k<i->RFit (x k) 67:=fun k hk=>by
    have:=(qeh (U.o.2.1 k hk)).fit;rw [qdw] at this;exact this
   have ai:RCells wr (w.heap.size+1) i x:=by obtain⟨cs,_,_,_,h⟩:=O.o.2.1;exact h
   have ae:=qH (qnV (w.heap.size+1) i i (some ⟨w.heap.size+1,0,none⟩) x wr (fun _=>rfl) hn H ai);have HI:=qH O.o;clear O H ai;go_wp2_with fail;refine ae.o.mono ?_;rintro e w5 ⟨r,rfl,hb,hv,E⟩;obtain⟨a0,m0,c0,b0,e0,e1,e2,rfl⟩:=qdf hv;have HB:=qH (HI.o.1.trans (hb.mono HI.o.1.size));have af:=qH (zkeep hb _ _ HI.o.2.2);have HW:=qH (qfW (sumQ i x) (68*i+1) (by omega) (by omega) _ w5 hv E (U.o.2.2.2.1.below HB.o));clear hb hv E ae;go_wp2_with fail;refine HW.o.mono ?_;rintro e w6 ⟨h,Z⟩;have ak:=qH (HB.o.trans (Z.mono HB.o.size));have G:=qH (zkeep Z _ _ af.o);clear Z HW;rcases h with ⟨_,rfl⟩ | ⟨au,_⟩
   case inr=>exact absurd U.o.2.2.1 au
   rw [qeG,U.o.2.2.2.2];have HE:=qH (qA (qT _ _ _ #[.string r1,.string r2] _ _ G.o) (qS ak.o qN #[.string r1,.string r2]))
   go_wp2_with ((with_reducible refine sR_ rfl 27 _ _ rfl (w.heap.size) #[.string r1,.string r2] G.o 2 ?_))
   exact qR (v:=.tuple #[.agg #[.string r1,.string r2],.int .i64 0]) (rB_ rfl w.heap.size HE.o.1 underlying27 2) rfl ⟨rfl,HE.o.2⟩
def Rises (K:List Int) (R i:Nat):Prop:=∀j,j<i->(0<=K.getD j 0/\K.getD j 0<(R:Int))/\(0<j->K.getD (j-1) 0<K.getD j 0)
theorem Rises.more {K:List Int} {R i:Nat} (h:Rises K R i) (E:0<=K.getD i 0/\K.getD i 0<(R:Int)) (F:0<i->K.getD (i-1) 0<K.getD i 0):Rises K R (i+1):=fun j G=>by
 rcases (show j<i\/j=i by omega) with h3 | rfl
 ·exact h j h3
 ·exact⟨E,F⟩
def CoAs (w:World) (m:Md) (l:List Pt) (K:List Int) (e:Ending) (F:World):Prop:=Below w.heap.size w F /\
  ((∃c,e=.returned (.tuple #[.agg #[.string ⟨#[]⟩,.string ⟨#[]⟩],.int .i64 c])/\SqF m l c) \/
   ∃E,PtsOk l/\MdOk m E (chans l)/\qb3 l.length (sqq m l E) /\
    ((¬Rises K l.length K.length/\e=.returned (.tuple #[.agg #[.string ⟨#[]⟩,.string ⟨#[]⟩],.int .i64 2])) \/
     (Rises K l.length K.length/\e=.returned (.tuple #[.agg #[.string (ftxt (sumQ K.length fun i=>sqq m l E (K.getD i 0).toNat)).1,.string (ftxt (sumQ K.length fun i=>sqq m l E (K.getD i 0).toNat)).2],.int .i64 0]))))
theorem qit (R b aP c n kb ko kc:Nat) (ao ka:Option Addr) (m:Md) (v:Value) (l:List Pt) (K:List Int) (w:World) (hM:MdAt w v m) (hR:l.length=R) (hl:R<=1000) (hs:∀k,k<R->(l.getD k pt0).name.size<=4611686018427387904/\(l.getD k pt0).dev.length<=4611686018427387904) (aH:∀q,q<3->(m.row q).length<=4611686018427387904)
  (hn:K.length=n) (aW:n<=300) (hP:PCells w ao b aP l) (hK:NCells w ka kb ko K) (hT:HasT w)
  (af:∀Y,MdOk m Y (chans l)->qb3 l.length (sqq m l Y)->Rises K R n->Short (sumQ n fun i=>sqq m l Y (K.getD i 0).toNat)) :
  Calls prog 20 #[v,.slice ao R c,.slice ka n kc] w fun e w'=>CoAs w m l K e w':=by
 obtain⟨k5,i5,A0,A1,A2,L0,C0,L1,C1,L2,C2,rfl⟩:=hM.five;obtain⟨W1,ah,N1⟩:=nw2 w #[.int .i64 k5,.int .i64 i5,.slice A0 L0 C0,.slice A1 L1 C1,.slice A2 L2 C2] 46 #[.string ⟨#[]⟩,.string ⟨#[]⟩] 27;have aK:W1.heap.size=w.heap.size+1+1:=by rw [ah];simp
 have HQ:=qH (qg4 m _ R b aP c ao l W1 (hM.below N1.o.1) hR (by omega) hs aH (hP.below N1.o.1) (hT.below N1.o.1));have G:=qH (qA hR (qA hn (qA hK (qA hT (qA af aK)))));have aJ:=N1.o.2.1;clear hM hP hR hs aH hn hK hT af aK;go_enter func20,ntmps20;go_upto_region 1 with fail;rw [<-ah];clear ah
 go_wp2_with (first | (with_reducible refine lW_ rfl 46 _ rfl (w.heap.size) #[.int .i64 k5,.int .i64 i5,.slice A0 L0 C0,.slice A1 L1 C1,.slice A2 L2 C2] aJ underlying46 5 ?_) | fail)
 refine HQ.o.mono ?_;rintro e w2 ⟨ai,h⟩;have ax:=qH ai;have ae:=zkeep ai _ _ N1.o.2.2;clear HQ aJ ai;rcases h with ⟨v2,rfl,hG⟩ | ⟨cc,rfl,hf⟩
 case inr =>
  have aX:(cc == (0:Int))=false:=beq_false_of_ne hf.ne;have bq:(cc != (0:Int))=true:=by rw [bne,aX];rfl
  have aR:=qH hf;clear hf
  go_wp2_with (first | (with_reducible refine sR_ rfl 27 _ _ rfl (w.heap.size+1) #[.string ⟨#[]⟩,.string ⟨#[]⟩] ae 2 ?_) | fail)
  refine qR (v:=.tuple #[.agg #[.string ⟨#[]⟩,.string ⟨#[]⟩],.int .i64 cc]) (rB_ rfl (w.heap.size+1) (qT _ _ _ _ _ _ ae) underlying27 2) rfl ?_;exact⟨qS (N1.o.1.trans (ax.o.mono N1.o.1.size)) (qbc _) _,.inl ⟨cc,rfl,aR.o⟩⟩
 obtain⟨aI,Y,aG,aL,g2,rfl,aa⟩:=hG;have I:=qH (qA aI (qA aG aL));obtain⟨sq,av⟩:=qX (sqq m l Y);rw [av] at aa;rw [G.o.1] at aa ⊢;have HS:=qH av;obtain⟨f,hf⟩:∃f:Nat->Rat,(fun i=>sq (K.getD i 0).toNat)=f:=⟨_,rfl⟩;have Z:=qH hf;have K2:Kn (fun W=>(Below W1.heap.size W1 W/\W.heap[w.heap.size+1]? = some (.cells #[.string ⟨#[]⟩,.string ⟨#[]⟩] 27 (0,0)))/\FCells W (some ⟨g2,0,none⟩) g2 0 (told R sq)) w2:=.of ⟨⟨ax.o,ae⟩,aa⟩;clear aI aG aL av hf aa ae;go_wp2_with fail
 go_loopw [10,25] (fun x10 x25 W=>∃i:Nat,x25=.int .i64 (i:Int)/\i<=n/\Hu (Rises K R i)/\Kn (fun W=>((Below W1.heap.size W1 W/\W.heap[w.heap.size+1]? = some (.cells #[.string ⟨#[]⟩,.string ⟨#[]⟩] 27 (0,0)))/\FCells W (some ⟨g2,0,none⟩) g2 0 (told R sq))/\Below w2.heap.size w2 W/\Rws W w2.heap.size 27 2 x10 i (fflat (told i f))) W) (fun _ x25 _=>n-(intOf x25).toNat)
 case atStart=>exact⟨0,rfl,qaj _,qH fun j hj=>absurd hj (Nat.not_lt_zero j),.of ⟨K2.o,Below.refl _ _,Rws.nil _ _ _ _⟩⟩
 case round =>
  obtain⟨i,rfl,hi,J,K3⟩:=hrel;have F:=K3.o.1.1.2;have H:=qH (N1.o.1.trans (K3.o.1.1.1.mono N1.o.1.size))
  by_cases ak:i<n
  case neg =>
   obtain rfl:i=n:=by omega
   have aU:¬(i:Int)<(i:Int):=by omega
   obtain⟨aS,g3,aA,rfl,aC,_⟩:=qdI K3.o.2.2 (qb1 _ _);have aF:qb3 i f:=fun j hj=>by
    have h:=(J.o j hj).1;have h2:=I.o.2.2 ((K.getD j 0).toNat) (by rw [G.o.1];omega);rw [HS.o] at h2;rw [<-Z.o];exact h2
   have aM:Short (sumQ i f):=by
    have h:=G.o.2.2.2.2.1 Y I.o.2.1 I.o.2.2 J.o;rw [HS.o] at h;rw [<-Z.o];exact h
   obtain⟨r1,r2,hr⟩:=qcF (sumQ i f);have O:=sum_any g3 i aA aS f wr aW aC aF aM (G.o.2.2.2.1.below H.o);rw [hr] at O;have az:=qH O;have HX:=qH hr;clear aF aM aC O hr;go_wp2_with fail;refine az.o.mono ?_;rintro e w9 ⟨rfl,aj⟩;have aO:=zkeep aj _ _ F;have aQ:=qH (H.o.trans (aj.mono H.o.size));clear aj az F
   go_wp2_with (first | (with_reducible refine sR_ rfl 27 _ _ rfl (w.heap.size+1) #[.string r1,.string r2] aO 2 ?_) | fail)
   refine qR (v:=.tuple #[.agg #[.string r1,.string r2],.int .i64 0]) (rB_ rfl (w.heap.size+1) (qT _ _ _ _ _ _ aO) underlying27 2) rfl ?_;refine⟨qS aQ.o (qbc _) _,.inr ⟨Y,I.o.1,I.o.2.1,I.o.2.2,.inr ⟨by rw [G.o.1,G.o.2.1];exact J.o,?_⟩⟩⟩;rw [G.o.2.1,HS.o,Z.o,HX.o]
  have aU:(i:Int)<(n:Int):=by omega
  have aV:=G.o.2.2.1.addr (by rw [G.o.2.1];omega);subst aV;have ck:∀j,j<n->wr.cell? ⟨kb,ko+j,none⟩=some (.int .i64 (K.getD j 0)):=fun j hj=>(G.o.2.2.1.below H.o).cell j (by rw [G.o.2.1];exact hj)
  have aB:=ck i ak;obtain⟨z,hz⟩:=qX (K.getD i 0);rw [hz] at aB;have HZ:=qH hz;have E:∀{P:Prop},(Rises K R (i+1)->P)->Rises K R n->P:=fun h1 h2=>h1 fun j hj=>h2 j (by omega)
  clear hz
  by_cases bi:z<0
  ·have HN:Hu (¬Rises K l.length K.length):=qH (by rw [G.o.1,G.o.2.1];exact E fun h=>by have:=(h i (Nat.lt_succ_self i)).1;rw [HZ.o] at this;omega);clear E ck
   go_wp2_with (first | (with_reducible refine sR_ rfl 27 _ _ rfl (w.heap.size+1) #[.string ⟨#[]⟩,.string ⟨#[]⟩] F 2 ?_) | fail)
   refine qR (v:=.tuple #[.agg #[.string ⟨#[]⟩,.string ⟨#[]⟩],.int .i64 2]) (rB_ rfl (w.heap.size+1) (qT _ _ _ _ _ _ F) underlying27 2) rfl ?_;exact⟨qS H.o (qbc _) _,.inr ⟨Y,I.o.1,I.o.2.1,I.o.2.2,.inl ⟨HN.o,rfl⟩⟩⟩
  by_cases bn:z≥(R:Int)
  ·have HN:Hu (¬Rises K l.length K.length):=qH (by rw [G.o.1,G.o.2.1];exact E fun h=>by have:=(h i (Nat.lt_succ_self i)).1;rw [HZ.o] at this;omega);clear E ck
   go_wp2_with (first | (with_reducible refine sR_ rfl 27 _ _ rfl (w.heap.size+1) #[.string ⟨#[]⟩,.string ⟨#[]⟩] F 2 ?_) | fail)
   refine qR (v:=.tuple #[.agg #[.string ⟨#[]⟩,.string ⟨#[]⟩],.int .i64 2]) (rB_ rfl (w.heap.size+1) (qT _ _ _ _ _ _ F) underlying27 2) rfl ?_;exact⟨qS H.o (qbc _) _,.inr ⟨Y,I.o.1,I.o.2.1,I.o.2.2,.inl ⟨HN.o,rfl⟩⟩⟩
  obtain⟨x,rfl⟩:∃x:Nat,z=(x:Int):=⟨z.toNat,by omega⟩;have aN:x<R:=by omega
  have bg:(x:Int)<(R:Int):=by omega
  obtain⟨d0,d1⟩:=K3.o.1.2.cell x (by rw [qb1];exact aN);rw [qdr aN] at d0 d1;obtain⟨x1,x2,hx⟩:=qcF (sq x);rw [hx,qaR] at d0 d1;have aD:told (i+1) f=told i f++[(x1,x2)]:=by
   rw [qeC,<-Z.o]
   show _++[ftxt (sq (K.getD i 0).toNat)]=_
   rw [HZ.o,Int.toNat_natCast,hx]
  have ay:=qH aD;have HX:=qH hx;clear aD hx;rcases i with _ | V
  ·have ag:Hu (Rises K R (0+1)):=qH (J.o.more (by rw [HZ.o];omega) fun h=>absurd h (by decide));rw [qbA] at aB;clear E ck F
   go_wp2_with (first | (at_builtin;refine qem rfl _ _ rfl K3.o.2.1 rfl K3.o.2.2 rfl rfl rfl (by omega) ?_;intro v' w' au U) | fail)
   go_roundw
   case rel=>exact⟨1,by go_num,ak,ag,.of ⟨(K2.below U.o).o,U.o,by rw [ay.o];exact au.o⟩⟩
   case measure=>simp [intOf] <;> omega
  obtain⟨y,hy⟩:=qX (K.getD V 0);have aT:=ck V (by omega);rw [hy] at aT;have p0:(0:Int)<=(V:Int):=by omega
  have p1:(V:Int)<(n:Int):=by omega
  have aY:(0:Int)<(V:Int)+1:=by omega
  have bf:IntKind.i64.wrap (V:Int)=(V:Int):=by rw [IntKind.wrap_i64];omega
  by_cases aZ:(x:Int)<=y
  ·have HN:Hu (¬Rises K l.length K.length):=qH (by
    rw [G.o.1,G.o.2.1];exact E fun h=>by
     have:=(h (V+1) (Nat.lt_succ_self _)).2 (Nat.succ_pos _);rw [HZ.o,Nat.add_sub_cancel,hy] at this;omega)
   clear E ck hy
   go_wp2_with (first | (with_reducible refine sR_ rfl 27 _ _ rfl (w.heap.size+1) #[.string ⟨#[]⟩,.string ⟨#[]⟩] F 2 ?_) | fail)
   refine qR (v:=.tuple #[.agg #[.string ⟨#[]⟩,.string ⟨#[]⟩],.int .i64 2]) (rB_ rfl (w.heap.size+1) (qT _ _ _ _ _ _ F) underlying27 2) rfl ?_;exact⟨qS H.o (qbc _) _,.inr ⟨Y,I.o.1,I.o.2.1,I.o.2.2,.inl ⟨HN.o,rfl⟩⟩⟩
  ·have ag:Hu (Rises K R (V+1+1)):=qH (J.o.more (by rw [HZ.o];omega) fun _=>by rw [HZ.o,Nat.add_sub_cancel,hy];omega);clear E ck F hy
   go_wp2_with (first | (at_builtin;refine qem rfl _ _ rfl K3.o.2.1 rfl K3.o.2.2 rfl rfl rfl (by omega) ?_;intro v' w' au U) | fail)
   go_roundw
   case rel=>exact⟨V+1+1,by go_num,ak,ag,.of ⟨(K2.below U.o).o,U.o,by rw [ay.o];exact au.o⟩⟩
   case measure=>simp [intOf] <;> omega
theorem FitF.not {l:List Pt} {k:Nat} {K:List Nat} {X:Nat->Nat->Rat} {c:Int} (O:PtsOk l) (U:1<=k/\k<=3) (J:¬(k=3/\chans l=4)) (F:KFit l k K X) (H:∀c,c<3->qb3 (many k (chans l)) (X c)):¬FitF l (k:Int) (keepW K l.length) c:=by
 have E:qdi (k:Int) k:=⟨rfl,U⟩;rintro (⟨h,_⟩ | ⟨_,h,_⟩ | ⟨_,_,_,k',G,h⟩)
 ·exact h O
 ·exact h ⟨⟨k,E⟩,qes _ _,keepW_ok _ _⟩
 ·obtain rfl:=E.uniq G;rcases h with ⟨a,b,_⟩ | ⟨_,⟨h,_⟩ | ⟨_,c,x,I,hx,V,_⟩⟩
  ·exact J ⟨a,b⟩
  ·exact F.1 h
  ·exact V ((H c I).congr (qcO.uniq (fun H=>F.1 (qfS H)) (F.2 c I) hx))
theorem SqF.not {m:Md} {k:Nat} {l:List Pt} {c:Int} (G:PtsOk l) (E:MdOk m k (chans l)) (H:qb3 l.length (sqq m l k)):¬SqF m l c:=by
 rintro (⟨h,_⟩ | ⟨_,h,_⟩ | ⟨_,_,h,_⟩ | ⟨_,_,k',F,h⟩)
 ·exact h ⟨_,_,E⟩
 ·exact h G
 ·exact h E.inn.1
 ·obtain rfl:=(E.uniq F).1;exact h H
theorem RunF.not {l:List Pt} {k keep E:Nat} {c:Int} (H:PtsOk l) (Y:1<=k/\k<=3) (O:¬(k=3/\chans l=4))
  (h:∀p,p<=E->∃K X,Runs l k keep p K X/\(∀c,c<3->qb3 (many k (chans l)) (X c))/\(p<E->qb3 l.length (sqq (mdX l k X) l k))):¬RunF l k keep E c:=by
 rintro (F | ⟨p,K,X,hp,J,F⟩)
 ·obtain⟨K,X,J,hs,_⟩:=h 0 (qaj _);rw [<-J.1] at F;exact FitF.not H Y O J.2 hs F
 ·obtain⟨K0,X0,I,ae,aa⟩:=h p (qaq hp);obtain⟨ag,Z⟩:=J.uniq I;rw [Z] at F;rcases F with F | F
  ·exact SqF.not H (mdq_ok Y H.n1 H.n4 O ae) (aa hp) F
  ·obtain⟨K1,X1,⟨K2,X2,U,G,V⟩,af,_⟩:=h (p+1) hp;rw [(U.uniq I).2] at G;rw [<-G] at F;exact FitF.not H Y O V af F
theorem qdA.uniq {k d p F E G:Nat} (h:qdA (k:Int) (d:Int) (p:Int) F E G):F=k/\E=d/\G=p:=by
 obtain⟨H,_,I,_,J,_⟩:=h;omega
theorem RFAs.only {w E:World} {l:List Pt} {k d p:Nat} {e:Ending} {K:List Nat} {X:Nat->Nat->Rat} (h:RFAs w l (k:Int) (d:Int) (p:Int) e E) (J:PtsOk l) (Y:1<=k/\k<=3) (U:d<=50) (hp:p<=8)
  (O:Runs l k (keepN l.length d) p K X) (G:∀c,¬RunF l k (keepN l.length d) p c):Below w.heap.size w E /\
  ∃v g,e=.returned (.tuple #[v,.slice (some ⟨g,0,none⟩) K.length K.length,.int .i64 0])/\NatR E w.heap.size g K.length K.length K/\MdAt E v (mdX l k X):=by
 refine⟨h.1,?_⟩;rcases h.2 with ⟨h,_⟩ | ⟨_,h,_⟩ | ⟨_,k',d',p',I,hr⟩
 ·exact absurd J h
 ·exact absurd ⟨k,d,p,rfl,Y,rfl,U,rfl,hp⟩ h
 ·obtain⟨rfl,rfl,rfl⟩:=I.uniq;rcases hr.2 with ⟨c,_,_,V⟩ | ⟨v,g,K',m,he,hN,H,X',F,rfl,_⟩
  ·exact absurd V (G c)
  ·obtain⟨rfl,Z⟩:=F.uniq O;rw [Z] at H;exact⟨v,g,he,hN,H⟩
theorem RFAs.bad {w F:World} {l:List Pt} {kind drop E:Int} {e:Ending} (h:RFAs w l kind drop E e F) (H:PtsOk l) (G:¬∃k d p,qdA kind drop E k d p):Below w.heap.size w F/\e=.returned (.tuple #[mdv0,.slice none 0 0,.int .i64 2]):=by
 refine⟨h.1,?_⟩;rcases h.2 with ⟨h,_⟩ | ⟨_,_,h⟩ | ⟨_,k',d',p',h,_⟩
 ·exact absurd H h
 ·exact h
 ·exact absurd ⟨k',d',p',h⟩ G
theorem CoAs.only {w G:World} {m:Md} {k:Nat} {l:List Pt} {K:List Int} {e:Ending} (h:CoAs w m l K e G) (H:PtsOk l) (F:MdOk m k (chans l)) (J:qb3 l.length (sqq m l k)):Below w.heap.size w G /\
    ((¬Rises K l.length K.length/\e=.returned (.tuple #[.agg #[.string ⟨#[]⟩,.string ⟨#[]⟩],.int .i64 2])) \/
     (Rises K l.length K.length/\e=.returned (.tuple #[.agg #[.string (ftxt (sumQ K.length fun i=>sqq m l k (K.getD i 0).toNat)).1,.string (ftxt (sumQ K.length fun i=>sqq m l k (K.getD i 0).toNat)).2],.int .i64 0]))):=by
  refine⟨h.1,?_⟩;rcases h.2 with ⟨c,_,I⟩ | ⟨kk,_,E,_,h⟩
  · exact absurd I (SqF.not H F J)
  · obtain rfl:=(F.uniq E).1;exact h
theorem qhu:qb3 5 (sqq (mdX line5 1 linX0) line5 1):=fun i E=>by
 rw [qjN i E];rcases (show i=0\/i=1\/i=2\/i=3\/i=4 by omega) with rfl | rfl | rfl | rfl | rfl <;> exact qdu (N:=10000) ⟨by decide +kernel,by decide +kernel⟩ (by decide +kernel)
theorem qhv:qb3 5 (sqq (mdX line5 1 linX1) line5 1):=fun i E=>by
 rw [qmS i E];rcases (show i=0\/i=1\/i=2\/i=3\/i=4 by omega) with rfl | rfl | rfl | rfl | rfl <;> exact qdu (N:=10000) ⟨by decide +kernel,by decide +kernel⟩ (by decide +kernel)
theorem lin_no (keep:Nat) (c:Int):¬RunF line5 1 keep 0 c:=RunF.not qeu (by decide) (by decide) fun p F=>by
 obtain rfl:p=0:=by omega
 exact⟨_,_,qht keep,fun c E=>(qiH c E).2,fun h=>absurd h (by decide)⟩
theorem lin_no4 (c:Int):¬RunF line5 1 4 1 c:=RunF.not qeu (by decide) (by decide) fun p F=>by
 rcases (show p=0\/p=1 by omega) with rfl | rfl
 ·exact⟨_,_,qht 4,fun c E=>(qiH c E).2,fun _=>qhu⟩
 ·exact⟨_,_,lin_r1,fun c E=>(qmU c E).2,fun h=>absurd h (by decide)⟩
theorem lin_no5 (c:Int):¬RunF line5 1 5 1 c:=RunF.not qeu (by decide) (by decide) fun p F=>by
 rcases (show p=0\/p=1 by omega) with rfl | rfl
 ·exact⟨_,_,qht 5,fun c E=>(qiH c E).2,fun _=>qhu⟩
 ·exact⟨_,_,lin_r5,fun c E=>(qiH c E).2,fun h=>absurd h (by decide)⟩
theorem qeL:∀k,k<5->(line5.getD k pt0).name.size<=4611686018427387904/\(line5.getD k pt0).dev.length<=4611686018427387904:=qnl qeu rfl
theorem qjL (W:World) (b c d p:Nat) {K:List Nat} {X:Nat->Nat->Rat} (G:PCells W (some ⟨b,0,none⟩) b 0 line5) (hT:HasT W) (I:d<=50) (J:p<=8) (H:Runs line5 1 (keepN 5 d) p K X) (E:∀c,¬RunF line5 1 (keepN 5 d) p c) :
  Calls prog 22 #[.slice (some ⟨b,0,none⟩) 5 c,.int .i64 1,.int .i64 (d:Int),.int .i64 (p:Int)] W fun e F=>Below W.heap.size W F /\
   ∃v g,e=.returned (.tuple #[v,.slice (some ⟨g,0,none⟩) K.length K.length,.int .i64 0])/\NatR F W.heap.size g K.length K.length K/\MdAt F v (mdX line5 1 X) :=
 (qi8 5 b 0 c 1 d p (some ⟨b,0,none⟩) line5 W rfl (by decide) (fun _=>by decide) qeL G hT).mono fun _ _ h=>RFAs.only (k:=1) h qeu (by decide) I J H E
theorem qiZ {s E:Nat->Rat} {n:Nat} (h:∀i,i<n->s i=E i):qck s n=qck E n:=qgz fun a F b G=>by rw [h a (qas.1 F),h b (qas.1 G)]
theorem qix {R:Nat} {x:Nat->Rat} {z:Int} (h:ExIs (told R x) z) (hx:qb3 R x) (E:R<=40):z=0:=by
 rcases h with ⟨h,_⟩ | ⟨_,h,_⟩ | ⟨_,_,h⟩
 ·rw [qb1] at h;omega
 ·exact absurd (qc2 hx) h
 ·exact h
theorem OrdAs.only {w E:World} {x:Nat->Rat} {R:Nat} {e:Ending} (h:OrdAs w (told R x) e E) (hx:qb3 R x) (F:R<=40):Below w.heap.size w E /\
  ∃g,e=.returned (.tuple #[.slice (some ⟨g,0,none⟩) R R,.int .i64 0])/\NatR E w.heap.size g R R (qck x R):=by
 refine⟨h.1,?_⟩;rcases h.2 with ⟨z,H,he,_⟩ | ⟨_,g,he,hN⟩
 ·exact absurd (qix he hx F) H
 ·rw [qb1] at he hN;have:qck (lval (told R x)) R=qck x R:=qiZ fun i G=>qcU G
  rw [this] at hN;exact⟨g,he,hN⟩
theorem qgo.much {w E:World} {x:Nat->Rat} {R:Nat} {m:Int} {e:Ending} (h:qgo w (told R x) m e E) (hx:qb3 R x) (F:R<=40) (H:¬(0<=m/\m<=R)):Below w.heap.size w E/\e=.returned (.tuple #[.slice none 0 0,.int .i64 2]):=by
 refine⟨h.1,?_⟩;rcases h.2 with ⟨z,I,he,_⟩ | ⟨_,_,he⟩ | ⟨_,g,j,J,G,_⟩
 ·exact absurd (qix he hx F) I
 ·exact he
 ·rw [qb1] at G;exact absurd ⟨by omega,by omega⟩ H
theorem qij {E:List Int} {n:Nat} (h:∀z∈E,z.natAbs<=10000) (H:E.length=n):qb3 n (zq E):=fun i G=>by
 have F:E.getD i 0∈E:=by rw [qaa,qad (by omega)];exact qbM (by omega)
 exact qdu (N:=10000) ⟨by show ((E.getD i 0:Int):Rat).num.natAbs<=10000;rw [Rat.num_intCast];exact h _ F,by show ((E.getD i 0:Int):Rat).den<=10000;rw [Rat.den_intCast];decide⟩ (by decide +kernel)
theorem ord_3121:qck (zq [3,1,2,1]) 4=[1,3,2,0]:=by decide +kernel
theorem qlZ:bestL (zq [3,1,2,1]) 4 2=[1,3]:=by decide +kernel
theorem qjM:MdOk (mdX line5 1 linX1) 1 (chans line5):=mdq_ok (by decide) (by decide) (by decide) (by decide) fun c E=>(qmU c E).2
theorem qmT:(sumQ 1 fun i=>sqq (mdX line5 1 linX1) line5 1 (([2]:List Int).getD i 0).toNat)=1600:=by
 show 0+sqq (mdX line5 1 linX1) line5 1 2=1600
 rw [qmS 2 (by decide)]
 decide +kernel
theorem qky:∀q,q<3->((mdX line5 1 linX1).row q).length<=4611686018427387904:=fun q E=>by
 unfold mdX;rw [qgJ E,qb1]
 decide
theorem lin_cost (W:World) (v:Value) (b c g E:Nat) (I:MdAt W v (mdX line5 1 linX1)) (J:PCells W (some ⟨b,0,none⟩) b 0 line5) (H:NCells W (some ⟨g,0,none⟩) g 0 [2]) (hT:HasT W) :
  Calls prog 20 #[v,.slice (some ⟨b,0,none⟩) 5 c,.slice (some ⟨g,0,none⟩) 1 E] W fun e F=>e=.returned (.tuple #[.agg #[.string (ftxt 1600).1,.string (ftxt 1600).2],.int .i64 0])/\Below W.heap.size W F:=by
 refine (qit 5 b 0 c 1 g 0 E (some ⟨b,0,none⟩) (some ⟨g,0,none⟩) _ v line5 [2] W I rfl (by decide) qeL qky rfl (by decide) J H hT fun Z V _ _=>?_).mono fun e F h=>?_
 ·obtain rfl:=(qjM.uniq V).1;rw [qmT];exact qdu (N:=10000) ⟨by decide +kernel,by decide +kernel⟩ (by decide +kernel)
 ·obtain⟨O,⟨Y,_⟩ | ⟨_,he⟩⟩:=CoAs.only h qeu qjM qhv
  ·exact absurd (fun j U=>by
    obtain rfl:j=0:=by have:j<1:=U;omega
    exact⟨by decide,fun h=>absurd h (by decide)⟩) Y
  ·have G:(sumQ ([2]:List Int).length fun i=>sqq (mdX line5 1 linX1) line5 1 (([2]:List Int).getD i 0).toNat)=1600:=qmT;rw [G] at he;exact⟨he,O⟩
theorem qiG (W:World) (v:Value) (b c g F:Nat) (I:MdAt W v (mdX line5 1 linX1)) (J:PCells W (some ⟨b,0,none⟩) b 0 line5) (H:NCells W (some ⟨g,0,none⟩) g 0 [2,1]) (hT:HasT W) :
  Calls prog 20 #[v,.slice (some ⟨b,0,none⟩) 5 c,.slice (some ⟨g,0,none⟩) 2 F] W fun e G=>e=.returned (.tuple #[.agg #[.string ⟨#[]⟩,.string ⟨#[]⟩],.int .i64 2])/\Below W.heap.size W G:=by
 have E:¬Rises [2,1] 5 2:=fun h=>absurd ((h 1 (by decide)).2 (by decide)) (by decide)
 refine (qit 5 b 0 c 2 g 0 F (some ⟨b,0,none⟩) (some ⟨g,0,none⟩) _ v line5 [2,1] W I rfl (by decide) qeL qky rfl (by decide) J H hT fun V U _ h=>absurd h E).mono fun e G h=>?_
 obtain⟨O,⟨_,he⟩ | ⟨h,_⟩⟩:=CoAs.only h qeu qjM qhv
 ·exact⟨he,O⟩
 ·exact absurd h E
theorem qdJ {W:World} {B:Nat} {v:Value} (h:PaOwn W B v line5):∃g c,v=.slice (some ⟨g,0,none⟩) 5 c/\PCells W (some ⟨g,0,none⟩) g 0 line5 :=
 h.cells (by decide) fun j E=>by
  have E:j<5:=E;rcases (show j=0\/j=1\/j=2\/j=3\/j=4 by omega) with rfl | rfl | rfl | rfl | rfl <;> decide
theorem qhw:List.range line5.length=[0,1,2,3,4]:=by decide
theorem ex_f1 (W:World) (b c:Nat) (F:PCells W (some ⟨b,0,none⟩) b 0 line5) (hT:HasT W):Calls prog 22 #[.slice (some ⟨b,0,none⟩) 5 c,.int .i64 1,.int .i64 20,.int .i64 1] W fun e E=>Below W.heap.size W E /\
  ∃v g,e=.returned (.tuple #[v,.slice (some ⟨g,0,none⟩) 4 4,.int .i64 0])/\NatR E W.heap.size g 4 4 [0,1,3,4]/\MdAt E v (mdX line5 1 linX1) :=
 qjL W b c 20 1 F hT (by decide) (by decide) lin_r1 lin_no4
theorem ex_f2 (W:World) (b c:Nat) (F:PCells W (some ⟨b,0,none⟩) b 0 line5) (hT:HasT W):Calls prog 22 #[.slice (some ⟨b,0,none⟩) 5 c,.int .i64 1,.int .i64 19,.int .i64 1] W fun e E=>Below W.heap.size W E /\
  ∃v g,e=.returned (.tuple #[v,.slice (some ⟨g,0,none⟩) 5 5,.int .i64 0])/\NatR E W.heap.size g 5 5 [0,1,2,3,4]/\MdAt E v (mdX line5 1 linX0):=by
 have h:=qjL W b c 19 1 F hT (by decide) (by decide) lin_r5 lin_no5;rw [qhw] at h;exact h
theorem ex_f3 (W:World) (b c:Nat) (F:PCells W (some ⟨b,0,none⟩) b 0 line5) (hT:HasT W):Calls prog 22 #[.slice (some ⟨b,0,none⟩) 5 c,.int .i64 1,.int .i64 20,.int .i64 0] W fun e E=>Below W.heap.size W E /\
  ∃v g,e=.returned (.tuple #[v,.slice (some ⟨g,0,none⟩) 5 5,.int .i64 0])/\NatR E W.heap.size g 5 5 [0,1,2,3,4]/\MdAt E v (mdX line5 1 linX0):=by
 have h:=qjL W b c 20 0 F hT (by decide) (by decide) (qht 4) (lin_no 4);rw [qhw] at h;exact h
theorem ex_f4 (W:World) (b c:Nat) (E:PCells W (some ⟨b,0,none⟩) b 0 line5) (hT:HasT W):Calls prog 22 #[.slice (some ⟨b,0,none⟩) 5 c,.int .i64 1,.int .i64 51,.int .i64 1] W fun e F=>Below W.heap.size W F/\e=.returned (.tuple #[mdv0,.slice none 0 0,.int .i64 2]) :=
 (qi8 5 b 0 c 1 51 1 (some ⟨b,0,none⟩) line5 W rfl (by decide) (fun _=>by decide) qeL E hT).mono fun _ _ h=>h.bad qeu fun⟨k,d,p,_,_,h,G,_⟩=>by omega
section
variable {P:Program} {ops:Array Oper} {Q:Exit->Act->World->Prop} {md:Region.Mode} {S:World->Prop}
theorem qmq {L M:Nat->Bool} (h:∀k,L k=true->M k=true) {i:Nat} (F:Region.free md ops (arr ops.size L) i=true):Region.free md ops (arr ops.size M) i=true:=by
 unfold Region.free at F ⊢;cases e:ops[i]? with
 | none=>rw [e] at F;exact F
 | some oi =>
  rw [e] at F;refine qaA.2 fun j H=>?_
  have E:=(qaA.1 F) j H;have G:=qas.1 H;rw [qa6,qa6,qfL,if_pos G] at E ⊢;rcases E with (E | E) | E
  ·exact .inl (.inl E)
  ·exact .inl (.inr (h j E))
  ·exact .inr E
def growY (F:Region.Mode) (E:Array Oper) (rl:List (Nat×List Nat)) (T Y:List Nat) (n0:Nat):Bool :=
 ((List.range n0).all fun i=>T.contains i || (((nthOp E.toList i).map fun o=>(dep rl i).all fun k=>(waits F o).contains k && (!T.contains k && decide (k<n0))).getD false)) &&
 (((List.range n0).all fun k=>(T.contains k || Y.contains k) || (List.range (n0+1)).any fun j=>decide (k<j) && (!Y.contains j && ((nthOp E.toList j).map fun o=>(waits F o).contains k).getD false)) &&
 (!T.contains n0 && (!Y.contains n0 && (decide (n0<E.size) && (((List.range E.size).all fun i=>decide (i<=n0) || (T.contains i || ((nthOp E.toList i).map fun o=>(waits F o).any fun k=>decide (n0<=k) && !T.contains k).getD false)) &&
 (Region.noSelect E && Y.all fun y=>decide (y<n0) && (!T.contains y && ((nthOp E.toList y).map fun o=>((waits F o).all fun k=>T.contains k || (decide (k<n0) && !Y.contains k)) && Region.free F E (arr E.size fun k=>T.contains k || (waits F o).contains k) y).getD false)))))))
theorem qhn {rl:List (Nat×List Nat)} {T Y:List Nat} {n0:Nat} (h:growY md ops rl T Y n0=true) {i:Nat} {o:Oper} (G:i<n0) (hT:i∉T) (I:nthOp ops.toList i=some o):∀k∈dep rl i,k∈waits md o/\k∉T/\k<n0:=by
 intro k H;unfold growY at h;rw [qay] at h;have E:=(qaA.1 h.1) i (qas.2 G);rw [qa6,I] at E;rcases E with E | E
 ·exact absurd (qai.1 E) hT
 ·have F:=(qaA.1 (show ((dep rl i).all fun k=>(waits md o).contains k && (!T.contains k && decide (k<n0)))=true from E)) k H;simp only [qay,decide_eq_true_eq,qbP] at F;refine⟨qai.1 F.1,fun e=>?_,F.2.2⟩;rw [qai.2 e] at F;exact absurd F.2.1 (by decide)
theorem qk8 {rl:List (Nat×List Nat)} {T Y:List Nat} {n0:Nat} (h:growY md ops rl T Y n0=true) {k:Nat} (I:k<n0) (hT:k∉T) (H:k∉Y):∃j o,k<j/\j<=n0/\j∉Y/\nthOp ops.toList j=some o/\k∈waits md o:=by
 unfold growY at h;rw [qay,qay] at h;have F:=(qaA.1 h.2.1) k (qas.2 I);rw [qa6,qa6] at F;rcases F with (F | F) | F
 ·exact absurd (qai.1 F) hT
 ·exact absurd (qai.1 F) H
 obtain⟨j,G,E⟩:=List.any_eq_true.1 F;rw [qay,qay,decide_eq_true_eq,qbP] at E;have G:=qas.1 G;cases e:nthOp ops.toList j with
 | none=>rw [e] at E;exact absurd E.2.2 (by simp)
 | some o=>rw [e] at E;exact⟨j,o,E.1,by omega,(fun e=>by rw [qai.2 e] at E;cases E.2.1),e,qai.1 E.2.2⟩
theorem qk7 {rl:List (Nat×List Nat)} {T Y:List Nat} {n0:Nat} (h:growY md ops rl T Y n0=true) {i:Nat} {o:Oper} (J:n0<i) (hT:i∉T) (I:i<ops.size) (H:nthOp ops.toList i=some o):∃k∈waits md o,n0<=k/\k∉T:=by
 unfold growY at h;simp only [qay] at h;have F:=(qaA.1 h.2.2.2.2.2.1) i (qas.2 I);rw [qa6,decide_eq_true_eq,qa6,H] at F;rcases F with F | F | F
 ·omega
 ·exact absurd (qai.1 F) hT
 ·obtain⟨k,G,E⟩:=List.any_eq_true.1 (show ((waits md o).any fun k=>decide (n0<=k) && !T.contains k)=true from F);rw [qay,decide_eq_true_eq,qbP] at E;exact⟨k,G,E.1,fun e=>by rw [qai.2 e] at E;cases E.2⟩
theorem qhm {rl:List (Nat×List Nat)} {T Y:List Nat} {n0:Nat} (h:growY md ops rl T Y n0=true) {y:Nat} (hy:y∈Y):Region.noSelect ops=true/\y<n0/\y∉T/\∃o,nthOp ops.toList y=some o/\(∀k∈waits md o,k∈T\/(k<n0/\k∉Y))/\Region.free md ops (arr ops.size fun k=>T.contains k || (waits md o).contains k) y=true:=by
 unfold growY at h;simp only [qay] at h;have E:=(qaA.1 h.2.2.2.2.2.2.2) y hy;rw [qay,decide_eq_true_eq,qay,qbP] at E;refine⟨h.2.2.2.2.2.2.1,E.1,(fun e=>by rw [qai.2 e] at E;cases E.2.1),?_⟩;cases e:nthOp ops.toList y with
 | none=>rw [e] at E;exact absurd E.2.2 (by simp)
 | some o =>
  rw [e] at E;have G:(((waits md o).all fun k=>T.contains k || (decide (k<n0) && !Y.contains k)) && Region.free md ops (arr ops.size fun k=>T.contains k || (waits md o).contains k) y)=true:=E.2.2;rw [qay] at G;refine⟨o,rfl,fun k H=>?_,G.2⟩;have F:=(qaA.1 G.1) k H;rw [qa6,qay,decide_eq_true_eq,qbP] at F;rcases F with F | F
  ·exact .inl (qai.1 F)
  ·exact .inr ⟨F.1,fun e=>by rw [qai.2 e] at F;cases F.2⟩
theorem qlP {o:Oper} {n:Nat} {L:Nat->Bool} (h:∀k∈waits md o,k<n/\L k=true):(o.after.all fun e=>!Region.binds md e || (decide (e.on<n) && L e.on))=true:=by
 refine Array.all_eq_true.2 fun j H=>?_
 cases G:Region.binds md o.after[j] with
 | false=>rfl
 | true =>
  have I:(o.after[j]).on∈waits md o:=qbe.2 ⟨o.after[j],List.mem_filter.2 ⟨Array.mem_toList_iff.2 (Array.getElem_mem H),G⟩,rfl⟩;obtain⟨E,F⟩:=h _ I;rw [qV E,F];rfl
theorem dag_lt (E:dagB md ops=true) {i:Nat} {o:Oper} (F:i<ops.size) (H:nthOp ops.toList i=some o):∀k∈waits md o,k<i:=fun k G=>by
 have h:=(qaA.1 E) i (qas.2 F);rw [H] at h;exact of_decide_eq_true ((qaA.1 (show ((waits md o).all fun k=>decide (k<i))=true from h)) k G)
theorem qjm (a:Act) (D:List (Nat×Tmp)) (rl:List (Nat×List Nat)) (T Y:List Nat) (n0:Nat) (F:Nat->Value->World->Prop) (w0:World) (T2:List Nat) (hQ:∀c (d:Tmp) (x:Value) (a:Act) (w:World),Q (.panic c) (a.put (some d) x) w->Q (.panic c) a w)
  (ay:∀i x w w',F i x w->Below w.heap.size w w'->F i x w')
  (ag:dagB md ops=true) (h1:(D.map (·.1)).Nodup) (h2:(D.map (·.2)).Nodup) (au:dstB ops D T2=true) (aG:∀k,k<n0->k∈T2->k∈T) (hB:growY md ops rl T Y n0=true) (hn:n0<ops.size) (kl:Nat) (aM:leftN ops.size (fun i=>decide (i<n0) || T.contains i)=kl)
  (hS:∀w,Below w0.heap.size w0 w->S w)
  (hstep:∀i o,nthOp ops.toList i=some o->i<n0->i∉T->i∉Y->∀(v:Nat->Value) (w:World),Below w0.heap.size w0 w->(∀k∈dep rl i,F k (v k) w) ->
   ∀A,A=pf a v D->∀K,Grows F [] i w A o.dst K->if Region.wanted o (yielded ops A.tmps)=true then Oper.wp P o A w K Q else K (A.put o.dst undef) w)
  (htake:∀y∈Y,∀o,nthOp ops.toList y=some o->∀(v:Nat->Value) (w:World),Below w0.heap.size w0 w->(∀k∈dep rl y,F k (v k) w) ->
   ∀A,A=pf a v D->∃x,Region.wanted o (yielded ops A.tmps)=true/\(∀w,S w->(execOp A.eval o).run P w=.ok (.value x) w)/\F y x w)
  (hend:∀v w,Grown md ops T [] n0 F w0 (fun i=>decide (i<n0) || T.contains i) v w->∀A,A=pf a v D->∀f,wpAnyH P md ops Q S (f+kl) (arr ops.size fun i=>decide (i<n0) || T.contains i) A w) :
  ∀(E:Nat) (L:Nat->Bool) (v:Nat->Value) (w:World),leftN ops.size L<=E->Grown md ops T [] n0 F w0 L v w->wpAnyH P md ops Q S E (arr ops.size L) (pf a v D) w:=by
 have aj:∀(E:Nat) (L:Nat->Bool) (v:Nat->Value) (w:World),leftN ops.size L<=E->Grown md ops T [] n0 F w0 L v w->(∀i,i<n0->L i=true)->wpAnyH P md ops Q S E (arr ops.size L) (pf a v D) w:=by
  intro E L v w hf G O;have aF:L=fun i=>decide (i<n0) || T.contains i:=funext fun i=>by
   by_cases h:i<n0
   ·rw [O i h,qV h];rfl
   ·by_cases h2:i∈T
    ·rw [G.took i h2,qai.2 h2,Bool.or_true]
    ·rw [G.top i (by omega) h2,qU h,Bool.false_or];exact (Bool.not_eq_true _▸fun e=>h2 (qai.1 e):T.contains i=false).symm
  subst aF;rw [aM] at hf;obtain⟨f,rfl⟩:∃f,E=f+kl:=⟨E-kl,by omega⟩;exact hend v w G _ rfl f
 have next:∀(L:Nat->Bool) (v:Nat->Value) (w w':World) (i:Nat) (o:Oper) (x:Value),Grown md ops T [] n0 F w0 L v w->i<n0->i∉T->L i=false->ops[i]? = some o->(∀k∈waits md o,L k=true)->F i x w'->Below w.heap.size w w' ->
   (pf a v D).put o.dst x=pf a (upd v i x) D/\Grown md ops T [] n0 F w0 (upd L i true) (upd v i x) w':=by
  intro L v w w' i o x G U V hL J Z hF I;have af:i<ops.size:=by omega
  refine⟨?_,G.old.trans (I.mono G.old.size),fun j hj ai=>?_,fun k H=>?_,fun j p hp hj k H=>?_,fun j hj ai ak=>?_,fun j hj=>absurd hj (by simp),fun j hj=>absurd hj (by simp)⟩
  ·have I:=(qaA.1 au) i (qas.2 af);rw [qa6,qcI J] at I;rcases I with I | I
   ·exact absurd (aG i U (qai.1 I)) V
   ·cases e:o.dst with
    | none =>
     show pf a v D=_
     refine (qeQ a v i x D fun p hp e2=>?_).symm;have I:(!(D.map (·.1)).contains i)=true:=by
      have:(match o.dst with | none=>!(D.map (·.1)).contains i | some d=>D.contains (i,d))=true:=I;rw [e] at this;exact this
     rw [qbP,<-Bool.not_eq_true] at I;exact I (qai.2 (qbe.2 ⟨p,hp,e2⟩))
    | some d =>
     have I:D.contains (i,d)=true:=by
      have:(match o.dst with | none=>!(D.map (·.1)).contains i | some d=>D.contains (i,d))=true:=I;rw [e] at this;exact this
     exact qnj a v x D h1 h2 (qai.1 I)
  ·rw [qb8 _ _ (by omega)];exact G.top j hj ai
  ·rw [qb8 _ _ (by rintro rfl;exact V H)];exact G.took k H
  ·by_cases e:k=i
   ·rw [e,upd_same]
   ·rw [qb8 _ _ e]
    by_cases e2:j=i
    ·subst e2;rw [qcI J] at hp;cases hp;exact Z k H
    ·rw [qb8 _ _ e2] at hj;exact G.shut j p hp hj k H
  ·by_cases e:j=i
   ·subst e;rw [upd_same];exact hF
   ·rw [qb8 _ _ e] at ak ⊢;exact ay _ _ _ _ (G.fact j hj ai ak) I
 intro E
 induction E with
 | zero =>
  intro L v w hf G;exact aj 0 L v w hf G fun i hi=>qhs (Nat.le_zero.1 hf) i (by omega)
 | succ E ih =>
  intro L v w hf G
  by_cases O:∀i,i<n0->L i=true
  ·exact aj (E+1) L v w hf G O
  by_cases hY:∃y∈Y,L y=false/\∀o,nthOp ops.toList y=some o->∀k∈waits md o,L k=true
  ·obtain⟨y,hy,hL,Z⟩:=hY;obtain⟨aN,aA,aB,o,J,az,aI⟩:=qhm hB hy;have Z:=Z o J;obtain⟨x,aP,ax,hF⟩:=htake y hy o J v w G.old (fun k H=>by obtain⟨a1,a2,a3⟩:=qhn hB aA aB J k H;exact G.fact k a3 a2 (Z k a1)) _ rfl;obtain⟨ae,ah⟩:=next L v w w y o x G aA aB hL (qeP J) Z hF qB
   refine wpAnyH_take (qeP J) aN (qmq (fun k H=>?_) aI) ?_ (hQ:=fun c a w h=>by
    cases e:o.dst with
    | none=>rw [e] at h;exact h
    | some d=>rw [e] at h;exact hQ c d x a w h) (qax ⟨aP,ax⟩) (hS _ G.old) ?_
   ·rw [qa6] at H;rcases H with H | H
    ·exact G.took k (qai.1 H)
    ·exact Z k (qai.1 H)
   ·refine qai.2 ((qfE _ L rfl y).2 ⟨by omega,hL,o,qeP J,?_⟩);exact qlP fun k H=>⟨by have:=dag_lt ag (show y<ops.size by omega) J k H;omega,Z k H⟩
   ·rw [qjt,ae];exact ih _ _ _ (by have:=qgF (show y<ops.size by omega) hL;omega) ah
  refine⟨fun h0=>absurd (fun i hi=>qhz ag h0 i (by omega)) O,fun i hi=>?_⟩;obtain⟨af,hL,o,J,hd⟩:=(qfE _ L rfl i).1 hi;have Z:∀k∈waits md o,L k=true:=fun k H=>(qjk hd k H).2
  have V:i∉T:=fun h=>by have:=G.took i h;rw [hL] at this;cases this
  have aJ:i∉Y:=fun h=>hY ⟨i,h,hL,fun p hp k H=>by rw [qcI J] at hp;cases hp;exact Z k H⟩
  have U:i<n0:=by
   apply Classical.byContradiction;intro aQ;rcases qaB n0 i with hgt | hle
   ·obtain⟨k,H,aK,aL⟩:=qk7 hB hgt V af (qcI J);have:=Z k H;rw [G.top k aK aL] at this;cases this
   ·obtain rfl:i=n0:=by omega
    have aC:∀m k,k<i->k∉Y->i-k=m->L k=true:=by
     intro m
     induction m using Nat.strongRecOn with
     | ind m ihm =>
      intro k H aa hm
      by_cases av:k∈T
      ·exact G.took k av
      obtain⟨j,p,h1,h2,aD,h3,h4⟩:=qk8 hB H av aa;rcases qaB j i with h | h
      ·exact G.shut j p h3 (ihm (i-j) (by omega) j h aD rfl) k h4
      ·obtain rfl:j=i:=by omega
       rw [qcI J] at h3;cases h3;exact Z k h4
    refine O fun k H=>?_
    by_cases aa:k∈Y
    ·cases e:L k with
     | true=>rfl
     | false =>
      refine absurd ⟨k,aa,e,fun p hp q hq=>?_⟩ hY;obtain⟨_,_,_,o',aO,az,_⟩:=qhm hB aa;rw [aO] at hp;cases hp;rcases az q hq with h | ⟨h,h'⟩
      ·exact G.took q h
      ·exact aC _ q h h' rfl
    ·exact aC _ k H aa rfl
  refine wpOp_step J fun K' hK=>hstep i o (qcI J) U V aJ v w G.old (fun k H=>by obtain⟨a1,a2,a3⟩:=qhn hB U V (qcI J) k H;exact G.fact k a3 a2 (Z k a1)) _ rfl K' fun x A' w' hA hF _ I=>?_
  have aH:Below w0.heap.size w0 w':=G.old.trans (I.mono G.old.size);obtain⟨ae,ah⟩:=next L v w w' i o x G U V hL J Z hF I
  refine hK _ _ ⟨hS _ aH,?_⟩;rw [qjt,hA,ae];exact ih _ _ _ (by have:=qgF af hL;omega) ah
theorem gy {I:Nat} {E:Array Bool} {a:Act} {w:World} (D:List (Nat×Tmp)) (rl:List (Nat×List Nat)) (T Y C:List Nat) (n0 N:Nat) (F:Nat->Value->World->Prop) (A:(Nat->Value)->Act) (kl:Nat) {m:Nat} (hm:a.tmps.size=m:=by rfl) (hA:∀v,pf a v D=A v:=by (intro v;simp only [pf,Act.put,qaL,qbp,List.set_cons_succ];with_reducible rfl))
  (ax:∀i x,Stays (F i x):=by intro i x;infer_instance)
  (hB:(dagB md ops && (decide ((D.map (·.1)).Nodup) && (decide ((D.map (·.2)).Nodup) && (dstB ops D (T++(List.range ops.size).filter fun k=>decide (n0<=k)) && ((D.all fun p=>decide (D.lookup p.1=some p.2) && decide (p.2<m)) && (decide (E.size=ops.size) && (decide (leftN ops.size (fun k=>E.getD k false)<=I) &&
   (growY md ops rl T Y n0 && (decide (n0<ops.size) && (decide (leftN ops.size (fun i=>decide (i<n0) || T.contains i)=kl) && (decide (E=arr ops.size fun k=>T.contains k) && ((T.all fun k=>((nthOp ops.toList k).map fun o=>(waits md o).all fun j=>T.contains j).getD false) && (decide (arr N (fun i=>decide (i<n0) || T.contains i)=arr ops.size (fun i=>decide (i<n0) || T.contains i)) && (List.range n0).all (fun i=>(T.contains i || Y.contains i) || C.contains i))))))))))))))=true:=by kernel_rfl)
  (hQ:∀c (d:Tmp) (x:Value) (a:Act) (w:World),Q (.panic c) (a.put (some d) x) w->Q (.panic c) a w:=by exact fun _ _ _ _ _ h=>h)
  (hS:∀G,Below w.heap.size w G->S G)
  (hstep:AllC (fun i=>∃o,nthOp ops.toList i=some o/\∀(v:Nat->Value) (G:World),Below w.heap.size w G->AllC (fun k=>F k (v k) G) (dep rl i)->∀K,Grows F [] i G (A v) o.dst K->if Region.wanted o (yielded ops (A v).tmps)=true then Oper.wp P o (A v) G K Q else K ((A v).put o.dst undef) G) C)
  (htake:AllC (fun i=>∃o,nthOp ops.toList i=some o/\∀(v:Nat->Value) (G:World),Below w.heap.size w G->AllC (fun k=>F k (v k) G) (dep rl i)->∃x,Region.wanted o (yielded ops (A v).tmps)=true/\(∀w,S w->(execOp (A v).eval o).run P w=.ok (.value x) w)/\F i x G) Y)
  (hend:∀(v:Nat->Value) (G:World),Below w.heap.size w G->(∀i,i<n0->i∉T->F i (v i) G)->∀f,wpAnyH P md ops Q S (f+kl) (arr N (fun i=>decide (i<n0) || T.contains i)) (A v) G):wpAnyH P md ops Q S I E a w:=by
 simp only [qay,decide_eq_true_eq] at hB;obtain⟨aa,h1,h2,ae,hD,ay,hf,af,hn,av,J,ai,ah,hC⟩:=hB;have V:pf a (fun i=>a.tmps.getD ((D.lookup i).getD 0) undef) D=a:=qjX a _ D fun p hp=>by
  have:=(qaA.1 hD) p hp;simp only [qay,decide_eq_true_eq] at this;exact⟨by rw [this.1];rfl,by rw [hm];exact this.2⟩
 have h0:Grown md ops T [] n0 F w (fun k=>T.contains k) (fun i=>a.tmps.getD ((D.lookup i).getD 0) undef) w :=
  ⟨Below.refl _ _,fun i _ H=>by
   rw [<-Bool.not_eq_true];intro h;exact H (qai.1 h),fun k hk=>qai.2 hk,fun j o U hj k hk=>by
   have:=(qaA.1 ai) j (qai.1 hj);rw [U] at this;exact (qaA.1 (show ((waits md o).all fun j=>T.contains j)=true from this)) k hk,fun i _ h hL=>absurd (qai.1 hL) h,fun i H=>absurd H (by simp),fun i H=>absurd H (by simp)⟩
 have facts:∀(v:Nat->Value) (G:World) (i:Nat),(∀k∈dep rl i,F k (v k) G)->AllC (fun k=>F k (v k) G) (dep rl i):=fun v G i O=>by
  generalize dep rl i=l at O
  induction l with
  | nil=>exact trivial
  | cons k l ih=>exact⟨O k (qa8 ..),ih fun j hj=>O j (qbh _ hj)⟩
 have ag:=qjm (P:=P) (Q:=Q) (S:=S) a D rl T Y n0 F w (T++(List.range ops.size).filter fun k=>decide (n0<=k)) hQ (fun i x w G h Z=>(ax i x).go h Z) aa h1 h2 ae (fun k hk au=>by
  rcases qaI.1 au with h | h
  ·exact h
  ·have:=of_decide_eq_true (List.mem_filter.1 h).2;omega) af hn kl av hS (fun i o U H aj ak v G Z O B hB K hK=>by
   obtain⟨p,hp,h⟩:=hstep.get i (by
    have:=(qaA.1 hC) i (qas.2 H);rw [qa6,qa6] at this;rcases this with (h | h) | h
    ·exact absurd (qai.1 h) aj
    ·exact absurd (qai.1 h) ak
    ·exact qai.1 h)
   rw [hp] at U;cases U;rw [hA] at hB;subst hB;exact h v G Z (facts v G i O) K hK) (fun y hy o U v G Z O B hB=>by
   obtain⟨p,hp,h⟩:=htake.get y hy;rw [hp] at U;cases U;rw [hA] at hB;subst hB;exact h v G Z (facts v G y O)) (fun v G h B hB f=>by
   rw [<-ah];rw [hA] at hB;subst hB;exact hend v G h.old (fun i H hT=>h.fact i H hT (by rw [qV H];rfl)) f) I _ _ _ (by rw [qgE (M:=fun k=>E.getD k false)];exact hf;intro i H;rw [J,qfL,if_pos H]) h0
 rw [V,<-J] at ag;exact ag
end
theorem lits (W:World) (E:List Int):NCells (W.alloc (.cells (E.map fun z=>Value.int .i64 z).toArray 3)) (some ⟨W.heap.size,0,none⟩) W.heap.size 0 E:=by
 have h:=ints_row (q:=E) (t:=3) (heap_alloc_new W _) 0
 rwa [List.drop_zero] at h
theorem qev (W:World) (o:Obj):Below W.heap.size W (W.alloc o):=qbY qB qN
theorem hasT_old {W:World} (h:HasT W) (o:Obj):HasT (W.alloc o):=h.below (qev W o)
theorem q_ex (W:World) (E:List Int) (n:Nat) (O:E.length=n) (G:n<=1000) (U:∀z∈E,-9223372036854775808<=z/\z<=9223372036854775807) (hT:HasT W) :
  Calls prog 29 #[.slice (some ⟨W.heap.size,0,none⟩) n n] (W.alloc (.cells (E.map fun z=>Value.int .i64 z).toArray 3)) fun e H=>∃(F:Option Addr) (g cap:Nat),e=.returned (.slice F n cap)/\FCells H F g 0 (told n (zq E))/\Below W.heap.size W H :=
 (lq_any W.heap.size 0 n n E _ O G (lits W E) U (hasT_old hT _)).mono fun _e _H ⟨F,g,cap,he,I,J⟩=>⟨F,g,cap,he,I,(qev W _).trans (J.mono (qev W _).size)⟩
theorem is_ex (W:World) (F:List Int) (n:Nat):Calls prog 27 #[.slice (some ⟨W.heap.size,0,none⟩) n n] (W.alloc (.cells (F.map fun z=>Value.int .i64 z).toArray 3)) fun e E =>
  ∃b,e=.returned (.func (.func 72) #[] #[.pointer (some ⟨b,0,none⟩)])/\Below W.heap.size W E/\E.heap[b]? = some (.cells #[.slice (some ⟨W.heap.size,0,none⟩) n n] 30 (0,0))/\NCells E (some ⟨W.heap.size,0,none⟩) W.heap.size 0 F :=
 (qmV (some ⟨W.heap.size,0,none⟩) n n _).mono fun _e _E ⟨b,he,G,h⟩=>⟨b,he,(qev W _).trans (G.mono (qev W _).size),h,(lits W F).below G⟩
theorem eqk (W:World) (g c n:Nat) (E:List Int) (F:E.length=n) (I:n<=1000) (h:NCells W (some ⟨g,0,none⟩) g 0 E) :
  Calls prog 15 #[.slice (some ⟨g,0,none⟩) n c,.slice (some ⟨W.heap.size,0,none⟩) n n] (W.alloc (.cells (E.map fun z=>Value.int .i64 z).toArray 3)) fun e G=>e=.returned (.bool true)/\Below W.heap.size W G :=
 (qjD g 0 c W.heap.size 0 n E E n n _ F F (by omega) (by omega) (h.below (qev W _)) (lits W E)).mono fun e G ⟨he,H⟩=>⟨by rw [he,show (E == E)=true from beq_self_eq_true E],(qev W _).trans (H.mono (qev W _).size)⟩
theorem MdAt.row0 {W:World} {Z i5:Int} {E G H:Option Addr} {F I U J V O:Nat} {m:Md} (h:MdAt W (.agg #[.int .i64 Z,.int .i64 i5,.slice E F I,.slice G U J,.slice H V O]) m):F=(m.row 0).length/\∃b o,FCells W E b o (m.row 0):=by
 obtain⟨a0,a1,a2,b0,o0,c0,b1,o1,c1,b2,o2,c2,he,Y,_⟩:=h;simp only [qaY,qa5,qaW,qbS] at he;obtain⟨_,_,⟨rfl,rfl,_⟩,_⟩:=he;exact⟨rfl,b0,o0,Y⟩
theorem lin_row1:(mdX line5 1 linX1).row 0=told 2 (zq [0,100]):=qdL (n:=2) fun i E=>by
 rcases (show i=0\/i=1 by omega) with rfl | rfl <;> decide +kernel
theorem lin_row0:(mdX line5 1 linX0).row 0=told 2 (zq [8,100]):=qdL (n:=2) fun i E=>by
 rcases (show i=0\/i=1 by omega) with rfl | rfl <;> decide +kernel
theorem eqF_same (x0 x1:ByteArray) (w:World):(binOp .eql 27 (.agg #[.string x0,.string x1]) (.agg #[.string x0,.string x1])).run prog w=.ok (.bool true) w:=by
 go_simp
theorem qlQ (w:World) (hT:HasT w):Calls prog 11 #[] w fun e w'=>e=.returned (.bool true)/\Below w.heap.size w w':=by
 have HT:=qH hT;have eG:∀(x y p:Value) (W:World),(callFunc 72 #[x,y,p]).run prog W=.ok (.enter 72 #[x,y,p]) W:=fun x y p W=>enters func72 (by kernel_rfl) (by kernel_rfl) _ W
 have eH:∀(x y p:Value) (W:World),(callFunc 73 #[x,y,p]).run prog W=.ok (.enter 73 #[x,y,p]) W:=fun x y p W=>enters func73 (by kernel_rfl) (by kernel_rfl) _ W
 have HI:=qH (qA is_ex q_ex);clear hT;go_enter func11,ntmps11;go_wp2_with fail;refine (HI.o.1 w [1,3,2,0] 4).mono ?_;rintro e w2 ⟨b2,rfl,dw,dJ,dG⟩;have K2:Kn (fun W=>(Below w.heap.size w W/\W.heap[b2]? = some (.cells #[.slice (some ⟨w.heap.size,0,none⟩) 4 4] 30 (0,0)))/\NCells W (some ⟨w.heap.size,0,none⟩) w.heap.size 0 [1,3,2,0]) w2:=.of ⟨⟨dw,dJ⟩,dG⟩;clear dw dJ dG;go_wp2_with fail;refine (HI.o.2 w2 [3,1,2,1] 4 rfl (by decide) (by decide) (HT.o.below K2.o.1.1)).mono ?_;rintro e I ⟨cZ,g3,c3,rfl,bQ,dx⟩;have K3:=(K2.below dx).also (q:=fun W=>FCells W cZ g3 0 (told 4 (zq [3,1,2,1]))) bQ;have HO:=qH (qi0 4 g3 0 c3 cZ _ I (qb1 _ _) (by decide) (fun _=>by decide) bQ);clear dx bQ;go_wp2_with fail;refine HO.o.mono ?_;intro e w4 h4;obtain⟨ag,g4,rfl,bR⟩:=h4.only (qij (by decide) rfl) (by decide);rw [ord_3121] at bR;have K4:=(K3.below ag).also (q:=fun W=>NatR W I.heap.size g4 4 4 [1,3,2,0]) bR;clear h4 ag bR HO;have HL:=qH (qhV g4 0 4 4 w.heap.size 0 4 4 b2 [1,3,2,0] [1,3,2,0] 0 w4 K4.o.1.1.1.2 rfl rfl (by decide) (by decide) K4.o.2.all K4.o.1.1.2);go_wp2_with fail;refine HL.o.mono ?_;rintro e w5 ⟨rfl,dz⟩;have K5:=K4.below dz;clear dz HL;go_wp2_with fail;refine (HI.o.1 w5 [1,3] 2).mono ?_;rintro e w6 ⟨b6,rfl,dA,dK,aH⟩;have K6:Kn (fun W=>(Below w.heap.size w W/\W.heap[b6]? = some (.cells #[.slice (some ⟨w5.heap.size,0,none⟩) 2 2] 30 (0,0)))/\NCells W (some ⟨w5.heap.size,0,none⟩) w5.heap.size 0 [1,3]) w6:=.of ⟨⟨(K5.below dA).o.1.1.1.1,dK⟩,aH⟩;clear dA dK aH K5 K4 K3 K2;go_wp2_with fail;refine (HI.o.2 w6 [3,1,2,1] 4 rfl (by decide) (by decide) (HT.o.below K6.o.1.1)).mono ?_;rintro e w7 ⟨dR,g7,c7,rfl,dh,dB⟩;have K7:=K6.below dB;have HO:=qH (qhM 4 g7 0 c7 2 dR _ w7 (qb1 _ _) (by decide) (fun _=>by decide) dh);clear dB dh;go_wp2_with fail;refine HO.o.mono ?_;intro e w8 h8;obtain⟨dC,g8,rfl,bS⟩:=qgo.only (k:=2) h8 (qij (by decide) rfl) (by decide) (by decide);rw [qlZ] at bS;have K8:=(K7.below dC).also (q:=fun W=>NatR W w7.heap.size g8 2 2 [1,3]) bS;clear h8 dC bS HO;have HL:=qH (qhV g8 0 2 2 w5.heap.size 0 2 2 b6 [1,3] [1,3] 0 w8 K8.o.1.1.2 rfl rfl (by decide) (by decide) K8.o.2.all K8.o.1.2);go_wp2_with fail;refine HL.o.mono ?_;rintro e w9 ⟨rfl,dD⟩;have K9:Kn (fun W=>Below w.heap.size w W) w9:=.of (K8.below dD).o.1.1.1;clear dD HL K8 K7 K6;go_wp2_with fail;refine (qlf 2 w9).mono ?_;rintro e dY ⟨b10,rfl,aV,bG⟩;have bI:=(K9.below aV).also (q:=fun W=>W.heap[b10]? = some (.cells #[.int .i64 2] 31 (0,0))) bG;clear aV bG K9;go_wp2_with fail;refine (HI.o.2 dY [1] 1 rfl (by decide) (by decide) (HT.o.below bI.o.1)).mono ?_;rintro e dZ ⟨cO,g11,c11,rfl,aJ,aW⟩;have bU:=bI.below aW;have HO:=qH (qhM 1 g11 0 c11 2 cO _ dZ (qb1 _ _) (by decide) (fun _=>by decide) aJ);clear aW aJ bI;go_wp2_with fail;refine HO.o.mono ?_;intro e d9 df;obtain⟨aX,rfl⟩:=df.much (qij (by decide) rfl) (by decide) (by decide);have bJ:=bU.below aX;clear df aX HO bU;have HL:=qH (qjK 2 b10 0 none d9 bJ.o.2);go_wp2_with fail;refine HL.o.mono ?_;rintro e dL ⟨rfl,rfl⟩;have bV:Kn (fun W=>Below w.heap.size w W) dL:=.of bJ.o.1;clear HL bJ;go_wp2_with fail;refine (qd6 dL).mono ?_;rintro e dM ⟨eU,rfl,hO,aY⟩;obtain⟨g14,c14,rfl,aN⟩:=qdJ hO;have bK:=bV.below aY;have HF:=qH (ex_f1 dM g14 c14 aN (HT.o.below bK.o));clear hO aY aN;go_wp2_with fail;refine HF.o.mono ?_;rintro e aI ⟨aZ,eX,g15,rfl,aL,av⟩;obtain⟨ka,ia,Aa,Da,Fa,La,Ca,Ma,Ea,Ga,Ha,rfl⟩:=av.five;obtain⟨dP,aR,bO⟩:=nw1 aI #[.int .i64 ka,.int .i64 ia,.slice Aa La Ca,.slice Da Ma Ea,.slice Fa Ga Ha] 46;have bW:Kn (fun W=>(Below w.heap.size w W/\NatR W dM.heap.size g15 4 4 [0,1,3,4])/\MdAt W (.agg #[.int .i64 ka,.int .i64 ia,.slice Aa La Ca,.slice Da Ma Ea,.slice Fa Ga Ha]) (mdX line5 1 linX1)) aI:=.of ⟨⟨(bK.below aZ).o,aL⟩,av⟩;have bX:=(bW.below bO.o.1).also (q:=fun W=>W.heap[aI.heap.size]? = some (.cells #[.int .i64 ka,.int .i64 ia,.slice Aa La Ca,.slice Da Ma Ea,.slice Fa Ga Ha] 46 (0,0))) bO.o.2;clear aZ aL av HF bK bV bO bW
 go_upto_region 3 with (first | ((with_reducible refine qcx rfl 46 _ _ rfl #[.int .i64 0,.int .i64 0,.slice none 0 0,.slice none 0 0,.slice none 0 0] #[.int .i64 ka,.int .i64 ia,.slice Aa La Ca,.slice Da Ma Ea,.slice Fa Ga Ha] ?_ ?_ 5 ?_ ?_ ?_ ?_ ?_);(next=>rfl);(next=>rfl);(next=>kernel_rfl);(next=>rfl);(next=>rfl);(next=>rfl)) | fail)
 rw [<-aR];clear aR;go_wp2_with fail;refine (qd6 dP).mono ?_;rintro e dN ⟨eY,rfl,hO,bf⟩;obtain⟨g17,c17,rfl,aO⟩:=qdJ hO;have bL:=bX.below bf;have HF:=qH (ex_f2 dN g17 c17 aO (HT.o.below bL.o.1.1.1));clear hO bf aO;go_wp2_with fail;refine HF.o.mono ?_;rintro e ed ⟨bg,eZ,g18,rfl,aM,aK⟩;obtain⟨kb,ib,Ab,Db,Fb,Lb,Cb,Mb,Eb,Gb,Hb,rfl⟩:=aK.five;obtain⟨dQ,aS,cB⟩:=nw1 ed #[.int .i64 kb,.int .i64 ib,.slice Ab Lb Cb,.slice Db Mb Eb,.slice Fb Gb Hb] 46;have bY:=(bL.below bg).also (q:=fun W=>NatR W dN.heap.size g18 5 5 [0,1,2,3,4]) aM;have bZ:=bY.below cB.o.1;clear bg aM aK HF bY bL bX cB
 go_upto_region 4 with (first | ((with_reducible refine qcx rfl 46 _ _ rfl #[.int .i64 0,.int .i64 0,.slice none 0 0,.slice none 0 0,.slice none 0 0] #[.int .i64 kb,.int .i64 ib,.slice Ab Lb Cb,.slice Db Mb Eb,.slice Fb Gb Hb] ?_ ?_ 5 ?_ ?_ ?_ ?_ ?_);(next=>rfl);(next=>rfl);(next=>kernel_rfl);(next=>rfl);(next=>rfl);(next=>rfl)) | fail)
 rw [<-aS];clear aS;go_wp2_with fail;refine (qd6 dQ).mono ?_;rintro e ek ⟨v20,rfl,hO,bi⟩;obtain⟨g20,c20,rfl,aP⟩:=qdJ hO;have bM:=bZ.below bi;have HF:=qH (ex_f3 ek g20 c20 aP (HT.o.below bM.o.1.1.1.1));clear hO bi aP;go_wp2_with fail;refine HF.o.mono ?_;rintro e dO ⟨bn,fe,g21,rfl,di,ax⟩;obtain⟨kc,ic,Ac,Dc,Fc,Lc,Cc,Mc,Ec,Gc,Hc,rfl⟩:=ax.five;obtain⟨E,aT,bP⟩:=nw1 dO #[.int .i64 kc,.int .i64 ic,.slice Ac Lc Cc,.slice Dc Mc Ec,.slice Fc Gc Hc] 46;have cu:=(bM.below bn).also (q:=fun W=>MdAt W (.agg #[.int .i64 kc,.int .i64 ic,.slice Ac Lc Cc,.slice Dc Mc Ec,.slice Fc Gc Hc]) (mdX line5 1 linX0)) ax;have V:=(cu.below bP.o.1).also (q:=fun W=>W.heap[dO.heap.size]? = some (.cells #[.int .i64 kc,.int .i64 ic,.slice Ac Lc Cc,.slice Dc Mc Ec,.slice Fc Gc Hc] 46 (0,0))) bP.o.2;clear bn di ax HF cu bM bZ bP
 go_upto_region 5 with (first | ((with_reducible refine qcx rfl 46 _ _ rfl #[.int .i64 0,.int .i64 0,.slice none 0 0,.slice none 0 0,.slice none 0 0] #[.int .i64 kc,.int .i64 ic,.slice Ac Lc Cc,.slice Dc Mc Ec,.slice Fc Gc Hc] ?_ ?_ 5 ?_ ?_ ?_ ?_ ?_);(next=>rfl);(next=>rfl);(next=>kernel_rfl);(next=>rfl);(next=>rfl);(next=>rfl)) | fail)
 rw [<-aT];clear aT;obtain⟨rfl,ba,oa,dm⟩:La=2/\∃b o,FCells E Aa b o (told 2 (zq [0,100])):=by
  obtain⟨h1,b,o,h2⟩:=MdAt.row0 V.o.1.1.1.1.2;rw [lin_row1] at h1 h2;exact⟨h1,b,o,h2⟩
 obtain⟨rfl,bc,oc,dn⟩:Lc=2/\∃b o,FCells E Ac b o (told 2 (zq [8,100])):=by
  obtain⟨h1,b,o,h2⟩:=MdAt.row0 V.o.1.2;rw [lin_row0] at h1 h2;exact⟨h1,b,o,h2⟩
 have ah:=qH V.o.1.1.1.1.1.1;have la:=(qG V.o.1.1.1.2).1;have lc:=(qG V.o.2).1;have m2:=rowC (B:=E.heap.size) V.o.1.1.1.2 2;have s2:=rowC (B:=E.heap.size) V.o.2 2;have bH:=qH (fun (W:World) (h:Below E.heap.size E W) (zs:List Int) (n:Nat) (hn:zs.length=n) (aH:n<=1000) (hz:∀z∈zs,-9223372036854775808<=z/\z<=9223372036854775807)=>q_ex W zs n hn aH hz (HT.o.below (ah.o.trans (h.mono ah.o.size))));have aj:=qH (qA dm (qA dn (qA V.o.1.1.1.1.1.2.all V.o.1.1.2.all)));clear dm dn;refine wp_region_held_drew (S:=fun W=>Below E.heap.size E W) (by kernel_rfl) qB.drew (fun hS0=>?_);refine hT 0 (h:=hT 1 (h:=hT 2 (h:=hT 3 (h:=hT 4 (h:=hT 5 (h:=hT 6 (h:=hT 7 (h:=hT 8 (h:=?_)))))))));have Y:Below E.heap.size E E.drew:=qB.drew;refine hE 9 (h:=⟨qbY Y qN,hN (h:=?_)⟩);refine hC 10 (bH.o _ Y [0,100] 2 rfl (by decide) (by decide)) (h:=?_);rintro e u0 ⟨eO,eQ,dX,rfl,dH,bv⟩;have aA:Below E.heap.size E u0:=Y.trans (bv.mono Y.size);refine⟨_,rfl,aA,hN (h:=?_)⟩;refine hC 11 (qkK _ _ _ 2 Ca _ _ _ _ 2 dX _ u0 (qb1 _ _) (by decide) (aj.o.1.below aA) (qb1 _ _) (by decide) dH) (h:=?_);rintro e t0 ⟨ok0,rfl,bE,bA⟩;obtain rfl:ok0=true:=bE.2 rfl;have ae:Below E.heap.size E t0:=aA.trans (bA.mono aA.size);refine⟨_,rfl,ae,hN (h:=?_)⟩;clear dH bv bE bA aA;refine hT 12 (hS:=ae) (h:=hT 13 (hS:=ae) (h:=hT 14 (hS:=ae) (h:=?_)));refine hE 15 (h:=⟨qbY ae qN,hN (h:=?_)⟩);refine hC 16 (eqk _ g15 4 4 [0,1,3,4] rfl (by decide) (aj.o.2.2.1.below ae)) (h:=?_);rintro e t1 ⟨rfl,bB⟩;have O:Below E.heap.size E t1:=ae.trans (bB.mono ae.size);refine⟨_,rfl,O,hN (h:=?_)⟩;clear bB;refine hT 17 (hS:=O) (h:=hT 18 (hS:=O) (h:=hT 19 (hS:=O) (h:=hT 20 (hS:=O) (h:=hT 21 (hS:=O) (h:=hT 22 (hS:=O) (h:=hT 23 (hS:=O) (h:=?_)))))));refine hE 24 (h:=⟨qbY O qN,hN (h:=?_)⟩);refine hC 25 (eqk _ g18 5 5 [0,1,2,3,4] rfl (by decide) (aj.o.2.2.2.below O)) (h:=?_);rintro e t2 ⟨rfl,bC⟩;have H:Below E.heap.size E t2:=O.trans (bC.mono O.size);refine⟨_,rfl,H,hN (h:=?_)⟩;clear bC;refine hT 26 (hS:=H) (h:=hT 27 (hS:=H) (h:=hT 28 (hS:=H) (h:=hT 29 (hS:=H) (h:=hT 30 (hS:=H) (h:=hT 31 (hS:=H) (h:=hT 32 (hS:=H) (h:=hT 33 (hS:=H) (h:=hT 34 (hS:=H) (h:=?_)))))))));refine hE 35 (h:=⟨qbY H qN,hN (h:=?_)⟩);refine hC 36 (bH.o _ H [8,100] 2 rfl (by decide) (by decide)) (h:=?_);rintro e u3 ⟨eP,eT,qc3,rfl,dI,bz⟩;have aB:Below E.heap.size E u3:=H.trans (bz.mono H.size);refine⟨_,rfl,aB,hN (h:=?_)⟩;refine hC 37 (qkK _ _ _ 2 Cc _ _ _ _ 2 qc3 _ u3 (qb1 _ _) (by decide) (aj.o.2.1.below aB) (qb1 _ _) (by decide) dI) (h:=?_);rintro e t3 ⟨dW,rfl,bF,bD⟩;obtain rfl:dW=true:=bF.2 rfl;have az:Below E.heap.size E t3:=aB.trans (bD.mono aB.size);refine⟨_,rfl,az,hN (h:=?_)⟩;clear dI bz bF bD aB;refine hT 38 (hS:=az) (h:=hT 39 (hS:=az) (h:=?_));refine wpAnyH_done (by kernel_rfl) ?_ _;have aF:=V.below az;have aD:Kn (fun W=>(Below w.heap.size w W/\MdAt W (.agg #[.int .i64 ka,.int .i64 ia,.slice Aa 2 Ca,.slice Da Ma Ea,.slice Fa Ga Ha]) (mdX line5 1 linX1))/\W.heap[aI.heap.size]? = some (.cells #[.int .i64 ka,.int .i64 ia,.slice Aa 2 Ca,.slice Da Ma Ea,.slice Fa Ga Ha] 46 (0,0))) t3:=.of ⟨⟨aF.o.1.1.1.1.1.1,aF.o.1.1.1.1.2⟩,aF.o.1.1.1.2⟩;clear ae O H hS0 Y aj bH la lc m2 s2 V az aF ah;obtain⟨y1,y2,hy⟩:=qcF (1600:Rat);have HY:=qH hy;have ai:=@lin_cost;simp only [hy] at ai;have bT:=qH ai;clear ai hy;go_wp2_with fail;refine wp_region_held_drew (S:=fun W=>Below t3.heap.size t3 W) (by kernel_rfl) qB.drew (fun hS0=>?_);refine Go.Proofs.YtjalhnlhcdfncaaGreatDoor.gy [(0,103),(1,104),(2,105),(3,106),(4,102),(5,107),(6,108),(7,11)] [(3,[0,1,2]),(4,[3]),(5,[4]),(6,[4])] [] [6] [0,1,2,3,4,5,7] 8 10 (fl2 [(0,fun z _=>z=.agg #[.int .i64 ka,.int .i64 ia,.slice Aa 2 Ca,.slice Da Ma Ea,.slice Fa Ga Ha]),(1,fun z W=>∃g c:Nat,z=.slice (some ⟨g,0,none⟩) 5 c/\PCells W (some ⟨g,0,none⟩) g 0 line5),(2,fun z W=>∃g:Nat,z=.slice (some ⟨g,0,none⟩) 1 1/\NCells W (some ⟨g,0,none⟩) g 0 [2]),(3,fun z _=>z=.tuple #[.agg #[.string y1,.string y2],.int .i64 0]),(4,fun z _=>z=.tuple #[.agg #[.string y1,.string y2],.int .i64 0]),(5,fun z _=>z=.agg #[.string y1,.string y2]),(6,fun z _=>z=.int .i64 0),(7,fun z W=>∃g:Nat,z=.pointer (some ⟨g,0,none⟩)/\W.heap[g]? = some (.cells #[.string ⟨#[]⟩,.string ⟨#[]⟩] 27 (0,0))/\t3.heap.size<=g)]) _ 2
  (hS:=fun w' h=>hS0.trans (h.mono hS0.size)) (hstep:=⟨⟨_,rfl,fun v I U G K J=>?_⟩,⟨_,rfl,fun v I U G K J=>?_⟩,⟨_,rfl,fun v I U G K J=>?_⟩,⟨_,rfl,fun v I U G K J=>?_⟩,⟨_,rfl,fun v I U G K J=>?_⟩,⟨_,rfl,fun v I U G K J=>?_⟩,⟨_,rfl,fun v I U G K J=>?_⟩,trivial⟩) (htake:=⟨⟨_,rfl,fun v I U G=>?_⟩,trivial⟩) (hend:=fun v eu U G fu=>?_)
 ·have hz:=zkeep (hS0.trans (U.mono hS0.size)) _ _ aD.o.2;have x0:=qC _ _ 0 _ _ _ hz;have x1:=qC _ _ 1 _ _ _ hz;have x2:=qC _ _ 2 _ _ _ hz;have x3:=qC _ _ 3 _ _ _ hz;have x4:=qC _ _ 4 _ _ _ hz;exact gV J rfl
 ·exact gC J (qd6 I) (h:=fun e w4 ⟨v,e1,hO,ag⟩=>⟨v,e1,qdJ hO,ag⟩)
 ·exact gW J (h:=⟨⟨I.heap.size,rfl,lits I [2]⟩,qbY qB qN⟩)
 ·have e0:v 0=_:=G.1;obtain⟨gl,cl,e1,hl⟩:∃g c:Nat,_:=G.2.1;obtain⟨gk,e2,hk⟩:∃g:Nat,_:=G.2.2.1;have ak:=aD.below (hS0.trans (U.mono hS0.size));exact gC J (bT.o I _ gl cl gk 1 ak.o.1.2 hl hk (HT.o.below ak.o.1.1)) (h:=fun e w4 ⟨e1,h1⟩=>⟨_,e1,rfl,h1⟩)
 ·have e3:v 3=_:=G.1;exact gV J rfl
 ·have e4:v 4=_:=G.1;exact gV J rfl
 ·exact gW J (h:=⟨⟨I.heap.size,rfl,qM _ _ _ rfl,(hS0.trans (U.mono hS0.size)).size⟩,qbY qB qN⟩)
 ·have e4:v 4=_:=G.1;exact⟨_,rfl,fun W hW=>by (go_simp <;> with_reducible rfl),rfl⟩
 have e4:v 4=_:=G 4 (by decide) (by decide);have e5:v 5=_:=G 5 (by decide) (by decide);have e6:v 6=_:=G 6 (by decide) (by decide);obtain⟨g7,e7,h7,aC⟩:∃g:Nat,_:=G 7 (by decide) (by decide);rw [e4,e5,e6,e7];have ay:=hS0.trans (U.mono hS0.size);have aa:=qS ay aC #[.string y1,.string y2];have au:=(aD.below aa).also (q:=fun W=>W.heap[g7]? = some (.cells #[.string y1,.string y2] 27 (0,0))) (qT _ _ _ #[.string y1,.string y2] _ _ h7);refine hSn 8 2 h7 (h:=⟨aa,?_⟩);refine hT 9 (hS:=aa) (h:=?_);refine wpAnyH_done (by kernel_rfl) ?_ _;obtain⟨u7,hu⟩:∃u,u=eu.setRow g7 #[.string y1,.string y2]:=⟨_,rfl⟩;rw [<-hu] at au ⊢;clear hu G e4 e5 e6 e7 h7 aC U ay aa aD hS0;go_wp2_with fail;refine wp_region_held_drew (S:=fun W=>Below u7.heap.size u7 W) (by kernel_rfl) qB.drew (fun hS0=>?_);refine Go.Proofs.YtjalhnlhcdfncaaGreatDoor.gy [(0,110),(1,111),(2,112),(3,113),(4,109),(5,114),(6,115),(7,13)] [(3,[0,1,2]),(4,[3]),(5,[4]),(6,[4])] [] [6] [0,1,2,3,4,5,7] 8 10 (fl2 [(0,fun z _=>z=.agg #[.int .i64 ka,.int .i64 ia,.slice Aa 2 Ca,.slice Da Ma Ea,.slice Fa Ga Ha]),(1,fun z W=>∃g c:Nat,z=.slice (some ⟨g,0,none⟩) 5 c/\PCells W (some ⟨g,0,none⟩) g 0 line5),(2,fun z W=>∃g:Nat,z=.slice (some ⟨g,0,none⟩) 2 2/\NCells W (some ⟨g,0,none⟩) g 0 [2,1]),(3,fun z _=>z=.tuple #[.agg #[.string ⟨#[]⟩,.string ⟨#[]⟩],.int .i64 2]),(4,fun z _=>z=.tuple #[.agg #[.string ⟨#[]⟩,.string ⟨#[]⟩],.int .i64 2]),(5,fun z _=>z=.agg #[.string ⟨#[]⟩,.string ⟨#[]⟩]),(6,fun z _=>z=.int .i64 2),(7,fun z W=>∃g:Nat,z=.pointer (some ⟨g,0,none⟩)/\W.heap[g]? = some (.cells #[.string ⟨#[]⟩,.string ⟨#[]⟩] 27 (0,0))/\u7.heap.size<=g)]) _ 2
  (hS:=fun w' h=>hS0.trans (h.mono hS0.size)) (hstep:=⟨⟨_,rfl,fun v I U G K J=>?_⟩,⟨_,rfl,fun v I U G K J=>?_⟩,⟨_,rfl,fun v I U G K J=>?_⟩,⟨_,rfl,fun v I U G K J=>?_⟩,⟨_,rfl,fun v I U G K J=>?_⟩,⟨_,rfl,fun v I U G K J=>?_⟩,⟨_,rfl,fun v I U G K J=>?_⟩,trivial⟩) (htake:=⟨⟨_,rfl,fun v I U G=>?_⟩,trivial⟩) (hend:=fun v eB U G fu=>?_)
 ·have hz:=zkeep (hS0.trans (U.mono hS0.size)) _ _ au.o.1.2;have x0:=qC _ _ 0 _ _ _ hz;have x1:=qC _ _ 1 _ _ _ hz;have x2:=qC _ _ 2 _ _ _ hz;have x3:=qC _ _ 3 _ _ _ hz;have x4:=qC _ _ 4 _ _ _ hz;exact gV J rfl
 ·exact gC J (qd6 I) (h:=fun e w4 ⟨v,e1,hO,ag⟩=>⟨v,e1,qdJ hO,ag⟩)
 ·exact gW J (h:=⟨⟨I.heap.size,rfl,lits I [2,1]⟩,qbY qB qN⟩)
 ·have e0:v 0=_:=G.1;obtain⟨gl,cl,e1,hl⟩:∃g c:Nat,_:=G.2.1;obtain⟨gk,e2,hk⟩:∃g:Nat,_:=G.2.2.1;have ak:=au.below (hS0.trans (U.mono hS0.size));exact gC J (qiG I _ gl cl gk 2 ak.o.1.1.2 hl hk (HT.o.below ak.o.1.1.1)) (h:=fun e w4 ⟨e1,h1⟩=>⟨_,e1,rfl,h1⟩)
 ·have e3:v 3=_:=G.1;exact gV J rfl
 ·have e4:v 4=_:=G.1;exact gV J rfl
 ·exact gW J (h:=⟨⟨I.heap.size,rfl,qM _ _ _ rfl,(hS0.trans (U.mono hS0.size)).size⟩,qbY qB qN⟩)
 ·have e4:v 4=_:=G.1;exact⟨_,rfl,fun W hW=>by (go_simp <;> with_reducible rfl),rfl⟩
 have e4:v 4=_:=G 4 (by decide) (by decide);have e5:v 5=_:=G 5 (by decide) (by decide);have e6:v 6=_:=G 6 (by decide) (by decide);obtain⟨g8,e7,h7,aC⟩:∃g:Nat,_:=G 7 (by decide) (by decide);rw [e4,e5,e6,e7];have ay:=hS0.trans (U.mono hS0.size);have aa:=qS ay aC #[.string ⟨#[]⟩,.string ⟨#[]⟩];have aG:=(au.below aa).also (q:=fun W=>W.heap[g8]? = some (.cells #[.string ⟨#[]⟩,.string ⟨#[]⟩] 27 (0,0))) (qT _ _ _ #[.string ⟨#[]⟩,.string ⟨#[]⟩] _ _ h7);refine hSn 8 2 h7 (h:=⟨aa,?_⟩);refine hT 9 (hS:=aa) (h:=?_);refine wpAnyH_done (by kernel_rfl) ?_ _;obtain⟨u8,hu⟩:∃u,u=eB.setRow g8 #[.string ⟨#[]⟩,.string ⟨#[]⟩]:=⟨_,rfl⟩;rw [<-hu] at aG ⊢;clear hu G e4 e5 e6 e7 h7 aC U ay aa au hS0;have cz:Kn (fun W=>Below w.heap.size w W/\W.heap[g7]? = some (.cells #[.string y1,.string y2] 27 (0,0))) u8:=.of ⟨aG.o.1.1.1.1,aG.o.1.2⟩;clear aG bT;go_wp2_with fail;refine (qd6 u8).mono ?_;rintro e eD ⟨fo,rfl,hO,bq⟩;obtain⟨dS,c40,rfl,aQ⟩:=qdJ hO;have bN:=cz.below bq;have HF:=qH (ex_f4 eD dS c40 aQ (HT.o.below bN.o.1));clear hO bq aQ cz;go_wp2_with fail;refine HF.o.mono ?_;rintro e eF ⟨bu,rfl⟩;unfold mdv0;obtain⟨Z,aU,cK⟩:=nw1 eF #[.int .i64 0,.int .i64 0,.slice none 0 0,.slice none 0 0,.slice none 0 0] 46;have af:=(bN.below bu).below cK.o.1;clear bu HF bN cK
 go_upto_region 9 with (first | ((with_reducible refine qcx rfl 46 _ _ rfl #[.int .i64 0,.int .i64 0,.slice none 0 0,.slice none 0 0,.slice none 0 0] #[.int .i64 0,.int .i64 0,.slice none 0 0,.slice none 0 0,.slice none 0 0] ?_ ?_ 5 ?_ ?_ ?_ ?_ ?_);(next=>rfl);(next=>rfl);(next=>kernel_rfl);(next=>rfl);(next=>rfl);(next=>rfl)) | fail)
 rw [<-aU];clear aU;have lg:=(qG af.o.2).1;have f0:=rowC (B:=Z.heap.size) af.o.2 0;have f1:=rowC (B:=Z.heap.size) af.o.2 1;have dU:=fun W=>eqF_same y1 y2 W
 refine wp_region_held_drew (S:=fun W=>Below Z.heap.size Z W) (by kernel_rfl) qB.drew (fun hS0=>?_);have Y:Below Z.heap.size Z Z.drew:=qB.drew;refine hT 0 (h:=hT 1 (h:=hT 2 (h:=?_)));refine hE 3 (h:=⟨qbY Y qN,hN (h:=?_)⟩);refine hC 4 (q_ex _ [1600] 1 rfl (by decide) (by decide) (HT.o.below (af.below Y).o.1)) (h:=?_);rintro e u9 ⟨qa,qg,qc,rfl,hq,dE⟩;have F:Below Z.heap.size Z u9:=Y.trans (dE.mono Y.size);refine⟨_,rfl,F,hN (h:=?_)⟩;have dV:=hq.addr (by rw [qb1];decide);subst dV;have hc:=hq.cell 0 (by rw [qb1];decide);have dF:(told 1 (zq [1600])).getD 0 fd0=(y1,y2):=HY.o;rw [dF] at hc;have d0:u9.cell? ⟨qg,0,none⟩=some (.string y1):=hc.1;have d1:u9.cell? ⟨qg,1,none⟩=some (.string y2):=hc.2;clear hc dF hq dE;refine hT 5 (hS:=F) (h:=?_);refine hE 6 (h:=⟨F,hN (h:=?_)⟩);refine hT 7 (hS:=F) (h:=hT 8 (hS:=F) (h:=hT 9 (hS:=F) (h:=hT 10 (hS:=F) (h:=hT 11 (hS:=F) (h:=hT 12 (hS:=F) (h:=hT 13 (hS:=F) (h:=?_)))))));refine hT 14 (hS:=F) (h:=hT 15 (hS:=F) (h:=hT 16 (hS:=F) (h:=hT 17 (hS:=F) (h:=hT 18 (hS:=F) (h:=hT 19 (hS:=F) (h:=hT 20 (hS:=F) (h:=hT 21 (hS:=F) (h:=?_))))))));refine wpAnyH_done (by kernel_rfl) ?_ _;have HB:=qH ((af.below F).o.1);clear F hS0 Y d0 d1 f0 f1 lg dU af;go_wp2;go_ret;exact⟨rfl,HB.o⟩
