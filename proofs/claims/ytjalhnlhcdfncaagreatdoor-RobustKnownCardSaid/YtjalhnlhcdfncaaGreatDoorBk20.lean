import Derived.Test.YtjalhnlhcdfncaaGreatDoorBk19
set_option maxRecDepth 100000
set_option maxHeartbeats 0
namespace Go.Proofs.YtjalhnlhcdfncaaGreatDoor
open Go.RowKit Go.Proofs.Tryz
def FitI (l:List Pt) (k:Nat) (H:List Int) (_i:Nat) (kind:Int) (n:Nat) (G:World) (M:Nat) (W:World) (j:Nat):Prop :=
 ∃(F:List Value) (t:Tbl) (x:Nat->Nat->Rat),F.length=j/\VRow W M 5 (.slice none 0 0) 46 (.int .i64 kind :: .int .i64 n :: F)/\RVals W F t /\
  (∀q,q<j->t.getD q []=told (many k (chans l)) (x q)/\FitX l k H q (x q)/\qbP (many k (chans l)) (x q))/\(0<j->¬Sing (many k (chans l)) (nq l k H 0))/\Below G.heap.size G W
theorem fit1_any (R b I c pb kb wb b2 af V c2:Nat) (ao a2:Option Addr) (l:List Pt) (kind:Int) (H:List Int) (ty aD aF:TypeId) (w:World) (hR:l.length=R) (hl:R<=4611686018427387904) (hs:∀k,k<R->(l.getD k pt0).name.size<=4611686018427387904/\(l.getD k pt0).dev.length<=4611686018427387904)
  (bz:H.length=V) (aC:V<=4611686018427387904) (bD:w.heap[pb]? = some (.cells #[.slice ao R c] ty (0,0))) (bq:w.heap[kb]? = some (.cells #[.int .i64 kind] aD (0,0))) (bF:w.heap[wb]? = some (.cells #[.slice a2 V c2] aF (0,0)))
  (hP:PCells w ao b I l) (hN:NCells w a2 b2 af H) (hT:HasT w) :
  Calls prog 62 #[.pointer (some ⟨pb,0,none⟩),.pointer (some ⟨kb,0,none⟩),.pointer (some ⟨wb,0,none⟩)] w fun e w'=>Below w.heap.size w w' /\
   ((∃(i0 i1:Int) (p0:Option Addr) (n0 c0:Nat) (p1:Option Addr) (n1 c1:Nat) (p2:Option Addr) (V c2:Nat),e=.returned (.agg #[.int .i64 i0,.int .i64 i1,.slice p0 n0 c0,.slice p1 n1 c1,.slice p2 V c2])/\FitG l kind H w' (.agg #[.int .i64 i0,.int .i64 i1,.slice p0 n0 c0,.slice p1 n1 c1,.slice p2 V c2])) \/
    ∃c,e=thrown c/\FitF l kind H c):=by
 obtain⟨W1,aV,K0⟩:=nw1 w #[.int .i64 0,.int .i64 0,.slice none 0 0,.slice none 0 0,.slice none 0 0] 46;have K1:Kn (fun W=>(Below w.heap.size w W/\W.heap[w.heap.size]? = some (.cells #[.int .i64 0,.int .i64 0,.slice none 0 0,.slice none 0 0,.slice none 0 0] 46 (0,0)))/\W.heap[pb]? = some (.cells #[.slice ao R c] ty (0,0))/\W.heap[kb]? = some (.cells #[.int .i64 kind] aD (0,0))/\W.heap[wb]? = some (.cells #[.slice a2 V c2] aF (0,0))/\PCells W ao b I l/\NCells W a2 b2 af H/\HasT W) W1 :=
  K0.also (q:=fun W=>W.heap[pb]? = some (.cells #[.slice ao R c] ty (0,0))/\W.heap[kb]? = some (.cells #[.int .i64 kind] aD (0,0))/\W.heap[wb]? = some (.cells #[.slice a2 V c2] aF (0,0))/\PCells W ao b I l/\NCells W a2 b2 af H/\HasT W)
   ⟨zkeep K0.o.1 _ _ bD,zkeep K0.o.1 _ _ bq,zkeep K0.o.1 _ _ bF,hP.below K0.o.1,hN.below K0.o.1,hT.below K0.o.1⟩
 have c0:=qC _ _ 0 _ _ _ K1.o.2.1;have F:=qH (qA hR (qA hl (qA hs (qA bz aC))));have cu:=@hmf_ prog;clear K0 bD bq bF hP hN hT hR hl hs bz aC;go_enter func62,ntmps62;go_upto_region 1 with fail;rw [<-aV];clear aV;go_wp2_with fail;refine (qfB ao b I R c l W1 F.o.1 F.o.2.1 F.o.2.2.1 K1.o.2.2.2.2.1).mono ?_;rintro e w2 ⟨cc,rfl,bM,bf⟩;have G:=K1.below bf;clear K1 bf;rcases bM with ⟨rfl,bC⟩ | ⟨rfl,bA⟩
 case inr =>
  have HN:=qH bA;clear bA;go_wp2_with fail;refine (qcX 310 (by decide) w2).mono ?_;rintro e w3 ⟨rfl,rfl⟩;unfold thrown;go_wp2_with fail;exact⟨rfl,G.o.1.1,qaj ⟨310,rfl,qav ⟨HN.o,rfl⟩⟩⟩
 have O:=qH bC;clear bC;go_wp2_with fail;refine (qgH w2).mono ?_;rintro e w3 ⟨rfl,hw⟩;subst hw;have k0:=qC _ _ 0 _ _ _ G.o.2.2.1;go_wp2_with fail;refine (qid kind w2).mono ?_;rintro e w3 ⟨rfl,hw⟩;subst hw
 by_cases av:1<=kind/\kind<=3
 case neg =>
  rw [qU av];go_wp2_with fail;refine (qcX 2 (by decide) w2).mono ?_;rintro e w3 ⟨rfl,rfl⟩;unfold thrown;go_wp2_with fail;exact⟨rfl,G.o.1.1,qaj ⟨2,rfl,qaj (qav ⟨O.o,fun h=>by obtain⟨⟨k,h1,h2,h3⟩,_⟩:=h;exact av ⟨by omega,by omega⟩,rfl⟩)⟩⟩
 obtain⟨k,bu⟩:∃k,qcG kind k:=⟨kind.toNat,by omega,by omega,by omega⟩;rw [qV av];have k1:=qC _ _ 0 _ _ _ G.o.2.2.2.1;have k2:=qC _ _ 0 _ _ _ G.o.2.1;have Hk:=qH (qA bu av);clear bu av
 by_cases hne:V=R
 case neg =>
  have bT:¬((V:Int)=(R:Int)):=by omega
  go_wp2_with fail;refine (qcX 2 (by decide) w2).mono ?_;rintro e w3 ⟨rfl,rfl⟩;unfold thrown;go_wp2_with fail;exact⟨rfl,G.o.1.1,qaj ⟨2,rfl,qaj (qav ⟨O.o,fun h=>hne (by have:=F.o.1;have:=F.o.2.2.2.1;omega),rfl⟩)⟩⟩
 subst hne;go_wp2_with fail;have aH:V<=40:=by have:=O.o.r2;have:=F.o.1;omega
 go_loopw [27] (fun x27 W=>∃i:Nat,x27=.int .i64 i/\i<=V/\Hu (W=w2/\∀j,j<i->0<=H.getD j 0/\H.getD j 0<=1000)) (fun x27 _=>V-(intOf x27).toNat)
 case atStart=>exact⟨0,rfl,qan _,qH ⟨rfl,fun j hj=>absurd hj (qbb _)⟩⟩
 case round =>
  obtain⟨i,rfl,bX,hI⟩:=hrel;have ak:=hI.o.1.symm;subst ak
  by_cases hi:i<V
  ·have bW:(i:Int)<V:=by omega
   have bL:=G.o.2.2.2.2.2.1.addr (by have:=F.o.2.2.2.1;omega);subst bL;have d0:=G.o.2.2.2.2.2.1.cell i (by have:=F.o.2.2.2.1;omega);obtain⟨x,hx⟩:=qX (H.getD i 0);rw [hx] at d0;have HX:=qH hx;clear hx
   by_cases J:0<=x/\x<=1000
   ·obtain⟨aY,aZ⟩:=J;have bR:¬x<0:=by omega
    have bS:¬1000<x:=by omega
    go_wp2;go_roundw
    case rel =>
     refine⟨i+1,by go_num,hi,qH ⟨by trivial,fun j hj=>?_⟩⟩;rcases qaV j i with h | h
     ·exact hI.o.2 j h
     ·obtain rfl:j=i:=by omega
      rw [HX.o];exact⟨aY,aZ⟩
    case measure=>simp [intOf];omega
   ·have aQ:=qH J
    by_cases aY:x<0
    ·clear J;go_wp2_with fail;refine (qcX 2 (by decide) _).mono ?_;rintro e w3 ⟨rfl,rfl⟩;unfold thrown;go_wp2_with fail;exact⟨rfl,G.o.1.1,qaj ⟨2,rfl,qaj (qav ⟨O.o,fun h=>by have:=h.2.2 i (by have:=F.o.2.2.2.1;omega);rw [HX.o] at this;exact aQ.o this,rfl⟩)⟩⟩
    ·have aZ:1000<x:=by omega
     clear J;go_wp2_with fail;refine (qcX 2 (by decide) _).mono ?_;rintro e w3 ⟨rfl,rfl⟩;unfold thrown;go_wp2_with fail;exact⟨rfl,G.o.1.1,qaj ⟨2,rfl,qaj (qav ⟨O.o,fun h=>by have:=h.2.2 i (by have:=F.o.2.2.2.1;omega);rw [HX.o] at this;exact aQ.o this,rfl⟩)⟩⟩
  ·obtain rfl:i=V:=by omega
   have HW:Hu (WOk H):=qH fun j hj=>hI.o.2 j (by have:=F.o.2.2.2.1;omega)
   clear hI;have bJ:0<i:=by have:=O.o.r1;have:=F.o.1;omega
   have bQ:(0:Int)<i:=by omega
   have bK:=G.o.2.2.2.2.1.addr (by have:=F.o.1;omega);subst bK;obtain⟨_,⟨ra,rb,ro,rc,f1,_⟩,_⟩:=G.o.2.2.2.2.1.cell 0 (by have:=F.o.1;omega);rw [Nat.zero_mul,qbA] at f1;obtain⟨n,hn⟩:=qX ((l.getD 0 pt0).dev.length);have bn:chans l=n:=hn;rw [hn] at f1;have HC:=qH bn;clear hn bn
   by_cases aB:kind=3/\3<n
   ·obtain⟨h3,h4⟩:=aB;have bV:(3:Int)<n:=by omega
    subst h3;go_wp2_with fail;refine (qcX 5 (by decide) _).mono ?_;rintro e w3 ⟨rfl,rfl⟩;unfold thrown;go_wp2_with fail;exact⟨rfl,G.o.1.1,qaj ⟨5,rfl,qaj (qaj ⟨O.o,by have:=F.o.1;have:=F.o.2.2.2.1;omega,HW.o,k,Hk.o.1,qav ⟨by have:=Hk.o.1.1;omega,by have:=O.o.n4;have:=HC.o;omega,rfl⟩⟩)⟩⟩
   ·have ag:Hu (¬(k=3/\chans l=4)):=qH fun h=>aB ⟨by have:=Hk.o.1.1;omega,by have:=HC.o;omega⟩
    go_upto_region 11 with fail
    go_cut [49] (fun x49 W=>x49=.bool false/\Hu (W=w2))
    case first =>
     by_cases h3:kind=3
     ·have cz:¬(3:Int)<n:=fun h=>aB ⟨h3,by omega⟩
      go_wp2;go_meet;exact⟨rfl,qH rfl⟩
     ·go_wp2;go_meet;exact⟨rfl,qH rfl⟩
    case rest =>
     obtain⟨rfl,ak⟩:=hcut;have ak:=ak.o.symm;subst ak;clear aB;go_wp2_with fail;have bN:=(qG G.o.2.1).1;have aC:=(qG G.o.2.2.1).1;have bO:=(qG G.o.2.2.2.1).1;have q1:=rowC (B:=w2.heap.size) G.o.2.1 0;have q2:=rowC (B:=w2.heap.size) G.o.2.2.1 0;have q3:=rowC (B:=w2.heap.size) G.o.2.2.2.1 0;refine wp_region_held_drew (S:=fun W=>Below w2.heap.size w2 W) (by kernel_rfl) qB.drew (fun hS0=>?_);refine hT 0 (h:=?_);refine hT 1 (h:=?_);refine hT 2 (h:=?_);refine hT 5 (h:=?_);refine hT 6 (h:=?_);refine gr [(3,54),(4,55),(7,58),(8,59),(9,60),(10,7)] [(4,[3]),(8,[7]),(9,[4,8])] [0,1,2,5,6] [3,4,7,8,9,10] [] 11 12
      (fl2 [(3,fun z _=>z=.func (.func 66) #[] #[.pointer (some ⟨kb,0,none⟩),.pointer (some ⟨pb,0,none⟩)]),(4,SlT i (many k (chans l)) (tqf l k)),(7,fun z _=>z=.func (.func 69) #[] #[.pointer (some ⟨wb,0,none⟩)]),(8,SlF i (wq H)),
       (9,fun z W=>∃z1 z2,z=.agg #[.slice (some ⟨b,I,none⟩) i c,z1,z2]/\SlT i (many k (chans l)) (tqf l k) z1 W/\SlF i (wq H) z2 W),(10,ZC w2.heap.size #[.slice none 0 0,.slice none 0 0,.slice none 0 0] 140)]) _ 1
      (hS:=fun w' h=>qcf h) (hstep:=⟨⟨_,rfl,fun v w4 J hF K hK=>?_⟩,⟨_,rfl,fun v w4 J hF K hK=>?_⟩,⟨_,rfl,fun v w4 J hF K hK=>?_⟩,⟨_,rfl,fun v w4 J hF K hK=>?_⟩,⟨_,rfl,fun v w4 J hF K hK=>?_⟩,⟨_,rfl,fun v w4 J hF K hK=>?_⟩,trivial⟩) (hend:=fun v w4 J hF _ fu=>?_)
     ·exact gV hK rfl
     ·have e3:v 3=_:=hF.1;have K4:=G.below (qcf J);rw [e3] at hK ⊢;exact gC hK (qmO i k pb kb b I c kind _ l ty aD w4 Hk.o.1 F.o.1 ag.o O.o K4.o.2.1 K4.o.2.2.1 K4.o.2.2.2.2.1 K4.o.2.2.2.2.2.2) (h:=fun e w5 ⟨h1,z,h2,h3⟩=>⟨z,h2,by exact h3,h1⟩)
     ·exact gV hK rfl
     ·have e7:v 7=_:=hF.1;have K4:=G.below (qcf J);rw [e7] at hK ⊢;exact gC hK (qjx i wb b2 af c2 _ H aF w4 F.o.2.2.2.1 aH HW.o K4.o.2.2.2.1 K4.o.2.2.2.2.2.1 K4.o.2.2.2.2.2.2) (h:=fun e w5 ⟨h1,z,h2,h3⟩=>⟨z,h2,by exact h3,h1⟩)
     ·have f4:SlT i (many k (chans l)) (tqf l k) (v 4) w4:=hF.1;have f8:SlF i (wq H) (v 8) w4:=hF.2.1;obtain⟨g4,e4,h4⟩:=id f4;obtain⟨g8,e8,h8⟩:=id f8;exact gV hK ⟨_,_,rfl,e4▸f4,e8▸f8⟩
     ·exact gW hK (h:=ZC.new (qcf J).size)
     obtain⟨z1,z2,e9,f1,f2⟩:∃z1 z2,_:=hF 9 (by decide) (by decide);obtain⟨g7,au,e10,aK⟩:∃g7,_:=hF 10 (by decide) (by decide);have K4:=G.below (qcf J);obtain⟨g4,rfl,h4⟩:=f1;obtain⟨g8,rfl,h8⟩:=f2;rw [e9,e10];refine hSt 11 3 au (h:=⟨qS (qcf J) aK _,?_⟩);have aM:=qfv Hk.o.1 O.o.n1 O.o.n4 ag.o;have bG:∀x∈(#[.slice none 0 0,.slice none 0 0,.slice none 0 0]:Array Value).toList,x=.slice none 0 0:=by simp
     obtain⟨W5,aj⟩:=qY (w4.setRow g7 #[.slice (some ⟨b,I,none⟩) i c,.slice (some ⟨g4,0,none⟩) i i,.slice (some ⟨g8,0,none⟩) i i]);have bg:Below w2.heap.size w2 W5:=aj▸qS (qcf J) aK _;have K5:=((G.below bg).also (q:=fun W=>W.heap[g7]? = some (.cells #[.slice (some ⟨b,I,none⟩) i c,.slice (some ⟨g4,0,none⟩) i i,.slice (some ⟨g8,0,none⟩) i i] 140 (0,0))) (aj▸qT _ _ _ _ _ _ au)).also
      (q:=fun W=>SlT i (many k (chans l)) (tqf l k) (.slice (some ⟨g4,0,none⟩) i i) W/\SlF i (wq H) (.slice (some ⟨g8,0,none⟩) i i) W)
      (by rw [aj];exact⟨SlT.keepZ ⟨g4,rfl,h4⟩ aM.1 au bG,SlF.keepZ ⟨g8,rfl,h8⟩ au bG⟩)
     rw [<-aj];clear G aj K4 bg J hF au aK h4 h8 q1 q2 q3 bN aC bO e9 e10;have s0:=qC _ _ 0 _ _ _ K5.o.1.2;have s1:=qC _ _ 1 _ _ _ K5.o.1.2;have s2:=qC _ _ 2 _ _ _ K5.o.1.2;have kk:=qC _ _ 0 _ _ _ K5.o.1.1.2.2.1;obtain⟨W6,aW,K6⟩:=nw1 W5 #[.int .i64 kind,.int .i64 n,.slice none 0 0,.slice none 0 0,.slice none 0 0] 46
     go_wp2_with (((with_reducible refine qbU rfl 46 _ _ rfl #[.int .i64 0,.int .i64 0,.slice none 0 0,.slice none 0 0,.slice none 0 0] #[.int .i64 kind,.int .i64 n,.slice none 0 0,.slice none 0 0,.slice none 0 0] ?_ ?_ 5 ?_ ?_ ?_ ?_ ?_);(next=>rfl);(next=>rfl);(next=>kernel_rfl);(next=>rfl);(next=>rfl);(next=>rfl)))
     rw [<-aW];have aG:VRow W6 W5.heap.size 5 (.slice none 0 0) 46 [.int .i64 kind,.int .i64 n]:=⟨K6.o.2,by simp⟩;have aI:=qH (qA aG K6.o.1);clear aG aW K6 k0 k1 k2 kk s0 s1 s2 c0 f1;obtain⟨M,hM⟩:=qY W5.heap.size;rw [<-hM] at aI ⊢;have HM:=qH hM;clear hM
     go_loopw [66] (fun x66 W=>∃j:Nat,x66=.int .i64 j/\j<=3/\Hu (FitI l k H i kind n W5 M W j)) (fun x66 _=>3-(intOf x66).toNat)
     case atStart=>exact⟨0,rfl,qan _,qH ⟨[],[],fun _ _=>0,rfl,aI.o.1,⟨rfl,fun q hq=>absurd hq (qbb _)⟩,fun q hq=>absurd hq (qbb _),fun h=>absurd h (qbb _),HM.o▸aI.o.2⟩⟩
     case round =>
      obtain⟨j,rfl,hj,hI⟩:=hrel;obtain⟨vs,t,x,aN,hV,Z,hx,ax,hB⟩:=hI.o;have ah:=F.o.1
      by_cases aL:j<3
      ·have bY:(j:Int)<3:=by omega
       obtain⟨⟨g4',e4',aR⟩,bU,bI,aS⟩:=K5.o.2;cases e4';cases bI;have HC:=qH (row_any j i (many k (chans l)) b I c g4 i g8 i _ _ _ l (tqf l k) (wq H) _ ah bJ aH aM.1 aM.2 aL (K5.o.1.1.2.2.2.2.1.below hB) (ah▸O.o.bound j) (ah▸O.o.terms Hk.o.1 ag.o) (ah▸O.o.labs) (by have:=HW.o.short;rw [F.o.2.2.2.1] at this;exact this) (by have:=HW.o.pos;rw [F.o.2.2.2.1] at this;exact this) (aR.below hB) (aS.below hB) (K5.o.1.1.2.2.2.2.2.2.below hB));have HI:=qH (qA aN (qA hV (qA Z (qA hx (qA ax hB)))));clear hI aN hV Z hx ax hB aR aS;have bB:nq l k H j=normR i (many k (chans l)) (tqf l k) (labq l j) (wq H):=by unfold nq;rw [ah]
       have bv:H.length=l.length:=by have:=F.o.2.2.2.1;omega
       have HQ:=qH (qA bB bv);clear bB bv ah;go_wp2_with fail;refine HC.o.mono ?_;rintro e w7 ⟨hr,bi⟩;rw [<-HQ.o.1] at hr;have aA:=qH bi;clear bi;have aP:Hu (Below w.heap.size w w7):=qH ((K5.o.1.1.1.1.trans (HI.o.2.2.2.2.2.mono K5.o.1.1.1.1.size)).trans (aA.o.mono (K5.o.1.1.1.1.trans (HI.o.2.2.2.2.2.mono K5.o.1.1.1.1.size)).size));rcases hr with ⟨aa,rfl⟩ | ⟨aa,y,hy,⟨az,g9,rfl,aU⟩ | ⟨az,rfl⟩⟩
       ·have HS:=qH aa;clear aa;unfold thrown;go_wp2_with fail;exact⟨rfl,aP.o,qaj ⟨7,rfl,qaj (qaj ⟨O.o,HQ.o.2,HW.o,k,Hk.o.1,qaj ⟨ag.o,qav ⟨qfy HS.o,rfl⟩⟩⟩)⟩⟩
       ·have aJ:=HI.o.2.1.below aA.o;have ae:(Value.int .i64 kind :: Value.int .i64 n :: vs).length=2+j:=by simp only [qbH];have:=HI.o.1;omega
        have aX:=aJ.at (by rw [ae];omega);have ay:=aJ.set (by rw [ae];omega) (.slice (some ⟨g9,0,none⟩) (many k (chans l)) (many k (chans l)));rw [ae] at aX ay;obtain⟨q0,qf⟩:=aX;have cB:=qf (2+j);have HN:=qH (qA ay (qA (((HI.o.2.2.1.below aA.o).append (RVals.one (rc:=many k (chans l)) (qbQ _ _) aU)).kept (qka (u:=.slice (some ⟨g9,0,none⟩) (many k (chans l)) (many k (chans l))) q0 (fun s h=>by cases h))) (qA ((HI.o.2.2.2.2.2.trans (aA.o.mono HI.o.2.2.2.2.2.size)).setCell (p:=⟨M,2+j,none⟩) (by rw [HM.o];exact qae _) (.slice (some ⟨g9,0,none⟩) (many k (chans l)) (many k (chans l)))) (qA aa (qA hy az)))));clear aJ ae ay qf aa hy az aU;go_wp2;go_roundw
        case rel =>
         refine⟨j+1,by go_num,aL,qH ⟨vs++[.slice (some ⟨g9,0,none⟩) (many k (chans l)) (many k (chans l))],t++[told (many k (chans l)) y],fun q=>if q=j then y else x q,by simp [HI.o.1],by exact HN.o.1,HN.o.2.1,fun q hq=>?_,fun _ h=>HN.o.2.2.2.1 (qfy h),HN.o.2.2.1⟩⟩;have bE:t.length=j:=HI.o.2.2.1.1.symm.trans HI.o.1
         by_cases e:q=j
         ·subst e;dsimp only;rw [if_pos rfl,qab,qar (by omega),bE,qaK];exact⟨rfl,HN.o.2.2.2.2.1,HN.o.2.2.2.2.2⟩
         ·dsimp only;rw [if_neg e,qab,qax (by omega),<-qab];exact HI.o.2.2.2.1 q (by omega)
        case measure=>simp [intOf];omega
       ·have HS:=qH (qA aa (qA hy az));clear aa hy az;unfold thrown;go_wp2_with fail;exact⟨rfl,aP.o,qaj ⟨6,rfl,qaj (qaj ⟨O.o,HQ.o.2,HW.o,k,Hk.o.1,qaj ⟨ag.o,qaj ⟨fun h=>HS.o.1 (qfy h),j,y,aL,HS.o.2.1,HS.o.2.2,rfl⟩⟩⟩)⟩⟩
      ·obtain rfl:j=3:=by omega
       obtain⟨s0,s1,s2,rfl⟩:∃s0 s1 s2,vs=[s0,s1,s2]:=by
        rcases vs with _ | ⟨s0,_ | ⟨s1,_ | ⟨s2,_ | ⟨s3,vs⟩⟩⟩⟩ <;> simp at aN
        exact⟨s0,s1,s2,rfl⟩
       have bE:t.length=3:=Z.1.symm;obtain⟨a0,b0,o0,d0,e0,f0⟩:=Z.2 0 (by omega);obtain⟨a1,b1,o1,d1,e1,f1⟩:=Z.2 1 (by omega);obtain⟨U,b2',o2,d2,e2,f2⟩:=Z.2 2 (by omega);rw [(hx 0 (by omega)).1,qbQ] at e0;rw [(hx 1 (by omega)).1,qbQ] at e1;rw [(hx 2 (by omega)).1,qbQ] at e2;rw [(hx 0 (by omega)).1] at f0;rw [(hx 1 (by omega)).1] at f1;rw [(hx 2 (by omega)).1] at f2;have e0:s0=_:=e0;have e1:s1=_:=e1;have e2:s2=_:=e2;subst e0 e1 e2;obtain⟨m,hm⟩:=qX (many k (chans l));rw [hm] at hV f0 f1 f2 hx ax;have Y:=hV.1;have ai:=(K5.below hB).o.1.1.1.2;have aT:=K5.o.1.1.1.1.trans (hB.mono K5.o.1.1.1.1.size);have bZ:=(qG Y).1;have z0:=qC _ _ 0 _ _ _ Y;have z1:=qC _ _ 1 _ _ _ Y;have z2:=qC _ _ 2 _ _ _ Y;have z3:=qC _ _ 3 _ _ _ Y;have z4:=qC _ _ 4 _ _ _ Y;have aO:∀s,.string s∉(#[.int .i64 0,.int .i64 0,.slice none 0 0,.slice none 0 0,.slice none 0 0]:Array Value).toList:=by intro s;simp
       have HE:=qH (qA (qT _ _ _ #[.int .i64 kind,.int .i64 n,.slice a0 m d0,.slice a1 m d1,.slice U m d2] _ _ ai) (qA (qS aT qN #[.int .i64 kind,.int .i64 n,.slice a0 m d0,.slice a1 m d1,.slice U m d2])
        (qA (f0.kept (qd9 (cs:=#[.int .i64 kind,.int .i64 n,.slice a0 m d0,.slice a1 m d1,.slice U m d2]) ai aO)) (qA (f1.kept (qd9 (cs:=#[.int .i64 kind,.int .i64 n,.slice a0 m d0,.slice a1 m d1,.slice U m d2]) ai aO)) (f2.kept (qd9 (cs:=#[.int .i64 kind,.int .i64 n,.slice a0 m d0,.slice a1 m d1,.slice U m d2]) ai aO))))))
       have HX:=qH (qA hx ax);have bH:=qH ai;clear hI hV Z hx ax hB f0 f1 f2 Y aT ai
       go_wp2_with ((with_reducible refine sR_ rfl 46 _ _ rfl (w.heap.size) #[.int .i64 kind,.int .i64 n,.slice a0 m d0,.slice a1 m d1,.slice U m d2] bH.o 5 ?_))
       refine qR (v:=.agg #[.int .i64 kind,.int .i64 n,.slice a0 m d0,.slice a1 m d1,.slice U m d2]) (rA_ rfl (w.heap.size) HE.o.1 underlying46 5) rfl ?_;have bP:=Hk.o.1.1;refine⟨HE.o.2.1,qav ⟨_,_,_,_,_,_,_,_,_,_,_,rfl,O.o,by have:=F.o.1;have:=F.o.2.2.2.1;omega,HW.o,k,Hk.o.1,ag.o,by rw [hm];exact HX.o.2 (by omega),x,?_,?_⟩⟩
       ·intro q hq;exact (HX.o.1 q hq).2.imp id fun h=>by rw [hm];exact h
       ·rw [hm];have hc:=HC.o;refine⟨a0,a1,U,b0,o0,d0,b1,o1,d1,b2',o2,d2,?_,HE.o.2.2.1,HE.o.2.2.2.1,HE.o.2.2.2.2⟩;unfold mdq;simp only [qbQ,hc,bP]
theorem MdAt.kept {W W':World} {v:Value} {m:Md} (h:MdAt W v m) (F:∀a s,W.cell? a=some (.string s)->W'.cell? a=some (.string s)):MdAt W' v m:=by
 obtain⟨a0,a1,a2,b0,o0,c0,b1,o1,c1,b2,o2,c2,rfl,G,H,I⟩:=h;exact⟨a0,a1,a2,b0,o0,c0,b1,o1,c1,b2,o2,c2,rfl,G.kept F,H.kept F,I.kept F⟩
theorem FitG.kept {l:List Pt} {kind:Int} {F:List Int} {W W':World} {v:Value} (Z:∀a s,W.cell? a=some (.string s)->W'.cell? a=some (.string s)) (h:FitG l kind F W v):FitG l kind F W' v:=by
 obtain⟨G,H,I,k,J,O,U,x,V,Y⟩:=h;exact⟨G,H,I,k,J,O,U,x,V,Y.kept Z⟩
theorem fit_any (R b ai c b2 I n2 c2:Nat) (ao a2:Option Addr) (l:List Pt) (kind:Int) (ws:List Int) (w:World) (hR:l.length=R) (hl:R<=4611686018427387904) (hs:∀k,k<R->(l.getD k pt0).name.size<=4611686018427387904/\(l.getD k pt0).dev.length<=4611686018427387904)
  (ag:ws.length=n2) (af:n2<=4611686018427387904) (hP:PCells w ao b ai l) (hN:NCells w a2 b2 I ws) (hT:HasT w) :
  Calls prog 26 #[.slice ao R c,.int .i64 kind,.slice a2 n2 c2] w fun e w'=>FitAs w l kind ws e w':=by
 obtain⟨W3,O,V⟩:=nw3 w #[.slice ao R c] 48 #[.int .i64 kind] 3 #[.slice a2 n2 c2] 30;obtain⟨W4,ae,Y⟩:=nw1 W3 #[.int .i64 0,.int .i64 0,.slice none 0 0,.slice none 0 0,.slice none 0 0] 46;have ak:=@hmf_ prog;have ah:W3.heap.size=w.heap.size+1+1+1:=by rw [O];simp
 have F:Below w.heap.size w W4:=V.o.1.trans (Y.o.1.mono V.o.1.size);have HG:=qH (qhX 62 #[.pointer (some ⟨w.heap.size,0,none⟩),.pointer (some ⟨w.heap.size+1,0,none⟩),.pointer (some ⟨w.heap.size+1+1,0,none⟩)] (FitG l kind ws) (FitF l kind ws) W4 (fun W=>enters func62 (by kernel_rfl) (by kernel_rfl) _ W)
  (fun W W' v hk h=>h.kept hk)
  (fun w1 Z=>fit1_any R b ai c w.heap.size (w.heap.size+1) (w.heap.size+1+1) b2 I n2 c2 ao a2 l kind ws _ _ _ w1 hR hl hs ag af (zkeep Z _ _ (zkeep Y.o.1 _ _ V.o.2.1)) (zkeep Z _ _ (zkeep Y.o.1 _ _ V.o.2.2.1)) (zkeep Z _ _ (zkeep Y.o.1 _ _ V.o.2.2.2))
   (hP.below (F.trans (Z.mono F.size))) (hN.below (F.trans (Z.mono F.size))) (hT.below (F.trans (Z.mono F.size)))))
 have HB:=qH (qA F ah);clear hR hl hs ag af hP hN hT F ah;go_enter func26,ntmps26;go_upto_region 1 with fail;rw [<-O,<-ae];clear O ae;go_wp2_with fail;refine HG.o.mono ?_;rintro e w5 ⟨U,h⟩;have K5:=Y.below U;have aa:=qH (HB.o.1.trans (U.mono HB.o.1.size));clear U HG;have G:=K5.o.2;rw [HB.o.2] at G;have Hr:=qH G;clear G K5 Y V;have aj:∀s,.string s∉(#[.int .i64 0,.int .i64 0,.slice none 0 0,.slice none 0 0,.slice none 0 0]:Array Value).toList:=by intro s;simp
 rcases h with ⟨i0,i1,p0,n0,c0,p1,n1,c1,p2,H,c2',rfl,hg⟩ | ⟨cc,rfl,hf⟩
 ·have J:=qH (qA (qT _ _ _ #[.int .i64 i0,.int .i64 i1,.slice p0 n0 c0,.slice p1 n1 c1,.slice p2 H c2'] _ _ Hr.o) (qA (qS aa.o (show w.heap.size<=w.heap.size+1+1+1 by omega) #[.int .i64 i0,.int .i64 i1,.slice p0 n0 c0,.slice p1 n1 c1,.slice p2 H c2'])
   (hg.kept (qd9 (cs:=#[.int .i64 i0,.int .i64 i1,.slice p0 n0 c0,.slice p1 n1 c1,.slice p2 H c2']) Hr.o aj))))
  clear hg;rename_i hK;dsimp only;refine hK _ _ ?_
  go_wp2_with ((with_reducible refine sR_ rfl 46 _ _ rfl ((w.heap.size+1+1+1)) #[.int .i64 i0,.int .i64 i1,.slice p0 n0 c0,.slice p1 n1 c1,.slice p2 H c2'] Hr.o 5 ?_))
  exact qR (v:=.tuple #[.agg #[.int .i64 i0,.int .i64 i1,.slice p0 n0 c0,.slice p1 n1 c1,.slice p2 H c2'],.int .i64 0]) (rB_ rfl (w.heap.size+1+1+1) J.o.1 underlying46 5) rfl ⟨J.o.2.1,qav ⟨_,rfl,J.o.2.2⟩⟩
 ·have J:=qH (qA (qT _ _ _ #[.int .i64 0,.int .i64 0,.slice none 0 0,.slice none 0 0,.slice none 0 0] _ _ Hr.o) (qA (qS aa.o (show w.heap.size<=w.heap.size+1+1+1 by omega) #[.int .i64 0,.int .i64 0,.slice none 0 0,.slice none 0 0,.slice none 0 0]) hf));clear hf;rename_i hK;dsimp only;refine hK _ _ ?_
  go_wp2_with ((with_reducible refine sR_ rfl 46 _ _ rfl ((w.heap.size+1+1+1)) #[.int .i64 0,.int .i64 0,.slice none 0 0,.slice none 0 0,.slice none 0 0] Hr.o 5 ?_))
  exact qR (v:=.tuple #[mdv0,.int .i64 cc]) (rB_ rfl (w.heap.size+1+1+1) J.o.1 underlying46 5) rfl ⟨J.o.2.1,qaj ⟨cc,rfl,J.o.2.2⟩⟩
def MatchAs (w:World) (m:Md) (l:List Pt) (e:Ending) (w':World):Prop :=
 Below w.heap.size w w'/\((¬qdF m/\e=thrown 320)\/(qdF m/\¬PtsOk l/\e=thrown 310)\/(qdF m/\PtsOk l/\m.inn≠(chans l:Nat)/\e=thrown 5)\/(qdF m/\PtsOk l/\m.inn=(chans l:Nat)/\e=.returned (.tuple #[])))
theorem ql4 (m:Md) (v:Value) (R b aa c:Nat) (ao:Option Addr) (l:List Pt) (w:World) (hM:MdAt w v m) (af:∀q,q<3->(m.row q).length<=4611686018427387904) (hR:l.length=R) (hl:R<=4611686018427387904) (hs:∀k,k<R->(l.getD k pt0).name.size<=4611686018427387904/\(l.getD k pt0).dev.length<=4611686018427387904) (hP:PCells w ao b aa l) :
  Calls prog 87 #[v,.slice ao R c] w fun e w'=>MatchAs w m l e w':=by
 obtain⟨a,b',o,c',rfl,hF⟩:=id hM.parts;obtain⟨kind,H⟩:∃z,m.kind=z:=⟨_,rfl⟩;obtain⟨inn,G⟩:∃z,m.inn=z:=⟨_,rfl⟩;rw [H,G] at hM ⊢;obtain⟨L,hL⟩:∃L:Nat->Nat,∀q,(m.row q).length=L q:=⟨_,fun _=>rfl⟩;rw [hL,hL,hL] at hM ⊢;obtain⟨W1,ae,O⟩:=nw1 w #[.int .i64 kind,.int .i64 inn,.slice (a 0) (L 0) (c' 0),.slice (a 1) (L 1) (c' 1),.slice (a 2) (L 2) (c' 2)] 46;have c0:=qC _ _ 0 _ _ _ O.o.2;have c1:=qC _ _ 1 _ _ _ O.o.2;have c2:=qC _ _ 2 _ _ _ O.o.2;have c3:=qC _ _ 3 _ _ _ O.o.2;have c4:=qC _ _ 4 _ _ _ O.o.2;have HC:=qH (qkH m _ W1 (hM.below O.o.1) af);have HX:=qH (qA hR (qA hl (qA hs (qA (hP.below O.o.1) G))));clear hM hF af hR hl hs hP H G hL;go_enter func87,ntmps87;go_upto_region 1 with fail;rw [<-ae];clear ae;go_wp2_with fail;refine HC.o.mono ?_;rintro e w2 ⟨cc,rfl,ag,Y⟩;have HB:=qH (O.o.1.trans (Y.mono O.o.1.size));have K2:=(O.below Y).also (q:=fun W=>PCells W ao b aa l) (HX.o.2.2.2.1.below Y);clear Y HC c0 c1 c2 c3 c4;rcases ag with ⟨rfl,J⟩ | ⟨rfl,I⟩
 case inr =>
  have HN:=qH I;clear I;go_wp2_with fail;refine (qcX 320 (by decide) _).mono ?_;rintro e w3 ⟨rfl,rfl⟩;unfold thrown;go_wp2_with fail;exact⟨rfl,HB.o,qav ⟨HN.o,rfl⟩⟩
 have HO:=qH J;clear J;go_wp2_with fail;refine (qgH _).mono ?_;rintro e w3 ⟨rfl,hw⟩;subst hw;go_wp2_with fail;have ah:=(qG K2.o.1.2).1;have q1:=rowC (B:=w2.heap.size) K2.o.1.2 1;refine wp_region_held_drew (S:=fun W=>Below w2.heap.size w2 W) (by kernel_rfl) qB.drew (fun hS0=>?_);refine hT 0 (h:=?_);refine hT 5 (h:=?_);refine hT 6 (h:=?_);refine hC 1 (chan_any ao b aa R c l w2.drew HX.o.1 HX.o.2.1 HX.o.2.2.1 (K2.o.2.below qB.drew)) (h:=?_);rintro e w3 ⟨h,Z⟩;have F:=qH (qcf Z);clear Z;rcases h with ⟨J,rfl⟩ | ⟨I,rfl⟩
 ·refine⟨_,rfl,F.o,hN (h:=?_)⟩;have V:=qH J;clear J;refine hT 2 (hS:=F.o) (h:=?_);refine hT 3 (hS:=F.o) (h:=?_);refine hC 4 (needI_ok _ w3) (h:=?_);rintro e w4 ⟨rfl,rfl⟩;refine⟨_,rfl,F.o,hN (h:=?_)⟩;refine hT 7 (hS:=F.o) (h:=?_);refine wpAnyH_done (by kernel_rfl) ?_ _;have U:=qH (HB.o.trans (F.o.mono HB.o.size))
  by_cases hc:((chans l:Nat):Int)=inn
  ·have Z:(((chans l:Nat):Int) != inn)=false:=by simp [hc]
   have Hc:=qH hc;clear hc;rw [Z];clear Z;go_wp2_with fail;exact qR (results_none rfl _ _ _) rfl ⟨U.o,qaj (qaj (qaj ⟨HO.o,V.o,by rw [HX.o.2.2.2.2];exact Hc.o.symm,rfl⟩))⟩
  ·have Z:(((chans l:Nat):Int) != inn)=true:=by rw [bne_iff_ne];exact hc
   have Hc:=qH hc;clear hc;rw [Z];clear Z;go_wp2_with fail;refine (qcX 5 (by decide) _).mono ?_;rintro e w4 ⟨rfl,rfl⟩;unfold thrown;go_wp2_with fail;exact⟨rfl,U.o,qaj (qaj (qav ⟨HO.o,V.o,fun h=>Hc.o (by rw [HX.o.2.2.2.2] at h;exact h.symm),rfl⟩))⟩
 ·refine⟨_,rfl,F.o,hN (h:=?_)⟩;have V:=qH I;clear I;refine hT 2 (hS:=F.o) (h:=?_);refine hT 3 (hS:=F.o) (h:=?_);refine hCx 4 (qmd 0 310 (by decide) w3) (h:=?_);rintro e w4 ⟨rfl,rfl⟩;refine qaj ⟨_,rfl,?_⟩;have U:=qH (HB.o.trans (F.o.mono HB.o.size));go_wp2_with fail;exact⟨rfl,U.o,qaj (qav ⟨HO.o,V.o,rfl⟩)⟩
theorem qmE (k F R pb ib b Z c:Nat) (ao:Option Addr) (l:List Pt) (ty ae:TypeId) (w:World) (hR:l.length=R) (hk:k<R) (af:R<=40) (ag:F<3) (Y:w.heap[pb]? = some (.cells #[.slice ao R c] ty (0,0))) (U:w.heap[ib]? = some (.cells #[.int .i64 (k:Int)] ae (0,0)))
  (hP:PCells w ao b Z l) (hl:-9223372036854775808<=(l.getD k pt0).lab F/\(l.getD k pt0).lab F<=9223372036854775807) (hT:HasT w) :
  Calls prog 89 #[.int .i64 (F:Int),.pointer (some ⟨pb,0,none⟩),.pointer (some ⟨ib,0,none⟩)] w fun e w'=>Below w.heap.size w w'/\e=.returned (.agg #[.string (ftxt (labq l F k)).1,.string (ftxt (labq l F k)).2]):=by
 have aa:=hP.addr (by omega);subst aa;obtain⟨t1,t2,ht⟩:=qcs (labq l F k);rw [ht];obtain⟨W1,I,H⟩:=nw1 w #[.string ⟨#[]⟩,.string ⟨#[]⟩] 27;have d0:W1.cell? ⟨b,Z+k*5+2+F,none⟩=some (.int .i64 ((l.getD k pt0).lab F)):=by
  obtain⟨_,_,d2,d3,d4⟩:=(hP.below H.o.1).cell k (by omega);rcases (show F=0\/F=1\/F=2 by omega) with rfl | rfl | rfl
  ·exact d2
  ·exact d3
  ·exact d4
 have q1:=qC W1 _ 0 _ _ _ (zkeep H.o.1 _ _ Y);have q2:=qC W1 _ 0 _ _ _ (zkeep H.o.1 _ _ U);obtain⟨x,hx⟩:=qX ((l.getD k pt0).lab F);have V:(x:Rat) / ((100:Int):Rat)=labq l F k:=by unfold labq;rw [hx];rfl
 have G:=of_int x 100 (by decide) (by rw [<-hx];exact hl) (by decide) W1 (hT.below H.o.1);rw [V,ht] at G;rw [hx] at d0;have HO:=qH G;have ai:(k:Int)<R:=by omega
 have ah:(F:Int)<3:=by omega
 clear G V hx hP Y U hT ht hl;go_enter func89,ntmps89;go_upto_region 1 with fail;rw [<-I];clear I;go_wp2_with fail;refine HO.o.mono ?_;rintro e w1 ⟨rfl,J⟩;have K2:Kn (fun W=>Below w.heap.size w W/\W.heap[w.heap.size]? = some (.cells #[.string ⟨#[]⟩,.string ⟨#[]⟩] 27 (0,0))) w1:=H.below J;clear H J;go_wp2_with fail;refine (qdk t1 t2 w1).mono ?_;rintro e w2 ⟨rfl,O⟩;have K3:=K2.below O;clear K2 O;have HE:=qH (qA (qT _ _ _ #[.string t1,.string t2] _ _ K3.o.2) (qS K3.o.1 qN #[.string t1,.string t2]));rename_i hK;dsimp only;refine hK _ _ ?_
 go_wp2_with ((with_reducible refine sR_ rfl 27 _ _ rfl (w.heap.size) #[.string t1,.string t2] K3.o.2 2 ?_))
 exact qR (v:=.agg #[.string t1,.string t2]) (rA_ rfl (w.heap.size) HE.o.1 underlying27 2) rfl ⟨HE.o.2,rfl⟩
theorem short_1:Short 1:=qgE ⟨by decide,by decide⟩
theorem meas_at {R n:Nat} {f:Nat->Nat->Rat} {b v x:Nat->Rat} {I:Option Addr} {g og c:Nat} {F:Option Addr} {V c2:Nat} {G:Option Addr} {Y c3:Nat} {H:Option Addr} {Z c4:Nat} {w:World} (h1:1<=R) (h2:R<=40) (h3:1<=n) (h4:n<=10) (hf:∀i,i<R->qbP n (f i)) (hb:qbP R b) (hv:qbP R v) (hx:qbP n x) (U:∀i,i<R->0<=v i) (hT:TCells w I g og (ttab R n f)) (hF:FCells w F V 0 (told R b)) (J:FCells w G Y 0 (told R v)) (O:FCells w H Z 0 (told n x)) (hP:HasT w) :
  Calls prog 90 #[.slice I R c,.slice F R c2,.slice G R c3,.slice H n c4] w fun e w'=>(Short (msR R n f b v x)/\e=.returned (.tuple #[fstr (msR R n f b v x),.int .i64 0])\/¬Short (msR R n f b v x)/\e=.returned (.tuple #[.agg #[.string ⟨#[]⟩,.string ⟨#[]⟩],.int .i64 6]))/\Below w.heap.size w w' :=
 (qim I g og R c _ F V 0 R c2 _ G Y 0 R c3 _ H Z 0 n c4 _ w (qcx _ _ _) (by omega) (qiN (by omega)) hT (qbQ _ _) (by omega) hF (qbQ _ _) (by omega) J (qbQ _ _) (by omega) O hP).mono fun _ _ h=>h.told h1 h2 h3 h4 hf hb hv hx U
structure MBox (W:World) (mb:Nat) (m:Md) (N:Nat):Prop where
 ex:∃(a:Nat->Option Addr) (b o d:Nat->Nat),W.heap[mb]? = some (.cells #[.int .i64 m.kind,.int .i64 m.inn,.slice (a 0) N (d 0),.slice (a 1) N (d 1),.slice (a 2) N (d 2)] 46 (0,0))/\∀q,q<3->FCells W (a q) (b q) (o q) (m.row q)
theorem MBox.below {W W':World} {mb N:Nat} {m:Md} (h:MBox W mb m N) (F:Below W.heap.size W W'):MBox W' mb m N:=by
 obtain⟨a,b,o,d,G,H⟩:=h.ex;exact⟨a,b,o,d,zkeep F _ _ G,fun q I=>(H q I).below F⟩
instance stays_mbox {mb N:Nat} {m:Md}:Stays fun W=>MBox W mb m N:=⟨fun h F=>h.below F⟩
theorem MBox.tab {W:World} {mb N:Nat} {m:Md} (h:MBox W mb m N) (hN:∀q,q<3->(m.row q).length=N/\FAll (m.row q)):TCells W (some ⟨mb,2,none⟩) mb 2 (ttab 3 N fun q=>lval (m.row q)):=by
 obtain⟨a,b,o,d,G,H⟩:=h.ex;refine⟨fun _=>rfl,fun k F=>?_⟩;rw [qcx] at F;rw [qem F,qbQ];have e:told N (lval (m.row k))=m.row k:=by rw [<-(hN k F).1];exact (hN k F).2.eq_told.symm
 rw [e];refine⟨a k,b k,o k,d k,?_,H k F⟩;rcases (show k=0\/k=1\/k=2 by omega) with rfl | rfl | rfl
 ·exact qC _ _ 2 _ _ _ G
 ·exact qC _ _ 3 _ _ _ G
 ·exact qC _ _ 4 _ _ _ G
def sqq (m:Md) (l:List Pt) (F k:Nat):Rat:=msR 3 (many F (chans l)) (fun q=>lval (m.row q)) (fun q=>labq l q k) (fun _=>1) (tqf l F k)
theorem sq11_any (k G R pb ob mb b O c:Nat) (ao:Option Addr) (l:List Pt) (m:Md) (o1 o2:ByteArray) (ty aQ:TypeId) (w:World) (hR:l.length=R) (hk:k<R) (ae:PtsOk l) (hM:MdOk m G (chans l)) (h1:(o1,o2)=ftxt 1) (ax:w.heap[pb]? = some (.cells #[.slice ao R c] ty (0,0))) (aL:w.heap[ob]? = some (.cells #[.string o1,.string o2] aQ (0,0)))
  (av:MBox w mb m (many G (chans l))) (hP:PCells w ao b O l) (hT:HasT w) :
  Calls prog 88 #[.int .i64 (k:Int),.pointer (some ⟨pb,0,none⟩),.pointer (some ⟨ob,0,none⟩),.pointer (some ⟨mb,0,none⟩)] w fun e w'=>Below w.heap.size w w' /\
   ((∃x y,e=.returned (.agg #[.string x,.string y])/\Short (sqq m l G k)/\(x,y)=ftxt (sqq m l G k))\/∃c,e=thrown c/\¬Short (sqq m l G k)/\c=6):=by
 have aV:=hP.addr (by omega);subst aV;have aU:R<=40:=hR▸ae.r2;obtain⟨W2,aC,K0⟩:=nw2 w #[.int .i64 (k:Int)] 3 #[.string ⟨#[]⟩,.string ⟨#[]⟩] 27;have K2:=K0.also (q:=fun W=>W.heap[pb]? = some (.cells #[.slice (some ⟨b,O,none⟩) R c] ty (0,0))/\W.heap[ob]? = some (.cells #[.string o1,.string o2] aQ (0,0))/\MBox W mb m (many G (chans l))/\PCells W (some ⟨b,O,none⟩) b O l/\HasT W)
  ⟨zkeep K0.o.1 _ _ ax,zkeep K0.o.1 _ _ aL,av.below K0.o.1,hP.below K0.o.1,hT.below K0.o.1⟩
 have aY:=@hmf_ prog;have hg:qjA 89 #[.pointer (some ⟨pb,0,none⟩),.pointer (some ⟨w.heap.size,0,none⟩)] W2 3 (fun q x=>x=ftxt (labq l q k)) (fun _ _=>False):=by
  intro q hq W hb;refine (qmE k q R pb w.heap.size b O c _ l _ _ W hR hk aU hq (zkeep hb _ _ K2.o.2.1) (zkeep hb _ _ K2.o.1.2.1) (K2.o.2.2.2.2.1.below hb) (ae.bound q k (by omega)) (K2.o.2.2.2.2.2.below hb)).mono ?_;rintro e w' ⟨h1,h2⟩;exact⟨h1,qav ⟨_,_,h2,rfl⟩⟩
 have HG:=qH (qd6 89 #[.pointer (some ⟨pb,0,none⟩),.pointer (some ⟨w.heap.size,0,none⟩)] 3 (by decide) _ _ W2 (fun a W=>enters func89 (by kernel_rfl) (by kernel_rfl) _ W) hg);have F:=qH (qA hR (qA ae (qA hM h1)));have aK:=(qG ax).1;have aJ:mb<w.heap.size:=by
  obtain⟨_,_,_,_,h2,_⟩:=av.ex;exact (qG h2).1
 have aI:b<w.heap.size:=qac _ _ (hP.cell k (by omega)).1;have ag:=qH (qA aK (qA aJ aI));clear K0 hg ax aL av hP hT hR ae hM h1 aK aJ aI;go_enter func88,ntmps88;go_upto_region 1 with fail;rw [<-aC];clear aC;go_wp2_with fail;refine HG.o.mono ?_;rintro e w3 ⟨aF,h⟩;have K3:=K2.below aF;rcases h with ⟨la,g3,aH,aP,rfl,az,_⟩ | ⟨_,_,_,_,hF⟩
 case inr=>exact hF.elim
 have K4:=K3.also (q:=fun W=>FCells W (some ⟨g3,0,none⟩) g3 0 (told 3 fun q=>labq l q k)) (qhS aH aP▸az);clear K2 HG aH aP az aF K3;have z0:=qC _ _ 0 _ _ _ K4.o.1.2.2.1;have z1:=qC _ _ 1 _ _ _ K4.o.1.2.2.1;obtain⟨W4,aD,N4⟩:=nw1 w3 #[.string o1,.string o2,.string o1,.string o2,.string o1,.string o2] 27;have af:FCells W4 (some ⟨w3.heap.size,0,none⟩) w3.heap.size 0 (told 3 fun _=>1):=by
  have e:told 3 (fun _=>(1:Rat))=[(o1,o2),(o1,o2),(o1,o2)]:=by rw [F.o.2.2.2];rfl
  rw [e];exact FCells.ofRow N4.o.2
 have K5:=(K4.below N4.o.1).also (q:=fun W=>FCells W (some ⟨w3.heap.size,0,none⟩) w3.heap.size 0 (told 3 fun _=>1)) af;clear K4 N4 af;go_wp2_with fail;rw [<-aD];clear aD z0 z1;obtain⟨_,⟨ra,rb,ro,rc,d1,hN⟩,_⟩:=K5.o.1.1.2.2.2.2.1.cell k (by have:=F.o.1;omega);have aa:=(F.o.2.1.rows k (by have:=F.o.1;omega)).2;have Z:=(F.o.2.1.rows k (by have:=F.o.1;omega)).1.vals;obtain⟨n,hn⟩:=qX (chans l);rw [hn] at aa;rw [aa] at d1;obtain⟨a,b',o,d,I,_⟩:=K5.o.1.1.2.2.2.1.ex;obtain⟨kind,H⟩:∃z,m.kind=z:=⟨_,rfl⟩;rw [H] at I;have aX:=(qG K5.o.1.1.1.2.2).1;have U:=qH (qA aa (qA Z (qA hN (qA hn H))));have q0:=rowG (g0:=w.heap.size+1) I 0 (hne:=by have:=ag.o.2.1;omega);have q1:=rowG (g0:=w.heap.size+1) K5.o.1.1.2.1 0 (hne:=by have:=ag.o.1;omega);have q2:=rowG (g0:=w.heap.size+1) K5.o.1.1.1.2.1 0 (hne:=by omega);have q3:∀W,W4.grownBy W (some (w.heap.size+1))->W.cell? ⟨b,O+k*5+1,none⟩=some (.slice ra n rc):=fun W hg=>hg.cell d1 (fun e=>by have:=ag.o.2.2;have:=qag e;simp at this;omega)
 have aW:(k:Int)<R:=by omega
 clear aa Z hN hn H I d1;refine wp_region_held_drew (S:=fun W=>W4.grownBy W (some (w.heap.size+1))) (by kernel_rfl) (keepB qB.drew) (fun hS0=>?_);refine hT 0 (h:=?_);refine hT 1 (h:=?_);refine hT 2 (h:=?_);refine hT 3 (h:=?_);refine hT 4 (h:=?_);refine hT 5 (h:=?_);refine hT 6 (h:=?_);refine hT 7 (h:=?_);refine hT 8 (h:=?_);refine hT 9 (h:=?_);refine hT 10 (h:=?_);refine hC 11 (qiM kind G (by rw [<-U.o.2.2.2.2];exact F.o.2.2.1.kind) ra rb ro n rc (l.getD k pt0).dev W4.drew U.o.1 (by rw [<-U.o.2.2.2.1];exact F.o.2.1.n1) (by rw [<-U.o.2.2.2.1];exact F.o.2.1.n4) (fun e=>by have h3:=F.o.2.2.1.both;have h4:=F.o.2.1.n4;have:=U.o.2.2.2.1;omega) (U.o.2.2.1.below qB.drew) U.o.2.1 (K5.o.1.1.2.2.2.2.2.below qB.drew)) (h:=?_);rintro e w5 ⟨v5,rfl,aO,aG⟩;have ay:=qH (qcf aG);clear aG;obtain⟨a5,g5,c5,rfl,ah,_⟩:=aO.cells (n:=many G n) (by rw [qaF,qgL,U.o.1]);have aA:W4.grownBy w5 (some (w.heap.size+1)):=keepB ay.o;have K6:=K5.below ay.o;have aN:(termL G (l.getD k pt0).dev).map ftxt=told (many G n) (tqf l G k):=by
  rw [<-U.o.1];exact (qhn G (l.getD k pt0).dev).symm
 rw [aN] at ah;have aS:=qH ah;clear ah aO aN;refine⟨_,rfl,aA,hN (h:=?_)⟩;have V:=qfv F.o.2.2.1.kind F.o.2.1.n1 F.o.2.1.n4 F.o.2.2.1.both;have au:k<l.length:=by have:=F.o.1;omega
 have ai:=meas_at (c:=3) (c2:=3) (c3:=3) (c4:=c5) (by decide) (by decide) V.1 V.2 (f:=fun q=>lval (m.row q)) (b:=fun q=>labq l q k) (v:=fun _=>1) (x:=tqf l G k)
  (fun q hq=>by have:=(F.o.2.2.1.rows q hq).2.short;rw [(F.o.2.2.1.rows q hq).1] at this;exact this) (fun q hq=>F.o.2.1.labs k au) (fun _ _=>short_1) (F.o.2.1.terms F.o.2.2.1.kind F.o.2.2.1.both k au) (fun _ _=>by decide)
  (MBox.tab K6.o.1.1.2.2.2.1 F.o.2.2.1.rows) K6.o.1.2 K6.o.2 (by rw [U.o.2.2.2.1];exact aS.o) K6.o.1.1.2.2.2.2.2
 rw [U.o.2.2.2.1] at ai;have aT:=qH ai;clear ai V au;refine hC 12 aT.o (h:=?_);rintro e w6 ⟨h,ak⟩;have aR:=qH ak;have aj:=qca aA ak;clear ak;have K7:=K6.below aR.o;have aM:sqq m l G k=msR 3 (many G n) (fun q=>lval (m.row q)) (fun q=>labq l q k) (fun _=>1) (tqf l G k):=by unfold sqq;rw [U.o.2.2.2.1]
 rw [<-aM] at h;clear aM;obtain⟨y1,y2,hy⟩:=qcs (sqq m l G k);rcases h with ⟨Y,rfl⟩ | ⟨Y,rfl⟩
 ·rw [qfS,hy];have HS:=qH (qA Y hy);clear Y hy;refine⟨_,rfl,aj,hN (h:=?_)⟩;refine hT 13 (h:=?_);refine hT 14 (h:=?_);refine hC 15 (qdk y1 y2 w6) (h:=?_);rintro e w7 ⟨rfl,J⟩;have aB:=qca aj J;have K8:=K7.below J;clear J;refine⟨_,rfl,aB,hN (h:=?_)⟩;have HE:=qH (qA (qT _ _ _ #[.string y1,.string y2] _ _ K8.o.1.1.1.2.2) (qS K8.o.1.1.1.1 (show w.heap.size<=w.heap.size+1 by omega) #[.string y1,.string y2]));refine hSt 16 2 K8.o.1.1.1.2.2 (h:=⟨qbR aB (qb3 _ _ _),?_⟩);go_wp2_with fail;exact qR (v:=.agg #[.string y1,.string y2]) (rA_ rfl ((w.heap.size+1)) HE.o.1 underlying27 2) rfl ⟨HE.o.2,qav ⟨_,_,rfl,HS.o.1,HS.o.2.symm⟩⟩
 ·have HS:=qH Y;clear Y hy;refine⟨_,rfl,aj,hN (h:=?_)⟩;refine hT 13 (h:=?_);refine hT 14 (h:=?_);refine hCx 15 (qmc ⟨#[]⟩ ⟨#[]⟩ 6 (by decide) w6) (h:=?_);rintro e w7 ⟨rfl,J⟩;have K8:=K7.below J;clear J;refine qaj ⟨_,rfl,?_⟩;go_wp2_with fail;exact⟨rfl,K8.o.1.1.1.1,qaj ⟨6,rfl,HS.o,rfl⟩⟩
def eOne (z:Int):Rat:=(z:Rat) / ((1:Int):Rat)
theorem eOne_cd (z:Int):Cd (eOne z) 1 z.natAbs:=⟨z,rfl,qae _⟩
def rr (l:List Pt) (k:Nat) (x:Nat->Nat->Rat) (c i:Nat):Rat:=sumQ (many k (chans l)) (fun j=>tqf l k i j*x c j)-labq l c i
def RN:Nat:=10*(512*PB)*100+12800*(512*QB)
theorem rr_cd {l:List Pt} (h:PtsOk l) (V:qdr l) {k:Nat} (J:1<=k/\k<=3) (G:¬(k=3/\chans l=4)) {x:Nat->Nat->Rat} {D:Nat} (F:D≠0) (Y:D<=QB) (hx:∀c,c<3->∀i,i<many k (chans l)->Cd (x c i) D PB) {c i:Nat} (hc:c<3) (I:i<l.length):Cd (rr l k x c i) (512*D*100) RN:=by
 have Z:many k (chans l)<=10:=(qfv (kind:=k) ⟨rfl,J⟩ h.n1 h.n4 G).2;have O:Cd (sumQ (many k (chans l)) (fun j=>tqf l k i j*x c j)) (512*D) (many k (chans l)*(512*PB)):=Cd.sum fun j hj=>(h.term_cd V J G I j).mul (hx c hc j hj) (by decide) F
 have U:=(O.mono (qaP _ Z)).up 100 (qbF (by decide) F) (by decide);have H:=(h.lab_cd c I).up (512*D) (by decide) (qbF (by decide) F);rw [qaC 100] at H;unfold rr RN;exact (U.sub H).mono (Nat.add_le_add_left (qaJ _ (qaJ _ Y)) _)
theorem qgX {l:List Pt} (h:PtsOk l) (h8:qdr l) {k:Nat} (hk:1<=k/\k<=3) (U:¬(k=3/\chans l=4)) {I:List Int} (hw:W9 I l.length) {c:Nat} (hc:c<3) {x:Nat->Rat} (hs:¬Sing (many k (chans l)) (nq l k I 0)) (V:FitX l k I c x):qbP (many k (chans l)) x:=by
 obtain⟨n,H⟩:=qX (many k (chans l));have O:n<=10:=by rw [<-H];exact (qfv (kind:=k) ⟨rfl,hk⟩ h.n1 h.n4 U).2
 have hE:∀r j,∃a:Int,r<n->fitE l k I r (if j<n then j else n+c)=(a:Rat) / (fitS:Rat)/\a.natAbs<=fitB:=fun r j=>by
  by_cases hr:r<n
  ·obtain⟨a,e,ha⟩:=qlv h h8 hk U hw (c:=if j<n then j else n+c) (by rw [H];exact hr);exact⟨a,fun _=>⟨e,ha⟩⟩
  ·exact⟨0,fun h=>absurd h hr⟩
 obtain⟨A,hA⟩:∃A:Nat->Nat->Int,∀r j,r<n->fitE l k I r (if j<n then j else n+c)=(A r j:Rat) / (fitS:Rat)/\(A r j).natAbs<=fitB:=⟨fun r j=>(hE r j).choose,fun r j=>(hE r j).choose_spec⟩;have hS:(fitS:Rat)≠0:=qfx (by decide);have G:∀r j,r<n->castM A r j=(fitS:Rat)*fitE l k I r (if j<n then j else n+c):=fun r j hr=>by
  rw [(hA r j hr).1]
  show (A r j:Rat)=_
  generalize (fitS:Rat)=S at *
  grind
 have hl:∀r j,r<n->j<n->castM A r j=(fitS:Rat)*nq l k I 0 r j:=fun r j hr J=>by
  rw [G r j hr,if_pos J];unfold fitE;rw [H,if_pos J]
 have Z:¬Sing n (castM A):=fun aa=>hs (by
  rw [H];obtain⟨y,hy,h0⟩:=aa;refine⟨y,hy,fun i F=>?_⟩;have:=h0 i F;rw [qbS fun j J=>show castM A i j*y j=(fitS:Rat)*(nq l k I 0 i j*y j) by rw [hl i j F J,Rat.mul_assoc],qcc] at this;rcases Rat.mul_eq_zero.1 this with e | e
  ·exact absurd e hS
  ·exact e)
 obtain⟨q,p,hq,Y,hp⟩:=qiH (R:=n) (m:=1) (B:=fitB) (A:=A) (x:=fun _=>x) (by decide) (fun i j F _=>(hA i j F).2) Z fun c' ae i F=>by
  obtain rfl:c'=0:=by omega
  have V:=V i (by rw [H];exact F);rw [H] at V;rw [qbS fun j J=>show castM A i j*x j=(fitS:Rat)*(nq l k I c i j*x j) by rw [hl i j F J,qmf (c:=0) (c':=c) (by rw [H];exact F) (by rw [H];exact J),Rat.mul_assoc],qcc,V]
  show (fitS:Rat)*nq l k I c i n=castM A i (n+0)
  rw [G i (n+0) F,if_neg (by omega)];unfold fitE;rw [H,if_neg (by omega),Nat.add_sub_cancel_left]
 intro i F;rw [H] at F;obtain⟨e,hb⟩:=hp 0 (by decide) i F;have hb:(p 0 i).natAbs<=PB:=qak hb (qeo (by omega));have af:q.natAbs<=QB:=qak Y (qeo O);exact qc9 (N:=PB+QB) (qiE hq (by omega) (by omega) e) (by have U:PB+QB<10 ^ 600:=(by decide +kernel);exact U)
theorem sqq_rr {l:List Pt} {k i:Nat} {X:Nat->Nat->Rat}:sqq (mdq k (chans l) (many k (chans l)) X) l k i=sumQ 3 fun c=>rr l k X c i*rr l k X c i:=by
 unfold sqq msR;refine qbS fun c F=>?_
 have e:resR (many k (chans l)) (fun q=>lval ((mdq k (chans l) (many k (chans l)) X).row q)) (fun q=>labq l q i) (tqf l k i) c=rr l k X c i:=by
  unfold resR rr;rw [qbS fun j G=>show lval ((mdq k (chans l) (many k (chans l)) X).row c) j*tqf l k i j=tqf l k i j*X c j by rw [qfw F,qcI G];exact Rat.mul_comm _ _]
 rw [e];grind
def csum (f:Nat->Rat) (F:List Int):Nat->Rat
 | 0=>0
 | k+1=>csum f F k+f k*eOne (F.getD k 0)
structure CostOk (f:Nat->Rat) (ws:List Int) (n:Nat):Prop where
 sq:qbP n f
 one:∀i,i<n->Short (eOne (ws.getD i 0))
 pr:∀i,i<n->Short (f i*eOne (ws.getD i 0))
 cs:∀i,i<=n->Short (csum f ws i)
theorem qli (f:Nat->Rat) (F:List Int):∀n,csum f F n=sumQ n fun i=>f i*eOne (F.getD i 0)
 | 0=>rfl
 | n+1=>by show csum f F n+_=sumQ n _+_;rw [qli f F n]
theorem cost_law {l:List Pt} {k:Nat} {J:List Int} {X:Nat->Nat->Rat} {D N E M:Nat} (h8:l.length<=12) (hw:W9 J l.length) (O:D≠0) (hE:D<=E) (hM:N<=M) (hr:∀c i,c<3->i<l.length->Cd (rr l k X c i) D N) (b1:E*E<10 ^ 600) (b2:12*(3*(M*M)*9)<10 ^ 600):CostOk (sqq (mdq k (chans l) (many k (chans l)) X) l k) J l.length:=by
 have G:D*D≠0:=qbF O O;have I:D*D<10 ^ 600:=qaX (Nat.mul_le_mul hE hE) b1;have Y:∀i,i<l.length->Cd (sqq (mdq k (chans l) (many k (chans l)) X) l k i) (D*D) (3*(M*M)):=fun i F=>by
  rw [sqq_rr];exact Cd.sum fun c hc=>((hr c i hc F).mono hM).mul ((hr c i hc F).mono hM) O O
 have H:∀i,i<l.length->Cd (eOne (J.getD i 0)) 1 9:=fun i F=>(eOne_cd _).mono (by have:=hw i F;omega)
 have Z:∀i,i<l.length->Cd (sqq (mdq k (chans l) (many k (chans l)) X) l k i*eOne (J.getD i 0)) (D*D) (3*(M*M)*9):=fun i F=>by
  have:=(Y i F).mul (H i F) G (by decide)
  rwa [qbK] at this
 have U:3*(M*M)*9<10 ^ 600:=by omega
 have V:3*(M*M)<10 ^ 600:=by omega
 refine⟨fun i F=>(Y i F).short G V I,fun i F=>(H i F).short (by decide) (by decide +kernel) (by decide +kernel),fun i F=>(Z i F).short G U I,fun i F=>?_⟩;rw [qli];have:=Cd.sum (n:=i) (f:=fun i=>sqq (mdq k (chans l) (many k (chans l)) X) l k i*eOne (J.getD i 0)) fun j hj=>Z j (by omega)
 exact (this.mono (show i*(3*(M*M)*9)<=12*(3*(M*M)*9) from qaP _ (by omega))).short G b2 I
theorem fit_cost {l:List Pt} (h:PtsOk l) (H:qdr l) {k:Nat} (U:1<=k/\k<=3) (J:¬(k=3/\chans l=4)) {G:List Int} (V:W9 G l.length) {x:Nat->Nat->Rat} (hs:¬Sing (many k (chans l)) (nq l k G 0)) (hx:∀c,c<3->FitX l k G c (x c)):CostOk (sqq (mdq k (chans l) (many k (chans l)) x) l k) G l.length:=by
 obtain⟨D,F,O,Y⟩:=qlw h H U J V hs hx;exact cost_law (E:=512*QB*100) (M:=RN) H.1 V (qbF (qbF (by decide) F) (by decide)) (qaP _ (qaJ _ O)) qN (fun c i I Z=>rr_cd h H U J F O Y I Z) (by decide +kernel) (by decide +kernel)
def Up (l:List Nat):Prop:=l.Pairwise fun a b=>a<b
theorem Up.eq:∀{l F:List Nat},Up l->Up F->l.Perm F->l=F
 | [],_,_,_,h=>(List.Perm.nil_eq h)
 | a :: l,[],_,_,h=>absurd h.symm.nil_eq (by simp)
 | a :: l,b :: F,J,O,h=>by
  obtain⟨p1,p2⟩:=List.pairwise_cons.1 J;obtain⟨q1,q2⟩:=List.pairwise_cons.1 O;have H:a=b:=by
   have G:a∈b :: F:=h.mem_iff.1 (qbg ..);have I:b∈a :: l:=h.mem_iff.2 (qbg ..);rcases qay.1 G with e | G
   ·exact e
   ·rcases qay.1 I with e | I
    ·exact e.symm
    ·have:=p1 b I;have:=q1 a G;omega
  subst H;rw [Up.eq p2 q2 (List.Perm.cons_inv h)]
theorem qfZ (n:Nat):Up (List.range n):=by
 unfold Up;rw [List.pairwise_iff_getElem];intro i j F G h
 simpa using h
theorem Up.nodup {l:List Nat} (h:Up l):l.Nodup:=h.imp fun h=>by omega
def qcL (s:Nat->Rat) (n:Nat):List Nat:=isort (fun a b=>s a<s b) (List.range n)
def bestL (s:Nat->Rat) (n m:Nat):List Nat:=isort (fun a b=>a<b) ((qcL s n).take m)
theorem qcB (s:Nat->Rat) (n:Nat):(qcL s n).Perm (List.range n):=qdm _
theorem qfz (s:Nat->Rat) (n:Nat):(qcL s n).length=n:=by rw [(qcB s n).length_eq,qbC]
theorem qkN (s:Nat->Rat) (n:Nat):(qcL s n).Pairwise fun x y=>s x<=s y:=(qg5 s n).imp fun h=>by grind
theorem qfO (s:Nat->Rat) (n:Nat):(qcL s n).Nodup:=(qcB s n).nodup_iff.2 (qfZ n).nodup
theorem qen (s:Nat->Rat) (n m:Nat):(bestL s n m).Perm ((qcL s n).take m):=qdm _
theorem qhs (s:Nat->Rat) (n m:Nat):Up (bestL s n m):=by
 have F:Ord (fun a b:Nat=>a<b) (bestL s n m):=qic (fun a b c F G=>by omega) (fun a b h=>by omega) _;have G:(bestL s n m).Nodup:=(qen s n m).nodup_iff.2 ((qfO s n).sublist (List.take_sublist _ _));exact (List.pairwise_and_iff.2 ⟨F,G⟩).imp fun⟨F,G⟩=>by omega
theorem qjF {s:Nat->Rat} {n m:Nat}:∀k∈bestL s n m,k<n:=fun k F=>by
 have:=(qen s n m).mem_iff.1 F;exact qau.1 ((qcB s n).mem_iff.1 (qbe this))
theorem qk8 (s:Nat->Rat) (n:Nat):bestL s n n=List.range n :=
 (qhs s n n).eq (qfZ n) ((qen s n n).trans (by rw [qal (by rw [qfz];exact qae _)];exact qcB s n))
def keepW (K:List Nat) (R:Nat):List Int:=(List.range R).map fun i=>if i∈K then 1 else 0
theorem qdv (K:List Nat) (R:Nat):(keepW K R).length=R:=by unfold keepW;simp
theorem qjU {K:List Nat} {R i:Nat} (F:i<R):(keepW K R).getD i 0=if i∈K then 1 else 0:=by
 unfold keepW;rw [qab,qaS,List.getElem?_range F];rfl
theorem qhB (K:List Nat) (R:Nat):W9 (keepW K R) R:=fun i F=>by rw [qjU F];split <;> decide
theorem qhA (K:List Nat) (R:Nat):WOk (keepW K R):=fun i F=>by
 rw [qdv] at F;rw [qjU F];split <;> decide
def ExIs (l:List FT) (c:Int):Prop:=(40<l.length/\c=3)\/(l.length<=40/\¬FAll l/\c=20)\/(l.length<=40/\FAll l/\c=0)
theorem qi6 (R b ag c:Nat) (ao:Option Addr) (l:List FT) (w:World) (hl:l.length=R) (hR:R<=4611686018427387904) (hF:FCells w ao b ag l) :
  Calls prog 37 #[.slice ao R c] w fun e w'=>∃z,e=.returned (.int .i64 z)/\ExIs l z/\Below w.heap.size w w':=by
 by_cases aa:40<R
 ·have hi:(R:Int) > 40:=by omega
  have HL:=qH hl;clear hF hl;go_enter func37,ntmps37;go_wp2;go_ret;exact⟨3,rfl,.inl ⟨by rw [HL.o];exact aa,rfl⟩,Below.refl _ _⟩
 have hi:¬(R:Int) > 40:=by omega
 have F:=qH (qA hF hl);clear hF hl;go_enter func37,ntmps37;go_wp2_with fail
 go_loopw [11] (fun x11 W=>∃k:Nat,x11=.int .i64 (k:Int)/\k<=R/\Hu (∀j,j<k->FOk (l.getD j fd0).1.data.toList (l.getD j fd0).2.data.toList)/\Hu (Below w.heap.size w W)) (fun x11 _=>R-(intOf x11).toNat)
 case atStart=>exact⟨0,rfl,qan _,qH fun j hj=>absurd hj (qbb j),qH qB⟩
 case round =>
  obtain⟨k,rfl,hk,hS,hB⟩:=hrel
  by_cases G:k<R
  ·have af:(k:Int)<(R:Int):=by omega
   have ae:=F.o.1.addr (by rw [F.o.2];omega);subst ae;obtain⟨d0,d1⟩:=(F.o.1.below hB.o).cell k (by rw [F.o.2];exact G);obtain⟨s1,H⟩:∃s,(l.getD k fd0).1=s:=⟨_,rfl⟩;obtain⟨s2,I⟩:∃s,(l.getD k fd0).2=s:=⟨_,rfl⟩;rw [H] at d0;rw [I] at d1;obtain⟨W1,O,N1⟩:=nw1 wr #[.string s1,.string s2] 27;have Z:=qH (qA H I);clear H I;go_upto_region 6 with fail;rw [<-O];clear O d0 d1;have Y:=N1.o.2
   go_wp2_with (first | (with_reducible refine lW_ rfl 27 _ rfl (wr.heap.size) #[.string s1,.string s2] Y underlying27 2 ?_) | fail)
   refine (qep s1 s2 W1).mono ?_;rintro e w2 ⟨z,rfl,hz,hb⟩;have J:=qH (hB.o.trans ((N1.o.1.trans (hb.mono N1.o.1.size)).mono hB.o.size));clear Y hb N1;rcases hz with ⟨rfl,V⟩ | ⟨rfl,U⟩
   ·have HS:Hu (∀j,j<k+1->FOk (l.getD j fd0).1.data.toList (l.getD j fd0).2.data.toList):=qH fun j hj=>by
     by_cases e:j=k
     ·rw [e,Z.o.1,Z.o.2];exact V
     ·exact hS.o j (by omega)
    clear V;go_wp2;go_roundw
    case rel=>exact⟨k+1,by go_num,G,HS,J⟩
    case measure=>simp [intOf];omega
   ·have HN:=qH (show ¬FAll l from fun h=>U (by have:=h k (by rw [F.o.2];exact G);rwa [Z.o.1,Z.o.2] at this));clear U;go_wp2;go_ret;exact⟨20,rfl,.inr (.inl ⟨by rw [F.o.2];omega,HN.o,rfl⟩),J.o⟩
  ·obtain rfl:k=R:=by omega
   have af:¬(k:Int)<(k:Int):=by omega
   go_wp2;go_ret;exact⟨0,rfl,.inr (.inr ⟨by rw [F.o.2];omega,fun j hj=>hS.o j (by rw [<-F.o.2];exact hj),rfl⟩),hB.o⟩
def upL (n i:Nat):List Nat:=List.range i++List.replicate (n-i) 0
theorem upL_set {n i:Nat} (h:i<n):(upL n i).set i i=upL n (i+1):=by
 unfold upL;rw [qa4 _ _ (by simp),qbC,qaK,show n-i=n-(i+1)+1 by omega,qbn,qbh,List.range_succ,qaA];rfl
theorem qkg (n:Nat) (w:World) (U:n<=1000) :
  Calls prog 39 #[.int .i64 (n:Int)] w fun e w'=>∃g,e=.returned (.slice (some ⟨g,0,none⟩) n n)/\NatR w' w.heap.size g n n (List.range n)/\Below w.heap.size w w':=by
 have I:=fun W=>qje n U W
 obtain⟨O,G,N1⟩:=nw1 w (madeCells #[.int .i64 0] n) 3;have Y:Hu (NatR O w.heap.size w.heap.size n n (upL n 0)/\Below w.heap.size w O):=qH ⟨⟨by unfold upL;simp,by
  have h:=qiS (B:=w.heap.size) N1.o.2 qN U;have e:natI (upL n 0)=List.replicate n 0:=by unfold natI upL;simp
  rw [e];exact h⟩,N1.o.1⟩
 clear N1;go_enter func39,ntmps39;go_upto_region 2 with fail;rw [<-G];clear G I;go_wp2_with fail
 go_loopw [8] (fun x8 W=>∃i:Nat,x8=.int .i64 (i:Int)/\i<=n/\Hu (NatR W w.heap.size w.heap.size n n (upL n i)/\Below w.heap.size w W)) (fun x8 _=>n-(intOf x8).toNat)
 case atStart=>exact⟨0,rfl,qan _,Y⟩
 case round =>
  obtain⟨i,rfl,hi,hS⟩:=hrel
  by_cases F:i<n
  ·have H:(i:Int)<(n:Int):=by omega
   obtain⟨x,V⟩:∃x,(upL n i)[i]? = some x:=⟨_,qad (by rw [hS.o.1.len];exact F)⟩;obtain⟨cx,fx⟩:=hS.o.1.at V;have Z:=qH (qA (upL_set F▸hS.o.1.set F i) (qdC hS.o.2 (qbO wr w.heap.size i (.int .i64 (i:Int))) qN));clear V;go_wp2;go_roundw
   case rel=>exact⟨i+1,by go_num,F,Z⟩
   case measure=>simp [intOf];omega
  ·obtain rfl:i=n:=by omega
   have H:¬(i:Int)<(i:Int):=by omega
   have J:Hu (NatR wr w.heap.size w.heap.size i i (List.range i)/\Below w.heap.size w wr):=qH ⟨by have h:=hS.o.1;unfold upL at h;rw [qaK,List.replicate_zero,qbE] at h;exact h,hS.o.2⟩;go_wp2;go_ret;exact⟨_,rfl,J.o.1,J.o.2⟩
def cfL (l:List FT) (x y:Nat):Int:=cmp3 ((lval l x).num*((lval l y).den:Int) + -((lval l y).num*((lval l x).den:Int))) 0
theorem cfL_lt (l:List FT) (x y:Nat):cfL l x y<0↔lval l x<lval l y:=cmp_lt _ _
theorem qkM (l:List FT) (R b F c lb fb x y:Nat) (ao:Option Addr) (w:World) (hl:l.length=R) (hA:FAll l) (hx:x<R) (hy:y<R) (ae:w.heap[lb]? = some (.cells #[.slice ao R c] 22 (0,0))) (hF:FCells w ao b F l) :
  Calls prog 40 #[.int .i64 (x:Int),.int .i64 (y:Int),.pointer (some ⟨lb,0,none⟩),.pointer (some ⟨fb,0,none⟩)] w fun e w'=>e=.returned (.int .i64 (cfL l x y))/\Below w.heap.size w w':=by
 have ah:=hF.addr (by omega);subst ah;obtain⟨x0,x1⟩:=hF.cell x (by omega);obtain⟨y0,y1⟩:=hF.cell y (by omega);have Y:=hA x (by omega);have aa:=hA y (by omega);have ag:cfL l x y=cmp3 ((fval (l.getD x fd0).1.data.toList (l.getD x fd0).2.data.toList).num*((fval (l.getD y fd0).1.data.toList (l.getD y fd0).2.data.toList).den:Int) + -((fval (l.getD y fd0).1.data.toList (l.getD y fd0).2.data.toList).num*((fval (l.getD x fd0).1.data.toList (l.getD x fd0).2.data.toList).den:Int))) 0:=rfl;rw [ag];clear ag;obtain⟨s1,I⟩:∃s,(l.getD x fd0).1=s:=⟨_,rfl⟩;obtain⟨s2,J⟩:∃s,(l.getD x fd0).2=s:=⟨_,rfl⟩;obtain⟨t1,O⟩:∃s,(l.getD y fd0).1=s:=⟨_,rfl⟩;obtain⟨t2,U⟩:∃s,(l.getD y fd0).2=s:=⟨_,rfl⟩;rw [I,J,O,U];rw [I,J] at Y;rw [O,U] at aa;rw [I] at x0;rw [J] at x1;rw [O] at y0;rw [U] at y1;clear I J O U hA hF hl;have H:=qac w _ x0;have b0:∀W,Below w.heap.size w W->W.cell? ⟨b,F+x*2,none⟩=some (.string s1):=fun W V=>(V.cell (p:=⟨b,F+x*2,none⟩) H).trans x0
 have b1:∀W,Below w.heap.size w W->W.cell? ⟨b,F+x*2+1,none⟩=some (.string s2):=fun W V=>(V.cell (p:=⟨b,F+x*2+1,none⟩) H).trans x1
 have b2:∀W,Below w.heap.size w W->W.cell? ⟨b,F+y*2,none⟩=some (.string t1):=fun W V=>(V.cell (p:=⟨b,F+y*2,none⟩) H).trans y0
 have b3:∀W,Below w.heap.size w W->W.cell? ⟨b,F+y*2+1,none⟩=some (.string t2):=fun W V=>(V.cell (p:=⟨b,F+y*2+1,none⟩) H).trans y1
 have ai:=(qG ae).1;have b4:=rowC (B:=w.heap.size) ae 0;have aj:(x:Int)<(R:Int):=by omega
 have ak:(y:Int)<(R:Int):=by omega
 have HC:=qH (fcmp_any s1 s2 t1 t2 w.drew);have HK:=qH (qA Y aa);clear Y aa x0 x1 y0 y1 ae;obtain⟨Z,hZ⟩:=qX (cmp3 ((fval s1.data.toList s2.data.toList).num*((fval t1.data.toList t2.data.toList).den:Int) + -((fval t1.data.toList t2.data.toList).num*((fval s1.data.toList s2.data.toList).den:Int))) 0);rw [hZ];have HZ:=qH hZ;clear hZ;go_enter func40,ntmps40;go_wp2_with fail;refine wp_region_held_drew (S:=fun W=>Below w.heap.size w W) (by kernel_rfl) qB.drew (fun hS0=>?_);refine hT 0 (h:=hT 1 (h:=hT 2 (h:=hT 3 (h:=hT 4 (h:=hT 5 (h:=hT 6 (h:=hT 7 (h:=?_))))))));refine hC 8 HC.o (h:=?_);rintro e w2 ⟨⟨_,rfl⟩ | ⟨h,_⟩,af⟩
 case inr=>exact absurd HK.o h
 rw [HZ.o];have G:=qcf af;refine⟨_,rfl,G,hN (h:=?_)⟩;refine hT 9 (hS:=G) (h:=hT 10 (hS:=G) (h:=hT 11 (hS:=G) (h:=hT 12 (hS:=G) (h:=hT 13 (hS:=G) (h:=?_)))));refine wpAnyH_done (by kernel_rfl) ?_ _;have HE:=qH G;clear G af hS0 b0 b1 b2 b3 b4;go_wp2;go_ret;exact⟨rfl,HE.o⟩
theorem NatR.cells {W:World} {B g n c:Nat} {d:List Nat} (h:NatR W B g n c d) {m:Nat} (_J:m<=n):NCells W (some ⟨g,0,none⟩) g 0 (natI (d.take m)):=⟨fun _=>rfl,fun k I=>by
 rw [qc8,qat] at I;have F:k<d.length:=by omega
 have G:d[k]? = some d[k]:=qad F;have H:=(h.at G).1;rw [qaL,qjn (x:=d[k]) (by rw [List.getElem?_take,if_pos (by omega)];exact G)];exact H⟩
theorem NatR.mono {W:World} {B G g n c:Nat} {d:List Nat} (h:NatR W B g n c d) (hB:G<=B):NatR W G g n c d:=⟨h.len,by
 have F:=h.own;unfold IOwn at F ⊢;exact⟨F.1,F.2.imp id fun⟨g',cap,cur,e,H,r⟩=>⟨g',cap,cur,e,qak hB H,r⟩⟩⟩
def OrdAs (w:World) (l:List FT) (e:Ending) (w':World):Prop:=Below w.heap.size w w' /\
  ((∃z,z≠0/\ExIs l z/\e=.returned (.tuple #[.slice none 0 0,.int .i64 z])) \/
   (ExIs l 0/\∃g,e=.returned (.tuple #[.slice (some ⟨g,0,none⟩) l.length l.length,.int .i64 0])/\NatR w' w.heap.size g l.length l.length (qcL (lval l) l.length)))
theorem qdU (R b H c:Nat) (O:Option Addr) (l:List FT) (w:World) (hl:l.length=R) (hR:R<=4611686018427387904) (U:FAll l->R<20) (hF:FCells w O b H l) :
  Calls prog 13 #[.slice O R c] w fun e w'=>OrdAs w l e w':=by
 obtain⟨W1,Z,N1⟩:=nw1 w #[.slice O R c] 22;have HE:=qH (qi6 R b H c O l W1 hl hR (hF.below N1.o.1));have I:=qH (qA hF (qA hl U));have c0:=qC _ _ 0 _ _ _ N1.o.2;clear hF hl U;go_enter func13,ntmps13;go_upto_region 1 with fail;rw [<-Z];clear Z;go_wp2_with fail;refine HE.o.mono ?_;rintro e w2 ⟨z,rfl,hz,hb⟩;have K2:=N1.below hb;have HZ:=qH hz;clear hb hz c0 HE N1
 by_cases F:z=0
 case neg =>
  have ah:(z == (0:Int))=false:=beq_false_of_ne F;have aj:(z != (0:Int))=true:=by rw [bne,ah];rfl
  have HN:=qH F;clear F;go_wp2_with fail
  go_ret2
  exact⟨K2.o.1,.inl ⟨z,HN.o,HZ.o,rfl⟩⟩
 subst F;have hA:FAll l/\R<20:=by
  rcases HZ.o with ⟨_,h⟩ | ⟨_,_,h⟩ | ⟨_,h,_⟩
  ·cases h
  ·cases h
  ·exact⟨h,I.o.2.2 h⟩
 have Y:=hA.2;have HA:=qH hA.1;clear hA;obtain⟨W3,aa,N3⟩:=nw1 w2 #[.int .i64 0] 31;have K3:=(K2.below N3.o.1).also (q:=fun W=>W.heap[w2.heap.size]? = some (.cells #[.int .i64 0] 31 (0,0))) N3.o.2;have c1:=qC _ _ 0 _ _ _ K3.o.1.2;have ai:w.heap.size<w2.heap.size:=(qG K2.o.2).1;clear N3 K2;go_upto_region 5 with fail;rw [<-aa];clear aa;go_wp2_with fail;refine (qkg R W3 (by omega)).mono ?_;rintro e w4 ⟨g4,rfl,G,ae⟩;have J:=(K3.below ae).also (q:=fun W=>NatR W W3.heap.size g4 R R (List.range R)) G;have ag:=@hmf_ prog;have HS:=qH (qhl (fun a b=>lval l a<lval l b) (fun a b c h1 h2=>by grind) (fun a b h=>by grind) (cfL l) 40 #[.pointer (some ⟨w.heap.size,0,none⟩),.pointer (some ⟨w2.heap.size,0,none⟩)] (some ⟨g4,0,none⟩) g4 0 R R (List.range R) w4 (fun x _ y _=>cfL_lt l x y) Y qbC (by
   have h:=G.cells (m:=R) qN
   rwa [qal (by simp)] at h) (fun a b W=>enters func40 (by kernel_rfl) (by kernel_rfl) _ W) (fun W hb x hx y hy=>qkM l R b H c w.heap.size w2.heap.size x y O W I.o.2.1 HA.o (qau.1 hx) (qau.1 hy) (zkeep hb _ _ J.o.1.1.2) (I.o.1.below (J.o.1.1.1.trans (hb.mono J.o.1.1.1.size)))))
 clear ae G c1 K3;go_wp2_with fail;refine HS.o.mono ?_;rintro e w5 ⟨g5,rfl,V,af⟩;have K5:=J.below af;have c5:=qC _ _ 0 _ _ _ K5.o.1.2;have HN:=qH (V.mono (qak J.o.1.1.1.size qN));clear af V HS ag;go_wp2_with fail
 go_ret2
 refine⟨K5.o.1.1.1,.inr ⟨HZ.o,g5,by rw [I.o.2.1];rfl,?_⟩⟩;rw [I.o.2.1];exact HN.o
theorem qk7 (x y:Nat) (w:World) (G:x<1000) (H:y<1000) :
  Calls prog 44 (#[.int .i64 (x:Int),.int .i64 (y:Int)]++#[]) w fun e w'=>e=.returned (.int .i64 ((x:Int)-(y:Int)))/\Below w.heap.size w w':=by
 have F:IntKind.i64.wrap ((x:Int)-(y:Int))=(x:Int)-(y:Int):=by rw [IntKind.wrap_i64];omega
 go_enter func44,ntmps44;go_wp2;go_ret;exact⟨rfl,Below.refl _ _⟩
def qeS (w:World) (l:List FT) (m:Int) (e:Ending) (w':World):Prop:=Below w.heap.size w w' /\
  ((∃z,z≠0/\ExIs l z/\e=.returned (.tuple #[.slice none 0 0,.int .i64 z])) \/
   (ExIs l 0/\¬(0<=m/\m<=l.length)/\e=.returned (.tuple #[.slice none 0 0,.int .i64 2])) \/
   (ExIs l 0/\∃g k:Nat,m=(k:Int)/\k<=l.length/\e=.returned (.tuple #[.slice (some ⟨g,0,none⟩) k k,.int .i64 0])/\NatR w' w.heap.size g k k (bestL (lval l) l.length k)))
theorem qdh (R b aa c:Nat) (m:Int) (ao:Option Addr) (l:List FT) (w:World) (hl:l.length=R) (hR:R<=4611686018427387904) (H:FAll l->R<20) (hF:FCells w ao b aa l) :
  Calls prog 16 #[.slice ao R c,.int .i64 m] w fun e w'=>qeS w l m e w':=by
 have HO:=qH (qdU R b aa c ao l w hl hR H hF);have O:=qH (qA hl H);clear hF hl H;go_enter func16,ntmps16;go_wp2_with fail;refine HO.o.mono ?_;rintro e w2 ⟨hb,⟨z,I,J,rfl⟩ | ⟨J,g,rfl,hN⟩⟩
 ·have ae:(z == (0:Int))=false:=beq_false_of_ne I;have ah:(z != (0:Int))=true:=by rw [bne,ae];rfl
  have F:=qH (qA I (qA J hb));clear I J hb HO;go_wp2_with fail
  go_ret2
  exact⟨F.o.2.2,.inl ⟨z,F.o.1,F.o.2.1,rfl⟩⟩
 have hA:FAll l:=by
  rcases J with ⟨_,h⟩ | ⟨_,_,h⟩ | ⟨_,h,_⟩
  ·cases h
  ·cases h
  ·exact h
 have af:=O.o.2 hA;rw [O.o.1] at hN ⊢;have F:=qH (qA hN (qA hb J));clear hb J hN HO hA
 by_cases h0:m<0
 ·have U:=qH h0;clear U;have U:Hu (¬(0<=m/\m<=(l.length:Int))):=qH fun h=>by have:=h.1;omega
  go_wp2_with fail
  go_ret2
  exact⟨F.o.2.1,.inr (.inl ⟨F.o.2.2,U.o,rfl⟩)⟩
 by_cases h1:m > (R:Int)
 ·have U:Hu (¬(0<=m/\m<=(l.length:Int))):=qH fun h=>by have:=h.2;rw [O.o.1] at this;omega
  go_wp2_with fail
  go_ret2
  exact⟨F.o.2.1,.inr (.inl ⟨F.o.2.2,U.o,rfl⟩)⟩
 obtain⟨k,rfl⟩:∃k:Nat,m=(k:Int):=⟨m.toNat,by omega⟩;have Z:k<=R:=by omega
 have ag:(k:Int)<=(R:Int):=by omega
 have G:∀x∈(qcL (lval l) R).take k,x<1000:=fun x hx=>by
  have:=qau.1 ((qcB (lval l) R).mem_iff.1 (qbe hx));omega
 have HS:=qH (qhl (fun a b=>a<b) (fun a b c h1 h2=>by omega) (fun a b h=>by omega) (fun a b=>(a:Int)-(b:Int)) 44 #[] (some ⟨g,0,none⟩) g 0 k R ((qcL (lval l) R).take k) w2 (fun x _ y _=>by omega) (by omega) (by rw [qat,qfz];omega) (F.o.1.cells Z) (fun a b W=>enters func44 (by kernel_rfl) (by kernel_rfl) _ W) (fun W _ x hx y hy=>qk7 x y W (G x hx) (G y hy)));clear G;go_wp2_with fail;refine HS.o.mono ?_;rintro e w5 ⟨g5,rfl,V,Y⟩;have HE:=qH (qA (V.mono F.o.2.1.size) (F.o.2.1.trans (Y.mono F.o.2.1.size)));clear V Y HS;go_wp2_with fail
 go_ret2
 refine⟨HE.o.2,.inr (.inr ⟨F.o.2.2,g5,k,rfl,by rw [O.o.1];exact Z,rfl,?_⟩)⟩;rw [O.o.1];exact HE.o.1
theorem FCells.keepB {W W':World} {a:Option Addr} {b F g:Nat} {l:List FT} {cs:Array Value} {U:TypeId} (h:FCells W a b F l) (I:W.grownBy W' (some g)) (hg:W.heap[g]? = some (.cells cs U (0,0))) (O:∀y∈cs.toList,∀s,y≠.string s):FCells W' a b F l:=by
 refine⟨h.addr,fun k H=>?_⟩;obtain⟨G,J⟩:=h.cell k H;have hne:some b≠some g:=fun e=>by
  have:=qag e;subst this;rw [qC _ _ _ _ _ _ hg] at G;exact O _ (List.mem_of_getElem? ((Array.getElem?_toList ..).trans G)) _ rfl
 exact⟨I.cell G hne,I.cell J hne⟩
theorem MdAt.keepB {W W':World} {v:Value} {m:Md} {g:Nat} {cs:Array Value} {O:TypeId} (h:MdAt W v m) (F:W.grownBy W' (some g)) (hg:W.heap[g]? = some (.cells cs O (0,0))) (G:∀y∈cs.toList,∀s,y≠.string s):MdAt W' v m:=by
 obtain⟨a0,a1,a2,b0,o0,c0,b1,o1,c1,b2,o2,c2,rfl,H,I,J⟩:=h;exact⟨a0,a1,a2,b0,o0,c0,b1,o1,c1,b2,o2,c2,rfl,H.keepB F hg G,I.keepB F hg G,J.keepB F hg G⟩
theorem qjH (i j:Int) (a b c:Option Addr) (n1 J O G H I:Nat):∀y∈(#[.int .i64 i,.int .i64 j,.slice a n1 G,.slice b J H,.slice c O I]:Array Value).toList,∀s,y≠.string s:=by
 intro y F s;simp only [qay,List.not_mem_nil,or_false] at F;rcases F with rfl | rfl | rfl | rfl | rfl <;> intro h <;> cases h
theorem qdV {l:List Pt} (h:PtsOk l) {m:Nat} (I:l.length=m):∀q,q<m->(l.getD q pt0).name.size<=4611686018427387904/\(l.getD q pt0).dev.length<=4611686018427387904:=fun q J=>by
 have F:=(h.rows q (by omega)).1;have G:=F.name.2.1;have H:=F.n4;exact⟨by omega,by omega⟩
instance stays_iow {B:Nat} {v:Value} {l:List Int}:Stays fun W=>IOwn W B v l:=⟨fun h F=>own_below h F⟩
def keptF (K:List Nat):Lit->Value
 | .int .i64 z=>.bool (decide (∃x,x∈K/\(x:Int)=z))
 | _=>.bool false
theorem qlR:∀F,(Value.bool false)=keptF [] F:=fun F=>by
 unfold keptF;split
 ·rw [qU (by rintro ⟨x,h,_⟩;exact absurd h (by simp))]
 ·rfl
theorem qi9 (K:List Nat) (k:Nat):∀x,x≠Lit.int .i64 (k:Int)->keptF (K++[k]) x=keptF K x:=fun x F=>by
 unfold keptF;split
 ·rename_i z
  congr 1
  rw [decide_eq_decide]
  constructor
  ·rintro ⟨y,h,e⟩;rcases qaG.1 h with h | h
   ·exact⟨y,h,e⟩
   ·rw [qao.1 h] at e;exact absurd (by rw [e]) F
  ·rintro ⟨y,h,e⟩;exact⟨y,List.mem_append_left _ h,e⟩
 ·rfl
theorem qlQ (K:List Nat) (k:Nat):keptF (K++[k]) (.int .i64 (k:Int))=.bool true:=by
 unfold keptF;exact congrArg Value.bool (qV ⟨k,by simp,rfl⟩)
theorem keptF_at (K:List Nat) (i:Nat):keptF K (.int .i64 (i:Int))=.bool (decide (i∈K)):=by
 unfold keptF;refine congrArg Value.bool (decide_eq_decide.2 ⟨?_,fun h=>⟨i,h,rfl⟩⟩);rintro ⟨x,h,e⟩;have:x=i:=by omega
 rwa [this] at h
def keepM (K:List Nat) (R i:Nat):List Int:=(List.range R).map fun j=>if j<i/\j∈K then 1 else 0
theorem qkE (K:List Nat) (R:Nat):keepM K R 0=List.replicate R 0:=by
 unfold keepM;refine List.ext_getElem (by simp) fun j F G=>?_
 simp
theorem qlM (K:List Nat) (R:Nat):keepM K R R=keepW K R:=by
 unfold keepM keepW;refine List.map_congr_left fun j F=>?_
 have:=qau.1 F
 by_cases h:j∈K
 ·rw [if_pos ⟨this,h⟩,if_pos h]
 ·rw [if_neg fun e=>h e.2,if_neg h]
theorem qlN (K:List Nat) (R i:Nat):(keepM K R i).length=R:=by unfold keepM;simp
theorem qlO {K:List Nat} {R i:Nat} (_J:i<R) (h:i∈K):(keepM K R i).set i 1=keepM K R (i+1):=by
 unfold keepM;refine List.ext_getElem (by simp) fun j I H=>?_
 rw [List.getElem_set];simp only [qaF,qbC] at H;simp only [List.getElem_map,List.getElem_range]
 by_cases e:i=j
 ·subst e;rw [if_pos rfl,if_pos ⟨Nat.lt_succ_self _,h⟩]
 ·rw [if_neg e]
  by_cases F:j∈K
  ·by_cases G:j<i
   ·rw [if_pos ⟨G,F⟩,if_pos ⟨by omega,F⟩]
   ·rw [if_neg fun e=>G e.1,if_neg fun e=>by have:=e.1;omega]
  ·rw [if_neg fun e=>F e.2,if_neg fun e=>F e.2]
theorem qkD {K:List Nat} {R i:Nat} (h:i∉K):keepM K R i=keepM K R (i+1):=by
 unfold keepM;refine List.map_congr_left fun j _=>?_
 by_cases F:j∈K
 ·have hne:j≠i:=fun e=>h (e▸F)
  by_cases G:j<i
  ·rw [if_pos ⟨G,F⟩,if_pos ⟨by omega,F⟩]
  ·rw [if_neg fun e=>G e.1,if_neg fun e=>by have:=e.1;omega]
 ·rw [if_neg fun e=>F e.2,if_neg fun e=>F e.2]
theorem qjW (R b az c kb ko kc n:Nat) (kind:Int) (ao ka:Option Addr) (l:List Pt) (K:List Nat) (w:World) (hR:l.length=R) (ah:R<=1000) (hs:∀k,k<R->(l.getD k pt0).name.size<=4611686018427387904/\(l.getD k pt0).dev.length<=4611686018427387904) (hn:K.length=n) (aO:n<=1000)
  (af:∀x∈K,x<1000) (hP:PCells w ao b az l) (hK:NCells w ka kb ko (natI K)) (hT:HasT w) :
  Calls prog 104 #[.agg #[.slice ao R c,.int .i64 kind],.slice ka n kc] w fun e w'=>FitAs w l kind (keepW K R) e w':=by
 obtain⟨U,ai,N1⟩:=nw2 w #[.slice ao R c,.int .i64 kind] 114 #[.int .i64 0,.int .i64 0,.slice none 0 0,.slice none 0 0,.slice none 0 0] 46;have J:=qH (qA hP (qA hK (qA hT (qA hR (qA hs (qA hn af))))));have aH:=@run_makeMap prog;obtain⟨W2,Y⟩:=qY (U.alloc (.map #[] 0));have aa:Below U.heap.size U W2:=Y▸qB.alloc qN _;have K2:=(N1.below aa).also (q:=fun W=>MapAt W prog 3 U.heap.size 0 (.bool false) (keptF (K.take 0))) (Y▸(MapAt.made U prog 3 (.bool false)).congr fun kl _=>by rw [List.take_zero];exact qlR kl);have av:Maps.Keyed prog 3:=Maps.int_keyed underlying3;have ay:Tryz.prog.underlying 251=some (.map 3 4):=underlying251;have aQ:w.heap.size+1<U.heap.size:=(qG N1.o.2.2).1;have HU:=qH (qA av ay);have aM:=qH N1.o.1;clear hP hK hT hR hs hn af av ay N1 aa;go_enter func104,ntmps104;go_upto_region 1 with fail;rw [<-ai];clear ai;go_upto_region 2 with fail;rw [<-Y];clear Y aH;go_wp2_with fail
 go_loopw [14] (fun x14 W=>∃i:Nat,x14=.int .i64 (i:Int)/\i<=n/\Kn (fun W=>(Below w.heap.size w W/\W.heap[w.heap.size]? = some (.cells #[.slice ao R c,.int .i64 kind] 114 (0,0))/\W.heap[w.heap.size+1]? = some (.cells #[.int .i64 0,.int .i64 0,.slice none 0 0,.slice none 0 0,.slice none 0 0] 46 (0,0)))/\MapAt W prog 3 U.heap.size i (.bool false) (keptF (K.take i))) W) (fun x14 _=>n-(intOf x14).toNat)
 case atStart=>exact⟨0,rfl,qan _,K2⟩
 case round =>
  obtain⟨i,rfl,hi,O⟩:=hrel
  by_cases ae:i<n
  ·have aB:(i:Int)<(n:Int):=by omega
   have aD:=J.o.2.1.addr (by rw [qc8,J.o.2.2.2.2.2.1];omega);subst aD;have ck:=(J.o.2.1.below O.o.1.1).cell i (by rw [qc8,J.o.2.2.2.2.2.1];exact ae);have ax:i<K.length:=by rw [J.o.2.2.2.2.2.1];exact ae
   obtain⟨x,hx⟩:∃x,K[i]? = some x:=⟨_,qad ax⟩;rw [qjn hx] at ck;have aL:=J.o.2.2.2.2.2.2 x (List.mem_of_getElem? hx);obtain⟨W7,aP,f7,g7⟩:=O.o.2.store HU.o.1 HU.o.2 (by unfold maxLen;omega) (Maps.keyOf_int_mk (q:=.i64) (a:=(x:Int)) underlying3 (by simp [Lit.wf,IntKind.min,IntKind.max,IntKind.signed,IntKind.bits];omega)) (.bool true);have ht:K.take (i+1)=K.take i++[x]:=by rw [List.take_add_one,hx];rfl
   have m7:=f7 (keptF (K.take (i+1))) (by rw [ht];exact qlQ _ _) (by rw [ht];exact qi9 _ _);have ak:=(qG O.o.1.2.1).1;have au:=(qG O.o.1.2.2).1;have K7:=qH (show Kn (fun W=>(Below w.heap.size w W/\W.heap[w.heap.size]? = some (.cells #[.slice ao R c,.int .i64 kind] 114 (0,0))/\W.heap[w.heap.size+1]? = some (.cells #[.int .i64 0,.int .i64 0,.slice none 0 0,.slice none 0 0,.slice none 0 0] 46 (0,0)))/\MapAt W prog 3 U.heap.size (i+1) (.bool false) (keptF (K.take (i+1)))) W7 from .of ⟨⟨qdC O.o.1.1 g7 (by omega),(g7.block _ ak (fun e=>by have:=qag e;omega)).trans O.o.1.2.1,(g7.block _ au (fun e=>by have:=qag e;omega)).trans O.o.1.2.2⟩,m7⟩);clear m7 f7 g7 ht ak au hx ax aL;go_wp2;go_roundw
   case rel=>exact⟨i+1,by go_num,ae,K7.o⟩
   case measure=>simp [intOf];omega
  ·obtain rfl:i=n:=by omega
   have aB:¬(i:Int)<(i:Int):=by omega
   have aG:=fun W=>qje R ah W
   obtain⟨F,aK⟩:=qY wr;subst aK;obtain⟨W4,aj,N4⟩:=nw1 F (madeCells #[.int .i64 0] R) 3;have ag:IOwn W4 F.heap.size (.slice (some ⟨F.heap.size,0,none⟩) R R) (keepM K R 0):=by
    rw [qkE];exact qiS N4.o.2 qN ah
   have K4:=(O.below N4.o.1).also (q:=fun W=>Below F.heap.size F W/\IOwn W F.heap.size (.slice (some ⟨F.heap.size,0,none⟩) R R) (keepM K R 0)) ⟨N4.o.1,ag⟩;have c0:=qC _ _ 0 _ _ _ O.o.1.2.1;clear N4 ag;go_upto_region 8 with fail;rw [<-aj];clear aj aG c0;go_wp2_with fail
   go_loopw [27] (fun x27 W=>∃j:Nat,x27=.int .i64 (j:Int)/\j<=R/\Kn (fun W=>((Below w.heap.size w W/\W.heap[w.heap.size]? = some (.cells #[.slice ao R c,.int .i64 kind] 114 (0,0))/\W.heap[w.heap.size+1]? = some (.cells #[.int .i64 0,.int .i64 0,.slice none 0 0,.slice none 0 0,.slice none 0 0] 46 (0,0)))/\MapAt W prog 3 U.heap.size i (.bool false) (keptF (K.take i)))/\Below F.heap.size F W/\IOwn W F.heap.size (.slice (some ⟨F.heap.size,0,none⟩) R R) (keepM K R j)) W) (fun x27 _=>R-(intOf x27).toNat)
   case atStart=>exact⟨0,rfl,qan _,K4⟩
   case round =>
    obtain⟨j,rfl,hj,G⟩:=hrel
    by_cases Z:j<R
    ·have aC:(j:Int)<(R:Int):=by omega
     have H:=G.o.1.2.look HU.o.1 HU.o.2 (by kernel_rfl) (Maps.keyOf_int_mk (q:=.i64) (a:=(j:Int)) underlying3 (by simp [Lit.wf,IntKind.min,IntKind.max,IntKind.signed,IntKind.bits];omega));have aJ:K.take i=K:=qal (by rw [J.o.2.2.2.2.2.1];exact qae _);rw [aJ,keptF_at] at H
     by_cases I:j∈K
     ·rw [qV I] at H;obtain⟨g',e',aA,⟨hc,hf⟩,V⟩:=IOwn.set G.o.2.2 (i:=j) (by rw [qlN];exact Z) 1;obtain rfl:F.heap.size=g':=by injection e' with e;injection e
      rw [qlO Z I] at V;have hk:=qbO wr F.heap.size j (.int .i64 1);have aF:=(qG G.o.1.1.2.1).1;have aR:U.heap.size<F.heap.size:=O.o.2.lt;have KN:=qH (show Kn (fun W=>((Below w.heap.size w W/\W.heap[w.heap.size]? = some (.cells #[.slice ao R c,.int .i64 kind] 114 (0,0))/\W.heap[w.heap.size+1]? = some (.cells #[.int .i64 0,.int .i64 0,.slice none 0 0,.slice none 0 0,.slice none 0 0] 46 (0,0)))/\MapAt W prog 3 U.heap.size i (.bool false) (keptF (K.take i)))/\Below F.heap.size F W/\IOwn W F.heap.size (.slice (some ⟨F.heap.size,0,none⟩) R R) (keepM K R (j+1))) (wr.setCell ⟨F.heap.size,j,none⟩ (.int .i64 1)) from (O.below (G.o.2.1.setCell (p:=⟨F.heap.size,j,none⟩) qN _)).also ⟨G.o.2.1.setCell (p:=⟨F.heap.size,j,none⟩) qN _,V⟩);clear V aA hk aF I;go_wp2;go_roundw
      case rel=>exact⟨j+1,by go_num,Z,KN.o⟩
      case measure=>simp [intOf];omega
     ·rw [qU I] at H;have KN:=qH (show IOwn wr F.heap.size (.slice (some ⟨F.heap.size,0,none⟩) R R) (keepM K R (j+1)) from qkD I▸G.o.2.2);clear I;go_wp2;go_roundw
      case rel=>exact⟨j+1,by go_num,Z,.of ⟨G.o.1,G.o.2.1,KN.o⟩⟩
      case measure=>simp [intOf];omega
    ·obtain rfl:j=R:=by omega
     have aC:¬(j:Int)<(j:Int):=by omega
     have c0:=qC _ _ 0 _ _ _ G.o.1.1.2.1;have c1:=qC _ _ 1 _ _ _ G.o.1.1.2.1;have hN:NCells wr (some ⟨F.heap.size,0,none⟩) F.heap.size 0 (keepW K j):=by
      have h:=G.o.2.2;rw [qlM] at h;rcases qaW j with e | e
      ·subst e;exact⟨fun _=>rfl,fun k hk=>absurd hk (by rw [qdv];omega)⟩
      ·obtain⟨g',c',e1,h2⟩:=IOwn.cells h (by rw [qdv];exact e);obtain rfl:F.heap.size=g':=by injection e1 with e1;injection e1 with e1;injection e1
       exact h2
     have HF:=qH (fit_any j b az c F.heap.size 0 j j ao (some ⟨F.heap.size,0,none⟩) l kind (keepW K j) wr J.o.2.2.2.1 (by omega) J.o.2.2.2.2.1 (qdv _ _) (by omega) (J.o.1.below G.o.1.1.1) hN (J.o.2.2.1.below G.o.1.1.1));clear hN;go_wp2_with fail;refine HF.o.mono ?_;intro e w8 hA;have K8:=G.below hA.1;have hz:=K8.o.1.1.2.2;have aN:=qH (show w.heap.size<=wr.heap.size from G.o.1.1.1.size);obtain⟨v,cc,rfl,aI⟩:∃(v:Value) (cc:Int),e=.returned (.tuple #[v,.int .i64 cc])/\∃(k5 i5:Int) (A0 A1 A2:Option Addr) (L0 C0 L1 C1 L2 C2:Nat),v=.agg #[.int .i64 k5,.int .i64 i5,.slice A0 L0 C0,.slice A1 L1 C1,.slice A2 L2 C2]:=by
      rcases hA.2 with ⟨v,rfl,_,_,_,k,_,_,_,x,_,hM⟩ | ⟨cc,rfl,_⟩
      ·obtain⟨a0,a1,a2,b0,o0,c0,b1,o1,c1,b2,o2,c2,rfl,_⟩:=hM;exact⟨_,0,rfl,_,_,_,_,_,_,_,_,_,_,_,rfl⟩
      ·exact⟨mdv0,cc,rfl,0,0,none,none,none,0,0,0,0,0,0,rfl⟩
     obtain⟨k5,i5,A0,A1,A2,L0,C0,L1,C1,L2,C2,rfl⟩:=aI;have HA:=qH hA;clear hA c0 c1 HF;rename_i hK;dsimp only;refine hK _ _ ?_
     go_wp2_with (first | (with_reducible refine sR_ rfl 46 _ _ rfl (w.heap.size+1) #[.int .i64 k5,.int .i64 i5,.slice A0 L0 C0,.slice A1 L1 C1,.slice A2 L2 C2] hz 5 ?_) | fail)
     refine qR (v:=.tuple #[.agg #[.int .i64 k5,.int .i64 i5,.slice A0 L0 C0,.slice A1 L1 C1,.slice A2 L2 C2],.int .i64 cc]) (rB_ rfl (w.heap.size+1) (qT _ _ _ _ _ _ hz) underlying46 5) rfl ?_;refine⟨qS K8.o.1.1.1 (qa6 _) _,?_⟩;rcases HA.o.2 with ⟨v,e,hG⟩ | ⟨cc',e,hf⟩
     ·refine .inl ⟨v,e,?_⟩;obtain⟨h1,h2,h3,k,h4,h5,h6,x,hx,hM⟩:=hG;exact⟨h1,h2,h3,k,h4,h5,h6,x,hx,hM.keepB (qb3 _ _ _) hz (by
       intro y hy s;simp only [qay,List.not_mem_nil,or_false] at hy;rcases hy with rfl | rfl | rfl | rfl | rfl <;> intro h <;> cases h)⟩
     ·exact .inr ⟨cc',e,hf⟩
