import Derived.Test.YtjalhnlhcdfncaaGreatDoorBu21
import Derived.Test.YtjalhnlhcdfncaaGreatDoorBu22
set_option maxRecDepth 100000
set_option maxHeartbeats 0
namespace Go.Proofs.YtjalhnlhcdfncaaGreatDoor
open Go.RowKit Go.Proofs.Tryz
def FitI (l:List Pt) (k:Nat) (G:List Int) (_i:Nat) (kind:Int) (n:Nat) (F:World) (M:Nat) (W:World) (j:Nat):Prop :=
 ∃(E:List Value) (t:Tbl) (x:Nat->Nat->Rat),E.length=j/\VRow W M 5 (.slice none 0 0) 46 (.int .i64 kind :: .int .i64 n :: E)/\RVals W E t /\
  (∀q,q<j->t.getD q []=told (many k (chans l)) (x q)/\FitX l k G q (x q)/\qb3 (many k (chans l)) (x q))/\(0<j->¬Sing (many k (chans l)) (nq l k G 0))/\Below F.heap.size F W
theorem fit1_any (R b H c pb kb wb b2 ae n2 c2:Nat) (ao a2:Option Addr) (l:List Pt) (kind:Int) (G:List Int) (ty aC aD:TypeId) (w:World) (hR:l.length=R) (hl:R<=4611686018427387904) (hs:∀k,k<R->(l.getD k pt0).name.size<=4611686018427387904/\(l.getD k pt0).dev.length<=4611686018427387904)
  (bv:G.length=n2) (aB:n2<=4611686018427387904) (bC:w.heap[pb]? = some (.cells #[.slice ao R c] ty (0,0))) (bn:w.heap[kb]? = some (.cells #[.int .i64 kind] aC (0,0))) (bE:w.heap[wb]? = some (.cells #[.slice a2 n2 c2] aD (0,0)))
  (hP:PCells w ao b H l) (hN:NCells w a2 b2 ae G) (hT:HasT w) :
  Calls prog 62 #[.pointer (some ⟨pb,0,none⟩),.pointer (some ⟨kb,0,none⟩),.pointer (some ⟨wb,0,none⟩)] w fun e w'=>Below w.heap.size w w' /\
   ((∃(i0 i1:Int) (p0:Option Addr) (n0 c0:Nat) (p1:Option Addr) (n1 c1:Nat) (p2:Option Addr) (n2 c2:Nat),e=.returned (.agg #[.int .i64 i0,.int .i64 i1,.slice p0 n0 c0,.slice p1 n1 c1,.slice p2 n2 c2])/\FitG l kind G w' (.agg #[.int .i64 i0,.int .i64 i1,.slice p0 n0 c0,.slice p1 n1 c1,.slice p2 n2 c2])) \/
    ∃c,e=thrown c/\FitF l kind G c):=by
 obtain⟨W1,aU,K0⟩:=nw1 w #[.int .i64 0,.int .i64 0,.slice none 0 0,.slice none 0 0,.slice none 0 0] 46;have K1:Kn (fun W=>(Below w.heap.size w W/\W.heap[w.heap.size]? = some (.cells #[.int .i64 0,.int .i64 0,.slice none 0 0,.slice none 0 0,.slice none 0 0] 46 (0,0)))/\W.heap[pb]? = some (.cells #[.slice ao R c] ty (0,0))/\W.heap[kb]? = some (.cells #[.int .i64 kind] aC (0,0))/\W.heap[wb]? = some (.cells #[.slice a2 n2 c2] aD (0,0))/\PCells W ao b H l/\NCells W a2 b2 ae G/\HasT W) W1 :=
  K0.also (q:=fun W=>W.heap[pb]? = some (.cells #[.slice ao R c] ty (0,0))/\W.heap[kb]? = some (.cells #[.int .i64 kind] aC (0,0))/\W.heap[wb]? = some (.cells #[.slice a2 n2 c2] aD (0,0))/\PCells W ao b H l/\NCells W a2 b2 ae G/\HasT W)
   ⟨zkeep K0.o.1 _ _ bC,zkeep K0.o.1 _ _ bn,zkeep K0.o.1 _ _ bE,hP.below K0.o.1,hN.below K0.o.1,hT.below K0.o.1⟩
 have c0:=qC _ _ 0 _ _ _ K1.o.2.1;have E:=qH (qA hR (qA hl (qA hs (qA bv aB))));have bZ:=@hmf_ prog;clear K0 bC bn bE hP hN hT hR hl hs bv aB;go_enter func62,ntmps62;go_upto_region 1 with fail;rw [<-aU];clear aU;go_wp2_with fail;refine (qfU ao b H R c l W1 E.o.1 E.o.2.1 E.o.2.2.1 K1.o.2.2.2.2.1).mono ?_;rintro e Z ⟨cc,rfl,bL,aZ⟩;have F:=K1.below aZ;clear K1 aZ;rcases bL with ⟨rfl,bB⟩ | ⟨rfl,bz⟩
 case inr =>
  have HN:=qH bz;clear bz;go_wp2_with fail;refine (qdh 310 (by decide) Z).mono ?_;rintro e w3 ⟨rfl,rfl⟩;unfold thrown;go_wp2_with fail;exact⟨rfl,F.o.1.1,qam ⟨310,rfl,qax ⟨HN.o,rfl⟩⟩⟩
 have J:=qH bB;clear bB;go_wp2_with fail;refine (qg6 Z).mono ?_;rintro e w3 ⟨rfl,hw⟩;subst hw;have k0:=qC _ _ 0 _ _ _ F.o.2.2.1;go_wp2_with fail;refine (qiD kind Z).mono ?_;rintro e w3 ⟨rfl,hw⟩;subst hw
 by_cases au:1<=kind/\kind<=3
 case neg =>
  rw [qU au];go_wp2_with fail;refine (qdh 2 (by decide) Z).mono ?_;rintro e w3 ⟨rfl,rfl⟩;unfold thrown;go_wp2_with fail;exact⟨rfl,F.o.1.1,qam ⟨2,rfl,qam (qax ⟨J.o,fun h=>by obtain⟨⟨k,h1,h2,h3⟩,_⟩:=h;exact au ⟨by omega,by omega⟩,rfl⟩)⟩⟩
 obtain⟨k,bq⟩:∃k,qdi kind k:=⟨kind.toNat,by omega,by omega,by omega⟩;rw [qV au];have k1:=qC _ _ 0 _ _ _ F.o.2.2.2.1;have k2:=qC _ _ 0 _ _ _ F.o.2.1;have Hk:=qH (qA bq au);clear bq au
 by_cases hne:n2=R
 case neg =>
  have bS:¬((n2:Int)=(R:Int)):=by omega
  go_wp2_with fail;refine (qdh 2 (by decide) Z).mono ?_;rintro e w3 ⟨rfl,rfl⟩;unfold thrown;go_wp2_with fail;exact⟨rfl,F.o.1.1,qam ⟨2,rfl,qam (qax ⟨J.o,fun h=>hne (by have:=E.o.1;have:=E.o.2.2.2.1;omega),rfl⟩)⟩⟩
 subst hne;go_wp2_with fail;have aG:n2<=40:=by have:=J.o.r2;have:=E.o.1;omega
 go_loopw [27] (fun x27 W=>∃i:Nat,x27=.int .i64 i/\i<=n2/\Hu (W=Z/\∀j,j<i->0<=G.getD j 0/\G.getD j 0<=1000)) (fun x27 _=>n2-(intOf x27).toNat)
 case atStart=>exact⟨0,rfl,qaj _,qH ⟨rfl,fun j hj=>absurd hj (Nat.not_lt_zero _)⟩⟩
 case round =>
  obtain⟨i,rfl,bW,hI⟩:=hrel;have aj:=hI.o.1.symm;subst aj
  by_cases hi:i<n2
  ·have bV:(i:Int)<n2:=by omega
   have bK:=F.o.2.2.2.2.2.1.addr (by have:=E.o.2.2.2.1;omega);subst bK;have d0:=F.o.2.2.2.2.2.1.cell i (by have:=E.o.2.2.2.1;omega);obtain⟨x,hx⟩:=qX (G.getD i 0);rw [hx] at d0;have HX:=qH hx;clear hx
   by_cases I:0<=x/\x<=1000
   ·obtain⟨aX,aY⟩:=I;have bQ:¬x<0:=by omega
    have bR:¬1000<x:=by omega
    go_wp2;go_roundw
    case rel =>
     refine⟨i+1,by go_num,hi,qH ⟨by trivial,fun j hj=>?_⟩⟩;rcases qaB j i with h | h
     ·exact hI.o.2 j h
     ·obtain rfl:j=i:=by omega
      rw [HX.o];exact⟨aX,aY⟩
    case measure=>simp [intOf];omega
   ·have aP:=qH I
    by_cases aX:x<0
    ·clear I;go_wp2_with fail;refine (qdh 2 (by decide) _).mono ?_;rintro e w3 ⟨rfl,rfl⟩;unfold thrown;go_wp2_with fail;exact⟨rfl,F.o.1.1,qam ⟨2,rfl,qam (qax ⟨J.o,fun h=>by have:=h.2.2 i (by have:=E.o.2.2.2.1;omega);rw [HX.o] at this;exact aP.o this,rfl⟩)⟩⟩
    ·have aY:1000<x:=by omega
     clear I;go_wp2_with fail;refine (qdh 2 (by decide) _).mono ?_;rintro e w3 ⟨rfl,rfl⟩;unfold thrown;go_wp2_with fail;exact⟨rfl,F.o.1.1,qam ⟨2,rfl,qam (qax ⟨J.o,fun h=>by have:=h.2.2 i (by have:=E.o.2.2.2.1;omega);rw [HX.o] at this;exact aP.o this,rfl⟩)⟩⟩
  ·obtain rfl:i=n2:=by omega
   have HW:Hu (WOk G):=qH fun j hj=>hI.o.2 j (by have:=E.o.2.2.2.1;omega)
   clear hI;have bI:0<i:=by have:=J.o.r1;have:=E.o.1;omega
   have bP:(0:Int)<i:=by omega
   have bJ:=F.o.2.2.2.2.1.addr (by have:=E.o.1;omega);subst bJ;obtain⟨_,⟨ra,rb,ro,rc,f1,_⟩,_⟩:=F.o.2.2.2.2.1.cell 0 (by have:=E.o.1;omega);rw [Nat.zero_mul,qbA] at f1;obtain⟨n,hn⟩:=qX ((l.getD 0 pt0).dev.length);have bi:chans l=n:=hn;rw [hn] at f1;have HC:=qH bi;clear hn bi
   by_cases aA:kind=3/\3<n
   ·obtain⟨h3,h4⟩:=aA;have bU:(3:Int)<n:=by omega
    subst h3;go_wp2_with fail;refine (qdh 5 (by decide) _).mono ?_;rintro e w3 ⟨rfl,rfl⟩;unfold thrown;go_wp2_with fail;exact⟨rfl,F.o.1.1,qam ⟨5,rfl,qam (qam ⟨J.o,by have:=E.o.1;have:=E.o.2.2.2.1;omega,HW.o,k,Hk.o.1,qax ⟨by have:=Hk.o.1.1;omega,by have:=J.o.n4;have:=HC.o;omega,rfl⟩⟩)⟩⟩
   ·have af:Hu (¬(k=3/\chans l=4)):=qH fun h=>aA ⟨by have:=Hk.o.1.1;omega,by have:=HC.o;omega⟩
    go_upto_region 11 with fail
    go_cut [49] (fun x49 W=>x49=.bool false/\Hu (W=Z))
    case first =>
     by_cases h3:kind=3
     ·have cu:¬(3:Int)<n:=fun h=>aA ⟨h3,by omega⟩
      go_wp2;go_meet;exact⟨rfl,qH rfl⟩
     ·go_wp2;go_meet;exact⟨rfl,qH rfl⟩
    case rest =>
     obtain⟨rfl,aj⟩:=hcut;have aj:=aj.o.symm;subst aj;clear aA;go_wp2_with fail;have bM:=(qG F.o.2.1).1;have aB:=(qG F.o.2.2.1).1;have bN:=(qG F.o.2.2.2.1).1;have q1:=rowC (B:=Z.heap.size) F.o.2.1 0;have q2:=rowC (B:=Z.heap.size) F.o.2.2.1 0;have q3:=rowC (B:=Z.heap.size) F.o.2.2.2.1 0;refine wp_region_held_drew (S:=fun W=>Below Z.heap.size Z W) (by kernel_rfl) qB.drew (fun hS0=>?_);refine hT 0 (h:=?_);refine hT 1 (h:=?_);refine hT 2 (h:=?_);refine hT 5 (h:=?_);refine hT 6 (h:=?_);refine gr [(3,54),(4,55),(7,58),(8,59),(9,60),(10,7)] [(4,[3]),(8,[7]),(9,[4,8])] [0,1,2,5,6] [3,4,7,8,9,10] [] 11 12
      (fl2 [(3,fun z _=>z=.func (.func 66) #[] #[.pointer (some ⟨kb,0,none⟩),.pointer (some ⟨pb,0,none⟩)]),(4,SlT i (many k (chans l)) (tqf l k)),(7,fun z _=>z=.func (.func 69) #[] #[.pointer (some ⟨wb,0,none⟩)]),(8,SlF i (wq G)),
       (9,fun z W=>∃z1 z2,z=.agg #[.slice (some ⟨b,H,none⟩) i c,z1,z2]/\SlT i (many k (chans l)) (tqf l k) z1 W/\SlF i (wq G) z2 W),(10,ZC Z.heap.size #[.slice none 0 0,.slice none 0 0,.slice none 0 0] 140)]) _ 1
      (hS:=fun w' h=>qcg h) (hstep:=⟨⟨_,rfl,fun v w4 I hF K hK=>?_⟩,⟨_,rfl,fun v w4 I hF K hK=>?_⟩,⟨_,rfl,fun v w4 I hF K hK=>?_⟩,⟨_,rfl,fun v w4 I hF K hK=>?_⟩,⟨_,rfl,fun v w4 I hF K hK=>?_⟩,⟨_,rfl,fun v w4 I hF K hK=>?_⟩,trivial⟩) (hend:=fun v w4 I hF _ fu=>?_)
     ·exact gV hK rfl
     ·have e3:v 3=_:=hF.1;have K4:=F.below (qcg I);rw [e3] at hK ⊢;exact gC hK (qnT i k pb kb b H c kind _ l ty aC w4 Hk.o.1 E.o.1 af.o J.o K4.o.2.1 K4.o.2.2.1 K4.o.2.2.2.2.1 K4.o.2.2.2.2.2.2) (h:=fun e w5 ⟨h1,z,h2,h3⟩=>⟨z,h2,by exact h3,h1⟩)
     ·exact gV hK rfl
     ·have e7:v 7=_:=hF.1;have K4:=F.below (qcg I);rw [e7] at hK ⊢;exact gC hK (qj6 i wb b2 ae c2 _ G aD w4 E.o.2.2.2.1 aG HW.o K4.o.2.2.2.1 K4.o.2.2.2.2.2.1 K4.o.2.2.2.2.2.2) (h:=fun e w5 ⟨h1,z,h2,h3⟩=>⟨z,h2,by exact h3,h1⟩)
     ·have f4:SlT i (many k (chans l)) (tqf l k) (v 4) w4:=hF.1;have f8:SlF i (wq G) (v 8) w4:=hF.2.1;obtain⟨g4,e4,h4⟩:=id f4;obtain⟨g8,e8,h8⟩:=id f8;exact gV hK ⟨_,_,rfl,e4▸f4,e8▸f8⟩
     ·exact gW hK (h:=ZC.new (qcg I).size)
     obtain⟨z1,z2,e9,f1,f2⟩:∃z1 z2,_:=hF 9 (by decide) (by decide);obtain⟨g7,ak,e10,aJ⟩:∃g7,_:=hF 10 (by decide) (by decide);have K4:=F.below (qcg I);obtain⟨g4,rfl,h4⟩:=f1;obtain⟨g8,rfl,h8⟩:=f2;rw [e9,e10];refine hSt 11 3 ak (h:=⟨qS (qcg I) aJ _,?_⟩);have aL:=qfP Hk.o.1 J.o.n1 J.o.n4 af.o;have bF:∀x∈(#[.slice none 0 0,.slice none 0 0,.slice none 0 0]:Array Value).toList,x=.slice none 0 0:=by simp
     obtain⟨W5,ai⟩:=qY (w4.setRow g7 #[.slice (some ⟨b,H,none⟩) i c,.slice (some ⟨g4,0,none⟩) i i,.slice (some ⟨g8,0,none⟩) i i]);have bf:Below Z.heap.size Z W5:=ai▸qS (qcg I) aJ _;have K5:=((F.below bf).also (q:=fun W=>W.heap[g7]? = some (.cells #[.slice (some ⟨b,H,none⟩) i c,.slice (some ⟨g4,0,none⟩) i i,.slice (some ⟨g8,0,none⟩) i i] 140 (0,0))) (ai▸qT _ _ _ _ _ _ ak)).also
      (q:=fun W=>SlT i (many k (chans l)) (tqf l k) (.slice (some ⟨g4,0,none⟩) i i) W/\SlF i (wq G) (.slice (some ⟨g8,0,none⟩) i i) W)
      (by rw [ai];exact⟨SlT.keepZ ⟨g4,rfl,h4⟩ aL.1 ak bF,SlF.keepZ ⟨g8,rfl,h8⟩ ak bF⟩)
     rw [<-ai];clear F ai K4 bf I hF ak aJ h4 h8 q1 q2 q3 bM aB bN e9 e10;have s0:=qC _ _ 0 _ _ _ K5.o.1.2;have s1:=qC _ _ 1 _ _ _ K5.o.1.2;have s2:=qC _ _ 2 _ _ _ K5.o.1.2;have kk:=qC _ _ 0 _ _ _ K5.o.1.1.2.2.1;obtain⟨W6,aV,K6⟩:=nw1 W5 #[.int .i64 kind,.int .i64 n,.slice none 0 0,.slice none 0 0,.slice none 0 0] 46
     go_wp2_with (((with_reducible refine qcx rfl 46 _ _ rfl #[.int .i64 0,.int .i64 0,.slice none 0 0,.slice none 0 0,.slice none 0 0] #[.int .i64 kind,.int .i64 n,.slice none 0 0,.slice none 0 0,.slice none 0 0] ?_ ?_ 5 ?_ ?_ ?_ ?_ ?_);(next=>rfl);(next=>rfl);(next=>kernel_rfl);(next=>rfl);(next=>rfl);(next=>rfl)))
     rw [<-aV];have aF:VRow W6 W5.heap.size 5 (.slice none 0 0) 46 [.int .i64 kind,.int .i64 n]:=⟨K6.o.2,by simp⟩;have aH:=qH (qA aF K6.o.1);clear aF aV K6 k0 k1 k2 kk s0 s1 s2 c0 f1;obtain⟨M,hM⟩:=qY W5.heap.size;rw [<-hM] at aH ⊢;have HM:=qH hM;clear hM
     go_loopw [66] (fun x66 W=>∃j:Nat,x66=.int .i64 j/\j<=3/\Hu (FitI l k G i kind n W5 M W j)) (fun x66 _=>3-(intOf x66).toNat)
     case atStart=>exact⟨0,rfl,qaj _,qH ⟨[],[],fun _ _=>0,rfl,aH.o.1,⟨rfl,fun q hq=>absurd hq (Nat.not_lt_zero _)⟩,fun q hq=>absurd hq (Nat.not_lt_zero _),fun h=>absurd h (Nat.not_lt_zero _),HM.o▸aH.o.2⟩⟩
     case round =>
      obtain⟨j,rfl,hj,hI⟩:=hrel;obtain⟨vs,t,x,aM,hV,V,hx,av,hB⟩:=hI.o;have ag:=E.o.1
      by_cases aK:j<3
      ·have bX:(j:Int)<3:=by omega
       obtain⟨⟨g4',e4',aQ⟩,bT,bH,aR⟩:=K5.o.2;cases e4';cases bH;have HC:=qH (row_any j i (many k (chans l)) b H c g4 i g8 i _ _ _ l (tqf l k) (wq G) _ ag bI aG aL.1 aL.2 aK (K5.o.1.1.2.2.2.2.1.below hB) (ag▸J.o.bound j) (ag▸J.o.terms Hk.o.1 af.o) (ag▸J.o.labs) (by have:=HW.o.short;rw [E.o.2.2.2.1] at this;exact this) (by have:=HW.o.pos;rw [E.o.2.2.2.1] at this;exact this) (aQ.below hB) (aR.below hB) (K5.o.1.1.2.2.2.2.2.2.below hB));have HI:=qH (qA aM (qA hV (qA V (qA hx (qA av hB)))));clear hI aM hV V hx av hB aQ aR;have bA:nq l k G j=normR i (many k (chans l)) (tqf l k) (labq l j) (wq G):=by unfold nq;rw [ag]
       have bu:G.length=l.length:=by have:=E.o.2.2.2.1;omega
       have HQ:=qH (qA bA bu);clear bA bu ag;go_wp2_with fail;refine HC.o.mono ?_;rintro e w7 ⟨hr,bg⟩;rw [<-HQ.o.1] at hr;have az:=qH bg;clear bg;have aO:Hu (Below w.heap.size w w7):=qH ((K5.o.1.1.1.1.trans (HI.o.2.2.2.2.2.mono K5.o.1.1.1.1.size)).trans (az.o.mono (K5.o.1.1.1.1.trans (HI.o.2.2.2.2.2.mono K5.o.1.1.1.1.size)).size));rcases hr with ⟨Y,rfl⟩ | ⟨Y,y,hy,⟨ay,g9,rfl,aT⟩ | ⟨ay,rfl⟩⟩
       ·have HS:=qH Y;clear Y;unfold thrown;go_wp2_with fail;exact⟨rfl,aO.o,qam ⟨7,rfl,qam (qam ⟨J.o,HQ.o.2,HW.o,k,Hk.o.1,qam ⟨af.o,qax ⟨qfS HS.o,rfl⟩⟩⟩)⟩⟩
       ·have aI:=HI.o.2.1.below az.o;have aa:(Value.int .i64 kind :: Value.int .i64 n :: vs).length=2+j:=by simp only [qbz];have:=HI.o.1;omega
        have aW:=aI.at (by rw [aa];omega);have ax:=aI.set (by rw [aa];omega) (.slice (some ⟨g9,0,none⟩) (many k (chans l)) (many k (chans l)));rw [aa] at aW ax;obtain⟨q0,qf⟩:=aW;have cz:=qf (2+j);have HN:=qH (qA ax (qA (((HI.o.2.2.1.below az.o).append (RVals.one (rc:=many k (chans l)) (qb1 _ _) aT)).kept (qkL (u:=.slice (some ⟨g9,0,none⟩) (many k (chans l)) (many k (chans l))) q0 (fun s h=>by cases h))) (qA ((HI.o.2.2.2.2.2.trans (az.o.mono HI.o.2.2.2.2.2.size)).setCell (p:=⟨M,2+j,none⟩) (by rw [HM.o];exact qae _) (.slice (some ⟨g9,0,none⟩) (many k (chans l)) (many k (chans l)))) (qA Y (qA hy ay)))));clear aI aa ax qf Y hy ay aT;go_wp2;go_roundw
        case rel =>
         refine⟨j+1,by go_num,aK,qH ⟨vs++[.slice (some ⟨g9,0,none⟩) (many k (chans l)) (many k (chans l))],t++[told (many k (chans l)) y],fun q=>if q=j then y else x q,by simp [HI.o.1],by exact HN.o.1,HN.o.2.1,fun q hq=>?_,fun _ h=>HN.o.2.2.2.1 (qfS h),HN.o.2.2.1⟩⟩;have bD:t.length=j:=HI.o.2.2.1.1.symm.trans HI.o.1
         by_cases e:q=j
         ·subst e;dsimp only;rw [if_pos rfl,qaa,qau (by omega),bD,qaM];exact⟨rfl,HN.o.2.2.2.2.1,HN.o.2.2.2.2.2⟩
         ·dsimp only;rw [if_neg e,qaa,qaz (by omega),<-qaa];exact HI.o.2.2.2.1 q (by omega)
        case measure=>simp [intOf];omega
       ·have HS:=qH (qA Y (qA hy ay));clear Y hy ay;unfold thrown;go_wp2_with fail;exact⟨rfl,aO.o,qam ⟨6,rfl,qam (qam ⟨J.o,HQ.o.2,HW.o,k,Hk.o.1,qam ⟨af.o,qam ⟨fun h=>HS.o.1 (qfS h),j,y,aK,HS.o.2.1,HS.o.2.2,rfl⟩⟩⟩)⟩⟩
      ·obtain rfl:j=3:=by omega
       obtain⟨s0,s1,s2,rfl⟩:∃s0 s1 s2,vs=[s0,s1,s2]:=by
        rcases vs with _ | ⟨s0,_ | ⟨s1,_ | ⟨s2,_ | ⟨s3,vs⟩⟩⟩⟩ <;> simp at aM
        exact⟨s0,s1,s2,rfl⟩
       have bD:t.length=3:=V.1.symm;obtain⟨a0,b0,o0,d0,e0,f0⟩:=V.2 0 (by omega);obtain⟨a1,b1,o1,d1,e1,f1⟩:=V.2 1 (by omega);obtain⟨O,b2',o2,d2,e2,f2⟩:=V.2 2 (by omega);rw [(hx 0 (by omega)).1,qb1] at e0;rw [(hx 1 (by omega)).1,qb1] at e1;rw [(hx 2 (by omega)).1,qb1] at e2;rw [(hx 0 (by omega)).1] at f0;rw [(hx 1 (by omega)).1] at f1;rw [(hx 2 (by omega)).1] at f2;have e0:s0=_:=e0;have e1:s1=_:=e1;have e2:s2=_:=e2;subst e0 e1 e2;obtain⟨m,hm⟩:=qX (many k (chans l));rw [hm] at hV f0 f1 f2 hx av;have U:=hV.1;have ah:=(K5.below hB).o.1.1.1.2;have aS:=K5.o.1.1.1.1.trans (hB.mono K5.o.1.1.1.1.size);have bY:=(qG U).1;have z0:=qC _ _ 0 _ _ _ U;have z1:=qC _ _ 1 _ _ _ U;have z2:=qC _ _ 2 _ _ _ U;have z3:=qC _ _ 3 _ _ _ U;have z4:=qC _ _ 4 _ _ _ U;have aN:∀s,.string s∉(#[.int .i64 0,.int .i64 0,.slice none 0 0,.slice none 0 0,.slice none 0 0]:Array Value).toList:=by intro s;simp
       have HE:=qH (qA (qT _ _ _ #[.int .i64 kind,.int .i64 n,.slice a0 m d0,.slice a1 m d1,.slice O m d2] _ _ ah) (qA (qS aS qN #[.int .i64 kind,.int .i64 n,.slice a0 m d0,.slice a1 m d1,.slice O m d2])
        (qA (f0.kept (qel (cs:=#[.int .i64 kind,.int .i64 n,.slice a0 m d0,.slice a1 m d1,.slice O m d2]) ah aN)) (qA (f1.kept (qel (cs:=#[.int .i64 kind,.int .i64 n,.slice a0 m d0,.slice a1 m d1,.slice O m d2]) ah aN)) (f2.kept (qel (cs:=#[.int .i64 kind,.int .i64 n,.slice a0 m d0,.slice a1 m d1,.slice O m d2]) ah aN))))))
       have HX:=qH (qA hx av);have bG:=qH ah;clear hI hV V hx av hB f0 f1 f2 U aS ah
       go_wp2_with ((with_reducible refine sR_ rfl 46 _ _ rfl (w.heap.size) #[.int .i64 kind,.int .i64 n,.slice a0 m d0,.slice a1 m d1,.slice O m d2] bG.o 5 ?_))
       refine qR (v:=.agg #[.int .i64 kind,.int .i64 n,.slice a0 m d0,.slice a1 m d1,.slice O m d2]) (rA_ rfl (w.heap.size) HE.o.1 underlying46 5) rfl ?_;have bO:=Hk.o.1.1;refine⟨HE.o.2.1,qax ⟨_,_,_,_,_,_,_,_,_,_,_,rfl,J.o,by have:=E.o.1;have:=E.o.2.2.2.1;omega,HW.o,k,Hk.o.1,af.o,by rw [hm];exact HX.o.2 (by omega),x,?_,?_⟩⟩
       ·intro q hq;exact (HX.o.1 q hq).2.imp id fun h=>by rw [hm];exact h
       ·rw [hm];have hc:=HC.o;refine⟨a0,a1,O,b0,o0,d0,b1,o1,d1,b2',o2,d2,?_,HE.o.2.2.1,HE.o.2.2.2.1,HE.o.2.2.2.2⟩;unfold mdq;simp only [qb1,hc,bO]
theorem MdAt.kept {W W':World} {v:Value} {m:Md} (h:MdAt W v m) (E:∀a s,W.cell? a=some (.string s)->W'.cell? a=some (.string s)):MdAt W' v m:=by
 obtain⟨a0,a1,a2,b0,o0,c0,b1,o1,c1,b2,o2,c2,rfl,F,G,H⟩:=h;exact⟨a0,a1,a2,b0,o0,c0,b1,o1,c1,b2,o2,c2,rfl,F.kept E,G.kept E,H.kept E⟩
theorem FitG.kept {l:List Pt} {kind:Int} {E:List Int} {W W':World} {v:Value} (Y:∀a s,W.cell? a=some (.string s)->W'.cell? a=some (.string s)) (h:FitG l kind E W v):FitG l kind E W' v:=by
 obtain⟨F,G,H,k,I,J,O,x,U,V⟩:=h;exact⟨F,G,H,k,I,J,O,x,U,V.kept Y⟩
theorem fit_any (R b ai c b2 H n2 c2:Nat) (ao a2:Option Addr) (l:List Pt) (kind:Int) (Z:List Int) (w:World) (hR:l.length=R) (hl:R<=4611686018427387904) (hs:∀k,k<R->(l.getD k pt0).name.size<=4611686018427387904/\(l.getD k pt0).dev.length<=4611686018427387904)
  (ag:Z.length=n2) (af:n2<=4611686018427387904) (hP:PCells w ao b ai l) (hN:NCells w a2 b2 H Z) (hT:HasT w) :
  Calls prog 26 #[.slice ao R c,.int .i64 kind,.slice a2 n2 c2] w fun e w'=>FitAs w l kind Z e w':=by
 obtain⟨W3,J,U⟩:=nw3 w #[.slice ao R c] 48 #[.int .i64 kind] 3 #[.slice a2 n2 c2] 30;obtain⟨W4,ae,V⟩:=nw1 W3 #[.int .i64 0,.int .i64 0,.slice none 0 0,.slice none 0 0,.slice none 0 0] 46;have ak:=@hmf_ prog;have ah:W3.heap.size=w.heap.size+1+1+1:=by rw [J];simp
 have E:Below w.heap.size w W4:=U.o.1.trans (V.o.1.mono U.o.1.size);have HG:=qH (qim 62 #[.pointer (some ⟨w.heap.size,0,none⟩),.pointer (some ⟨w.heap.size+1,0,none⟩),.pointer (some ⟨w.heap.size+1+1,0,none⟩)] (FitG l kind Z) (FitF l kind Z) W4 (fun W=>enters func62 (by kernel_rfl) (by kernel_rfl) _ W)
  (fun W W' v hk h=>h.kept hk)
  (fun w1 Y=>fit1_any R b ai c w.heap.size (w.heap.size+1) (w.heap.size+1+1) b2 H n2 c2 ao a2 l kind Z _ _ _ w1 hR hl hs ag af (zkeep Y _ _ (zkeep V.o.1 _ _ U.o.2.1)) (zkeep Y _ _ (zkeep V.o.1 _ _ U.o.2.2.1)) (zkeep Y _ _ (zkeep V.o.1 _ _ U.o.2.2.2))
   (hP.below (E.trans (Y.mono E.size))) (hN.below (E.trans (Y.mono E.size))) (hT.below (E.trans (Y.mono E.size)))))
 have HB:=qH (qA E ah);clear hR hl hs ag af hP hN hT E ah;go_enter func26,ntmps26;go_upto_region 1 with fail;rw [<-J,<-ae];clear J ae;go_wp2_with fail;refine HG.o.mono ?_;rintro e w5 ⟨O,h⟩;have K5:=V.below O;have aa:=qH (HB.o.1.trans (O.mono HB.o.1.size));clear O HG;have F:=K5.o.2;rw [HB.o.2] at F;have Hr:=qH F;clear F K5 V U;have aj:∀s,.string s∉(#[.int .i64 0,.int .i64 0,.slice none 0 0,.slice none 0 0,.slice none 0 0]:Array Value).toList:=by intro s;simp
 rcases h with ⟨i0,i1,p0,n0,c0,p1,n1,c1,p2,G,c2',rfl,hg⟩ | ⟨cc,rfl,hf⟩
 ·have I:=qH (qA (qT _ _ _ #[.int .i64 i0,.int .i64 i1,.slice p0 n0 c0,.slice p1 n1 c1,.slice p2 G c2'] _ _ Hr.o) (qA (qS aa.o (show w.heap.size<=w.heap.size+1+1+1 by omega) #[.int .i64 i0,.int .i64 i1,.slice p0 n0 c0,.slice p1 n1 c1,.slice p2 G c2'])
   (hg.kept (qel (cs:=#[.int .i64 i0,.int .i64 i1,.slice p0 n0 c0,.slice p1 n1 c1,.slice p2 G c2']) Hr.o aj))))
  clear hg;rename_i hK;dsimp only;refine hK _ _ ?_
  go_wp2_with ((with_reducible refine sR_ rfl 46 _ _ rfl ((w.heap.size+1+1+1)) #[.int .i64 i0,.int .i64 i1,.slice p0 n0 c0,.slice p1 n1 c1,.slice p2 G c2'] Hr.o 5 ?_))
  exact qR (v:=.tuple #[.agg #[.int .i64 i0,.int .i64 i1,.slice p0 n0 c0,.slice p1 n1 c1,.slice p2 G c2'],.int .i64 0]) (rB_ rfl (w.heap.size+1+1+1) I.o.1 underlying46 5) rfl ⟨I.o.2.1,qax ⟨_,rfl,I.o.2.2⟩⟩
 ·have I:=qH (qA (qT _ _ _ #[.int .i64 0,.int .i64 0,.slice none 0 0,.slice none 0 0,.slice none 0 0] _ _ Hr.o) (qA (qS aa.o (show w.heap.size<=w.heap.size+1+1+1 by omega) #[.int .i64 0,.int .i64 0,.slice none 0 0,.slice none 0 0,.slice none 0 0]) hf));clear hf;rename_i hK;dsimp only;refine hK _ _ ?_
  go_wp2_with ((with_reducible refine sR_ rfl 46 _ _ rfl ((w.heap.size+1+1+1)) #[.int .i64 0,.int .i64 0,.slice none 0 0,.slice none 0 0,.slice none 0 0] Hr.o 5 ?_))
  exact qR (v:=.tuple #[mdv0,.int .i64 cc]) (rB_ rfl (w.heap.size+1+1+1) I.o.1 underlying46 5) rfl ⟨I.o.2.1,qam ⟨cc,rfl,I.o.2.2⟩⟩
def MatchAs (w:World) (m:Md) (l:List Pt) (e:Ending) (E:World):Prop :=
 Below w.heap.size w E/\((¬qeo m/\e=thrown 320)\/(qeo m/\¬PtsOk l/\e=thrown 310)\/(qeo m/\PtsOk l/\m.inn≠(chans l:Nat)/\e=thrown 5)\/(qeo m/\PtsOk l/\m.inn=(chans l:Nat)/\e=.returned (.tuple #[])))
theorem qmZ (m:Md) (v:Value) (R b Z c:Nat) (ao:Option Addr) (l:List Pt) (w:World) (hM:MdAt w v m) (ae:∀q,q<3->(m.row q).length<=4611686018427387904) (hR:l.length=R) (hl:R<=4611686018427387904) (hs:∀k,k<R->(l.getD k pt0).name.size<=4611686018427387904/\(l.getD k pt0).dev.length<=4611686018427387904) (hP:PCells w ao b Z l) :
  Calls prog 87 #[v,.slice ao R c] w fun e w'=>MatchAs w m l e w':=by
 obtain⟨a,b',o,c',rfl,hF⟩:=id hM.parts;obtain⟨kind,G⟩:∃z,m.kind=z:=⟨_,rfl⟩;obtain⟨inn,F⟩:∃z,m.inn=z:=⟨_,rfl⟩;rw [G,F] at hM ⊢;obtain⟨L,hL⟩:∃L:Nat->Nat,∀q,(m.row q).length=L q:=⟨_,fun _=>rfl⟩;rw [hL,hL,hL] at hM ⊢;obtain⟨W1,aa,J⟩:=nw1 w #[.int .i64 kind,.int .i64 inn,.slice (a 0) (L 0) (c' 0),.slice (a 1) (L 1) (c' 1),.slice (a 2) (L 2) (c' 2)] 46;have c0:=qC _ _ 0 _ _ _ J.o.2;have c1:=qC _ _ 1 _ _ _ J.o.2;have c2:=qC _ _ 2 _ _ _ J.o.2;have c3:=qC _ _ 3 _ _ _ J.o.2;have c4:=qC _ _ 4 _ _ _ J.o.2;have HC:=qH (qlk m _ W1 (hM.below J.o.1) ae);have HX:=qH (qA hR (qA hl (qA hs (qA (hP.below J.o.1) F))));clear hM hF ae hR hl hs hP G F hL;go_enter func87,ntmps87;go_upto_region 1 with fail;rw [<-aa];clear aa;go_wp2_with fail;refine HC.o.mono ?_;rintro e w2 ⟨cc,rfl,af,V⟩;have HB:=qH (J.o.1.trans (V.mono J.o.1.size));have K2:=(J.below V).also (q:=fun W=>PCells W ao b Z l) (HX.o.2.2.2.1.below V);clear V HC c0 c1 c2 c3 c4;rcases af with ⟨rfl,I⟩ | ⟨rfl,H⟩
 case inr =>
  have HN:=qH H;clear H;go_wp2_with fail;refine (qdh 320 (by decide) _).mono ?_;rintro e w3 ⟨rfl,rfl⟩;unfold thrown;go_wp2_with fail;exact⟨rfl,HB.o,qax ⟨HN.o,rfl⟩⟩
 have HO:=qH I;clear I;go_wp2_with fail;refine (qg6 _).mono ?_;rintro e w3 ⟨rfl,hw⟩;subst hw;go_wp2_with fail;have ag:=(qG K2.o.1.2).1;have q1:=rowC (B:=w2.heap.size) K2.o.1.2 1;refine wp_region_held_drew (S:=fun W=>Below w2.heap.size w2 W) (by kernel_rfl) qB.drew (fun hS0=>?_);refine hT 0 (h:=?_);refine hT 5 (h:=?_);refine hT 6 (h:=?_);refine hC 1 (chan_any ao b Z R c l w2.drew HX.o.1 HX.o.2.1 HX.o.2.2.1 (K2.o.2.below qB.drew)) (h:=?_);rintro e w3 ⟨h,Y⟩;have E:=qH (qcg Y);clear Y;rcases h with ⟨I,rfl⟩ | ⟨H,rfl⟩
 ·refine⟨_,rfl,E.o,hN (h:=?_)⟩;have U:=qH I;clear I;refine hT 2 (hS:=E.o) (h:=?_);refine hT 3 (hS:=E.o) (h:=?_);refine hC 4 (needI_ok _ w3) (h:=?_);rintro e w4 ⟨rfl,rfl⟩;refine⟨_,rfl,E.o,hN (h:=?_)⟩;refine hT 7 (hS:=E.o) (h:=?_);refine wpAnyH_done (by kernel_rfl) ?_ _;have O:=qH (HB.o.trans (E.o.mono HB.o.size))
  by_cases hc:((chans l:Nat):Int)=inn
  ·have Y:(((chans l:Nat):Int) != inn)=false:=by simp [hc]
   have Hc:=qH hc;clear hc;rw [Y];clear Y;go_wp2_with fail;exact qR (results_none rfl _ _ _) rfl ⟨O.o,qam (qam (qam ⟨HO.o,U.o,by rw [HX.o.2.2.2.2];exact Hc.o.symm,rfl⟩))⟩
  ·have Y:(((chans l:Nat):Int) != inn)=true:=by rw [bne_iff_ne];exact hc
   have Hc:=qH hc;clear hc;rw [Y];clear Y;go_wp2_with fail;refine (qdh 5 (by decide) _).mono ?_;rintro e w4 ⟨rfl,rfl⟩;unfold thrown;go_wp2_with fail;exact⟨rfl,O.o,qam (qam (qax ⟨HO.o,U.o,fun h=>Hc.o (by rw [HX.o.2.2.2.2] at h;exact h.symm),rfl⟩))⟩
 ·refine⟨_,rfl,E.o,hN (h:=?_)⟩;have U:=qH H;clear H;refine hT 2 (hS:=E.o) (h:=?_);refine hT 3 (hS:=E.o) (h:=?_);refine hCx 4 (qm6 0 310 (by decide) w3) (h:=?_);rintro e w4 ⟨rfl,rfl⟩;refine qam ⟨_,rfl,?_⟩;have O:=qH (HB.o.trans (E.o.mono HB.o.size));go_wp2_with fail;exact⟨rfl,O.o,qam (qax ⟨HO.o,U.o,rfl⟩)⟩
theorem qnH (k E R pb ib b Y c:Nat) (ao:Option Addr) (l:List Pt) (ty ae:TypeId) (w:World) (hR:l.length=R) (hk:k<R) (af:R<=40) (ag:E<3) (V:w.heap[pb]? = some (.cells #[.slice ao R c] ty (0,0))) (O:w.heap[ib]? = some (.cells #[.int .i64 (k:Int)] ae (0,0)))
  (hP:PCells w ao b Y l) (hl:-9223372036854775808<=(l.getD k pt0).lab E/\(l.getD k pt0).lab E<=9223372036854775807) (hT:HasT w) :
  Calls prog 89 #[.int .i64 (E:Int),.pointer (some ⟨pb,0,none⟩),.pointer (some ⟨ib,0,none⟩)] w fun e w'=>Below w.heap.size w w'/\e=.returned (.agg #[.string (ftxt (labq l E k)).1,.string (ftxt (labq l E k)).2]):=by
 have aa:=hP.addr (by omega);subst aa;obtain⟨t1,t2,ht⟩:=qcF (labq l E k);rw [ht];obtain⟨Z,H,G⟩:=nw1 w #[.string ⟨#[]⟩,.string ⟨#[]⟩] 27;have d0:Z.cell? ⟨b,Y+k*5+2+E,none⟩=some (.int .i64 ((l.getD k pt0).lab E)):=by
  obtain⟨_,_,d2,d3,d4⟩:=(hP.below G.o.1).cell k (by omega);rcases (show E=0\/E=1\/E=2 by omega) with rfl | rfl | rfl
  ·exact d2
  ·exact d3
  ·exact d4
 have q1:=qC Z _ 0 _ _ _ (zkeep G.o.1 _ _ V);have q2:=qC Z _ 0 _ _ _ (zkeep G.o.1 _ _ O);obtain⟨x,hx⟩:=qX ((l.getD k pt0).lab E);have U:(x:Rat) / ((100:Int):Rat)=labq l E k:=by unfold labq;rw [hx];rfl
 have F:=of_int x 100 (by decide) (by rw [<-hx];exact hl) (by decide) Z (hT.below G.o.1);rw [U,ht] at F;rw [hx] at d0;have HO:=qH F;have ai:(k:Int)<R:=by omega
 have ah:(E:Int)<3:=by omega
 clear F U hx hP V O hT ht hl;go_enter func89,ntmps89;go_upto_region 1 with fail;rw [<-H];clear H;go_wp2_with fail;refine HO.o.mono ?_;rintro e w1 ⟨rfl,I⟩;have K2:Kn (fun W=>Below w.heap.size w W/\W.heap[w.heap.size]? = some (.cells #[.string ⟨#[]⟩,.string ⟨#[]⟩] 27 (0,0))) w1:=G.below I;clear G I;go_wp2_with fail;refine (qdF t1 t2 w1).mono ?_;rintro e w2 ⟨rfl,J⟩;have K3:=K2.below J;clear K2 J;have HE:=qH (qA (qT _ _ _ #[.string t1,.string t2] _ _ K3.o.2) (qS K3.o.1 qN #[.string t1,.string t2]));rename_i hK;dsimp only;refine hK _ _ ?_
 go_wp2_with ((with_reducible refine sR_ rfl 27 _ _ rfl (w.heap.size) #[.string t1,.string t2] K3.o.2 2 ?_))
 exact qR (v:=.agg #[.string t1,.string t2]) (rA_ rfl (w.heap.size) HE.o.1 underlying27 2) rfl ⟨HE.o.2,rfl⟩
theorem short_1:Short 1:=qg1 ⟨by decide,by decide⟩
theorem meas_at {R n:Nat} {f:Nat->Nat->Rat} {b v x:Nat->Rat} {H:Option Addr} {g Y c:Nat} {E:Option Addr} {g2 c2:Nat} {F:Option Addr} {U c3:Nat} {G:Option Addr} {V c4:Nat} {w:World} (Z:1<=R) (h2:R<=40) (h3:1<=n) (h4:n<=10) (hf:∀i,i<R->qb3 n (f i)) (hb:qb3 R b) (hv:qb3 R v) (hx:qb3 n x) (O:∀i,i<R->0<=v i) (hT:TCells w H g Y (ttab R n f)) (hF:FCells w E g2 0 (told R b)) (I:FCells w F U 0 (told R v)) (J:FCells w G V 0 (told n x)) (hP:HasT w) :
  Calls prog 90 #[.slice H R c,.slice E R c2,.slice F R c3,.slice G n c4] w fun e w'=>(Short (msR R n f b v x)/\e=.returned (.tuple #[fstr (msR R n f b v x),.int .i64 0])\/¬Short (msR R n f b v x)/\e=.returned (.tuple #[.agg #[.string ⟨#[]⟩,.string ⟨#[]⟩],.int .i64 6]))/\Below w.heap.size w w' :=
 (qiK H g Y R c _ E g2 0 R c2 _ F U 0 R c3 _ G V 0 n c4 _ w (qcS _ _ _) (by omega) (qjj (by omega)) hT (qb1 _ _) (by omega) hF (qb1 _ _) (by omega) I (qb1 _ _) (by omega) J hP).mono fun _ _ h=>h.told Z h2 h3 h4 hf hb hv hx O
structure MBox (W:World) (mb:Nat) (m:Md) (N:Nat):Prop where
 ex:∃(a:Nat->Option Addr) (b o d:Nat->Nat),W.heap[mb]? = some (.cells #[.int .i64 m.kind,.int .i64 m.inn,.slice (a 0) N (d 0),.slice (a 1) N (d 1),.slice (a 2) N (d 2)] 46 (0,0))/\∀q,q<3->FCells W (a q) (b q) (o q) (m.row q)
theorem MBox.below {W W':World} {mb N:Nat} {m:Md} (h:MBox W mb m N) (E:Below W.heap.size W W'):MBox W' mb m N:=by
 obtain⟨a,b,o,d,F,G⟩:=h.ex;exact⟨a,b,o,d,zkeep E _ _ F,fun q H=>(G q H).below E⟩
instance stays_mbox {mb N:Nat} {m:Md}:Stays fun W=>MBox W mb m N:=⟨fun h E=>h.below E⟩
theorem MBox.tab {W:World} {mb N:Nat} {m:Md} (h:MBox W mb m N) (hN:∀q,q<3->(m.row q).length=N/\FAll (m.row q)):TCells W (some ⟨mb,2,none⟩) mb 2 (ttab 3 N fun q=>lval (m.row q)):=by
 obtain⟨a,b,o,d,F,G⟩:=h.ex;refine⟨fun _=>rfl,fun k E=>?_⟩;rw [qcS] at E;rw [qeD E,qb1];have e:told N (lval (m.row k))=m.row k:=by rw [<-(hN k E).1];exact (hN k E).2.eq_told.symm
 rw [e];refine⟨a k,b k,o k,d k,?_,G k E⟩;rcases (show k=0\/k=1\/k=2 by omega) with rfl | rfl | rfl
 ·exact qC _ _ 2 _ _ _ F
 ·exact qC _ _ 3 _ _ _ F
 ·exact qC _ _ 4 _ _ _ F
def sqq (m:Md) (l:List Pt) (E k:Nat):Rat:=msR 3 (many E (chans l)) (fun q=>lval (m.row q)) (fun q=>labq l q k) (fun _=>1) (tqf l E k)
theorem sq11_any (k F R pb ob mb b J c:Nat) (ao:Option Addr) (l:List Pt) (m:Md) (o1 o2:ByteArray) (ty aP:TypeId) (w:World) (hR:l.length=R) (hk:k<R) (aa:PtsOk l) (hM:MdOk m F (chans l)) (h1:(o1,o2)=ftxt 1) (av:w.heap[pb]? = some (.cells #[.slice ao R c] ty (0,0))) (aK:w.heap[ob]? = some (.cells #[.string o1,.string o2] aP (0,0)))
  (au:MBox w mb m (many F (chans l))) (hP:PCells w ao b J l) (hT:HasT w) :
  Calls prog 88 #[.int .i64 (k:Int),.pointer (some ⟨pb,0,none⟩),.pointer (some ⟨ob,0,none⟩),.pointer (some ⟨mb,0,none⟩)] w fun e w'=>Below w.heap.size w w' /\
   ((∃x y,e=.returned (.agg #[.string x,.string y])/\Short (sqq m l F k)/\(x,y)=ftxt (sqq m l F k))\/∃c,e=thrown c/\¬Short (sqq m l F k)/\c=6):=by
 have aU:=hP.addr (by omega);subst aU;have aT:R<=40:=hR▸aa.r2;obtain⟨W2,aB,K0⟩:=nw2 w #[.int .i64 (k:Int)] 3 #[.string ⟨#[]⟩,.string ⟨#[]⟩] 27;have K2:=K0.also (q:=fun W=>W.heap[pb]? = some (.cells #[.slice (some ⟨b,J,none⟩) R c] ty (0,0))/\W.heap[ob]? = some (.cells #[.string o1,.string o2] aP (0,0))/\MBox W mb m (many F (chans l))/\PCells W (some ⟨b,J,none⟩) b J l/\HasT W)
  ⟨zkeep K0.o.1 _ _ av,zkeep K0.o.1 _ _ aK,au.below K0.o.1,hP.below K0.o.1,hT.below K0.o.1⟩
 have aX:=@hmf_ prog;have hg:qj9 89 #[.pointer (some ⟨pb,0,none⟩),.pointer (some ⟨w.heap.size,0,none⟩)] W2 3 (fun q x=>x=ftxt (labq l q k)) (fun _ _=>False):=by
  intro q hq W hb;refine (qnH k q R pb w.heap.size b J c _ l _ _ W hR hk aT hq (zkeep hb _ _ K2.o.2.1) (zkeep hb _ _ K2.o.1.2.1) (K2.o.2.2.2.2.1.below hb) (aa.bound q k (by omega)) (K2.o.2.2.2.2.2.below hb)).mono ?_;rintro e w' ⟨h1,h2⟩;exact⟨h1,qax ⟨_,_,h2,rfl⟩⟩
 have HG:=qH (qei 89 #[.pointer (some ⟨pb,0,none⟩),.pointer (some ⟨w.heap.size,0,none⟩)] 3 (by decide) _ _ W2 (fun a W=>enters func89 (by kernel_rfl) (by kernel_rfl) _ W) hg);have E:=qH (qA hR (qA aa (qA hM h1)));have aJ:=(qG av).1;have aI:mb<w.heap.size:=by
  obtain⟨_,_,_,_,h2,_⟩:=au.ex;exact (qG h2).1
 have aH:b<w.heap.size:=qac _ _ (hP.cell k (by omega)).1;have af:=qH (qA aJ (qA aI aH));clear K0 hg av aK au hP hT hR aa hM h1 aJ aI aH;go_enter func88,ntmps88;go_upto_region 1 with fail;rw [<-aB];clear aB;go_wp2_with fail;refine HG.o.mono ?_;rintro e w3 ⟨aD,h⟩;have K3:=K2.below aD;rcases h with ⟨la,g3,aG,aO,rfl,ay,_⟩ | ⟨_,_,_,_,hF⟩
 case inr=>exact hF.elim
 have K4:=K3.also (q:=fun W=>FCells W (some ⟨g3,0,none⟩) g3 0 (told 3 fun q=>labq l q k)) (qic aG aO▸ay);clear K2 HG aG aO ay aD K3;have z0:=qC _ _ 0 _ _ _ K4.o.1.2.2.1;have z1:=qC _ _ 1 _ _ _ K4.o.1.2.2.1;obtain⟨W4,aC,N4⟩:=nw1 w3 #[.string o1,.string o2,.string o1,.string o2,.string o1,.string o2] 27;have ae:FCells W4 (some ⟨w3.heap.size,0,none⟩) w3.heap.size 0 (told 3 fun _=>1):=by
  have e:told 3 (fun _=>(1:Rat))=[(o1,o2),(o1,o2),(o1,o2)]:=by rw [E.o.2.2.2];rfl
  rw [e];exact FCells.ofRow N4.o.2
 have K5:=(K4.below N4.o.1).also (q:=fun W=>FCells W (some ⟨w3.heap.size,0,none⟩) w3.heap.size 0 (told 3 fun _=>1)) ae;clear K4 N4 ae;go_wp2_with fail;rw [<-aC];clear aC z0 z1;obtain⟨_,⟨ra,rb,ro,rc,d1,hN⟩,_⟩:=K5.o.1.1.2.2.2.2.1.cell k (by have:=E.o.1;omega);have Z:=(E.o.2.1.rows k (by have:=E.o.1;omega)).2;have Y:=(E.o.2.1.rows k (by have:=E.o.1;omega)).1.vals;obtain⟨n,hn⟩:=qX (chans l);rw [hn] at Z;rw [Z] at d1;obtain⟨a,b',o,d,H,_⟩:=K5.o.1.1.2.2.2.1.ex;obtain⟨kind,G⟩:∃z,m.kind=z:=⟨_,rfl⟩;rw [G] at H;have aW:=(qG K5.o.1.1.1.2.2).1;have O:=qH (qA Z (qA Y (qA hN (qA hn G))));have q0:=rowG (g0:=w.heap.size+1) H 0 (hne:=by have:=af.o.2.1;omega);have q1:=rowG (g0:=w.heap.size+1) K5.o.1.1.2.1 0 (hne:=by have:=af.o.1;omega);have q2:=rowG (g0:=w.heap.size+1) K5.o.1.1.1.2.1 0 (hne:=by omega);have q3:∀W,W4.grownBy W (some (w.heap.size+1))->W.cell? ⟨b,J+k*5+1,none⟩=some (.slice ra n rc):=fun W hg=>hg.cell d1 (fun e=>by have:=af.o.2.2;have:=qag e;simp at this;omega)
 have aV:(k:Int)<R:=by omega
 clear Z Y hN hn G H d1;refine wp_region_held_drew (S:=fun W=>W4.grownBy W (some (w.heap.size+1))) (by kernel_rfl) (keepB qB.drew) (fun hS0=>?_);refine hT 0 (h:=?_);refine hT 1 (h:=?_);refine hT 2 (h:=?_);refine hT 3 (h:=?_);refine hT 4 (h:=?_);refine hT 5 (h:=?_);refine hT 6 (h:=?_);refine hT 7 (h:=?_);refine hT 8 (h:=?_);refine hT 9 (h:=?_);refine hT 10 (h:=?_);refine hC 11 (qji kind F (by rw [<-O.o.2.2.2.2];exact E.o.2.2.1.kind) ra rb ro n rc (l.getD k pt0).dev W4.drew O.o.1 (by rw [<-O.o.2.2.2.1];exact E.o.2.1.n1) (by rw [<-O.o.2.2.2.1];exact E.o.2.1.n4) (fun e=>by have h3:=E.o.2.2.1.both;have h4:=E.o.2.1.n4;have:=O.o.2.2.2.1;omega) (O.o.2.2.1.below qB.drew) O.o.2.1 (K5.o.1.1.2.2.2.2.2.below qB.drew)) (h:=?_);rintro e w5 ⟨v5,rfl,aN,aF⟩;have ax:=qH (qcg aF);clear aF;obtain⟨a5,g5,c5,rfl,ag,_⟩:=aN.cells (n:=many F n) (by rw [qaD,qhb,O.o.1]);have az:W4.grownBy w5 (some (w.heap.size+1)):=keepB ax.o;have K6:=K5.below ax.o;have aM:(termL F (l.getD k pt0).dev).map ftxt=told (many F n) (tqf l F k):=by
  rw [<-O.o.1];exact (qhJ F (l.getD k pt0).dev).symm
 rw [aM] at ag;have aR:=qH ag;clear ag aN aM;refine⟨_,rfl,az,hN (h:=?_)⟩;have U:=qfP E.o.2.2.1.kind E.o.2.1.n1 E.o.2.1.n4 E.o.2.2.1.both;have ak:k<l.length:=by have:=E.o.1;omega
 have ah:=meas_at (c:=3) (c2:=3) (c3:=3) (c4:=c5) (by decide) (by decide) U.1 U.2 (f:=fun q=>lval (m.row q)) (b:=fun q=>labq l q k) (v:=fun _=>1) (x:=tqf l F k)
  (fun q hq=>by have:=(E.o.2.2.1.rows q hq).2.short;rw [(E.o.2.2.1.rows q hq).1] at this;exact this) (fun q hq=>E.o.2.1.labs k ak) (fun _ _=>short_1) (E.o.2.1.terms E.o.2.2.1.kind E.o.2.2.1.both k ak) (fun _ _=>by decide)
  (MBox.tab K6.o.1.1.2.2.2.1 E.o.2.2.1.rows) K6.o.1.2 K6.o.2 (by rw [O.o.2.2.2.1];exact aR.o) K6.o.1.1.2.2.2.2.2
 rw [O.o.2.2.2.1] at ah;have aS:=qH ah;clear ah U ak;refine hC 12 aS.o (h:=?_);rintro e w6 ⟨h,aj⟩;have aQ:=qH aj;have ai:=qco az aj;clear aj;have K7:=K6.below aQ.o;have aL:sqq m l F k=msR 3 (many F n) (fun q=>lval (m.row q)) (fun q=>labq l q k) (fun _=>1) (tqf l F k):=by unfold sqq;rw [O.o.2.2.2.1]
 rw [<-aL] at h;clear aL;obtain⟨y1,y2,hy⟩:=qcF (sqq m l F k);rcases h with ⟨V,rfl⟩ | ⟨V,rfl⟩
 ·rw [qeG,hy];have HS:=qH (qA V hy);clear V hy;refine⟨_,rfl,ai,hN (h:=?_)⟩;refine hT 13 (h:=?_);refine hT 14 (h:=?_);refine hC 15 (qdF y1 y2 w6) (h:=?_);rintro e w7 ⟨rfl,I⟩;have aA:=qco ai I;have K8:=K7.below I;clear I;refine⟨_,rfl,aA,hN (h:=?_)⟩;have HE:=qH (qA (qT _ _ _ #[.string y1,.string y2] _ _ K8.o.1.1.1.2.2) (qS K8.o.1.1.1.1 (show w.heap.size<=w.heap.size+1 by omega) #[.string y1,.string y2]));refine hSt 16 2 K8.o.1.1.1.2.2 (h:=⟨qbX aA (qce _ _ _),?_⟩);go_wp2_with fail;exact qR (v:=.agg #[.string y1,.string y2]) (rA_ rfl ((w.heap.size+1)) HE.o.1 underlying27 2) rfl ⟨HE.o.2,qax ⟨_,_,rfl,HS.o.1,HS.o.2.symm⟩⟩
 ·have HS:=qH V;clear V hy;refine⟨_,rfl,ai,hN (h:=?_)⟩;refine hT 13 (h:=?_);refine hT 14 (h:=?_);refine hCx 15 (qm5 ⟨#[]⟩ ⟨#[]⟩ 6 (by decide) w6) (h:=?_);rintro e w7 ⟨rfl,I⟩;have K8:=K7.below I;clear I;refine qam ⟨_,rfl,?_⟩;go_wp2_with fail;exact⟨rfl,K8.o.1.1.1.1,qam ⟨6,rfl,HS.o,rfl⟩⟩
def Up (l:List Nat):Prop:=l.Pairwise fun a b=>a<b
theorem Up.eq:∀{l E:List Nat},Up l->Up E->l.Perm E->l=E
 | [],_,_,_,h=>(List.Perm.nil_eq h)
 | a :: l,[],_,_,h=>absurd h.symm.nil_eq (by simp)
 | a :: l,b :: E,I,J,h=>by
  obtain⟨p1,p2⟩:=qbu.1 I;obtain⟨q1,q2⟩:=qbu.1 J;have G:a=b:=by
   have F:a∈b :: E:=h.mem_iff.1 (qa8 ..);have H:b∈a :: l:=h.mem_iff.2 (qa8 ..);rcases qav.1 F with e | F
   ·exact e
   ·rcases qav.1 H with e | H
    ·exact e.symm
    ·have:=p1 b H;have:=q1 a F;omega
  subst G;rw [Up.eq p2 q2 (List.Perm.cons_inv h)]
theorem qgm (n:Nat):Up (List.range n):=by
 unfold Up;rw [List.pairwise_iff_getElem];intro i j E F h
 simpa using h
theorem Up.nodup {l:List Nat} (h:Up l):l.Nodup:=h.imp fun h=>by omega
def qck (s:Nat->Rat) (n:Nat):List Nat:=isort (fun a b=>s a<s b) (List.range n)
def bestL (s:Nat->Rat) (n m:Nat):List Nat:=isort (fun a b=>a<b) ((qck s n).take m)
theorem qcD (s:Nat->Rat) (n:Nat):(qck s n).Perm (List.range n):=qdn _
theorem qcB (s:Nat->Rat) (n:Nat):(qck s n).length=n:=by rw [(qcD s n).length_eq,qbs]
theorem qlr (s:Nat->Rat) (n:Nat):(qck s n).Pairwise fun x y=>s x<=s y:=(qeI s n).imp fun h=>by grind
theorem qey (s:Nat->Rat) (n:Nat):(qck s n).Nodup:=(qcD s n).nodup_iff.2 (qgm n).nodup
theorem qdk (s:Nat->Rat) (n m:Nat):(bestL s n m).Perm ((qck s n).take m):=qdn _
theorem qfd {s:Nat->Rat} {n m:Nat} (h:m<=n):(bestL s n m).length=m:=by rw [(qdk s n m).length_eq,qao,qcB];omega
theorem qfe (s:Nat->Rat) (n m:Nat):Up (bestL s n m):=by
 have E:Ord (fun a b:Nat=>a<b) (bestL s n m):=qgB (fun a b c E F=>by omega) (fun a b h=>by omega) _;have F:(bestL s n m).Nodup:=(qdk s n m).nodup_iff.2 ((qey s n).sublist (List.take_sublist _ _));exact (List.pairwise_and_iff.2 ⟨E,F⟩).imp fun⟨E,F⟩=>by omega
theorem qke {s:Nat->Rat} {n m:Nat}:∀k∈bestL s n m,k<n:=fun k E=>by
 have:=(qdk s n m).mem_iff.1 E;exact qas.1 ((qcD s n).mem_iff.1 (qbd this))
theorem qlY (s:Nat->Rat) (n:Nat):bestL s n n=List.range n :=
 (qfe s n n).eq (qgm n) ((qdk s n n).trans (by rw [qah (by rw [qcB];exact qae _)];exact qcD s n))
def keepW (K:List Nat) (R:Nat):List Int:=(List.range R).map fun i=>if i∈K then 1 else 0
theorem qes (K:List Nat) (R:Nat):(keepW K R).length=R:=by unfold keepW;simp
theorem qkt {K:List Nat} {R i:Nat} (E:i<R):(keepW K R).getD i 0=if i∈K then 1 else 0:=by
 unfold keepW;rw [qaa,qaN,qbG E];rfl
theorem keepW_ok (K:List Nat) (R:Nat):WOk (keepW K R):=fun i E=>by
 rw [qes] at E;rw [qkt E];split <;> decide
def ExIs (l:List FT) (c:Int):Prop:=(40<l.length/\c=3)\/(l.length<=40/\¬FAll l/\c=20)\/(l.length<=40/\FAll l/\c=0)
theorem qgu (R b ag c:Nat) (ao:Option Addr) (l:List FT) (w:World) (hl:l.length=R) (hR:R<=4611686018427387904) (hF:FCells w ao b ag l) :
  Calls prog 37 #[.slice ao R c] w fun e w'=>∃z,e=.returned (.int .i64 z)/\ExIs l z/\Below w.heap.size w w':=by
 by_cases aa:40<R
 ·have hi:(R:Int) > 40:=by omega
  have HL:=qH hl;clear hF hl;go_enter func37,ntmps37;go_wp2;go_ret;exact⟨3,rfl,.inl ⟨by rw [HL.o];exact aa,rfl⟩,Below.refl _ _⟩
 have hi:¬(R:Int) > 40:=by omega
 have E:=qH (qA hF hl);clear hF hl;go_enter func37,ntmps37;go_wp2_with fail
 go_loopw [11] (fun x11 W=>∃k:Nat,x11=.int .i64 (k:Int)/\k<=R/\Hu (∀j,j<k->FOk (l.getD j fd0).1.data.toList (l.getD j fd0).2.data.toList)/\Hu (Below w.heap.size w W)) (fun x11 _=>R-(intOf x11).toNat)
 case atStart=>exact⟨0,rfl,qaj _,qH fun j Z=>absurd Z (Nat.not_lt_zero j),qH qB⟩
 case round =>
  obtain⟨k,rfl,hk,hS,hB⟩:=hrel
  by_cases F:k<R
  ·have af:(k:Int)<(R:Int):=by omega
   have ae:=E.o.1.addr (by rw [E.o.2];omega);subst ae;obtain⟨d0,d1⟩:=(E.o.1.below hB.o).cell k (by rw [E.o.2];exact F);obtain⟨s1,G⟩:∃s,(l.getD k fd0).1=s:=⟨_,rfl⟩;obtain⟨s2,H⟩:∃s,(l.getD k fd0).2=s:=⟨_,rfl⟩;rw [G] at d0;rw [H] at d1;obtain⟨W1,J,N1⟩:=nw1 wr #[.string s1,.string s2] 27;have Y:=qH (qA G H);clear G H;go_upto_region 6 with fail;rw [<-J];clear J d0 d1;have V:=N1.o.2
   go_wp2_with (first | (with_reducible refine lW_ rfl 27 _ rfl (wr.heap.size) #[.string s1,.string s2] V underlying27 2 ?_) | fail)
   refine (qeF s1 s2 W1).mono ?_;rintro e w2 ⟨z,rfl,hz,hb⟩;have I:=qH (hB.o.trans ((N1.o.1.trans (hb.mono N1.o.1.size)).mono hB.o.size));clear V hb N1;rcases hz with ⟨rfl,U⟩ | ⟨rfl,O⟩
   ·have HS:Hu (∀j,j<k+1->FOk (l.getD j fd0).1.data.toList (l.getD j fd0).2.data.toList):=qH fun j Z=>by
     by_cases e:j=k
     ·rw [e,Y.o.1,Y.o.2];exact U
     ·exact hS.o j (by omega)
    clear U;go_wp2;go_roundw
    case rel=>exact⟨k+1,by go_num,F,HS,I⟩
    case measure=>simp [intOf];omega
   ·have HN:=qH (show ¬FAll l from fun h=>O (by have:=h k (by rw [E.o.2];exact F);rwa [Y.o.1,Y.o.2] at this));clear O;go_wp2;go_ret;exact⟨20,rfl,.inr (.inl ⟨by rw [E.o.2];omega,HN.o,rfl⟩),I.o⟩
  ·obtain rfl:k=R:=by omega
   have af:¬(k:Int)<(k:Int):=by omega
   go_wp2;go_ret;exact⟨0,rfl,.inr (.inr ⟨by rw [E.o.2];omega,fun j Z=>hS.o j (by rw [<-E.o.2];exact Z),rfl⟩),hB.o⟩
def upL (n i:Nat):List Nat:=List.range i++List.replicate (n-i) 0
theorem upL_set {n i:Nat} (h:i<n):(upL n i).set i i=upL n (i+1):=by
 unfold upL;rw [qbb _ _ (by simp),qbs,qaM,show n-i=n-(i+1)+1 by omega,qbr,qbp,List.range_succ,qaE];rfl
theorem qie (n:Nat) (w:World) (O:n<=1000) :
  Calls prog 39 #[.int .i64 (n:Int)] w fun e U=>∃g,e=.returned (.slice (some ⟨g,0,none⟩) n n)/\NatR U w.heap.size g n n (List.range n)/\Below w.heap.size w U:=by
 have H:=fun W=>qhY n O W
 obtain⟨J,F,N1⟩:=nw1 w (madeCells #[.int .i64 0] n) 3;have V:Hu (NatR J w.heap.size w.heap.size n n (upL n 0)/\Below w.heap.size w J):=qH ⟨⟨by unfold upL;simp,by
  have h:=qjo (B:=w.heap.size) N1.o.2 qN O;have e:natI (upL n 0)=List.replicate n 0:=by unfold natI upL;simp
  rw [e];exact h⟩,N1.o.1⟩
 clear N1;go_enter func39,ntmps39;go_upto_region 2 with fail;rw [<-F];clear F H;go_wp2_with fail
 go_loopw [8] (fun x8 W=>∃i:Nat,x8=.int .i64 (i:Int)/\i<=n/\Hu (NatR W w.heap.size w.heap.size n n (upL n i)/\Below w.heap.size w W)) (fun x8 _=>n-(intOf x8).toNat)
 case atStart=>exact⟨0,rfl,qaj _,V⟩
 case round =>
  obtain⟨i,rfl,Z,hS⟩:=hrel
  by_cases E:i<n
  ·have G:(i:Int)<(n:Int):=by omega
   obtain⟨x,hx⟩:∃x,(upL n i)[i]? = some x:=⟨_,qad (by rw [hS.o.1.len];exact E)⟩;obtain⟨cx,fx⟩:=hS.o.1.at hx;have Y:=qH (qA (upL_set E▸hS.o.1.set E i) (qcP hS.o.2 (qb0 wr w.heap.size i (.int .i64 (i:Int))) qN));clear hx;go_wp2;go_roundw
   case rel=>exact⟨i+1,by go_num,E,Y⟩
   case measure=>simp [intOf];omega
  ·obtain rfl:i=n:=by omega
   have G:¬(i:Int)<(i:Int):=by omega
   have I:Hu (NatR wr w.heap.size w.heap.size i i (List.range i)/\Below w.heap.size w wr):=qH ⟨by have h:=hS.o.1;unfold upL at h;rw [qaM,List.replicate_zero,qbw] at h;exact h,hS.o.2⟩;go_wp2;go_ret;exact⟨_,rfl,I.o.1,I.o.2⟩
def cfL (l:List FT) (x y:Nat):Int:=cmp3 ((lval l x).num*((lval l y).den:Int) + -((lval l y).num*((lval l x).den:Int))) 0
theorem cfL_lt (l:List FT) (x y:Nat):cfL l x y<0↔lval l x<lval l y:=cmp_lt _ _
theorem qhC (l:List FT) (R b E c lb fb x y:Nat) (ao:Option Addr) (w:World) (hl:l.length=R) (hA:FAll l) (hx:x<R) (hy:y<R) (aa:w.heap[lb]? = some (.cells #[.slice ao R c] 22 (0,0))) (hF:FCells w ao b E l) :
  Calls prog 40 #[.int .i64 (x:Int),.int .i64 (y:Int),.pointer (some ⟨lb,0,none⟩),.pointer (some ⟨fb,0,none⟩)] w fun e w'=>e=.returned (.int .i64 (cfL l x y))/\Below w.heap.size w w':=by
 have ag:=hF.addr (by omega);subst ag;obtain⟨x0,x1⟩:=hF.cell x (by omega);obtain⟨y0,y1⟩:=hF.cell y (by omega);have V:=hA x (by omega);have Y:=hA y (by omega);have af:cfL l x y=cmp3 ((fval (l.getD x fd0).1.data.toList (l.getD x fd0).2.data.toList).num*((fval (l.getD y fd0).1.data.toList (l.getD y fd0).2.data.toList).den:Int) + -((fval (l.getD y fd0).1.data.toList (l.getD y fd0).2.data.toList).num*((fval (l.getD x fd0).1.data.toList (l.getD x fd0).2.data.toList).den:Int))) 0:=rfl;rw [af];clear af;obtain⟨s1,H⟩:∃s,(l.getD x fd0).1=s:=⟨_,rfl⟩;obtain⟨s2,I⟩:∃s,(l.getD x fd0).2=s:=⟨_,rfl⟩;obtain⟨t1,J⟩:∃s,(l.getD y fd0).1=s:=⟨_,rfl⟩;obtain⟨t2,O⟩:∃s,(l.getD y fd0).2=s:=⟨_,rfl⟩;rw [H,I,J,O];rw [H,I] at V;rw [J,O] at Y;rw [H] at x0;rw [I] at x1;rw [J] at y0;rw [O] at y1;clear H I J O hA hF hl;have G:=qac w _ x0;have b0:∀W,Below w.heap.size w W->W.cell? ⟨b,E+x*2,none⟩=some (.string s1):=fun W U=>(U.cell (p:=⟨b,E+x*2,none⟩) G).trans x0
 have b1:∀W,Below w.heap.size w W->W.cell? ⟨b,E+x*2+1,none⟩=some (.string s2):=fun W U=>(U.cell (p:=⟨b,E+x*2+1,none⟩) G).trans x1
 have b2:∀W,Below w.heap.size w W->W.cell? ⟨b,E+y*2,none⟩=some (.string t1):=fun W U=>(U.cell (p:=⟨b,E+y*2,none⟩) G).trans y0
 have b3:∀W,Below w.heap.size w W->W.cell? ⟨b,E+y*2+1,none⟩=some (.string t2):=fun W U=>(U.cell (p:=⟨b,E+y*2+1,none⟩) G).trans y1
 have ah:=(qG aa).1;have b4:=rowC (B:=w.heap.size) aa 0;have ai:(x:Int)<(R:Int):=by omega
 have aj:(y:Int)<(R:Int):=by omega
 have HC:=qH (qkj s1 s2 t1 t2 w.drew);have HK:=qH (qA V Y);clear V Y x0 x1 y0 y1 aa;obtain⟨Z,hZ⟩:=qX (cmp3 ((fval s1.data.toList s2.data.toList).num*((fval t1.data.toList t2.data.toList).den:Int) + -((fval t1.data.toList t2.data.toList).num*((fval s1.data.toList s2.data.toList).den:Int))) 0);rw [hZ];have HZ:=qH hZ;clear hZ;go_enter func40,ntmps40;go_wp2_with fail;refine wp_region_held_drew (S:=fun W=>Below w.heap.size w W) (by kernel_rfl) qB.drew (fun hS0=>?_);refine hT 0 (h:=hT 1 (h:=hT 2 (h:=hT 3 (h:=hT 4 (h:=hT 5 (h:=hT 6 (h:=hT 7 (h:=?_))))))));refine hC 8 HC.o (h:=?_);rintro e w2 ⟨⟨_,rfl⟩ | ⟨h,_⟩,ae⟩
 case inr=>exact absurd HK.o h
 rw [HZ.o];have F:=qcg ae;refine⟨_,rfl,F,hN (h:=?_)⟩;refine hT 9 (hS:=F) (h:=hT 10 (hS:=F) (h:=hT 11 (hS:=F) (h:=hT 12 (hS:=F) (h:=hT 13 (hS:=F) (h:=?_)))));refine wpAnyH_done (by kernel_rfl) ?_ _;have HE:=qH F;clear F ae hS0 b0 b1 b2 b3 b4;go_wp2;go_ret;exact⟨rfl,HE.o⟩
theorem NatR.cells {W:World} {B g n c:Nat} {d:List Nat} (h:NatR W B g n c d) {m:Nat} (_H:m<=n):NCells W (some ⟨g,0,none⟩) g 0 (natI (d.take m)):=⟨fun _=>rfl,fun k G=>by
 rw [qcE,qao] at G;have E:k<d.length:=by omega
 have hx:d[k]? = some d[k]:=qad E;have F:=(h.at hx).1;rw [qaR,qjU (x:=d[k]) (by rw [List.getElem?_take,if_pos (by omega)];exact hx)];exact F⟩
theorem NatR.mono {W:World} {B F g n c:Nat} {d:List Nat} (h:NatR W B g n c d) (hB:F<=B):NatR W F g n c d:=⟨h.len,by
 have E:=h.own;unfold IOwn at E ⊢;exact⟨E.1,E.2.imp id fun⟨g',cap,cur,e,G,r⟩=>⟨g',cap,cur,e,qal hB G,r⟩⟩⟩
def OrdAs (w:World) (l:List FT) (e:Ending) (E:World):Prop:=Below w.heap.size w E /\
  ((∃z,z≠0/\ExIs l z/\e=.returned (.tuple #[.slice none 0 0,.int .i64 z])) \/
   (ExIs l 0/\∃g,e=.returned (.tuple #[.slice (some ⟨g,0,none⟩) l.length l.length,.int .i64 0])/\NatR E w.heap.size g l.length l.length (qck (lval l) l.length)))
theorem qi0 (R b G c:Nat) (J:Option Addr) (l:List FT) (w:World) (hl:l.length=R) (hR:R<=4611686018427387904) (O:FAll l->R<20) (hF:FCells w J b G l) :
  Calls prog 13 #[.slice J R c] w fun e w'=>OrdAs w l e w':=by
 obtain⟨W1,Y,N1⟩:=nw1 w #[.slice J R c] 22;have HE:=qH (qgu R b G c J l W1 hl hR (hF.below N1.o.1));have H:=qH (qA hF (qA hl O));have c0:=qC _ _ 0 _ _ _ N1.o.2;clear hF hl O;go_enter func13,ntmps13;go_upto_region 1 with fail;rw [<-Y];clear Y;go_wp2_with fail;refine HE.o.mono ?_;rintro e w2 ⟨z,rfl,hz,hb⟩;have K2:=N1.below hb;have HZ:=qH hz;clear hb hz c0 HE N1
 by_cases E:z=0
 case neg =>
  have ag:(z == (0:Int))=false:=beq_false_of_ne E;have ai:(z != (0:Int))=true:=by rw [bne,ag];rfl
  have HN:=qH E;clear E;go_wp2_with fail
  go_ret2
  exact⟨K2.o.1,.inl ⟨z,HN.o,HZ.o,rfl⟩⟩
 subst E;have hA:FAll l/\R<20:=by
  rcases HZ.o with ⟨_,h⟩ | ⟨_,_,h⟩ | ⟨_,h,_⟩
  ·cases h
  ·cases h
  ·exact⟨h,H.o.2.2 h⟩
 have V:=hA.2;have HA:=qH hA.1;clear hA;obtain⟨W3,Z,N3⟩:=nw1 w2 #[.int .i64 0] 31;have K3:=(K2.below N3.o.1).also (q:=fun W=>W.heap[w2.heap.size]? = some (.cells #[.int .i64 0] 31 (0,0))) N3.o.2;have c1:=qC _ _ 0 _ _ _ K3.o.1.2;have ah:w.heap.size<w2.heap.size:=(qG K2.o.2).1;clear N3 K2;go_upto_region 5 with fail;rw [<-Z];clear Z;go_wp2_with fail;refine (qie R W3 (by omega)).mono ?_;rintro e w4 ⟨g4,rfl,F,aa⟩;have I:=(K3.below aa).also (q:=fun W=>NatR W W3.heap.size g4 R R (List.range R)) F;have af:=@hmf_ prog;have HS:=qH (qhH (fun a b=>lval l a<lval l b) (fun a b c h1 h2=>by grind) (fun a b h=>by grind) (cfL l) 40 #[.pointer (some ⟨w.heap.size,0,none⟩),.pointer (some ⟨w2.heap.size,0,none⟩)] (some ⟨g4,0,none⟩) g4 0 R R (List.range R) w4 (fun x _ y _=>cfL_lt l x y) V qbs (by
   have h:=F.cells (m:=R) qN
   rwa [qah (by simp)] at h) (fun a b W=>enters func40 (by kernel_rfl) (by kernel_rfl) _ W) (fun W hb x hx y hy=>qhC l R b G c w.heap.size w2.heap.size x y J W H.o.2.1 HA.o (qas.1 hx) (qas.1 hy) (zkeep hb _ _ I.o.1.1.2) (H.o.1.below (I.o.1.1.1.trans (hb.mono I.o.1.1.1.size)))))
 clear aa F c1 K3;go_wp2_with fail;refine HS.o.mono ?_;rintro e w5 ⟨g5,rfl,U,ae⟩;have K5:=I.below ae;have c5:=qC _ _ 0 _ _ _ K5.o.1.2;have HN:=qH (U.mono (qal I.o.1.1.1.size qN));clear ae U HS af;go_wp2_with fail
 go_ret2
 refine⟨K5.o.1.1.1,.inr ⟨HZ.o,g5,by rw [H.o.2.1];rfl,?_⟩⟩;rw [H.o.2.1];exact HN.o
theorem qio (x y:Nat) (w:World) (hx:x<1000) (hy:y<1000) :
  Calls prog 44 (#[.int .i64 (x:Int),.int .i64 (y:Int)]++#[]) w fun e E=>e=.returned (.int .i64 ((x:Int)-(y:Int)))/\Below w.heap.size w E:=by
 have F:IntKind.i64.wrap ((x:Int)-(y:Int))=(x:Int)-(y:Int):=by rw [IntKind.wrap_i64];omega
 go_enter func44,ntmps44;go_wp2;go_ret;exact⟨rfl,Below.refl _ _⟩
def qgo (w:World) (l:List FT) (m:Int) (e:Ending) (E:World):Prop:=Below w.heap.size w E /\
  ((∃z,z≠0/\ExIs l z/\e=.returned (.tuple #[.slice none 0 0,.int .i64 z])) \/
   (ExIs l 0/\¬(0<=m/\m<=l.length)/\e=.returned (.tuple #[.slice none 0 0,.int .i64 2])) \/
   (ExIs l 0/\∃g k:Nat,m=(k:Int)/\k<=l.length/\e=.returned (.tuple #[.slice (some ⟨g,0,none⟩) k k,.int .i64 0])/\NatR E w.heap.size g k k (bestL (lval l) l.length k)))
theorem qhM (R b Z c:Nat) (m:Int) (ao:Option Addr) (l:List FT) (w:World) (hl:l.length=R) (hR:R<=4611686018427387904) (G:FAll l->R<20) (hF:FCells w ao b Z l) :
  Calls prog 16 #[.slice ao R c,.int .i64 m] w fun e w'=>qgo w l m e w':=by
 have HO:=qH (qi0 R b Z c ao l w hl hR G hF);have J:=qH (qA hl G);clear hF hl G;go_enter func16,ntmps16;go_wp2_with fail;refine HO.o.mono ?_;rintro e w2 ⟨hb,⟨z,H,I,rfl⟩ | ⟨I,g,rfl,hN⟩⟩
 ·have aa:(z == (0:Int))=false:=beq_false_of_ne H;have ag:(z != (0:Int))=true:=by rw [bne,aa];rfl
  have E:=qH (qA H (qA I hb));clear H I hb HO;go_wp2_with fail
  go_ret2
  exact⟨E.o.2.2,.inl ⟨z,E.o.1,E.o.2.1,rfl⟩⟩
 have hA:FAll l:=by
  rcases I with ⟨_,h⟩ | ⟨_,_,h⟩ | ⟨_,h,_⟩
  ·cases h
  ·cases h
  ·exact h
 have ae:=J.o.2 hA;rw [J.o.1] at hN ⊢;have E:=qH (qA hN (qA hb I));clear hb I hN HO hA
 by_cases h0:m<0
 ·have O:=qH h0;clear O;have O:Hu (¬(0<=m/\m<=(l.length:Int))):=qH fun h=>by have:=h.1;omega
  go_wp2_with fail
  go_ret2
  exact⟨E.o.2.1,.inr (.inl ⟨E.o.2.2,O.o,rfl⟩)⟩
 by_cases h1:m > (R:Int)
 ·have O:Hu (¬(0<=m/\m<=(l.length:Int))):=qH fun h=>by have:=h.2;rw [J.o.1] at this;omega
  go_wp2_with fail
  go_ret2
  exact⟨E.o.2.1,.inr (.inl ⟨E.o.2.2,O.o,rfl⟩)⟩
 obtain⟨k,rfl⟩:∃k:Nat,m=(k:Int):=⟨m.toNat,by omega⟩;have Y:k<=R:=by omega
 have af:(k:Int)<=(R:Int):=by omega
 have F:∀x∈(qck (lval l) R).take k,x<1000:=fun x hx=>by
  have:=qas.1 ((qcD (lval l) R).mem_iff.1 (qbd hx));omega
 have HS:=qH (qhH (fun a b=>a<b) (fun a b c h1 h2=>by omega) (fun a b h=>by omega) (fun a b=>(a:Int)-(b:Int)) 44 #[] (some ⟨g,0,none⟩) g 0 k R ((qck (lval l) R).take k) w2 (fun x _ y _=>by omega) (by omega) (by rw [qao,qcB];omega) (E.o.1.cells Y) (fun a b W=>enters func44 (by kernel_rfl) (by kernel_rfl) _ W) (fun W _ x hx y hy=>qio x y W (F x hx) (F y hy)));clear F;go_wp2_with fail;refine HS.o.mono ?_;rintro e w5 ⟨g5,rfl,U,V⟩;have HE:=qH (qA (U.mono E.o.2.1.size) (E.o.2.1.trans (V.mono E.o.2.1.size)));clear U V HS;go_wp2_with fail
 go_ret2
 refine⟨HE.o.2,.inr (.inr ⟨E.o.2.2,g5,k,rfl,by rw [J.o.1];exact Y,rfl,?_⟩)⟩;rw [J.o.1];exact HE.o.1
theorem FCells.keepB {W W':World} {a:Option Addr} {b E g:Nat} {l:List FT} {cs:Array Value} {O:TypeId} (h:FCells W a b E l) (H:W.grownBy W' (some g)) (hg:W.heap[g]? = some (.cells cs O (0,0))) (J:∀y∈cs.toList,∀s,y≠.string s):FCells W' a b E l:=by
 refine⟨h.addr,fun k G=>?_⟩;obtain⟨F,I⟩:=h.cell k G;have hne:some b≠some g:=fun e=>by
  have:=qag e;subst this;rw [qC _ _ _ _ _ _ hg] at F;exact J _ (List.mem_of_getElem? ((Array.getElem?_toList ..).trans F)) _ rfl
 exact⟨H.cell F hne,H.cell I hne⟩
theorem MdAt.keepB {W W':World} {v:Value} {m:Md} {g:Nat} {cs:Array Value} {J:TypeId} (h:MdAt W v m) (E:W.grownBy W' (some g)) (hg:W.heap[g]? = some (.cells cs J (0,0))) (F:∀y∈cs.toList,∀s,y≠.string s):MdAt W' v m:=by
 obtain⟨a0,a1,a2,b0,o0,c0,b1,o1,c1,b2,o2,c2,rfl,G,H,I⟩:=h;exact⟨a0,a1,a2,b0,o0,c0,b1,o1,c1,b2,o2,c2,rfl,G.keepB E hg F,H.keepB E hg F,I.keepB E hg F⟩
theorem qkg (i j:Int) (a b c:Option Addr) (n1 n2 H E F G:Nat):∀y∈(#[.int .i64 i,.int .i64 j,.slice a n1 E,.slice b n2 F,.slice c H G]:Array Value).toList,∀s,y≠.string s:=by
 intro y hy s;simp only [qav,List.not_mem_nil,or_false] at hy;rcases hy with rfl | rfl | rfl | rfl | rfl <;> intro h <;> cases h
theorem qnl {l:List Pt} (h:PtsOk l) {m:Nat} (H:l.length=m):∀q,q<m->(l.getD q pt0).name.size<=4611686018427387904/\(l.getD q pt0).dev.length<=4611686018427387904:=fun q I=>by
 have E:=(h.rows q (by omega)).1;have F:=E.name.2.1;have G:=E.n4;exact⟨by omega,by omega⟩
instance stays_iow {B:Nat} {v:Value} {l:List Int}:Stays fun W=>IOwn W B v l:=⟨fun h E=>own_below h E⟩
def keptF (K:List Nat):Lit->Value
 | .int .i64 z=>.bool (decide (∃x,x∈K/\(x:Int)=z))
 | _=>.bool false
theorem qmM:∀E,(Value.bool false)=keptF [] E:=fun E=>by
 unfold keptF;split
 ·rw [qU (by rintro ⟨x,h,_⟩;exact absurd h (by simp))]
 ·rfl
theorem qjJ (K:List Nat) (k:Nat):∀x,x≠Lit.int .i64 (k:Int)->keptF (K++[k]) x=keptF K x:=fun x hx=>by
 unfold keptF;split
 ·rename_i z
  congr 1
  rw [decide_eq_decide]
  constructor
  ·rintro ⟨y,h,e⟩;rcases qaI.1 h with h | h
   ·exact⟨y,h,e⟩
   ·rw [qan.1 h] at e;exact absurd (by rw [e]) hx
  ·rintro ⟨y,h,e⟩;exact⟨y,List.mem_append_left _ h,e⟩
 ·rfl
theorem qmL (K:List Nat) (k:Nat):keptF (K++[k]) (.int .i64 (k:Int))=.bool true:=by
 unfold keptF;exact congrArg Value.bool (qV ⟨k,by simp,rfl⟩)
theorem keptF_at (K:List Nat) (i:Nat):keptF K (.int .i64 (i:Int))=.bool (decide (i∈K)):=by
 unfold keptF;refine congrArg Value.bool (decide_eq_decide.2 ⟨?_,fun h=>⟨i,h,rfl⟩⟩);rintro ⟨x,h,e⟩;have:x=i:=by omega
 rwa [this] at h
def keepM (K:List Nat) (R i:Nat):List Int:=(List.range R).map fun j=>if j<i/\j∈K then 1 else 0
theorem qld (K:List Nat) (R:Nat):keepM K R 0=List.replicate R 0:=by
 unfold keepM;refine List.ext_getElem (by simp) fun j E F=>?_
 simp
theorem qmH (K:List Nat) (R:Nat):keepM K R R=keepW K R:=by
 unfold keepM keepW;refine List.map_congr_left fun j E=>?_
 have:=qas.1 E
 by_cases h:j∈K
 ·rw [if_pos ⟨this,h⟩,if_pos h]
 ·rw [if_neg fun e=>h e.2,if_neg h]
theorem qmI (K:List Nat) (R i:Nat):(keepM K R i).length=R:=by unfold keepM;simp
theorem qmJ {K:List Nat} {R i:Nat} (_I:i<R) (h:i∈K):(keepM K R i).set i 1=keepM K R (i+1):=by
 unfold keepM;refine List.ext_getElem (by simp) fun j H G=>?_
 rw [List.getElem_set];simp only [qaD,qbs] at G;simp only [List.getElem_map,List.getElem_range]
 by_cases e:i=j
 ·subst e;rw [if_pos rfl,if_pos ⟨Nat.lt_succ_self _,h⟩]
 ·rw [if_neg e]
  by_cases E:j∈K
  ·by_cases F:j<i
   ·rw [if_pos ⟨F,E⟩,if_pos ⟨by omega,E⟩]
   ·rw [if_neg fun e=>F e.1,if_neg fun e=>by have:=e.1;omega]
  ·rw [if_neg fun e=>E e.2,if_neg fun e=>E e.2]
theorem qlc {K:List Nat} {R i:Nat} (h:i∉K):keepM K R i=keepM K R (i+1):=by
 unfold keepM;refine List.map_congr_left fun j _=>?_
 by_cases E:j∈K
 ·have hne:j≠i:=fun e=>h (e▸E)
  by_cases F:j<i
  ·rw [if_pos ⟨F,E⟩,if_pos ⟨by omega,E⟩]
  ·rw [if_neg fun e=>F e.1,if_neg fun e=>by have:=e.1;omega]
 ·rw [if_neg fun e=>E e.2,if_neg fun e=>E e.2]
theorem qkw (R b az c kb ko kc n:Nat) (kind:Int) (Z ka:Option Addr) (l:List Pt) (K:List Nat) (w:World) (hR:l.length=R) (ah:R<=1000) (hs:∀k,k<R->(l.getD k pt0).name.size<=4611686018427387904/\(l.getD k pt0).dev.length<=4611686018427387904) (hn:K.length=n) (aO:n<=1000)
  (af:∀x∈K,x<1000) (hP:PCells w Z b az l) (hK:NCells w ka kb ko (natI K)) (hT:HasT w) :
  Calls prog 104 #[.agg #[.slice Z R c,.int .i64 kind],.slice ka n kc] w fun e w'=>FitAs w l kind (keepW K R) e w':=by
 obtain⟨O,ai,N1⟩:=nw2 w #[.slice Z R c,.int .i64 kind] 114 #[.int .i64 0,.int .i64 0,.slice none 0 0,.slice none 0 0,.slice none 0 0] 46;have I:=qH (qA hP (qA hK (qA hT (qA hR (qA hs (qA hn af))))));have aH:=@run_makeMap prog;obtain⟨W2,V⟩:=qY (O.alloc (.map #[] 0));have aa:Below O.heap.size O W2:=V▸qB.alloc qN _;have K2:=(N1.below aa).also (q:=fun W=>MapAt W prog 3 O.heap.size 0 (.bool false) (keptF (K.take 0))) (V▸(MapAt.made O prog 3 (.bool false)).congr fun kl _=>by rw [List.take_zero];exact qmM kl);have av:Maps.Keyed prog 3:=Maps.int_keyed underlying3;have ay:Tryz.prog.underlying 251=some (.map 3 4):=underlying251;have aQ:w.heap.size+1<O.heap.size:=(qG N1.o.2.2).1;have HU:=qH (qA av ay);have aM:=qH N1.o.1;clear hP hK hT hR hs hn af av ay N1 aa;go_enter func104,ntmps104;go_upto_region 1 with fail;rw [<-ai];clear ai;go_upto_region 2 with fail;rw [<-V];clear V aH;go_wp2_with fail
 go_loopw [14] (fun x14 W=>∃i:Nat,x14=.int .i64 (i:Int)/\i<=n/\Kn (fun W=>(Below w.heap.size w W/\W.heap[w.heap.size]? = some (.cells #[.slice Z R c,.int .i64 kind] 114 (0,0))/\W.heap[w.heap.size+1]? = some (.cells #[.int .i64 0,.int .i64 0,.slice none 0 0,.slice none 0 0,.slice none 0 0] 46 (0,0)))/\MapAt W prog 3 O.heap.size i (.bool false) (keptF (K.take i))) W) (fun x14 _=>n-(intOf x14).toNat)
 case atStart=>exact⟨0,rfl,qaj _,K2⟩
 case round =>
  obtain⟨i,rfl,hi,J⟩:=hrel
  by_cases ae:i<n
  ·have aB:(i:Int)<(n:Int):=by omega
   have aD:=I.o.2.1.addr (by rw [qcE,I.o.2.2.2.2.2.1];omega);subst aD;have ck:=(I.o.2.1.below J.o.1.1).cell i (by rw [qcE,I.o.2.2.2.2.2.1];exact ae);have ax:i<K.length:=by rw [I.o.2.2.2.2.2.1];exact ae
   obtain⟨x,hx⟩:∃x,K[i]? = some x:=⟨_,qad ax⟩;rw [qjU hx] at ck;have aL:=I.o.2.2.2.2.2.2 x (List.mem_of_getElem? hx);obtain⟨W7,aP,f7,g7⟩:=J.o.2.store HU.o.1 HU.o.2 (by unfold maxLen;omega) (Maps.keyOf_int_mk (q:=.i64) (a:=(x:Int)) underlying3 (by simp [Lit.wf,IntKind.min,IntKind.max,IntKind.signed,IntKind.bits];omega)) (.bool true);have ht:K.take (i+1)=K.take i++[x]:=by rw [qbJ,hx];rfl
   have m7:=f7 (keptF (K.take (i+1))) (by rw [ht];exact qmL _ _) (by rw [ht];exact qjJ _ _);have ak:=(qG J.o.1.2.1).1;have au:=(qG J.o.1.2.2).1;have K7:=qH (show Kn (fun W=>(Below w.heap.size w W/\W.heap[w.heap.size]? = some (.cells #[.slice Z R c,.int .i64 kind] 114 (0,0))/\W.heap[w.heap.size+1]? = some (.cells #[.int .i64 0,.int .i64 0,.slice none 0 0,.slice none 0 0,.slice none 0 0] 46 (0,0)))/\MapAt W prog 3 O.heap.size (i+1) (.bool false) (keptF (K.take (i+1)))) W7 from .of ⟨⟨qcP J.o.1.1 g7 (by omega),(g7.block _ ak (fun e=>by have:=qag e;omega)).trans J.o.1.2.1,(g7.block _ au (fun e=>by have:=qag e;omega)).trans J.o.1.2.2⟩,m7⟩);clear m7 f7 g7 ht ak au hx ax aL;go_wp2;go_roundw
   case rel=>exact⟨i+1,by go_num,ae,K7.o⟩
   case measure=>simp [intOf];omega
  ·obtain rfl:i=n:=by omega
   have aB:¬(i:Int)<(i:Int):=by omega
   have aG:=fun W=>qhY R ah W
   obtain⟨E,aK⟩:=qY wr;subst aK;obtain⟨W4,aj,N4⟩:=nw1 E (madeCells #[.int .i64 0] R) 3;have ag:IOwn W4 E.heap.size (.slice (some ⟨E.heap.size,0,none⟩) R R) (keepM K R 0):=by
    rw [qld];exact qjo N4.o.2 qN ah
   have K4:=(J.below N4.o.1).also (q:=fun W=>Below E.heap.size E W/\IOwn W E.heap.size (.slice (some ⟨E.heap.size,0,none⟩) R R) (keepM K R 0)) ⟨N4.o.1,ag⟩;have c0:=qC _ _ 0 _ _ _ J.o.1.2.1;clear N4 ag;go_upto_region 8 with fail;rw [<-aj];clear aj aG c0;go_wp2_with fail
   go_loopw [27] (fun x27 W=>∃j:Nat,x27=.int .i64 (j:Int)/\j<=R/\Kn (fun W=>((Below w.heap.size w W/\W.heap[w.heap.size]? = some (.cells #[.slice Z R c,.int .i64 kind] 114 (0,0))/\W.heap[w.heap.size+1]? = some (.cells #[.int .i64 0,.int .i64 0,.slice none 0 0,.slice none 0 0,.slice none 0 0] 46 (0,0)))/\MapAt W prog 3 O.heap.size i (.bool false) (keptF (K.take i)))/\Below E.heap.size E W/\IOwn W E.heap.size (.slice (some ⟨E.heap.size,0,none⟩) R R) (keepM K R j)) W) (fun x27 _=>R-(intOf x27).toNat)
   case atStart=>exact⟨0,rfl,qaj _,K4⟩
   case round =>
    obtain⟨j,rfl,hj,F⟩:=hrel
    by_cases Y:j<R
    ·have aC:(j:Int)<(R:Int):=by omega
     have G:=F.o.1.2.look HU.o.1 HU.o.2 (by kernel_rfl) (Maps.keyOf_int_mk (q:=.i64) (a:=(j:Int)) underlying3 (by simp [Lit.wf,IntKind.min,IntKind.max,IntKind.signed,IntKind.bits];omega));have aJ:K.take i=K:=qah (by rw [I.o.2.2.2.2.2.1];exact qae _);rw [aJ,keptF_at] at G
     by_cases H:j∈K
     ·rw [qV H] at G;obtain⟨g',e',aA,⟨hc,hf⟩,U⟩:=IOwn.set F.o.2.2 (i:=j) (by rw [qmI];exact Y) 1;obtain rfl:E.heap.size=g':=by injection e' with e;injection e
      rw [qmJ Y H] at U;have hk:=qb0 wr E.heap.size j (.int .i64 1);have aF:=(qG F.o.1.1.2.1).1;have aR:O.heap.size<E.heap.size:=J.o.2.lt;have KN:=qH (show Kn (fun W=>((Below w.heap.size w W/\W.heap[w.heap.size]? = some (.cells #[.slice Z R c,.int .i64 kind] 114 (0,0))/\W.heap[w.heap.size+1]? = some (.cells #[.int .i64 0,.int .i64 0,.slice none 0 0,.slice none 0 0,.slice none 0 0] 46 (0,0)))/\MapAt W prog 3 O.heap.size i (.bool false) (keptF (K.take i)))/\Below E.heap.size E W/\IOwn W E.heap.size (.slice (some ⟨E.heap.size,0,none⟩) R R) (keepM K R (j+1))) (wr.setCell ⟨E.heap.size,j,none⟩ (.int .i64 1)) from (J.below (F.o.2.1.setCell (p:=⟨E.heap.size,j,none⟩) qN _)).also ⟨F.o.2.1.setCell (p:=⟨E.heap.size,j,none⟩) qN _,U⟩);clear U aA hk aF H;go_wp2;go_roundw
      case rel=>exact⟨j+1,by go_num,Y,KN.o⟩
      case measure=>simp [intOf];omega
     ·rw [qU H] at G;have KN:=qH (show IOwn wr E.heap.size (.slice (some ⟨E.heap.size,0,none⟩) R R) (keepM K R (j+1)) from qlc H▸F.o.2.2);clear H;go_wp2;go_roundw
      case rel=>exact⟨j+1,by go_num,Y,.of ⟨F.o.1,F.o.2.1,KN.o⟩⟩
      case measure=>simp [intOf];omega
    ·obtain rfl:j=R:=by omega
     have aC:¬(j:Int)<(j:Int):=by omega
     have c0:=qC _ _ 0 _ _ _ F.o.1.1.2.1;have c1:=qC _ _ 1 _ _ _ F.o.1.1.2.1;have hN:NCells wr (some ⟨E.heap.size,0,none⟩) E.heap.size 0 (keepW K j):=by
      have h:=F.o.2.2;rw [qmH] at h;rcases qaU j with e | e
      ·subst e;exact⟨fun _=>rfl,fun k hk=>absurd hk (by rw [qes];omega)⟩
      ·obtain⟨g',c',e1,h2⟩:=IOwn.cells h (by rw [qes];exact e);obtain rfl:E.heap.size=g':=by injection e1 with e1;injection e1 with e1;injection e1
       exact h2
     have HF:=qH (fit_any j b az c E.heap.size 0 j j Z (some ⟨E.heap.size,0,none⟩) l kind (keepW K j) wr I.o.2.2.2.1 (by omega) I.o.2.2.2.2.1 (qes _ _) (by omega) (I.o.1.below F.o.1.1.1) hN (I.o.2.2.1.below F.o.1.1.1));clear hN;go_wp2_with fail;refine HF.o.mono ?_;intro e w8 hA;have K8:=F.below hA.1;have hz:=K8.o.1.1.2.2;have aN:=qH (show w.heap.size<=wr.heap.size from F.o.1.1.1.size);obtain⟨v,cc,rfl,aI⟩:∃(v:Value) (cc:Int),e=.returned (.tuple #[v,.int .i64 cc])/\∃(k5 i5:Int) (A0 A1 A2:Option Addr) (L0 C0 L1 C1 L2 C2:Nat),v=.agg #[.int .i64 k5,.int .i64 i5,.slice A0 L0 C0,.slice A1 L1 C1,.slice A2 L2 C2]:=by
      rcases hA.2 with ⟨v,rfl,_,_,_,k,_,_,_,x,_,hM⟩ | ⟨cc,rfl,_⟩
      ·obtain⟨a0,a1,a2,b0,o0,c0,b1,o1,c1,b2,o2,c2,rfl,_⟩:=hM;exact⟨_,0,rfl,_,_,_,_,_,_,_,_,_,_,_,rfl⟩
      ·exact⟨mdv0,cc,rfl,0,0,none,none,none,0,0,0,0,0,0,rfl⟩
     obtain⟨k5,i5,A0,A1,A2,L0,C0,L1,C1,L2,C2,rfl⟩:=aI;have HA:=qH hA;clear hA c0 c1 HF;rename_i hK;dsimp only;refine hK _ _ ?_
     go_wp2_with (first | (with_reducible refine sR_ rfl 46 _ _ rfl (w.heap.size+1) #[.int .i64 k5,.int .i64 i5,.slice A0 L0 C0,.slice A1 L1 C1,.slice A2 L2 C2] hz 5 ?_) | fail)
     refine qR (v:=.tuple #[.agg #[.int .i64 k5,.int .i64 i5,.slice A0 L0 C0,.slice A1 L1 C1,.slice A2 L2 C2],.int .i64 cc]) (rB_ rfl (w.heap.size+1) (qT _ _ _ _ _ _ hz) underlying46 5) rfl ?_;refine⟨qS K8.o.1.1.1 (qbc _) _,?_⟩;rcases HA.o.2 with ⟨v,e,hG⟩ | ⟨cc',e,hf⟩
     ·refine .inl ⟨v,e,?_⟩;obtain⟨h1,h2,h3,k,h4,h5,h6,x,hx,hM⟩:=hG;exact⟨h1,h2,h3,k,h4,h5,h6,x,hx,hM.keepB (qce _ _ _) hz (by
       intro y hy s;simp only [qav,List.not_mem_nil,or_false] at hy;rcases hy with rfl | rfl | rfl | rfl | rfl <;> intro h <;> cases h)⟩
     ·exact .inr ⟨cc',e,hf⟩
