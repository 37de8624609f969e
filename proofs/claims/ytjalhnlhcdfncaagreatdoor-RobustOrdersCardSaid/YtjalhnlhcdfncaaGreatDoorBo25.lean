import Derived.Test.YtjalhnlhcdfncaaGreatDoorBo22
import Derived.Test.YtjalhnlhcdfncaaGreatDoorBo23
import Derived.Test.YtjalhnlhcdfncaaGreatDoorBo24
set_option maxRecDepth 100000
set_option maxHeartbeats 0
namespace Go.Proofs.YtjalhnlhcdfncaaGreatDoor
open Go.RowKit Go.Proofs.Tryz
def FitI (l:List Pt) (k:Nat) (H:List Int) (_i:Nat) (kind:Int) (n:Nat) (F:World) (M:Nat) (W:World) (j:Nat):Prop :=
 ∃(E:List Value) (t:Tbl) (x:Nat->Nat->Rat),E.length=j/\VRow W M 5 (.slice none 0 0) 46 (.int .i64 kind :: .int .i64 n :: E)/\RVals W E t /\
  (∀q,q<j->t.getD q []=told (many k (chans l)) (x q)/\FitX l k H q (x q)/\qb9 (many k (chans l)) (x q))/\(0<j->¬Sing (many k (chans l)) (nq l k H 0))/\Below F.heap.size F W
theorem fit1_any (R b off c pb kb wb b2 ae n2 c2:Nat) (ao a2:Option Addr) (l:List Pt) (kind:Int) (H:List Int) (ty aC aD:TypeId) (w:World) (hR:l.length=R) (hl:R<=4611686018427387904) (hs:∀k,k<R->(l.getD k pt0).name.size<=4611686018427387904/\(l.getD k pt0).dev.length<=4611686018427387904)
  (bv:H.length=n2) (aB:n2<=4611686018427387904) (bC:w.heap[pb]? = some (.cells #[.slice ao R c] ty (0,0))) (bn:w.heap[kb]? = some (.cells #[.int .i64 kind] aC (0,0))) (bE:w.heap[wb]? = some (.cells #[.slice a2 n2 c2] aD (0,0)))
  (hP:PCells w ao b off l) (hN:NCells w a2 b2 ae H) (hT:HasT w) :
  Calls prog 62 #[.pointer (some ⟨pb,0,none⟩),.pointer (some ⟨kb,0,none⟩),.pointer (some ⟨wb,0,none⟩)] w fun e w'=>Below w.heap.size w w' /\
   ((∃(i0 i1:Int) (p0:Option Addr) (n0 c0:Nat) (p1:Option Addr) (n1 c1:Nat) (p2:Option Addr) (n2 c2:Nat),e=.returned (.agg #[.int .i64 i0,.int .i64 i1,.slice p0 n0 c0,.slice p1 n1 c1,.slice p2 n2 c2])/\FitG l kind H w' (.agg #[.int .i64 i0,.int .i64 i1,.slice p0 n0 c0,.slice p1 n1 c1,.slice p2 n2 c2])) \/
    ∃c,e=thrown c/\FitF l kind H c):=by
 obtain⟨W1,aU,K0⟩:=nw1 w #[.int .i64 0,.int .i64 0,.slice none 0 0,.slice none 0 0,.slice none 0 0] 46;have K1:Kn (fun W=>(Below w.heap.size w W/\W.heap[w.heap.size]? = some (.cells #[.int .i64 0,.int .i64 0,.slice none 0 0,.slice none 0 0,.slice none 0 0] 46 (0,0)))/\W.heap[pb]? = some (.cells #[.slice ao R c] ty (0,0))/\W.heap[kb]? = some (.cells #[.int .i64 kind] aC (0,0))/\W.heap[wb]? = some (.cells #[.slice a2 n2 c2] aD (0,0))/\PCells W ao b off l/\NCells W a2 b2 ae H/\HasT W) W1 :=
  K0.also (q:=fun W=>W.heap[pb]? = some (.cells #[.slice ao R c] ty (0,0))/\W.heap[kb]? = some (.cells #[.int .i64 kind] aC (0,0))/\W.heap[wb]? = some (.cells #[.slice a2 n2 c2] aD (0,0))/\PCells W ao b off l/\NCells W a2 b2 ae H/\HasT W)
   ⟨zkeep K0.o.1 _ _ bC,zkeep K0.o.1 _ _ bn,zkeep K0.o.1 _ _ bE,hP.below K0.o.1,hN.below K0.o.1,hT.below K0.o.1⟩
 have c0:=qC _ _ 0 _ _ _ K1.o.2.1;have E:=qH (qA hR (qA hl (qA hs (qA bv aB))));have bZ:=@hmf_ prog;clear K0 bC bn bE hP hN hT hR hl hs bv aB;go_enter func62,ntmps62;go_upto_region 1 with fail;rw [<-aU];clear aU;go_wp2_with fail;refine (qgv ao b off R c l W1 E.o.1 E.o.2.1 E.o.2.2.1 K1.o.2.2.2.2.1).mono ?_;rintro e Z ⟨cc,rfl,bL,aZ⟩;have F:=K1.below aZ;clear K1 aZ;rcases bL with ⟨rfl,bB⟩ | ⟨rfl,bz⟩
 case inr =>
  have HN:=qH bz;clear bz;go_wp2_with fail;refine (qdx 310 (by decide) Z).mono ?_;rintro e w3 ⟨rfl,rfl⟩;unfold thrown;go_wp2_with fail;exact⟨rfl,F.o.1.1,qam ⟨310,rfl,qaw ⟨HN.o,rfl⟩⟩⟩
 have J:=qH bB;clear bB;go_wp2_with fail;refine (qhN Z).mono ?_;rintro e w3 ⟨rfl,hw⟩;subst hw;have k0:=qC _ _ 0 _ _ _ F.o.2.2.1;go_wp2_with fail;refine (qjp kind Z).mono ?_;rintro e w3 ⟨rfl,hw⟩;subst hw
 by_cases au:1<=kind/\kind<=3
 case neg =>
  rw [qU au];go_wp2_with fail;refine (qdx 2 (by decide) Z).mono ?_;rintro e w3 ⟨rfl,rfl⟩;unfold thrown;go_wp2_with fail;exact⟨rfl,F.o.1.1,qam ⟨2,rfl,qam (qaw ⟨J.o,fun h=>by obtain⟨⟨k,h1,h2,h3⟩,_⟩:=h;exact au ⟨by omega,by omega⟩,rfl⟩)⟩⟩
 obtain⟨k,bq⟩:∃k,qdy kind k:=⟨kind.toNat,by omega,by omega,by omega⟩;rw [qV au];have k1:=qC _ _ 0 _ _ _ F.o.2.2.2.1;have k2:=qC _ _ 0 _ _ _ F.o.2.1;have Hk:=qH (qA bq au);clear bq au
 by_cases hne:n2=R
 case neg =>
  have bS:¬((n2:Int)=(R:Int)):=by omega
  go_wp2_with fail;refine (qdx 2 (by decide) Z).mono ?_;rintro e w3 ⟨rfl,rfl⟩;unfold thrown;go_wp2_with fail;exact⟨rfl,F.o.1.1,qam ⟨2,rfl,qam (qaw ⟨J.o,fun h=>hne (by have:=E.o.1;have:=E.o.2.2.2.1;omega),rfl⟩)⟩⟩
 subst hne;go_wp2_with fail;have aG:n2<=40:=by have:=J.o.r2;have:=E.o.1;omega
 go_loopw [27] (fun x27 W=>∃i:Nat,x27=.int .i64 i/\i<=n2/\Hu (W=Z/\∀j,j<i->0<=H.getD j 0/\H.getD j 0<=1000)) (fun x27 _=>n2-(intOf x27).toNat)
 case atStart=>exact⟨0,rfl,qaj _,qH ⟨rfl,fun j hj=>absurd hj (qb1 _)⟩⟩
 case round =>
  obtain⟨i,rfl,bW,hI⟩:=hrel;have aj:=hI.o.1.symm;subst aj
  by_cases hi:i<n2
  ·have bV:(i:Int)<n2:=by omega
   have bK:=F.o.2.2.2.2.2.1.addr (by have:=E.o.2.2.2.1;omega);subst bK;have d0:=F.o.2.2.2.2.2.1.cell i (by have:=E.o.2.2.2.1;omega);obtain⟨x,hx⟩:=qX (H.getD i 0);rw [hx] at d0;have HX:=qH hx;clear hx
   by_cases I:0<=x/\x<=1000
   ·obtain⟨aX,aY⟩:=I;have bQ:¬x<0:=by omega
    have bR:¬1000<x:=by omega
    go_wp2;go_roundw
    case rel =>
     refine⟨i+1,by go_num,hi,qH ⟨by trivial,fun j hj=>?_⟩⟩;rcases qaB j i with h | h
     ·exact hI.o.2 j h
     ·obtain rfl:j=i:=by omega
      rw [HX.o];exact⟨aX,aY⟩
    case measure=>simp [intOf];omega
   ·have aP:=qH I
    by_cases aX:x<0
    ·clear I;go_wp2_with fail;refine (qdx 2 (by decide) _).mono ?_;rintro e w3 ⟨rfl,rfl⟩;unfold thrown;go_wp2_with fail;exact⟨rfl,F.o.1.1,qam ⟨2,rfl,qam (qaw ⟨J.o,fun h=>by have:=h.2.2 i (by have:=E.o.2.2.2.1;omega);rw [HX.o] at this;exact aP.o this,rfl⟩)⟩⟩
    ·have aY:1000<x:=by omega
     clear I;go_wp2_with fail;refine (qdx 2 (by decide) _).mono ?_;rintro e w3 ⟨rfl,rfl⟩;unfold thrown;go_wp2_with fail;exact⟨rfl,F.o.1.1,qam ⟨2,rfl,qam (qaw ⟨J.o,fun h=>by have:=h.2.2 i (by have:=E.o.2.2.2.1;omega);rw [HX.o] at this;exact aP.o this,rfl⟩)⟩⟩
  ·obtain rfl:i=n2:=by omega
   have HW:Hu (WOk H):=qH fun j hj=>hI.o.2 j (by have:=E.o.2.2.2.1;omega)
   clear hI;have bI:0<i:=by have:=J.o.r1;have:=E.o.1;omega
   have bP:(0:Int)<i:=by omega
   have bJ:=F.o.2.2.2.2.1.addr (by have:=E.o.1;omega);subst bJ;obtain⟨_,⟨ra,rb,ro,rc,f1,_⟩,_⟩:=F.o.2.2.2.2.1.cell 0 (by have:=E.o.1;omega);rw [Nat.zero_mul,qbt] at f1;obtain⟨n,hn⟩:=qX ((l.getD 0 pt0).dev.length);have bi:chans l=n:=hn;rw [hn] at f1;have HC:=qH bi;clear hn bi
   by_cases aA:kind=3/\3<n
   ·obtain⟨h3,h4⟩:=aA;have bU:(3:Int)<n:=by omega
    subst h3;go_wp2_with fail;refine (qdx 5 (by decide) _).mono ?_;rintro e w3 ⟨rfl,rfl⟩;unfold thrown;go_wp2_with fail;exact⟨rfl,F.o.1.1,qam ⟨5,rfl,qam (qam ⟨J.o,by have:=E.o.1;have:=E.o.2.2.2.1;omega,HW.o,k,Hk.o.1,qaw ⟨by have:=Hk.o.1.1;omega,by have:=J.o.n4;have:=HC.o;omega,rfl⟩⟩)⟩⟩
   ·have af:Hu (¬(k=3/\chans l=4)):=qH fun h=>aA ⟨by have:=Hk.o.1.1;omega,by have:=HC.o;omega⟩
    go_upto_region 11 with fail
    go_cut [49] (fun x49 W=>x49=.bool false/\Hu (W=Z))
    case first =>
     by_cases h3:kind=3
     ·have cu:¬(3:Int)<n:=fun h=>aA ⟨h3,by omega⟩
      go_wp2;go_meet;exact⟨rfl,qH rfl⟩
     ·go_wp2;go_meet;exact⟨rfl,qH rfl⟩
    case rest =>
     obtain⟨rfl,aj⟩:=hcut;have aj:=aj.o.symm;subst aj;clear aA;go_wp2_with fail;have bM:=(qG F.o.2.1).1;have aB:=(qG F.o.2.2.1).1;have bN:=(qG F.o.2.2.2.1).1;have q1:=rowC (B:=Z.heap.size) F.o.2.1 0;have q2:=rowC (B:=Z.heap.size) F.o.2.2.1 0;have q3:=rowC (B:=Z.heap.size) F.o.2.2.2.1 0;refine wp_region_held_drew (S:=fun W=>Below Z.heap.size Z W) (by kernel_rfl) qB.drew (fun hS0=>?_);refine hT 0 (h:=?_);refine hT 1 (h:=?_);refine hT 2 (h:=?_);refine hT 5 (h:=?_);refine hT 6 (h:=?_);refine gr [(3,54),(4,55),(7,58),(8,59),(9,60),(10,7)] [(4,[3]),(8,[7]),(9,[4,8])] [0,1,2,5,6] [3,4,7,8,9,10] [] 11 12
      (fl2 [(3,fun z _=>z=.func (.func 66) #[] #[.pointer (some ⟨kb,0,none⟩),.pointer (some ⟨pb,0,none⟩)]),(4,SlT i (many k (chans l)) (tqf l k)),(7,fun z _=>z=.func (.func 69) #[] #[.pointer (some ⟨wb,0,none⟩)]),(8,SlF i (wq H)),
       (9,fun z W=>∃z1 z2,z=.agg #[.slice (some ⟨b,off,none⟩) i c,z1,z2]/\SlT i (many k (chans l)) (tqf l k) z1 W/\SlF i (wq H) z2 W),(10,ZC Z.heap.size #[.slice none 0 0,.slice none 0 0,.slice none 0 0] 140)]) _ 1
      (hS:=fun w' h=>qcm h) (hstep:=⟨⟨_,rfl,fun v w4 I hF K hK=>?_⟩,⟨_,rfl,fun v w4 I hF K hK=>?_⟩,⟨_,rfl,fun v w4 I hF K hK=>?_⟩,⟨_,rfl,fun v w4 I hF K hK=>?_⟩,⟨_,rfl,fun v w4 I hF K hK=>?_⟩,⟨_,rfl,fun v w4 I hF K hK=>?_⟩,trivial⟩) (hend:=fun v w4 I hF _ fu=>?_)
     ·exact gV hK rfl
     ·have e3:v 3=_:=hF.1;have K4:=F.below (qcm I);rw [e3] at hK ⊢;exact gC hK (qpe i k pb kb b off c kind _ l ty aC w4 Hk.o.1 E.o.1 af.o J.o K4.o.2.1 K4.o.2.2.1 K4.o.2.2.2.2.1 K4.o.2.2.2.2.2.2) (h:=fun e w5 ⟨h1,z,h2,h3⟩=>⟨z,h2,by exact h3,h1⟩)
     ·exact gV hK rfl
     ·have e7:v 7=_:=hF.1;have K4:=F.below (qcm I);rw [e7] at hK ⊢;exact gC hK (qk1 i wb b2 ae c2 _ H aD w4 E.o.2.2.2.1 aG HW.o K4.o.2.2.2.1 K4.o.2.2.2.2.2.1 K4.o.2.2.2.2.2.2) (h:=fun e w5 ⟨h1,z,h2,h3⟩=>⟨z,h2,by exact h3,h1⟩)
     ·have f4:SlT i (many k (chans l)) (tqf l k) (v 4) w4:=hF.1;have f8:SlF i (wq H) (v 8) w4:=hF.2.1;obtain⟨g4,e4,h4⟩:=id f4;obtain⟨g8,e8,h8⟩:=id f8;exact gV hK ⟨_,_,rfl,e4▸f4,e8▸f8⟩
     ·exact gW hK (h:=ZC.new (qcm I).size)
     obtain⟨z1,z2,e9,f1,f2⟩:∃z1 z2,_:=hF 9 (by decide) (by decide);obtain⟨g7,ak,e10,aJ⟩:∃g7,_:=hF 10 (by decide) (by decide);have K4:=F.below (qcm I);obtain⟨g4,rfl,h4⟩:=f1;obtain⟨g8,rfl,h8⟩:=f2;rw [e9,e10];refine hSt 11 3 ak (h:=⟨qS (qcm I) aJ _,?_⟩);have aL:=qgq Hk.o.1 J.o.n1 J.o.n4 af.o;have bF:∀x∈(#[.slice none 0 0,.slice none 0 0,.slice none 0 0]:Array Value).toList,x=.slice none 0 0:=by simp
     obtain⟨W5,ai⟩:=qY (w4.setRow g7 #[.slice (some ⟨b,off,none⟩) i c,.slice (some ⟨g4,0,none⟩) i i,.slice (some ⟨g8,0,none⟩) i i]);have bf:Below Z.heap.size Z W5:=ai▸qS (qcm I) aJ _;have K5:=((F.below bf).also (q:=fun W=>W.heap[g7]? = some (.cells #[.slice (some ⟨b,off,none⟩) i c,.slice (some ⟨g4,0,none⟩) i i,.slice (some ⟨g8,0,none⟩) i i] 140 (0,0))) (ai▸qT _ _ _ _ _ _ ak)).also
      (q:=fun W=>SlT i (many k (chans l)) (tqf l k) (.slice (some ⟨g4,0,none⟩) i i) W/\SlF i (wq H) (.slice (some ⟨g8,0,none⟩) i i) W)
      (by rw [ai];exact⟨SlT.keepZ ⟨g4,rfl,h4⟩ aL.1 ak bF,SlF.keepZ ⟨g8,rfl,h8⟩ ak bF⟩)
     rw [<-ai];clear F ai K4 bf I hF ak aJ h4 h8 q1 q2 q3 bM aB bN e9 e10;have s0:=qC _ _ 0 _ _ _ K5.o.1.2;have s1:=qC _ _ 1 _ _ _ K5.o.1.2;have s2:=qC _ _ 2 _ _ _ K5.o.1.2;have kk:=qC _ _ 0 _ _ _ K5.o.1.1.2.2.1;obtain⟨W6,aV,K6⟩:=nw1 W5 #[.int .i64 kind,.int .i64 n,.slice none 0 0,.slice none 0 0,.slice none 0 0] 46
     go_wp2_with (((with_reducible refine qcC rfl 46 _ _ rfl #[.int .i64 0,.int .i64 0,.slice none 0 0,.slice none 0 0,.slice none 0 0] #[.int .i64 kind,.int .i64 n,.slice none 0 0,.slice none 0 0,.slice none 0 0] ?_ ?_ 5 ?_ ?_ ?_ ?_ ?_);(next=>rfl);(next=>rfl);(next=>kernel_rfl);(next=>rfl);(next=>rfl);(next=>rfl)))
     rw [<-aV];have aF:VRow W6 W5.heap.size 5 (.slice none 0 0) 46 [.int .i64 kind,.int .i64 n]:=⟨K6.o.2,by simp⟩;have aH:=qH (qA aF K6.o.1);clear aF aV K6 k0 k1 k2 kk s0 s1 s2 c0 f1;obtain⟨M,hM⟩:=qY W5.heap.size;rw [<-hM] at aH ⊢;have HM:=qH hM;clear hM
     go_loopw [66] (fun x66 W=>∃j:Nat,x66=.int .i64 j/\j<=3/\Hu (FitI l k H i kind n W5 M W j)) (fun x66 _=>3-(intOf x66).toNat)
     case atStart=>exact⟨0,rfl,qaj _,qH ⟨[],[],fun _ _=>0,rfl,aH.o.1,⟨rfl,fun q hq=>absurd hq (qb1 _)⟩,fun q hq=>absurd hq (qb1 _),fun h=>absurd h (qb1 _),HM.o▸aH.o.2⟩⟩
     case round =>
      obtain⟨j,rfl,hj,hI⟩:=hrel;obtain⟨vs,t,x,aM,hV,V,hx,av,hB⟩:=hI.o;have ag:=E.o.1
      by_cases aK:j<3
      ·have bX:(j:Int)<3:=by omega
       obtain⟨⟨g4',e4',aQ⟩,bT,bH,aR⟩:=K5.o.2;cases e4';cases bH;have HC:=qH (row_any j i (many k (chans l)) b off c g4 i g8 i _ _ _ l (tqf l k) (wq H) _ ag bI aG aL.1 aL.2 aK (K5.o.1.1.2.2.2.2.1.below hB) (ag▸J.o.bound j) (ag▸J.o.terms Hk.o.1 af.o) (ag▸J.o.labs) (by have:=HW.o.short;rw [E.o.2.2.2.1] at this;exact this) (by have:=HW.o.pos;rw [E.o.2.2.2.1] at this;exact this) (aQ.below hB) (aR.below hB) (K5.o.1.1.2.2.2.2.2.2.below hB));have HI:=qH (qA aM (qA hV (qA V (qA hx (qA av hB)))));clear hI aM hV V hx av hB aQ aR;have bA:nq l k H j=normR i (many k (chans l)) (tqf l k) (labq l j) (wq H):=by unfold nq;rw [ag]
       have bu:H.length=l.length:=by have:=E.o.2.2.2.1;omega
       have HQ:=qH (qA bA bu);clear bA bu ag;go_wp2_with fail;refine HC.o.mono ?_;rintro e w7 ⟨hr,bg⟩;rw [<-HQ.o.1] at hr;have az:=qH bg;clear bg;have aO:Hu (Below w.heap.size w w7):=qH ((K5.o.1.1.1.1.trans (HI.o.2.2.2.2.2.mono K5.o.1.1.1.1.size)).trans (az.o.mono (K5.o.1.1.1.1.trans (HI.o.2.2.2.2.2.mono K5.o.1.1.1.1.size)).size));rcases hr with ⟨Y,rfl⟩ | ⟨Y,y,hy,⟨ay,g9,rfl,aT⟩ | ⟨ay,rfl⟩⟩
       ·have HS:=qH Y;clear Y;unfold thrown;go_wp2_with fail;exact⟨rfl,aO.o,qam ⟨7,rfl,qam (qam ⟨J.o,HQ.o.2,HW.o,k,Hk.o.1,qam ⟨af.o,qaw ⟨qgs HS.o,rfl⟩⟩⟩)⟩⟩
       ·have aI:=HI.o.2.1.below az.o;have aa:(Value.int .i64 kind :: Value.int .i64 n :: vs).length=2+j:=by simp only [qbH];have:=HI.o.1;omega
        have aW:=aI.at (by rw [aa];omega);have ax:=aI.set (by rw [aa];omega) (.slice (some ⟨g9,0,none⟩) (many k (chans l)) (many k (chans l)));rw [aa] at aW ax;obtain⟨q0,qf⟩:=aW;have cz:=qf (2+j);have HN:=qH (qA ax (qA (((HI.o.2.2.1.below az.o).append (RVals.one (rc:=many k (chans l)) (qcb _ _) aT)).kept (qlK (u:=.slice (some ⟨g9,0,none⟩) (many k (chans l)) (many k (chans l))) q0 (fun s h=>by cases h))) (qA ((HI.o.2.2.2.2.2.trans (az.o.mono HI.o.2.2.2.2.2.size)).setCell (p:=⟨M,2+j,none⟩) (by rw [HM.o];exact qad _) (.slice (some ⟨g9,0,none⟩) (many k (chans l)) (many k (chans l)))) (qA Y (qA hy ay)))));clear aI aa ax qf Y hy ay aT;go_wp2;go_roundw
        case rel =>
         refine⟨j+1,by go_num,aK,qH ⟨vs++[.slice (some ⟨g9,0,none⟩) (many k (chans l)) (many k (chans l))],t++[told (many k (chans l)) y],fun q=>if q=j then y else x q,by simp [HI.o.1],by exact HN.o.1,HN.o.2.1,fun q hq=>?_,fun _ h=>HN.o.2.2.2.1 (qgs h),HN.o.2.2.1⟩⟩;have bD:t.length=j:=HI.o.2.2.1.1.symm.trans HI.o.1
         by_cases e:q=j
         ·subst e;dsimp only;rw [if_pos rfl,qaa,qau (by omega),bD,qaJ];exact⟨rfl,HN.o.2.2.2.2.1,HN.o.2.2.2.2.2⟩
         ·dsimp only;rw [if_neg e,qaa,qax (by omega),<-qaa];exact HI.o.2.2.2.1 q (by omega)
        case measure=>simp [intOf];omega
       ·have HS:=qH (qA Y (qA hy ay));clear Y hy ay;unfold thrown;go_wp2_with fail;exact⟨rfl,aO.o,qam ⟨6,rfl,qam (qam ⟨J.o,HQ.o.2,HW.o,k,Hk.o.1,qam ⟨af.o,qam ⟨fun h=>HS.o.1 (qgs h),j,y,aK,HS.o.2.1,HS.o.2.2,rfl⟩⟩⟩)⟩⟩
      ·obtain rfl:j=3:=by omega
       obtain⟨s0,s1,s2,rfl⟩:∃s0 s1 s2,vs=[s0,s1,s2]:=by
        rcases vs with _ | ⟨s0,_ | ⟨s1,_ | ⟨s2,_ | ⟨s3,vs⟩⟩⟩⟩ <;> simp at aM
        exact⟨s0,s1,s2,rfl⟩
       have bD:t.length=3:=V.1.symm;obtain⟨a0,b0,o0,d0,e0,f0⟩:=V.2 0 (by omega);obtain⟨a1,b1,o1,d1,e1,f1⟩:=V.2 1 (by omega);obtain⟨O,b2',o2,d2,e2,f2⟩:=V.2 2 (by omega);rw [(hx 0 (by omega)).1,qcb] at e0;rw [(hx 1 (by omega)).1,qcb] at e1;rw [(hx 2 (by omega)).1,qcb] at e2;rw [(hx 0 (by omega)).1] at f0;rw [(hx 1 (by omega)).1] at f1;rw [(hx 2 (by omega)).1] at f2;have e0:s0=_:=e0;have e1:s1=_:=e1;have e2:s2=_:=e2;subst e0 e1 e2;obtain⟨m,hm⟩:=qX (many k (chans l));rw [hm] at hV f0 f1 f2 hx av;have U:=hV.1;have ah:=(K5.below hB).o.1.1.1.2;have aS:=K5.o.1.1.1.1.trans (hB.mono K5.o.1.1.1.1.size);have bY:=(qG U).1;have z0:=qC _ _ 0 _ _ _ U;have z1:=qC _ _ 1 _ _ _ U;have z2:=qC _ _ 2 _ _ _ U;have z3:=qC _ _ 3 _ _ _ U;have z4:=qC _ _ 4 _ _ _ U;have aN:∀s,.string s∉(#[.int .i64 0,.int .i64 0,.slice none 0 0,.slice none 0 0,.slice none 0 0]:Array Value).toList:=by intro s;simp
       have HE:=qH (qA (qT _ _ _ #[.int .i64 kind,.int .i64 n,.slice a0 m d0,.slice a1 m d1,.slice O m d2] _ _ ah) (qA (qS aS qN #[.int .i64 kind,.int .i64 n,.slice a0 m d0,.slice a1 m d1,.slice O m d2])
        (qA (f0.kept (qeH (cs:=#[.int .i64 kind,.int .i64 n,.slice a0 m d0,.slice a1 m d1,.slice O m d2]) ah aN)) (qA (f1.kept (qeH (cs:=#[.int .i64 kind,.int .i64 n,.slice a0 m d0,.slice a1 m d1,.slice O m d2]) ah aN)) (f2.kept (qeH (cs:=#[.int .i64 kind,.int .i64 n,.slice a0 m d0,.slice a1 m d1,.slice O m d2]) ah aN))))))
       have HX:=qH (qA hx av);have bG:=qH ah;clear hI hV V hx av hB f0 f1 f2 U aS ah
       go_wp2_with ((with_reducible refine sR_ rfl 46 _ _ rfl (w.heap.size) #[.int .i64 kind,.int .i64 n,.slice a0 m d0,.slice a1 m d1,.slice O m d2] bG.o 5 ?_))
       refine qR (v:=.agg #[.int .i64 kind,.int .i64 n,.slice a0 m d0,.slice a1 m d1,.slice O m d2]) (rA_ rfl (w.heap.size) HE.o.1 underlying46 5) rfl ?_;have bO:=Hk.o.1.1;refine⟨HE.o.2.1,qaw ⟨_,_,_,_,_,_,_,_,_,_,_,rfl,J.o,by have:=E.o.1;have:=E.o.2.2.2.1;omega,HW.o,k,Hk.o.1,af.o,by rw [hm];exact HX.o.2 (by omega),x,?_,?_⟩⟩
       ·intro q hq;exact (HX.o.1 q hq).2.imp id fun h=>by rw [hm];exact h
       ·rw [hm];have hc:=HC.o;refine⟨a0,a1,O,b0,o0,d0,b1,o1,d1,b2',o2,d2,?_,HE.o.2.2.1,HE.o.2.2.2.1,HE.o.2.2.2.2⟩;unfold mdq;simp only [qcb,hc,bO]
theorem MdAt.kept {W W':World} {v:Value} {m:Md} (h:MdAt W v m) (E:∀a s,W.cell? a=some (.string s)->W'.cell? a=some (.string s)):MdAt W' v m:=by
 obtain⟨a0,a1,a2,b0,o0,c0,b1,o1,c1,b2,o2,c2,rfl,F,H,I⟩:=h;exact⟨a0,a1,a2,b0,o0,c0,b1,o1,c1,b2,o2,c2,rfl,F.kept E,H.kept E,I.kept E⟩
theorem FitG.kept {l:List Pt} {kind:Int} {E:List Int} {W W':World} {v:Value} (Z:∀a s,W.cell? a=some (.string s)->W'.cell? a=some (.string s)) (h:FitG l kind E W v):FitG l kind E W' v:=by
 obtain⟨F,H,I,k,J,O,U,x,V,Y⟩:=h;exact⟨F,H,I,k,J,O,U,x,V,Y.kept Z⟩
theorem fit_any (R b off c b2 I n2 c2:Nat) (ao a2:Option Addr) (l:List Pt) (kind:Int) (ws:List Int) (w:World) (hR:l.length=R) (hl:R<=4611686018427387904) (hs:∀k,k<R->(l.getD k pt0).name.size<=4611686018427387904/\(l.getD k pt0).dev.length<=4611686018427387904)
  (ag:ws.length=n2) (af:n2<=4611686018427387904) (hP:PCells w ao b off l) (hN:NCells w a2 b2 I ws) (hT:HasT w) :
  Calls prog 26 #[.slice ao R c,.int .i64 kind,.slice a2 n2 c2] w fun e w'=>FitAs w l kind ws e w':=by
 obtain⟨W3,O,V⟩:=nw3 w #[.slice ao R c] 48 #[.int .i64 kind] 3 #[.slice a2 n2 c2] 30;obtain⟨W4,ae,Y⟩:=nw1 W3 #[.int .i64 0,.int .i64 0,.slice none 0 0,.slice none 0 0,.slice none 0 0] 46;have aj:=@hmf_ prog;have ah:W3.heap.size=w.heap.size+1+1+1:=by rw [O];simp
 have E:Below w.heap.size w W4:=V.o.1.trans (Y.o.1.mono V.o.1.size);have HG:=qH (qi6 62 #[.pointer (some ⟨w.heap.size,0,none⟩),.pointer (some ⟨w.heap.size+1,0,none⟩),.pointer (some ⟨w.heap.size+1+1,0,none⟩)] (FitG l kind ws) (FitF l kind ws) W4 (fun W=>enters func62 (by kernel_rfl) (by kernel_rfl) _ W)
  (fun W W' v hk h=>h.kept hk)
  (fun w1 Z=>fit1_any R b off c w.heap.size (w.heap.size+1) (w.heap.size+1+1) b2 I n2 c2 ao a2 l kind ws _ _ _ w1 hR hl hs ag af (zkeep Z _ _ (zkeep Y.o.1 _ _ V.o.2.1)) (zkeep Z _ _ (zkeep Y.o.1 _ _ V.o.2.2.1)) (zkeep Z _ _ (zkeep Y.o.1 _ _ V.o.2.2.2))
   (hP.below (E.trans (Z.mono E.size))) (hN.below (E.trans (Z.mono E.size))) (hT.below (E.trans (Z.mono E.size)))))
 have HB:=qH (qA E ah);clear hR hl hs ag af hP hN hT E ah;go_enter func26,ntmps26;go_upto_region 1 with fail;rw [<-O,<-ae];clear O ae;go_wp2_with fail;refine HG.o.mono ?_;rintro e w5 ⟨U,h⟩;have K5:=Y.below U;have aa:=qH (HB.o.1.trans (U.mono HB.o.1.size));clear U HG;have F:=K5.o.2;rw [HB.o.2] at F;have Hr:=qH F;clear F K5 Y V;have ai:∀s,.string s∉(#[.int .i64 0,.int .i64 0,.slice none 0 0,.slice none 0 0,.slice none 0 0]:Array Value).toList:=by intro s;simp
 rcases h with ⟨i0,i1,p0,n0,c0,p1,n1,c1,p2,H,c2',rfl,hg⟩ | ⟨cc,rfl,hf⟩
 ·have J:=qH (qA (qT _ _ _ #[.int .i64 i0,.int .i64 i1,.slice p0 n0 c0,.slice p1 n1 c1,.slice p2 H c2'] _ _ Hr.o) (qA (qS aa.o (show w.heap.size<=w.heap.size+1+1+1 by omega) #[.int .i64 i0,.int .i64 i1,.slice p0 n0 c0,.slice p1 n1 c1,.slice p2 H c2'])
   (hg.kept (qeH (cs:=#[.int .i64 i0,.int .i64 i1,.slice p0 n0 c0,.slice p1 n1 c1,.slice p2 H c2']) Hr.o ai))))
  clear hg;rename_i hK;dsimp only;refine hK _ _ ?_
  go_wp2_with ((with_reducible refine sR_ rfl 46 _ _ rfl ((w.heap.size+1+1+1)) #[.int .i64 i0,.int .i64 i1,.slice p0 n0 c0,.slice p1 n1 c1,.slice p2 H c2'] Hr.o 5 ?_))
  exact qR (v:=.tuple #[.agg #[.int .i64 i0,.int .i64 i1,.slice p0 n0 c0,.slice p1 n1 c1,.slice p2 H c2'],.int .i64 0]) (rB_ rfl (w.heap.size+1+1+1) J.o.1 underlying46 5) rfl ⟨J.o.2.1,qaw ⟨_,rfl,J.o.2.2⟩⟩
 ·have J:=qH (qA (qT _ _ _ #[.int .i64 0,.int .i64 0,.slice none 0 0,.slice none 0 0,.slice none 0 0] _ _ Hr.o) (qA (qS aa.o (show w.heap.size<=w.heap.size+1+1+1 by omega) #[.int .i64 0,.int .i64 0,.slice none 0 0,.slice none 0 0,.slice none 0 0]) hf));clear hf;rename_i hK;dsimp only;refine hK _ _ ?_
  go_wp2_with ((with_reducible refine sR_ rfl 46 _ _ rfl ((w.heap.size+1+1+1)) #[.int .i64 0,.int .i64 0,.slice none 0 0,.slice none 0 0,.slice none 0 0] Hr.o 5 ?_))
  exact qR (v:=.tuple #[mdv0,.int .i64 cc]) (rB_ rfl (w.heap.size+1+1+1) J.o.1 underlying46 5) rfl ⟨J.o.2.1,qam ⟨cc,rfl,J.o.2.2⟩⟩
def MatchAs (w:World) (m:Md) (l:List Pt) (e:Ending) (w':World):Prop :=
 Below w.heap.size w w'/\((¬qeK m/\e=thrown 320)\/(qeK m/\¬PtsOk l/\e=thrown 310)\/(qeK m/\PtsOk l/\m.inn≠(chans l:Nat)/\e=thrown 5)\/(qeK m/\PtsOk l/\m.inn=(chans l:Nat)/\e=.returned (.tuple #[])))
theorem qob (m:Md) (v:Value) (R b off c:Nat) (ao:Option Addr) (l:List Pt) (w:World) (hM:MdAt w v m) (ae:∀q,q<3->(m.row q).length<=4611686018427387904) (hR:l.length=R) (hl:R<=4611686018427387904) (hs:∀k,k<R->(l.getD k pt0).name.size<=4611686018427387904/\(l.getD k pt0).dev.length<=4611686018427387904) (hP:PCells w ao b off l) :
  Calls prog 87 #[v,.slice ao R c] w fun e w'=>MatchAs w m l e w':=by
 obtain⟨a,b',o,c',rfl,hF⟩:=id hM.parts;obtain⟨kind,H⟩:∃z,m.kind=z:=⟨_,rfl⟩;obtain⟨inn,F⟩:∃z,m.inn=z:=⟨_,rfl⟩;rw [H,F] at hM ⊢;obtain⟨L,hL⟩:∃L:Nat->Nat,∀q,(m.row q).length=L q:=⟨_,fun _=>rfl⟩;rw [hL,hL,hL] at hM ⊢;obtain⟨W1,aa,O⟩:=nw1 w #[.int .i64 kind,.int .i64 inn,.slice (a 0) (L 0) (c' 0),.slice (a 1) (L 1) (c' 1),.slice (a 2) (L 2) (c' 2)] 46;have c0:=qC _ _ 0 _ _ _ O.o.2;have c1:=qC _ _ 1 _ _ _ O.o.2;have c2:=qC _ _ 2 _ _ _ O.o.2;have c3:=qC _ _ 3 _ _ _ O.o.2;have c4:=qC _ _ 4 _ _ _ O.o.2;have HC:=qH (qmm m _ W1 (hM.below O.o.1) ae);have HX:=qH (qA hR (qA hl (qA hs (qA (hP.below O.o.1) F))));clear hM hF ae hR hl hs hP H F hL;go_enter func87,ntmps87;go_upto_region 1 with fail;rw [<-aa];clear aa;go_wp2_with fail;refine HC.o.mono ?_;rintro e w2 ⟨cc,rfl,af,Y⟩;have HB:=qH (O.o.1.trans (Y.mono O.o.1.size));have K2:=(O.below Y).also (q:=fun W=>PCells W ao b off l) (HX.o.2.2.2.1.below Y);clear Y HC c0 c1 c2 c3 c4;rcases af with ⟨rfl,J⟩ | ⟨rfl,I⟩
 case inr =>
  have HN:=qH I;clear I;go_wp2_with fail;refine (qdx 320 (by decide) _).mono ?_;rintro e w3 ⟨rfl,rfl⟩;unfold thrown;go_wp2_with fail;exact⟨rfl,HB.o,qaw ⟨HN.o,rfl⟩⟩
 have HO:=qH J;clear J;go_wp2_with fail;refine (qhN _).mono ?_;rintro e w3 ⟨rfl,hw⟩;subst hw;go_wp2_with fail;have ag:=(qG K2.o.1.2).1;have q1:=rowC (B:=w2.heap.size) K2.o.1.2 1;refine wp_region_held_drew (S:=fun W=>Below w2.heap.size w2 W) (by kernel_rfl) qB.drew (fun hS0=>?_);refine hT 0 (h:=?_);refine hT 5 (h:=?_);refine hT 6 (h:=?_);refine hC 1 (chan_any ao b off R c l w2.drew HX.o.1 HX.o.2.1 HX.o.2.2.1 (K2.o.2.below qB.drew)) (h:=?_);rintro e w3 ⟨h,Z⟩;have E:=qH (qcm Z);clear Z;rcases h with ⟨J,rfl⟩ | ⟨I,rfl⟩
 ·refine⟨_,rfl,E.o,hN (h:=?_)⟩;have V:=qH J;clear J;refine hT 2 (hS:=E.o) (h:=?_);refine hT 3 (hS:=E.o) (h:=?_);refine hC 4 (needI_ok _ w3) (h:=?_);rintro e w4 ⟨rfl,rfl⟩;refine⟨_,rfl,E.o,hN (h:=?_)⟩;refine hT 7 (hS:=E.o) (h:=?_);refine wpAnyH_done (by kernel_rfl) ?_ _;have U:=qH (HB.o.trans (E.o.mono HB.o.size))
  by_cases hc:((chans l:Nat):Int)=inn
  ·have Z:(((chans l:Nat):Int) != inn)=false:=by simp [hc]
   have Hc:=qH hc;clear hc;rw [Z];clear Z;go_wp2_with fail;exact qR (results_none rfl _ _ _) rfl ⟨U.o,qam (qam (qam ⟨HO.o,V.o,by rw [HX.o.2.2.2.2];exact Hc.o.symm,rfl⟩))⟩
  ·have Z:(((chans l:Nat):Int) != inn)=true:=by rw [bne_iff_ne];exact hc
   have Hc:=qH hc;clear hc;rw [Z];clear Z;go_wp2_with fail;refine (qdx 5 (by decide) _).mono ?_;rintro e w4 ⟨rfl,rfl⟩;unfold thrown;go_wp2_with fail;exact⟨rfl,U.o,qam (qam (qaw ⟨HO.o,V.o,fun h=>Hc.o (by rw [HX.o.2.2.2.2] at h;exact h.symm),rfl⟩))⟩
 ·refine⟨_,rfl,E.o,hN (h:=?_)⟩;have V:=qH I;clear I;refine hT 2 (hS:=E.o) (h:=?_);refine hT 3 (hS:=E.o) (h:=?_);refine hCx 4 (qoi 0 310 (by decide) w3) (h:=?_);rintro e w4 ⟨rfl,rfl⟩;refine qam ⟨_,rfl,?_⟩;have U:=qH (HB.o.trans (E.o.mono HB.o.size));go_wp2_with fail;exact⟨rfl,U.o,qam (qaw ⟨HO.o,V.o,rfl⟩)⟩
theorem qo2 (k E R pb ib b off c:Nat) (ao:Option Addr) (l:List Pt) (ty ae:TypeId) (w:World) (hR:l.length=R) (hk:k<R) (af:R<=40) (ag:E<3) (Y:w.heap[pb]? = some (.cells #[.slice ao R c] ty (0,0))) (U:w.heap[ib]? = some (.cells #[.int .i64 (k:Int)] ae (0,0)))
  (hP:PCells w ao b off l) (hl:-9223372036854775808<=(l.getD k pt0).lab E/\(l.getD k pt0).lab E<=9223372036854775807) (hT:HasT w) :
  Calls prog 89 #[.int .i64 (E:Int),.pointer (some ⟨pb,0,none⟩),.pointer (some ⟨ib,0,none⟩)] w fun e w'=>Below w.heap.size w w'/\e=.returned (.agg #[.string (ftxt (labq l E k)).1,.string (ftxt (labq l E k)).2]):=by
 have aa:=hP.addr (by omega);subst aa;obtain⟨t1,t2,ht⟩:=qcW (labq l E k);rw [ht];obtain⟨Z,I,H⟩:=nw1 w #[.string ⟨#[]⟩,.string ⟨#[]⟩] 27;have d0:Z.cell? ⟨b,off+k*5+2+E,none⟩=some (.int .i64 ((l.getD k pt0).lab E)):=by
  obtain⟨_,_,d2,d3,d4⟩:=(hP.below H.o.1).cell k (by omega);rcases (show E=0\/E=1\/E=2 by omega) with rfl | rfl | rfl
  ·exact d2
  ·exact d3
  ·exact d4
 have q1:=qC Z _ 0 _ _ _ (zkeep H.o.1 _ _ Y);have q2:=qC Z _ 0 _ _ _ (zkeep H.o.1 _ _ U);obtain⟨x,hx⟩:=qX ((l.getD k pt0).lab E);have V:(x:Rat) / ((100:Int):Rat)=labq l E k:=by unfold labq;rw [hx];rfl
 have F:=of_int x 100 (by decide) (by rw [<-hx];exact hl) (by decide) Z (hT.below H.o.1);rw [V,ht] at F;rw [hx] at d0;have HO:=qH F;have ai:(k:Int)<R:=by omega
 have ah:(E:Int)<3:=by omega
 clear F V hx hP Y U hT ht hl;go_enter func89,ntmps89;go_upto_region 1 with fail;rw [<-I];clear I;go_wp2_with fail;refine HO.o.mono ?_;rintro e w1 ⟨rfl,J⟩;have K2:Kn (fun W=>Below w.heap.size w W/\W.heap[w.heap.size]? = some (.cells #[.string ⟨#[]⟩,.string ⟨#[]⟩] 27 (0,0))) w1:=H.below J;clear H J;go_wp2_with fail;refine (qdY t1 t2 w1).mono ?_;rintro e w2 ⟨rfl,O⟩;have K3:=K2.below O;clear K2 O;have HE:=qH (qA (qT _ _ _ #[.string t1,.string t2] _ _ K3.o.2) (qS K3.o.1 qN #[.string t1,.string t2]));rename_i hK;dsimp only;refine hK _ _ ?_
 go_wp2_with ((with_reducible refine sR_ rfl 27 _ _ rfl (w.heap.size) #[.string t1,.string t2] K3.o.2 2 ?_))
 exact qR (v:=.agg #[.string t1,.string t2]) (rA_ rfl (w.heap.size) HE.o.1 underlying27 2) rfl ⟨HE.o.2,rfl⟩
theorem short_1:Short 1:=qhK ⟨by decide,by decide⟩
theorem meas_at {R n:Nat} {f:Nat->Nat->Rat} {b v x:Nat->Rat} {I:Option Addr} {g Z c:Nat} {E:Option Addr} {g2 c2:Nat} {F:Option Addr} {V c3:Nat} {H:Option Addr} {Y c4:Nat} {w:World} (h1:1<=R) (h2:R<=40) (h3:1<=n) (h4:n<=10) (hf:∀i,i<R->qb9 n (f i)) (hb:qb9 R b) (hv:qb9 R v) (hx:qb9 n x) (U:∀i,i<R->0<=v i) (hT:TCells w I g Z (ttab R n f)) (hF:FCells w E g2 0 (told R b)) (J:FCells w F V 0 (told R v)) (O:FCells w H Y 0 (told n x)) (hP:HasT w) :
  Calls prog 90 #[.slice I R c,.slice E R c2,.slice F R c3,.slice H n c4] w fun e w'=>(Short (msR R n f b v x)/\e=.returned (.tuple #[fstr (msR R n f b v x),.int .i64 0])\/¬Short (msR R n f b v x)/\e=.returned (.tuple #[.agg #[.string ⟨#[]⟩,.string ⟨#[]⟩],.int .i64 6]))/\Below w.heap.size w w' :=
 (qjw I g Z R c _ E g2 0 R c2 _ F V 0 R c3 _ H Y 0 n c4 _ w (qc6 _ _ _) (by omega) (qj7 (by omega)) hT (qcb _ _) (by omega) hF (qcb _ _) (by omega) J (qcb _ _) (by omega) O hP).mono fun _ _ h=>h.told h1 h2 h3 h4 hf hb hv hx U
structure MBox (W:World) (mb:Nat) (m:Md) (N:Nat):Prop where
 ex:∃(a:Nat->Option Addr) (b o d:Nat->Nat),W.heap[mb]? = some (.cells #[.int .i64 m.kind,.int .i64 m.inn,.slice (a 0) N (d 0),.slice (a 1) N (d 1),.slice (a 2) N (d 2)] 46 (0,0))/\∀q,q<3->FCells W (a q) (b q) (o q) (m.row q)
theorem MBox.below {W W':World} {mb N:Nat} {m:Md} (h:MBox W mb m N) (E:Below W.heap.size W W'):MBox W' mb m N:=by
 obtain⟨a,b,o,d,F,H⟩:=h.ex;exact⟨a,b,o,d,zkeep E _ _ F,fun q I=>(H q I).below E⟩
instance stays_mbox {mb N:Nat} {m:Md}:Stays fun W=>MBox W mb m N:=⟨fun h E=>h.below E⟩
theorem MBox.tab {W:World} {mb N:Nat} {m:Md} (h:MBox W mb m N) (hN:∀q,q<3->(m.row q).length=N/\FAll (m.row q)):TCells W (some ⟨mb,2,none⟩) mb 2 (ttab 3 N fun q=>lval (m.row q)):=by
 obtain⟨a,b,o,d,F,H⟩:=h.ex;refine⟨fun _=>rfl,fun k E=>?_⟩;rw [qc6] at E;rw [qe4 E,qcb];have e:told N (lval (m.row k))=m.row k:=by rw [<-(hN k E).1];exact (hN k E).2.eq_told.symm
 rw [e];refine⟨a k,b k,o k,d k,?_,H k E⟩;rcases (show k=0\/k=1\/k=2 by omega) with rfl | rfl | rfl
 ·exact qC _ _ 2 _ _ _ F
 ·exact qC _ _ 3 _ _ _ F
 ·exact qC _ _ 4 _ _ _ F
def sqq (m:Md) (l:List Pt) (E k:Nat):Rat:=msR 3 (many E (chans l)) (fun q=>lval (m.row q)) (fun q=>labq l q k) (fun _=>1) (tqf l E k)
theorem sq11_any (k F R pb ob mb b off c:Nat) (ao:Option Addr) (l:List Pt) (m:Md) (o1 o2:ByteArray) (ty aP:TypeId) (w:World) (hR:l.length=R) (hk:k<R) (aa:PtsOk l) (hM:MdOk m F (chans l)) (h1:(o1,o2)=ftxt 1) (av:w.heap[pb]? = some (.cells #[.slice ao R c] ty (0,0))) (aK:w.heap[ob]? = some (.cells #[.string o1,.string o2] aP (0,0)))
  (au:MBox w mb m (many F (chans l))) (hP:PCells w ao b off l) (hT:HasT w) :
  Calls prog 88 #[.int .i64 (k:Int),.pointer (some ⟨pb,0,none⟩),.pointer (some ⟨ob,0,none⟩),.pointer (some ⟨mb,0,none⟩)] w fun e w'=>Below w.heap.size w w' /\
   ((∃x y,e=.returned (.agg #[.string x,.string y])/\Short (sqq m l F k)/\(x,y)=ftxt (sqq m l F k))\/∃c,e=thrown c/\¬Short (sqq m l F k)/\c=6):=by
 have aU:=hP.addr (by omega);subst aU;have aT:R<=40:=hR▸aa.r2;obtain⟨W2,aB,K0⟩:=nw2 w #[.int .i64 (k:Int)] 3 #[.string ⟨#[]⟩,.string ⟨#[]⟩] 27;have K2:=K0.also (q:=fun W=>W.heap[pb]? = some (.cells #[.slice (some ⟨b,off,none⟩) R c] ty (0,0))/\W.heap[ob]? = some (.cells #[.string o1,.string o2] aP (0,0))/\MBox W mb m (many F (chans l))/\PCells W (some ⟨b,off,none⟩) b off l/\HasT W)
  ⟨zkeep K0.o.1 _ _ av,zkeep K0.o.1 _ _ aK,au.below K0.o.1,hP.below K0.o.1,hT.below K0.o.1⟩
 have aX:=@hmf_ prog;have hg:qk3 89 #[.pointer (some ⟨pb,0,none⟩),.pointer (some ⟨w.heap.size,0,none⟩)] W2 3 (fun q x=>x=ftxt (labq l q k)) (fun _ _=>False):=by
  intro q hq W hb;refine (qo2 k q R pb w.heap.size b off c _ l _ _ W hR hk aT hq (zkeep hb _ _ K2.o.2.1) (zkeep hb _ _ K2.o.1.2.1) (K2.o.2.2.2.2.1.below hb) (aa.bound q k (by omega)) (K2.o.2.2.2.2.2.below hb)).mono ?_;rintro e w' ⟨h1,h2⟩;exact⟨h1,qaw ⟨_,_,h2,rfl⟩⟩
 have HG:=qH (qeE 89 #[.pointer (some ⟨pb,0,none⟩),.pointer (some ⟨w.heap.size,0,none⟩)] 3 (by decide) _ _ W2 (fun a W=>enters func89 (by kernel_rfl) (by kernel_rfl) _ W) hg);have E:=qH (qA hR (qA aa (qA hM h1)));have aJ:=(qG av).1;have aI:mb<w.heap.size:=by
  obtain⟨_,_,_,_,h2,_⟩:=au.ex;exact (qG h2).1
 have aH:b<w.heap.size:=qae _ _ (hP.cell k (by omega)).1;have af:=qH (qA aJ (qA aI aH));clear K0 hg av aK au hP hT hR aa hM h1 aJ aI aH;go_enter func88,ntmps88;go_upto_region 1 with fail;rw [<-aB];clear aB;go_wp2_with fail;refine HG.o.mono ?_;rintro e w3 ⟨aD,h⟩;have K3:=K2.below aD;rcases h with ⟨la,g3,aG,aO,rfl,ay,_⟩ | ⟨_,_,_,_,hF⟩
 case inr=>exact hF.elim
 have K4:=K3.also (q:=fun W=>FCells W (some ⟨g3,0,none⟩) g3 0 (told 3 fun q=>labq l q k)) (qiZ aG aO▸ay);clear K2 HG aG aO ay aD K3;have z0:=qC _ _ 0 _ _ _ K4.o.1.2.2.1;have z1:=qC _ _ 1 _ _ _ K4.o.1.2.2.1;obtain⟨W4,aC,N4⟩:=nw1 w3 #[.string o1,.string o2,.string o1,.string o2,.string o1,.string o2] 27;have ae:FCells W4 (some ⟨w3.heap.size,0,none⟩) w3.heap.size 0 (told 3 fun _=>1):=by
  have e:told 3 (fun _=>(1:Rat))=[(o1,o2),(o1,o2),(o1,o2)]:=by rw [E.o.2.2.2];rfl
  rw [e];exact FCells.ofRow N4.o.2
 have K5:=(K4.below N4.o.1).also (q:=fun W=>FCells W (some ⟨w3.heap.size,0,none⟩) w3.heap.size 0 (told 3 fun _=>1)) ae;clear K4 N4 ae;go_wp2_with fail;rw [<-aC];clear aC z0 z1;obtain⟨_,⟨ra,rb,ro,rc,d1,hN⟩,_⟩:=K5.o.1.1.2.2.2.2.1.cell k (by have:=E.o.1;omega);have Z:=(E.o.2.1.rows k (by have:=E.o.1;omega)).2;have Y:=(E.o.2.1.rows k (by have:=E.o.1;omega)).1.vals;obtain⟨n,hn⟩:=qX (chans l);rw [hn] at Z;rw [Z] at d1;obtain⟨a,b',o,d,I,_⟩:=K5.o.1.1.2.2.2.1.ex;obtain⟨kind,H⟩:∃z,m.kind=z:=⟨_,rfl⟩;rw [H] at I;have aW:=(qG K5.o.1.1.1.2.2).1;have O:=qH (qA Z (qA Y (qA hN (qA hn H))));have q0:=rowG (g0:=w.heap.size+1) I 0 (hne:=by have:=af.o.2.1;omega);have q1:=rowG (g0:=w.heap.size+1) K5.o.1.1.2.1 0 (hne:=by have:=af.o.1;omega);have q2:=rowG (g0:=w.heap.size+1) K5.o.1.1.1.2.1 0 (hne:=by omega);have q3:∀W,W4.grownBy W (some (w.heap.size+1))->W.cell? ⟨b,off+k*5+1,none⟩=some (.slice ra n rc):=fun W hg=>hg.cell d1 (fun e=>by have:=af.o.2.2;have:=qag e;simp at this;omega)
 have aV:(k:Int)<R:=by omega
 clear Z Y hN hn H I d1;refine wp_region_held_drew (S:=fun W=>W4.grownBy W (some (w.heap.size+1))) (by kernel_rfl) (keepB qB.drew) (fun hS0=>?_);refine hT 0 (h:=?_);refine hT 1 (h:=?_);refine hT 2 (h:=?_);refine hT 3 (h:=?_);refine hT 4 (h:=?_);refine hT 5 (h:=?_);refine hT 6 (h:=?_);refine hT 7 (h:=?_);refine hT 8 (h:=?_);refine hT 9 (h:=?_);refine hT 10 (h:=?_);refine hC 11 (qj5 kind F (by rw [<-O.o.2.2.2.2];exact E.o.2.2.1.kind) ra rb ro n rc (l.getD k pt0).dev W4.drew O.o.1 (by rw [<-O.o.2.2.2.1];exact E.o.2.1.n1) (by rw [<-O.o.2.2.2.1];exact E.o.2.1.n4) (fun e=>by have h3:=E.o.2.2.1.both;have h4:=E.o.2.1.n4;have:=O.o.2.2.2.1;omega) (O.o.2.2.1.below qB.drew) O.o.2.1 (K5.o.1.1.2.2.2.2.2.below qB.drew)) (h:=?_);rintro e w5 ⟨v5,rfl,aN,aF⟩;have ax:=qH (qcm aF);clear aF;obtain⟨a5,g5,c5,rfl,ag,_⟩:=aN.cells (n:=many F n) (by rw [qaD,qhS,O.o.1]);have az:W4.grownBy w5 (some (w.heap.size+1)):=keepB ax.o;have K6:=K5.below ax.o;have aM:(termL F (l.getD k pt0).dev).map ftxt=told (many F n) (tqf l F k):=by
  rw [<-O.o.1];exact (qiu F (l.getD k pt0).dev).symm
 rw [aM] at ag;have aR:=qH ag;clear ag aN aM;refine⟨_,rfl,az,hN (h:=?_)⟩;have U:=qgq E.o.2.2.1.kind E.o.2.1.n1 E.o.2.1.n4 E.o.2.2.1.both;have ak:k<l.length:=by have:=E.o.1;omega
 have ah:=meas_at (c:=3) (c2:=3) (c3:=3) (c4:=c5) (by decide) (by decide) U.1 U.2 (f:=fun q=>lval (m.row q)) (b:=fun q=>labq l q k) (v:=fun _=>1) (x:=tqf l F k)
  (fun q hq=>by have:=(E.o.2.2.1.rows q hq).2.short;rw [(E.o.2.2.1.rows q hq).1] at this;exact this) (fun q hq=>E.o.2.1.labs k ak) (fun _ _=>short_1) (E.o.2.1.terms E.o.2.2.1.kind E.o.2.2.1.both k ak) (fun _ _=>by decide)
  (MBox.tab K6.o.1.1.2.2.2.1 E.o.2.2.1.rows) K6.o.1.2 K6.o.2 (by rw [O.o.2.2.2.1];exact aR.o) K6.o.1.1.2.2.2.2.2
 rw [O.o.2.2.2.1] at ah;have aS:=qH ah;clear ah U ak;refine hC 12 aS.o (h:=?_);rintro e w6 ⟨h,aj⟩;have aQ:=qH aj;have ai:=qcl az aj;clear aj;have K7:=K6.below aQ.o;have aL:sqq m l F k=msR 3 (many F n) (fun q=>lval (m.row q)) (fun q=>labq l q k) (fun _=>1) (tqf l F k):=by unfold sqq;rw [O.o.2.2.2.1]
 rw [<-aL] at h;clear aL;obtain⟨y1,y2,hy⟩:=qcW (sqq m l F k);rcases h with ⟨V,rfl⟩ | ⟨V,rfl⟩
 ·rw [qe7,hy];have HS:=qH (qA V hy);clear V hy;refine⟨_,rfl,ai,hN (h:=?_)⟩;refine hT 13 (h:=?_);refine hT 14 (h:=?_);refine hC 15 (qdY y1 y2 w6) (h:=?_);rintro e w7 ⟨rfl,J⟩;have aA:=qcl ai J;have K8:=K7.below J;clear J;refine⟨_,rfl,aA,hN (h:=?_)⟩;have HE:=qH (qA (qT _ _ _ #[.string y1,.string y2] _ _ K8.o.1.1.1.2.2) (qS K8.o.1.1.1.1 (show w.heap.size<=w.heap.size+1 by omega) #[.string y1,.string y2]));refine hSt 16 2 K8.o.1.1.1.2.2 (h:=⟨qb5 aA (qcn _ _ _),?_⟩);go_wp2_with fail;exact qR (v:=.agg #[.string y1,.string y2]) (rA_ rfl ((w.heap.size+1)) HE.o.1 underlying27 2) rfl ⟨HE.o.2,qaw ⟨_,_,rfl,HS.o.1,HS.o.2.symm⟩⟩
 ·have HS:=qH V;clear V hy;refine⟨_,rfl,ai,hN (h:=?_)⟩;refine hT 13 (h:=?_);refine hT 14 (h:=?_);refine hCx 15 (qoh ⟨#[]⟩ ⟨#[]⟩ 6 (by decide) w6) (h:=?_);rintro e w7 ⟨rfl,J⟩;have K8:=K7.below J;clear J;refine qam ⟨_,rfl,?_⟩;go_wp2_with fail;exact⟨rfl,K8.o.1.1.1.1,qam ⟨6,rfl,HS.o,rfl⟩⟩
def Up (l:List Nat):Prop:=l.Pairwise fun a b=>a<b
theorem Up.eq:∀{l E:List Nat},Up l->Up E->l.Perm E->l=E
 | [],_,_,_,h=>(List.Perm.nil_eq h)
 | a :: l,[],_,_,h=>absurd h.symm.nil_eq (by simp)
 | a :: l,b :: E,J,O,h=>by
  obtain⟨p1,p2⟩:=qbF.1 J;obtain⟨q1,q2⟩:=qbF.1 O;have H:a=b:=by
   have F:a∈b :: E:=h.mem_iff.1 (qba ..);have I:b∈a :: l:=h.mem_iff.2 (qba ..);rcases qat.1 F with e | F
   ·exact e
   ·rcases qat.1 I with e | I
    ·exact e.symm
    ·have:=p1 b I;have:=q1 a F;omega
  subst H;rw [Up.eq p2 q2 (List.Perm.cons_inv h)]
theorem qgj (n:Nat):Up (List.range n):=by
 unfold Up;rw [List.pairwise_iff_getElem];intro i j E F h
 simpa using h
theorem Up.nodup {l:List Nat} (h:Up l):l.Nodup:=h.imp fun h=>by omega
def qce (s:Nat->Rat) (n:Nat):List Nat:=isort (fun a b=>s a<s b) (List.range n)
def bestL (s:Nat->Rat) (n m:Nat):List Nat:=isort (fun a b=>a<b) ((qce s n).take m)
theorem qcF (s:Nat->Rat) (n:Nat):(qce s n).Perm (List.range n):=qdF _
theorem qcr (s:Nat->Rat) (n:Nat):(qce s n).length=n:=by rw [(qcF s n).length_eq,qbo]
theorem qmv (s:Nat->Rat) (n:Nat):(qce s n).Pairwise fun x y=>s x<=s y:=(qfa s n).imp fun h=>by grind
theorem qeh (s:Nat->Rat) (n:Nat):(qce s n).Nodup:=(qcF s n).nodup_iff.2 (qgj n).nodup
theorem qdB (s:Nat->Rat) (n m:Nat):(bestL s n m).Perm ((qce s n).take m):=qdF _
theorem qg7 {s:Nat->Rat} {n m:Nat} (h:m<=n):(bestL s n m).length=m:=by rw [(qdB s n m).length_eq,qao,qcr];omega
theorem qfK (s:Nat->Rat) (n m:Nat):Up (bestL s n m):=by
 have E:Ord (fun a b:Nat=>a<b) (bestL s n m):=qhi (fun a b c E F=>by omega) (fun a b h=>by omega) _;have F:(bestL s n m).Nodup:=(qdB s n m).nodup_iff.2 ((qeh s n).sublist (List.take_sublist _ _));exact (List.pairwise_and_iff.2 ⟨E,F⟩).imp fun⟨E,F⟩=>by omega
theorem qk8 {s:Nat->Rat} {n m:Nat}:∀k∈bestL s n m,k<n:=fun k E=>by
 have:=(qdB s n m).mem_iff.1 E;exact qaq.1 ((qcF s n).mem_iff.1 (qbd this))
theorem qnc (s:Nat->Rat) (n:Nat):bestL s n n=List.range n :=
 (qfK s n n).eq (qgj n) ((qdB s n n).trans (by rw [qah (by rw [qcr];exact qad _)];exact qcF s n))
def keepW (K:List Nat) (R:Nat):List Int:=(List.range R).map fun i=>if i∈K then 1 else 0
theorem qeP (K:List Nat) (R:Nat):(keepW K R).length=R:=by unfold keepW;simp
theorem qlq {K:List Nat} {R i:Nat} (E:i<R):(keepW K R).getD i 0=if i∈K then 1 else 0:=by
 unfold keepW;rw [qaa,qaP,qbG E];rfl
theorem keepW_ok (K:List Nat) (R:Nat):WOk (keepW K R):=fun i E=>by
 rw [qeP] at E;rw [qlq E];split <;> decide
def ExIs (l:List FT) (c:Int):Prop:=(40<l.length/\c=3)\/(l.length<=40/\¬FAll l/\c=20)\/(l.length<=40/\FAll l/\c=0)
theorem qha (R b off c:Nat) (ao:Option Addr) (l:List FT) (w:World) (hl:l.length=R) (hR:R<=4611686018427387904) (hF:FCells w ao b off l) :
  Calls prog 37 #[.slice ao R c] w fun e w'=>∃z,e=.returned (.int .i64 z)/\ExIs l z/\Below w.heap.size w w':=by
 by_cases aa:40<R
 ·have hi:(R:Int) > 40:=by omega
  have HL:=qH hl;clear hF hl;go_enter func37,ntmps37;go_wp2;go_ret;exact⟨3,rfl,.inl ⟨by rw [HL.o];exact aa,rfl⟩,Below.refl _ _⟩
 have hi:¬(R:Int) > 40:=by omega
 have E:=qH (qA hF hl);clear hF hl;go_enter func37,ntmps37;go_wp2_with fail
 go_loopw [11] (fun x11 W=>∃k:Nat,x11=.int .i64 (k:Int)/\k<=R/\Hu (∀j,j<k->FOk (l.getD j fd0).1.data.toList (l.getD j fd0).2.data.toList)/\Hu (Below w.heap.size w W)) (fun x11 _=>R-(intOf x11).toNat)
 case atStart=>exact⟨0,rfl,qaj _,qH fun j hj=>absurd hj (qb1 j),qH qB⟩
 case round =>
  obtain⟨k,rfl,hk,hS,hB⟩:=hrel
  by_cases F:k<R
  ·have af:(k:Int)<(R:Int):=by omega
   have ae:=E.o.1.addr (by rw [E.o.2];omega);subst ae;obtain⟨d0,d1⟩:=(E.o.1.below hB.o).cell k (by rw [E.o.2];exact F);obtain⟨s1,H⟩:∃s,(l.getD k fd0).1=s:=⟨_,rfl⟩;obtain⟨s2,I⟩:∃s,(l.getD k fd0).2=s:=⟨_,rfl⟩;rw [H] at d0;rw [I] at d1;obtain⟨W1,O,N1⟩:=nw1 wr #[.string s1,.string s2] 27;have Z:=qH (qA H I);clear H I;go_upto_region 6 with fail;rw [<-O];clear O d0 d1;have Y:=N1.o.2
   go_wp2_with (first | (with_reducible refine lW_ rfl 27 _ rfl (wr.heap.size) #[.string s1,.string s2] Y underlying27 2 ?_) | fail)
   refine (qe6 s1 s2 W1).mono ?_;rintro e w2 ⟨z,rfl,hz,hb⟩;have J:=qH (hB.o.trans ((N1.o.1.trans (hb.mono N1.o.1.size)).mono hB.o.size));clear Y hb N1;rcases hz with ⟨rfl,V⟩ | ⟨rfl,U⟩
   ·have HS:Hu (∀j,j<k+1->FOk (l.getD j fd0).1.data.toList (l.getD j fd0).2.data.toList):=qH fun j hj=>by
     by_cases e:j=k
     ·rw [e,Z.o.1,Z.o.2];exact V
     ·exact hS.o j (by omega)
    clear V;go_wp2;go_roundw
    case rel=>exact⟨k+1,by go_num,F,HS,J⟩
    case measure=>simp [intOf];omega
   ·have HN:=qH (show ¬FAll l from fun h=>U (by have:=h k (by rw [E.o.2];exact F);rwa [Z.o.1,Z.o.2] at this));clear U;go_wp2;go_ret;exact⟨20,rfl,.inr (.inl ⟨by rw [E.o.2];omega,HN.o,rfl⟩),J.o⟩
  ·obtain rfl:k=R:=by omega
   have af:¬(k:Int)<(k:Int):=by omega
   go_wp2;go_ret;exact⟨0,rfl,.inr (.inr ⟨by rw [E.o.2];omega,fun j hj=>hS.o j (by rw [<-E.o.2];exact hj),rfl⟩),hB.o⟩
def upL (n i:Nat):List Nat:=List.range i++List.replicate (n-i) 0
theorem upL_set {n i:Nat} (h:i<n):(upL n i).set i i=upL n (i+1):=by
 unfold upL;rw [qbi _ _ (by simp),qbo,qaJ,show n-i=n-(i+1)+1 by omega,qby,qbx,List.range_succ,qaG];rfl
theorem qi0 (n:Nat) (w:World) (U:n<=1000) :
  Calls prog 39 #[.int .i64 (n:Int)] w fun e w'=>∃g,e=.returned (.slice (some ⟨g,0,none⟩) n n)/\NatR w' w.heap.size g n n (List.range n)/\Below w.heap.size w w':=by
 have I:=fun W=>qiH n U W
 obtain⟨O,F,N1⟩:=nw1 w (madeCells #[.int .i64 0] n) 3;have V:Hu (NatR O w.heap.size w.heap.size n n (upL n 0)/\Below w.heap.size w O):=qH ⟨⟨by unfold upL;simp,by
  have h:=qkd (B:=w.heap.size) N1.o.2 qN U;have e:natI (upL n 0)=List.replicate n 0:=by unfold natI upL;simp
  rw [e];exact h⟩,N1.o.1⟩
 clear N1;go_enter func39,ntmps39;go_upto_region 2 with fail;rw [<-F];clear F I;go_wp2_with fail
 go_loopw [8] (fun x8 W=>∃i:Nat,x8=.int .i64 (i:Int)/\i<=n/\Hu (NatR W w.heap.size w.heap.size n n (upL n i)/\Below w.heap.size w W)) (fun x8 _=>n-(intOf x8).toNat)
 case atStart=>exact⟨0,rfl,qaj _,V⟩
 case round =>
  obtain⟨i,rfl,Z,hS⟩:=hrel
  by_cases E:i<n
  ·have H:(i:Int)<(n:Int):=by omega
   obtain⟨x,hx⟩:∃x,(upL n i)[i]? = some x:=⟨_,qac (by rw [hS.o.1.len];exact E)⟩;obtain⟨cx,fx⟩:=hS.o.1.at hx;have Y:=qH (qA (upL_set E▸hS.o.1.set E i) (qc7 hS.o.2 (qb7 wr w.heap.size i (.int .i64 (i:Int))) qN));clear hx;go_wp2;go_roundw
   case rel=>exact⟨i+1,by go_num,E,Y⟩
   case measure=>simp [intOf];omega
  ·obtain rfl:i=n:=by omega
   have H:¬(i:Int)<(i:Int):=by omega
   have J:Hu (NatR wr w.heap.size w.heap.size i i (List.range i)/\Below w.heap.size w wr):=qH ⟨by have h:=hS.o.1;unfold upL at h;rw [qaJ,List.replicate_zero,qbj] at h;exact h,hS.o.2⟩;go_wp2;go_ret;exact⟨_,rfl,J.o.1,J.o.2⟩
def cfL (l:List FT) (x y:Nat):Int:=cmp3 ((lval l x).num*((lval l y).den:Int) + -((lval l y).num*((lval l x).den:Int))) 0
theorem cfL_lt (l:List FT) (x y:Nat):cfL l x y<0↔lval l x<lval l y:=cmp_lt _ _
theorem qfi (l:List FT) (R b off c lb fb x y:Nat) (ao:Option Addr) (w:World) (hl:l.length=R) (hA:FAll l) (hx:x<R) (hy:y<R) (aa:w.heap[lb]? = some (.cells #[.slice ao R c] 22 (0,0))) (hF:FCells w ao b off l) :
  Calls prog 40 #[.int .i64 (x:Int),.int .i64 (y:Int),.pointer (some ⟨lb,0,none⟩),.pointer (some ⟨fb,0,none⟩)] w fun e w'=>e=.returned (.int .i64 (cfL l x y))/\Below w.heap.size w w':=by
 have ag:=hF.addr (by omega);subst ag;obtain⟨x0,x1⟩:=hF.cell x (by omega);obtain⟨y0,y1⟩:=hF.cell y (by omega);have V:=hA x (by omega);have Y:=hA y (by omega);have af:cfL l x y=cmp3 ((fval (l.getD x fd0).1.data.toList (l.getD x fd0).2.data.toList).num*((fval (l.getD y fd0).1.data.toList (l.getD y fd0).2.data.toList).den:Int) + -((fval (l.getD y fd0).1.data.toList (l.getD y fd0).2.data.toList).num*((fval (l.getD x fd0).1.data.toList (l.getD x fd0).2.data.toList).den:Int))) 0:=rfl;rw [af];clear af;obtain⟨s1,H⟩:∃s,(l.getD x fd0).1=s:=⟨_,rfl⟩;obtain⟨s2,I⟩:∃s,(l.getD x fd0).2=s:=⟨_,rfl⟩;obtain⟨t1,J⟩:∃s,(l.getD y fd0).1=s:=⟨_,rfl⟩;obtain⟨t2,O⟩:∃s,(l.getD y fd0).2=s:=⟨_,rfl⟩;rw [H,I,J,O];rw [H,I] at V;rw [J,O] at Y;rw [H] at x0;rw [I] at x1;rw [J] at y0;rw [O] at y1;clear H I J O hA hF hl;have F:=qae w _ x0;have b0:∀W,Below w.heap.size w W->W.cell? ⟨b,off+x*2,none⟩=some (.string s1):=fun W U=>(U.cell (p:=⟨b,off+x*2,none⟩) F).trans x0
 have b1:∀W,Below w.heap.size w W->W.cell? ⟨b,off+x*2+1,none⟩=some (.string s2):=fun W U=>(U.cell (p:=⟨b,off+x*2+1,none⟩) F).trans x1
 have b2:∀W,Below w.heap.size w W->W.cell? ⟨b,off+y*2,none⟩=some (.string t1):=fun W U=>(U.cell (p:=⟨b,off+y*2,none⟩) F).trans y0
 have b3:∀W,Below w.heap.size w W->W.cell? ⟨b,off+y*2+1,none⟩=some (.string t2):=fun W U=>(U.cell (p:=⟨b,off+y*2+1,none⟩) F).trans y1
 have ah:=(qG aa).1;have b4:=rowC (B:=w.heap.size) aa 0;have ai:(x:Int)<(R:Int):=by omega
 have aj:(y:Int)<(R:Int):=by omega
 have HC:=qH (fcmp_any s1 s2 t1 t2 w.drew);have HK:=qH (qA V Y);clear V Y x0 x1 y0 y1 aa;obtain⟨Z,hZ⟩:=qX (cmp3 ((fval s1.data.toList s2.data.toList).num*((fval t1.data.toList t2.data.toList).den:Int) + -((fval t1.data.toList t2.data.toList).num*((fval s1.data.toList s2.data.toList).den:Int))) 0);rw [hZ];have HZ:=qH hZ;clear hZ;go_enter func40,ntmps40;go_wp2_with fail;refine wp_region_held_drew (S:=fun W=>Below w.heap.size w W) (by kernel_rfl) qB.drew (fun hS0=>?_);refine hT 0 (h:=hT 1 (h:=hT 2 (h:=hT 3 (h:=hT 4 (h:=hT 5 (h:=hT 6 (h:=hT 7 (h:=?_))))))));refine hC 8 HC.o (h:=?_);rintro e w2 ⟨⟨_,rfl⟩ | ⟨h,_⟩,ae⟩
 case inr=>exact absurd HK.o h
 rw [HZ.o];have E:=qcm ae;refine⟨_,rfl,E,hN (h:=?_)⟩;refine hT 9 (hS:=E) (h:=hT 10 (hS:=E) (h:=hT 11 (hS:=E) (h:=hT 12 (hS:=E) (h:=hT 13 (hS:=E) (h:=?_)))));refine wpAnyH_done (by kernel_rfl) ?_ _;have HE:=qH E;clear E ae hS0 b0 b1 b2 b3 b4;go_wp2;go_ret;exact⟨rfl,HE.o⟩
theorem NatR.cells {W:World} {B g n c:Nat} {d:List Nat} (h:NatR W B g n c d) {m:Nat} (_I:m<=n):NCells W (some ⟨g,0,none⟩) g 0 (natI (d.take m)):=⟨fun _=>rfl,fun k H=>by
 rw [qcB,qao] at H;have E:k<d.length:=by omega
 have hx:d[k]? = some d[k]:=qac E;have F:=(h.at hx).1;rw [qaT,qiO (x:=d[k]) (by rw [List.getElem?_take,if_pos (by omega)];exact hx)];exact F⟩
theorem NatR.mono {W:World} {B F g n c:Nat} {d:List Nat} (h:NatR W B g n c d) (hB:F<=B):NatR W F g n c d:=⟨h.len,by
 have E:=h.own;unfold IOwn at E ⊢;exact⟨E.1,E.2.imp id fun⟨g',cap,cur,e,H,r⟩=>⟨g',cap,cur,e,qak hB H,r⟩⟩⟩
def OrdAs (w:World) (l:List FT) (e:Ending) (w':World):Prop:=Below w.heap.size w w' /\
  ((∃z,z≠0/\ExIs l z/\e=.returned (.tuple #[.slice none 0 0,.int .i64 z])) \/
   (ExIs l 0/\∃g,e=.returned (.tuple #[.slice (some ⟨g,0,none⟩) l.length l.length,.int .i64 0])/\NatR w' w.heap.size g l.length l.length (qce (lval l) l.length)))
theorem qeW (R b off c:Nat) (J:Option Addr) (l:List FT) (w:World) (hl:l.length=R) (hR:R<=4611686018427387904) (O:FAll l->R<20) (hF:FCells w J b off l) :
  Calls prog 13 #[.slice J R c] w fun e w'=>OrdAs w l e w':=by
 obtain⟨W1,Y,N1⟩:=nw1 w #[.slice J R c] 22;have HE:=qH (qha R b off c J l W1 hl hR (hF.below N1.o.1));have H:=qH (qA hF (qA hl O));have c0:=qC _ _ 0 _ _ _ N1.o.2;clear hF hl O;go_enter func13,ntmps13;go_upto_region 1 with fail;rw [<-Y];clear Y;go_wp2_with fail;refine HE.o.mono ?_;rintro e w2 ⟨z,rfl,hz,hb⟩;have K2:=N1.below hb;have HZ:=qH hz;clear hb hz c0 HE N1
 by_cases E:z=0
 case neg =>
  have ag:(z == (0:Int))=false:=beq_false_of_ne E;have ai:(z != (0:Int))=true:=by rw [bne,ag];rfl
  have HN:=qH E;clear E;go_wp2_with fail
  go_ret2
  exact⟨K2.o.1,.inl ⟨z,HN.o,HZ.o,rfl⟩⟩
 subst E;have hA:FAll l/\R<20:=by
  rcases HZ.o with ⟨_,h⟩ | ⟨_,_,h⟩ | ⟨_,h,_⟩
  ·cases h
  ·cases h
  ·exact⟨h,H.o.2.2 h⟩
 have V:=hA.2;have HA:=qH hA.1;clear hA;obtain⟨W3,Z,N3⟩:=nw1 w2 #[.int .i64 0] 31;have K3:=(K2.below N3.o.1).also (q:=fun W=>W.heap[w2.heap.size]? = some (.cells #[.int .i64 0] 31 (0,0))) N3.o.2;have c1:=qC _ _ 0 _ _ _ K3.o.1.2;have ah:w.heap.size<w2.heap.size:=(qG K2.o.2).1;clear N3 K2;go_upto_region 5 with fail;rw [<-Z];clear Z;go_wp2_with fail;refine (qi0 R W3 (by omega)).mono ?_;rintro e w4 ⟨g4,rfl,F,aa⟩;have I:=(K3.below aa).also (q:=fun W=>NatR W W3.heap.size g4 R R (List.range R)) F;have af:=@hmf_ prog;have HS:=qH (qis (fun a b=>lval l a<lval l b) (fun a b c h1 h2=>by grind) (fun a b h=>by grind) (cfL l) 40 #[.pointer (some ⟨w.heap.size,0,none⟩),.pointer (some ⟨w2.heap.size,0,none⟩)] (some ⟨g4,0,none⟩) g4 0 R R (List.range R) w4 (fun x _ y _=>cfL_lt l x y) V qbo (by
   have h:=F.cells (m:=R) qN
   rwa [qah (by simp)] at h) (fun a b W=>enters func40 (by kernel_rfl) (by kernel_rfl) _ W) (fun W hb x hx y hy=>qfi l R b off c w.heap.size w2.heap.size x y J W H.o.2.1 HA.o (qaq.1 hx) (qaq.1 hy) (zkeep hb _ _ I.o.1.1.2) (H.o.1.below (I.o.1.1.1.trans (hb.mono I.o.1.1.1.size)))))
 clear aa F c1 K3;go_wp2_with fail;refine HS.o.mono ?_;rintro e w5 ⟨g5,rfl,U,ae⟩;have K5:=I.below ae;have c5:=qC _ _ 0 _ _ _ K5.o.1.2;have HN:=qH (U.mono (qak I.o.1.1.1.size qN));clear ae U HS af;go_wp2_with fail
 go_ret2
 refine⟨K5.o.1.1.1,.inr ⟨HZ.o,g5,by rw [H.o.2.1];rfl,?_⟩⟩;rw [H.o.2.1];exact HN.o
theorem qi8 (x y:Nat) (w:World) (hx:x<1000) (hy:y<1000) :
  Calls prog 44 (#[.int .i64 (x:Int),.int .i64 (y:Int)]++#[]) w fun e w'=>e=.returned (.int .i64 ((x:Int)-(y:Int)))/\Below w.heap.size w w':=by
 have E:IntKind.i64.wrap ((x:Int)-(y:Int))=(x:Int)-(y:Int):=by rw [IntKind.wrap_i64];omega
 go_enter func44,ntmps44;go_wp2;go_ret;exact⟨rfl,Below.refl _ _⟩
def qfH (w:World) (l:List FT) (m:Int) (e:Ending) (w':World):Prop:=Below w.heap.size w w' /\
  ((∃z,z≠0/\ExIs l z/\e=.returned (.tuple #[.slice none 0 0,.int .i64 z])) \/
   (ExIs l 0/\¬(0<=m/\m<=l.length)/\e=.returned (.tuple #[.slice none 0 0,.int .i64 2])) \/
   (ExIs l 0/\∃g k:Nat,m=(k:Int)/\k<=l.length/\e=.returned (.tuple #[.slice (some ⟨g,0,none⟩) k k,.int .i64 0])/\NatR w' w.heap.size g k k (bestL (lval l) l.length k)))
theorem qix (R b off c:Nat) (m:Int) (ao:Option Addr) (l:List FT) (w:World) (hl:l.length=R) (hR:R<=4611686018427387904) (H:FAll l->R<20) (hF:FCells w ao b off l) :
  Calls prog 16 #[.slice ao R c,.int .i64 m] w fun e w'=>qfH w l m e w':=by
 have HO:=qH (qeW R b off c ao l w hl hR H hF);have O:=qH (qA hl H);clear hF hl H;go_enter func16,ntmps16;go_wp2_with fail;refine HO.o.mono ?_;rintro e w2 ⟨hb,⟨z,I,J,rfl⟩ | ⟨J,g,rfl,hN⟩⟩
 ·have aa:(z == (0:Int))=false:=beq_false_of_ne I;have ag:(z != (0:Int))=true:=by rw [bne,aa];rfl
  have E:=qH (qA I (qA J hb));clear I J hb HO;go_wp2_with fail
  go_ret2
  exact⟨E.o.2.2,.inl ⟨z,E.o.1,E.o.2.1,rfl⟩⟩
 have hA:FAll l:=by
  rcases J with ⟨_,h⟩ | ⟨_,_,h⟩ | ⟨_,h,_⟩
  ·cases h
  ·cases h
  ·exact h
 have ae:=O.o.2 hA;rw [O.o.1] at hN ⊢;have E:=qH (qA hN (qA hb J));clear hb J hN HO hA
 by_cases h0:m<0
 ·have U:=qH h0;clear U;have U:Hu (¬(0<=m/\m<=(l.length:Int))):=qH fun h=>by have:=h.1;omega
  go_wp2_with fail
  go_ret2
  exact⟨E.o.2.1,.inr (.inl ⟨E.o.2.2,U.o,rfl⟩)⟩
 by_cases h1:m > (R:Int)
 ·have U:Hu (¬(0<=m/\m<=(l.length:Int))):=qH fun h=>by have:=h.2;rw [O.o.1] at this;omega
  go_wp2_with fail
  go_ret2
  exact⟨E.o.2.1,.inr (.inl ⟨E.o.2.2,U.o,rfl⟩)⟩
 obtain⟨k,rfl⟩:∃k:Nat,m=(k:Int):=⟨m.toNat,by omega⟩;have Z:k<=R:=by omega
 have af:(k:Int)<=(R:Int):=by omega
 have F:∀x∈(qce (lval l) R).take k,x<1000:=fun x hx=>by
  have:=qaq.1 ((qcF (lval l) R).mem_iff.1 (qbd hx));omega
 have HS:=qH (qis (fun a b=>a<b) (fun a b c h1 h2=>by omega) (fun a b h=>by omega) (fun a b=>(a:Int)-(b:Int)) 44 #[] (some ⟨g,0,none⟩) g 0 k R ((qce (lval l) R).take k) w2 (fun x _ y _=>by omega) (by omega) (by rw [qao,qcr];omega) (E.o.1.cells Z) (fun a b W=>enters func44 (by kernel_rfl) (by kernel_rfl) _ W) (fun W _ x hx y hy=>qi8 x y W (F x hx) (F y hy)));clear F;go_wp2_with fail;refine HS.o.mono ?_;rintro e w5 ⟨g5,rfl,V,Y⟩;have HE:=qH (qA (V.mono E.o.2.1.size) (E.o.2.1.trans (Y.mono E.o.2.1.size)));clear V Y HS;go_wp2_with fail
 go_ret2
 refine⟨HE.o.2,.inr (.inr ⟨E.o.2.2,g5,k,rfl,by rw [O.o.1];exact Z,rfl,?_⟩)⟩;rw [O.o.1];exact HE.o.1
theorem FCells.keepB {W W':World} {a:Option Addr} {b off g:Nat} {l:List FT} {cs:Array Value} {O:TypeId} (h:FCells W a b off l) (H:W.grownBy W' (some g)) (hg:W.heap[g]? = some (.cells cs O (0,0))) (J:∀y∈cs.toList,∀s,y≠.string s):FCells W' a b off l:=by
 refine⟨h.addr,fun k F=>?_⟩;obtain⟨E,I⟩:=h.cell k F;have hne:some b≠some g:=fun e=>by
  have:=qag e;subst this;rw [qC _ _ _ _ _ _ hg] at E;exact J _ (qbC ((Array.getElem?_toList ..).trans E)) _ rfl
 exact⟨H.cell E hne,H.cell I hne⟩
theorem MdAt.keepB {W W':World} {v:Value} {m:Md} {g:Nat} {cs:Array Value} {O:TypeId} (h:MdAt W v m) (E:W.grownBy W' (some g)) (hg:W.heap[g]? = some (.cells cs O (0,0))) (F:∀y∈cs.toList,∀s,y≠.string s):MdAt W' v m:=by
 obtain⟨a0,a1,a2,b0,o0,c0,b1,o1,c1,b2,o2,c2,rfl,H,I,J⟩:=h;exact⟨a0,a1,a2,b0,o0,c0,b1,o1,c1,b2,o2,c2,rfl,H.keepB E hg F,I.keepB E hg F,J.keepB E hg F⟩
theorem qlb (i j:Int) (a b c:Option Addr) (n1 n2 I E F H:Nat):∀y∈(#[.int .i64 i,.int .i64 j,.slice a n1 E,.slice b n2 F,.slice c I H]:Array Value).toList,∀s,y≠.string s:=by
 intro y hy s;simp only [qat,List.not_mem_nil,or_false] at hy;rcases hy with rfl | rfl | rfl | rfl | rfl <;> intro h <;> cases h
theorem qoA {l:List Pt} (h:PtsOk l) {m:Nat} (I:l.length=m):∀q,q<m->(l.getD q pt0).name.size<=4611686018427387904/\(l.getD q pt0).dev.length<=4611686018427387904:=fun q J=>by
 have E:=(h.rows q (by omega)).1;have F:=E.name.2.1;have H:=E.n4;exact⟨by omega,by omega⟩
instance stays_iow {B:Nat} {v:Value} {l:List Int}:Stays fun W=>IOwn W B v l:=⟨fun h E=>own_below h E⟩
def keptF (K:List Nat):Lit->Value
 | .int .i64 z=>.bool (decide (∃x,x∈K/\(x:Int)=z))
 | _=>.bool false
theorem qnZ:∀E,(Value.bool false)=keptF [] E:=fun E=>by
 unfold keptF;split
 ·rw [qU (by rintro ⟨x,h,_⟩;exact absurd h (by simp))]
 ·rfl
theorem qkC (K:List Nat) (k:Nat):∀x,x≠Lit.int .i64 (k:Int)->keptF (K++[k]) x=keptF K x:=fun x hx=>by
 unfold keptF;split
 ·rename_i z
  congr 1
  rw [decide_eq_decide]
  constructor
  ·rintro ⟨y,h,e⟩;rcases qaL.1 h with h | h
   ·exact⟨y,h,e⟩
   ·rw [qap.1 h] at e;exact absurd (by rw [e]) hx
  ·rintro ⟨y,h,e⟩;exact⟨y,List.mem_append_left _ h,e⟩
 ·rfl
theorem qnY (K:List Nat) (k:Nat):keptF (K++[k]) (.int .i64 (k:Int))=.bool true:=by
 unfold keptF;exact congrArg Value.bool (qV ⟨k,by simp,rfl⟩)
theorem keptF_at (K:List Nat) (i:Nat):keptF K (.int .i64 (i:Int))=.bool (decide (i∈K)):=by
 unfold keptF;refine congrArg Value.bool (decide_eq_decide.2 ⟨?_,fun h=>⟨i,h,rfl⟩⟩);rintro ⟨x,h,e⟩;have:x=i:=by omega
 rwa [this] at h
def keepM (K:List Nat) (R i:Nat):List Int:=(List.range R).map fun j=>if j<i/\j∈K then 1 else 0
theorem qmf (K:List Nat) (R:Nat):keepM K R 0=List.replicate R 0:=by
 unfold keepM;refine List.ext_getElem (by simp) fun j E F=>?_
 simp
theorem qnU (K:List Nat) (R:Nat):keepM K R R=keepW K R:=by
 unfold keepM keepW;refine List.map_congr_left fun j E=>?_
 have:=qaq.1 E
 by_cases h:j∈K
 ·rw [if_pos ⟨this,h⟩,if_pos h]
 ·rw [if_neg fun e=>h e.2,if_neg h]
theorem qnV (K:List Nat) (R i:Nat):(keepM K R i).length=R:=by unfold keepM;simp
theorem qnW {K:List Nat} {R i:Nat} (_J:i<R) (h:i∈K):(keepM K R i).set i 1=keepM K R (i+1):=by
 unfold keepM;refine List.ext_getElem (by simp) fun j I H=>?_
 rw [List.getElem_set];simp only [qaD,qbo] at H;simp only [List.getElem_map,List.getElem_range]
 by_cases e:i=j
 ·subst e;rw [if_pos rfl,if_pos ⟨qbU _,h⟩]
 ·rw [if_neg e]
  by_cases E:j∈K
  ·by_cases F:j<i
   ·rw [if_pos ⟨F,E⟩,if_pos ⟨by omega,E⟩]
   ·rw [if_neg fun e=>F e.1,if_neg fun e=>by have:=e.1;omega]
  ·rw [if_neg fun e=>E e.2,if_neg fun e=>E e.2]
theorem qme {K:List Nat} {R i:Nat} (h:i∉K):keepM K R i=keepM K R (i+1):=by
 unfold keepM;refine List.map_congr_left fun j _=>?_
 by_cases E:j∈K
 ·have hne:j≠i:=fun e=>h (e▸E)
  by_cases F:j<i
  ·rw [if_pos ⟨F,E⟩,if_pos ⟨by omega,E⟩]
  ·rw [if_neg fun e=>F e.1,if_neg fun e=>by have:=e.1;omega]
 ·rw [if_neg fun e=>E e.2,if_neg fun e=>E e.2]
theorem qlt (R b off c kb ko kc n:Nat) (kind:Int) (ao ka:Option Addr) (l:List Pt) (K:List Nat) (w:World) (hR:l.length=R) (ah:R<=1000) (hs:∀k,k<R->(l.getD k pt0).name.size<=4611686018427387904/\(l.getD k pt0).dev.length<=4611686018427387904) (hn:K.length=n) (aN:n<=1000)
  (af:∀x∈K,x<1000) (hP:PCells w ao b off l) (hK:NCells w ka kb ko (natI K)) (hT:HasT w) :
  Calls prog 104 #[.agg #[.slice ao R c,.int .i64 kind],.slice ka n kc] w fun e w'=>FitAs w l kind (keepW K R) e w':=by
 obtain⟨U,ai,N1⟩:=nw2 w #[.slice ao R c,.int .i64 kind] 114 #[.int .i64 0,.int .i64 0,.slice none 0 0,.slice none 0 0,.slice none 0 0] 46;have J:=qH (qA hP (qA hK (qA hT (qA hR (qA hs (qA hn af))))));have aG:=@run_makeMap prog;obtain⟨W2,Y⟩:=qY (U.alloc (.map #[] 0));have aa:Below U.heap.size U W2:=Y▸qB.alloc qN _;have K2:=(N1.below aa).also (q:=fun W=>MapAt W prog 3 U.heap.size 0 (.bool false) (keptF (K.take 0))) (Y▸(MapAt.made U prog 3 (.bool false)).congr fun kl _=>by rw [List.take_zero];exact qnZ kl);have av:Maps.Keyed prog 3:=Maps.int_keyed underlying3;have ay:Tryz.prog.underlying 251=some (.map 3 4):=underlying251;have aP:w.heap.size+1<U.heap.size:=(qG N1.o.2.2).1;have HU:=qH (qA av ay);have aL:=qH N1.o.1;clear hP hK hT hR hs hn af av ay N1 aa;go_enter func104,ntmps104;go_upto_region 1 with fail;rw [<-ai];clear ai;go_upto_region 2 with fail;rw [<-Y];clear Y aG;go_wp2_with fail
 go_loopw [14] (fun x14 W=>∃i:Nat,x14=.int .i64 (i:Int)/\i<=n/\Kn (fun W=>(Below w.heap.size w W/\W.heap[w.heap.size]? = some (.cells #[.slice ao R c,.int .i64 kind] 114 (0,0))/\W.heap[w.heap.size+1]? = some (.cells #[.int .i64 0,.int .i64 0,.slice none 0 0,.slice none 0 0,.slice none 0 0] 46 (0,0)))/\MapAt W prog 3 U.heap.size i (.bool false) (keptF (K.take i))) W) (fun x14 _=>n-(intOf x14).toNat)
 case atStart=>exact⟨0,rfl,qaj _,K2⟩
 case round =>
  obtain⟨i,rfl,hi,O⟩:=hrel
  by_cases ae:i<n
  ·have aA:(i:Int)<(n:Int):=by omega
   have aC:=J.o.2.1.addr (by rw [qcB,J.o.2.2.2.2.2.1];omega);subst aC;have ck:=(J.o.2.1.below O.o.1.1).cell i (by rw [qcB,J.o.2.2.2.2.2.1];exact ae);have ax:i<K.length:=by rw [J.o.2.2.2.2.2.1];exact ae
   obtain⟨x,hx⟩:∃x,K[i]? = some x:=⟨_,qac ax⟩;rw [qiO hx] at ck;have aK:=J.o.2.2.2.2.2.2 x (qbC hx);obtain⟨W7,aO,f7,g7⟩:=O.o.2.store HU.o.1 HU.o.2 (by unfold maxLen;omega) (Maps.keyOf_int_mk (q:=.i64) (a:=(x:Int)) underlying3 (by simp [Lit.wf,IntKind.min,IntKind.max,IntKind.signed,IntKind.bits];omega)) (.bool true);have ht:K.take (i+1)=K.take i++[x]:=by rw [qbw,hx];rfl
   have m7:=f7 (keptF (K.take (i+1))) (by rw [ht];exact qnY _ _) (by rw [ht];exact qkC _ _);have ak:=(qG O.o.1.2.1).1;have au:=(qG O.o.1.2.2).1;have K7:=qH (show Kn (fun W=>(Below w.heap.size w W/\W.heap[w.heap.size]? = some (.cells #[.slice ao R c,.int .i64 kind] 114 (0,0))/\W.heap[w.heap.size+1]? = some (.cells #[.int .i64 0,.int .i64 0,.slice none 0 0,.slice none 0 0,.slice none 0 0] 46 (0,0)))/\MapAt W prog 3 U.heap.size (i+1) (.bool false) (keptF (K.take (i+1)))) W7 from .of ⟨⟨qc7 O.o.1.1 g7 (by omega),(g7.block _ ak (fun e=>by have:=qag e;omega)).trans O.o.1.2.1,(g7.block _ au (fun e=>by have:=qag e;omega)).trans O.o.1.2.2⟩,m7⟩);clear m7 f7 g7 ht ak au hx ax aK;go_wp2;go_roundw
   case rel=>exact⟨i+1,by go_num,ae,K7.o⟩
   case measure=>simp [intOf];omega
  ·obtain rfl:i=n:=by omega
   have aA:¬(i:Int)<(i:Int):=by omega
   have aF:=fun W=>qiH R ah W
   obtain⟨E,aJ⟩:=qY wr;subst aJ;obtain⟨W4,aj,N4⟩:=nw1 E (madeCells #[.int .i64 0] R) 3;have ag:IOwn W4 E.heap.size (.slice (some ⟨E.heap.size,0,none⟩) R R) (keepM K R 0):=by
    rw [qmf];exact qkd N4.o.2 qN ah
   have K4:=(O.below N4.o.1).also (q:=fun W=>Below E.heap.size E W/\IOwn W E.heap.size (.slice (some ⟨E.heap.size,0,none⟩) R R) (keepM K R 0)) ⟨N4.o.1,ag⟩;have c0:=qC _ _ 0 _ _ _ O.o.1.2.1;clear N4 ag;go_upto_region 8 with fail;rw [<-aj];clear aj aF c0;go_wp2_with fail
   go_loopw [27] (fun x27 W=>∃j:Nat,x27=.int .i64 (j:Int)/\j<=R/\Kn (fun W=>((Below w.heap.size w W/\W.heap[w.heap.size]? = some (.cells #[.slice ao R c,.int .i64 kind] 114 (0,0))/\W.heap[w.heap.size+1]? = some (.cells #[.int .i64 0,.int .i64 0,.slice none 0 0,.slice none 0 0,.slice none 0 0] 46 (0,0)))/\MapAt W prog 3 U.heap.size i (.bool false) (keptF (K.take i)))/\Below E.heap.size E W/\IOwn W E.heap.size (.slice (some ⟨E.heap.size,0,none⟩) R R) (keepM K R j)) W) (fun x27 _=>R-(intOf x27).toNat)
   case atStart=>exact⟨0,rfl,qaj _,K4⟩
   case round =>
    obtain⟨j,rfl,hj,F⟩:=hrel
    by_cases Z:j<R
    ·have aB:(j:Int)<(R:Int):=by omega
     have H:=F.o.1.2.look HU.o.1 HU.o.2 (by kernel_rfl) (Maps.keyOf_int_mk (q:=.i64) (a:=(j:Int)) underlying3 (by simp [Lit.wf,IntKind.min,IntKind.max,IntKind.signed,IntKind.bits];omega));have aI:K.take i=K:=qah (by rw [J.o.2.2.2.2.2.1];exact qad _);rw [aI,keptF_at] at H
     by_cases I:j∈K
     ·rw [qV I] at H;obtain⟨g',e',az,⟨hc,hf⟩,V⟩:=IOwn.set F.o.2.2 (i:=j) (by rw [qnV];exact Z) 1;obtain rfl:E.heap.size=g':=by injection e' with e;injection e
      rw [qnW Z I] at V;have hk:=qb7 wr E.heap.size j (.int .i64 1);have aD:=(qG F.o.1.1.2.1).1;have aQ:U.heap.size<E.heap.size:=O.o.2.lt;have KN:=qH (show Kn (fun W=>((Below w.heap.size w W/\W.heap[w.heap.size]? = some (.cells #[.slice ao R c,.int .i64 kind] 114 (0,0))/\W.heap[w.heap.size+1]? = some (.cells #[.int .i64 0,.int .i64 0,.slice none 0 0,.slice none 0 0,.slice none 0 0] 46 (0,0)))/\MapAt W prog 3 U.heap.size i (.bool false) (keptF (K.take i)))/\Below E.heap.size E W/\IOwn W E.heap.size (.slice (some ⟨E.heap.size,0,none⟩) R R) (keepM K R (j+1))) (wr.setCell ⟨E.heap.size,j,none⟩ (.int .i64 1)) from (O.below (F.o.2.1.setCell (p:=⟨E.heap.size,j,none⟩) qN _)).also ⟨F.o.2.1.setCell (p:=⟨E.heap.size,j,none⟩) qN _,V⟩);clear V az hk aD I;go_wp2;go_roundw
      case rel=>exact⟨j+1,by go_num,Z,KN.o⟩
      case measure=>simp [intOf];omega
     ·rw [qU I] at H;have KN:=qH (show IOwn wr E.heap.size (.slice (some ⟨E.heap.size,0,none⟩) R R) (keepM K R (j+1)) from qme I▸F.o.2.2);clear I;go_wp2;go_roundw
      case rel=>exact⟨j+1,by go_num,Z,.of ⟨F.o.1,F.o.2.1,KN.o⟩⟩
      case measure=>simp [intOf];omega
    ·obtain rfl:j=R:=by omega
     have aB:¬(j:Int)<(j:Int):=by omega
     have c0:=qC _ _ 0 _ _ _ F.o.1.1.2.1;have c1:=qC _ _ 1 _ _ _ F.o.1.1.2.1;have hN:NCells wr (some ⟨E.heap.size,0,none⟩) E.heap.size 0 (keepW K j):=by
      have h:=F.o.2.2;rw [qnU] at h;rcases qaN j with e | e
      ·subst e;exact⟨fun _=>rfl,fun k hk=>absurd hk (by rw [qeP];omega)⟩
      ·obtain⟨g',c',e1,h2⟩:=IOwn.cells h (by rw [qeP];exact e);obtain rfl:E.heap.size=g':=by injection e1 with e1;injection e1 with e1;injection e1
       exact h2
     have HF:=qH (fit_any j b off c E.heap.size 0 j j ao (some ⟨E.heap.size,0,none⟩) l kind (keepW K j) wr J.o.2.2.2.1 (by omega) J.o.2.2.2.2.1 (qeP _ _) (by omega) (J.o.1.below F.o.1.1.1) hN (J.o.2.2.1.below F.o.1.1.1));clear hN;go_wp2_with fail;refine HF.o.mono ?_;intro e w8 hA;have K8:=F.below hA.1;have hz:=K8.o.1.1.2.2;have aM:=qH (show w.heap.size<=wr.heap.size from F.o.1.1.1.size);obtain⟨v,cc,rfl,aH⟩:∃(v:Value) (cc:Int),e=.returned (.tuple #[v,.int .i64 cc])/\∃(k5 i5:Int) (A0 A1 A2:Option Addr) (L0 C0 L1 C1 L2 C2:Nat),v=.agg #[.int .i64 k5,.int .i64 i5,.slice A0 L0 C0,.slice A1 L1 C1,.slice A2 L2 C2]:=by
      rcases hA.2 with ⟨v,rfl,_,_,_,k,_,_,_,x,_,hM⟩ | ⟨cc,rfl,_⟩
      ·obtain⟨a0,a1,a2,b0,o0,c0,b1,o1,c1,b2,o2,c2,rfl,_⟩:=hM;exact⟨_,0,rfl,_,_,_,_,_,_,_,_,_,_,_,rfl⟩
      ·exact⟨mdv0,cc,rfl,0,0,none,none,none,0,0,0,0,0,0,rfl⟩
     obtain⟨k5,i5,A0,A1,A2,L0,C0,L1,C1,L2,C2,rfl⟩:=aH;have HA:=qH hA;clear hA c0 c1 HF;rename_i hK;dsimp only;refine hK _ _ ?_
     go_wp2_with (first | (with_reducible refine sR_ rfl 46 _ _ rfl (w.heap.size+1) #[.int .i64 k5,.int .i64 i5,.slice A0 L0 C0,.slice A1 L1 C1,.slice A2 L2 C2] hz 5 ?_) | fail)
     refine qR (v:=.tuple #[.agg #[.int .i64 k5,.int .i64 i5,.slice A0 L0 C0,.slice A1 L1 C1,.slice A2 L2 C2],.int .i64 cc]) (rB_ rfl (w.heap.size+1) (qT _ _ _ _ _ _ hz) underlying46 5) rfl ?_;refine⟨qS K8.o.1.1.1 (qbf _) _,?_⟩;rcases HA.o.2 with ⟨v,e,hG⟩ | ⟨cc',e,hf⟩
     ·refine .inl ⟨v,e,?_⟩;obtain⟨h1,h2,h3,k,h4,h5,h6,x,hx,hM⟩:=hG;exact⟨h1,h2,h3,k,h4,h5,h6,x,hx,hM.keepB (qcn _ _ _) hz (by
       intro y hy s;simp only [qat,List.not_mem_nil,or_false] at hy;rcases hy with rfl | rfl | rfl | rfl | rfl <;> intro h <;> cases h)⟩
     ·exact .inr ⟨cc',e,hf⟩
