import Derived.Test.YtplkdeknjghobaaGreatDoorBb23
set_option maxRecDepth 100000
set_option maxHeartbeats 0
namespace Go.Proofs.YtplkdeknjghobaaGreatDoor
open Go.RowKit Go.Proofs.Tryz
def FitI (l:List Pt) (k:Nat) (I:List Int) (_i:Nat) (kind:Int) (n:Nat) (H:World) (M:Nat) (W:World) (j:Nat):Prop :=
 ∃(F:List Value) (t:Tbl) (x:Nat->Nat->Rat),F.length=j/\VRow W M 5 (.slice none 0 0) 38 (.int .i64 kind :: .int .i64 n :: F)/\RVals W F t /\
  (∀q,q<j->t.getD q []=told (many k (chans l)) (x q)/\FitX l k I q (x q)/\qb2 (many k (chans l)) (x q))/\(0<j->¬Sing (many k (chans l)) (nq l k I 0))/\Below H.heap.size H W
theorem fit1_any (R b off c pb kb wb b2 ae n2 c2:Nat) (ao a2:Option Addr) (l:List Pt) (kind:Int) (I:List Int) (ty aC aD:TypeId) (w:World) (hR:l.length=R) (hl:R<=4611686018427387904) (hs:∀k,k<R->(l.getD k pt0).name.size<=4611686018427387904/\(l.getD k pt0).dev.length<=4611686018427387904)
  (bv:I.length=n2) (aB:n2<=4611686018427387904) (bC:w.heap[pb]? = some (.cells #[.slice ao R c] ty (0,0))) (bn:w.heap[kb]? = some (.cells #[.int .i64 kind] aC (0,0))) (bE:w.heap[wb]? = some (.cells #[.slice a2 n2 c2] aD (0,0)))
  (hP:PCells w ao b off l) (hN:NCells w a2 b2 ae I) (hT:HasT w) :
  Calls prog 51 #[.pointer (some ⟨pb,0,none⟩),.pointer (some ⟨kb,0,none⟩),.pointer (some ⟨wb,0,none⟩)] w fun e w'=>Below w.heap.size w w' /\
   ((∃(i0 i1:Int) (p0:Option Addr) (n0 c0:Nat) (p1:Option Addr) (n1 c1:Nat) (p2:Option Addr) (n2 c2:Nat),e=.returned (.agg #[.int .i64 i0,.int .i64 i1,.slice p0 n0 c0,.slice p1 n1 c1,.slice p2 n2 c2])/\FitG l kind I w' (.agg #[.int .i64 i0,.int .i64 i1,.slice p0 n0 c0,.slice p1 n1 c1,.slice p2 n2 c2])) \/
    ∃c,e=thrown c/\FitF l kind I c):=by
 obtain⟨W1,aU,K0⟩:=nw1 w #[.int .i64 0,.int .i64 0,.slice none 0 0,.slice none 0 0,.slice none 0 0] 38;have K1:Kn (fun W=>(Below w.heap.size w W/\W.heap[w.heap.size]? = some (.cells #[.int .i64 0,.int .i64 0,.slice none 0 0,.slice none 0 0,.slice none 0 0] 38 (0,0)))/\W.heap[pb]? = some (.cells #[.slice ao R c] ty (0,0))/\W.heap[kb]? = some (.cells #[.int .i64 kind] aC (0,0))/\W.heap[wb]? = some (.cells #[.slice a2 n2 c2] aD (0,0))/\PCells W ao b off l/\NCells W a2 b2 ae I/\HasT W) W1 :=
  K0.also (q:=fun W=>W.heap[pb]? = some (.cells #[.slice ao R c] ty (0,0))/\W.heap[kb]? = some (.cells #[.int .i64 kind] aC (0,0))/\W.heap[wb]? = some (.cells #[.slice a2 n2 c2] aD (0,0))/\PCells W ao b off l/\NCells W a2 b2 ae I/\HasT W)
   ⟨zkeep K0.o.1 _ _ bC,zkeep K0.o.1 _ _ bn,zkeep K0.o.1 _ _ bE,hP.below K0.o.1,hN.below K0.o.1,hT.below K0.o.1⟩
 have c0:=qC _ _ 0 _ _ _ K1.o.2.1;have F:=qH (qA hR (qA hl (qA hs (qA bv aB))));have bZ:=@hmf_ prog;clear K0 bC bn bE hP hN hT hR hl hs bv aB;go_enter func51,ntmps51;go_upto_region 1 with fail;rw [<-aU];clear aU;go_wp2_with fail;refine (qhE ao b off R c l W1 F.o.1 F.o.2.1 F.o.2.2.1 K1.o.2.2.2.2.1).mono ?_;rintro e w2 ⟨cc,rfl,bL,aZ⟩;have H:=K1.below aZ;clear K1 aZ;rcases bL with ⟨rfl,bB⟩ | ⟨rfl,bz⟩
 case inr =>
  have HN:=qH bz;clear bz;go_wp2_with fail;refine (qcj 310 (by decide) w2).mono ?_;rintro e w3 ⟨rfl,rfl⟩;unfold thrown;go_wp2_with fail;exact⟨rfl,H.o.1.1,qag ⟨310,rfl,qan ⟨HN.o,rfl⟩⟩⟩
 have O:=qH bB;clear bB;go_wp2_with fail;refine (qeu w2).mono ?_;rintro e w3 ⟨rfl,hw⟩;subst hw;have k0:=qC _ _ 0 _ _ _ H.o.2.2.1;go_wp2_with fail;refine (qgF kind w2).mono ?_;rintro e w3 ⟨rfl,hw⟩;subst hw
 by_cases au:1<=kind/\kind<=3
 case neg =>
  rw [qU au];go_wp2_with fail;refine (qcj 2 (by decide) w2).mono ?_;rintro e w3 ⟨rfl,rfl⟩;unfold thrown;go_wp2_with fail;exact⟨rfl,H.o.1.1,qag ⟨2,rfl,qag (qan ⟨O.o,fun h=>by obtain⟨⟨k,h1,h2,h3⟩,_⟩:=h;exact au ⟨by omega,by omega⟩,rfl⟩)⟩⟩
 obtain⟨k,bq⟩:∃k,qcA kind k:=⟨kind.toNat,by omega,by omega,by omega⟩;rw [qV au];have k1:=qC _ _ 0 _ _ _ H.o.2.2.2.1;have k2:=qC _ _ 0 _ _ _ H.o.2.1;have Hk:=qH (qA bq au);clear bq au
 by_cases hne:n2=R
 case neg =>
  have bS:¬((n2:Int)=(R:Int)):=by omega
  go_wp2_with fail;refine (qcj 2 (by decide) w2).mono ?_;rintro e w3 ⟨rfl,rfl⟩;unfold thrown;go_wp2_with fail;exact⟨rfl,H.o.1.1,qag ⟨2,rfl,qag (qan ⟨O.o,fun h=>hne (by have:=F.o.1;have:=F.o.2.2.2.1;omega),rfl⟩)⟩⟩
 subst hne;go_wp2_with fail;have aG:n2<=40:=by have:=O.o.r2;have:=F.o.1;omega
 go_loopw [27] (fun x27 W=>∃i:Nat,x27=.int .i64 i/\i<=n2/\Hu (W=w2/\∀j,j<i->0<=I.getD j 0/\I.getD j 0<=1000)) (fun x27 _=>n2-(intOf x27).toNat)
 case atStart=>exact⟨0,rfl,qal _,qH ⟨rfl,fun j hj=>absurd hj (qbR _)⟩⟩
 case round =>
  obtain⟨i,rfl,bW,hI⟩:=hrel;have aj:=hI.o.1.symm;subst aj
  by_cases hi:i<n2
  ·have bV:(i:Int)<n2:=by omega
   have bK:=H.o.2.2.2.2.2.1.addr (by have:=F.o.2.2.2.1;omega);subst bK;have d0:=H.o.2.2.2.2.2.1.cell i (by have:=F.o.2.2.2.1;omega);obtain⟨x,hx⟩:=qX (I.getD i 0);rw [hx] at d0;have HX:=qH hx;clear hx
   by_cases J:0<=x/\x<=1000
   ·obtain⟨aX,aY⟩:=J;have bQ:¬x<0:=by omega
    have bR:¬1000<x:=by omega
    go_wp2;go_roundw
    case rel =>
     refine⟨i+1,by go_num,hi,qH ⟨by trivial,fun j hj=>?_⟩⟩;rcases qaQ j i with h | h
     ·exact hI.o.2 j h
     ·obtain rfl:j=i:=by omega
      rw [HX.o];exact⟨aX,aY⟩
    case measure=>simp [intOf];omega
   ·have aP:=qH J
    by_cases aX:x<0
    ·clear J;go_wp2_with fail;refine (qcj 2 (by decide) _).mono ?_;rintro e w3 ⟨rfl,rfl⟩;unfold thrown;go_wp2_with fail;exact⟨rfl,H.o.1.1,qag ⟨2,rfl,qag (qan ⟨O.o,fun h=>by have:=h.2.2 i (by have:=F.o.2.2.2.1;omega);rw [HX.o] at this;exact aP.o this,rfl⟩)⟩⟩
    ·have aY:1000<x:=by omega
     clear J;go_wp2_with fail;refine (qcj 2 (by decide) _).mono ?_;rintro e w3 ⟨rfl,rfl⟩;unfold thrown;go_wp2_with fail;exact⟨rfl,H.o.1.1,qag ⟨2,rfl,qag (qan ⟨O.o,fun h=>by have:=h.2.2 i (by have:=F.o.2.2.2.1;omega);rw [HX.o] at this;exact aP.o this,rfl⟩)⟩⟩
  ·obtain rfl:i=n2:=by omega
   have HW:Hu (WOk I):=qH fun j hj=>hI.o.2 j (by have:=F.o.2.2.2.1;omega)
   clear hI;have bI:0<i:=by have:=O.o.r1;have:=F.o.1;omega
   have bP:(0:Int)<i:=by omega
   have bJ:=H.o.2.2.2.2.1.addr (by have:=F.o.1;omega);subst bJ;obtain⟨_,⟨ra,rb,ro,rc,f1,_⟩,_⟩:=H.o.2.2.2.2.1.cell 0 (by have:=F.o.1;omega);rw [Nat.zero_mul,qbs] at f1;obtain⟨n,hn⟩:=qX ((l.getD 0 pt0).dev.length);have bi:chans l=n:=hn;rw [hn] at f1;have HC:=qH bi;clear hn bi
   by_cases aA:kind=3/\3<n
   ·obtain⟨h3,h4⟩:=aA;have bU:(3:Int)<n:=by omega
    subst h3;go_wp2_with fail;refine (qcj 5 (by decide) _).mono ?_;rintro e w3 ⟨rfl,rfl⟩;unfold thrown;go_wp2_with fail;exact⟨rfl,H.o.1.1,qag ⟨5,rfl,qag (qag ⟨O.o,by have:=F.o.1;have:=F.o.2.2.2.1;omega,HW.o,k,Hk.o.1,qan ⟨by have:=Hk.o.1.1;omega,by have:=O.o.n4;have:=HC.o;omega,rfl⟩⟩)⟩⟩
   ·have af:Hu (¬(k=3/\chans l=4)):=qH fun h=>aA ⟨by have:=Hk.o.1.1;omega,by have:=HC.o;omega⟩
    go_upto_region 11 with fail
    go_cut [49] (fun x49 W=>x49=.bool false/\Hu (W=w2))
    case first =>
     by_cases h3:kind=3
     ·have cu:¬(3:Int)<n:=fun h=>aA ⟨h3,by omega⟩
      go_wp2;go_meet;exact⟨rfl,qH rfl⟩
     ·go_wp2;go_meet;exact⟨rfl,qH rfl⟩
    case rest =>
     obtain⟨rfl,aj⟩:=hcut;have aj:=aj.o.symm;subst aj;clear aA;go_wp2_with fail;have bM:=(qG H.o.2.1).1;have aB:=(qG H.o.2.2.1).1;have bN:=(qG H.o.2.2.2.1).1;have q1:=rowC (B:=w2.heap.size) H.o.2.1 0;have q2:=rowC (B:=w2.heap.size) H.o.2.2.1 0;have q3:=rowC (B:=w2.heap.size) H.o.2.2.2.1 0;refine wp_region_held_drew (S:=fun W=>Below w2.heap.size w2 W) (by kernel_rfl) qB.drew (fun hS0=>?_);refine hT 0 (h:=?_);refine hT 1 (h:=?_);refine hT 2 (h:=?_);refine hT 5 (h:=?_);refine hT 6 (h:=?_);refine gr [(3,54),(4,55),(7,58),(8,59),(9,60),(10,7)] [(4,[3]),(8,[7]),(9,[4,8])] [0,1,2,5,6] [3,4,7,8,9,10] [] 11 12
      (fl2 [(3,fun z _=>z=.func (.func 56) #[] #[.pointer (some ⟨kb,0,none⟩),.pointer (some ⟨pb,0,none⟩)]),(4,SlT i (many k (chans l)) (tqf l k)),(7,fun z _=>z=.func (.func 59) #[] #[.pointer (some ⟨wb,0,none⟩)]),(8,SlF i (wq I)),
       (9,fun z W=>∃z1 z2,z=.agg #[.slice (some ⟨b,off,none⟩) i c,z1,z2]/\SlT i (many k (chans l)) (tqf l k) z1 W/\SlF i (wq I) z2 W),(10,ZC w2.heap.size #[.slice none 0 0,.slice none 0 0,.slice none 0 0] 123)]) _ 1
      (hS:=fun w' h=>qb4 h) (hstep:=⟨⟨_,rfl,fun v w4 J hF K hK=>?_⟩,⟨_,rfl,fun v w4 J hF K hK=>?_⟩,⟨_,rfl,fun v w4 J hF K hK=>?_⟩,⟨_,rfl,fun v w4 J hF K hK=>?_⟩,⟨_,rfl,fun v w4 J hF K hK=>?_⟩,⟨_,rfl,fun v w4 J hF K hK=>?_⟩,trivial⟩) (hend:=fun v w4 J hF _ fu=>?_)
     ·exact gV hK rfl
     ·have e3:v 3=_:=hF.1;have K4:=H.below (qb4 J);rw [e3] at hK ⊢;exact gC hK (qnT i k pb kb b off c kind _ l ty aC w4 Hk.o.1 F.o.1 af.o O.o K4.o.2.1 K4.o.2.2.1 K4.o.2.2.2.2.1 K4.o.2.2.2.2.2.2) (h:=fun e w5 ⟨h1,z,h2,h3⟩=>⟨z,h2,by exact h3,h1⟩)
     ·exact gV hK rfl
     ·have e7:v 7=_:=hF.1;have K4:=H.below (qb4 J);rw [e7] at hK ⊢;exact gC hK (qj3 i wb b2 ae c2 _ I aD w4 F.o.2.2.2.1 aG HW.o K4.o.2.2.2.1 K4.o.2.2.2.2.2.1 K4.o.2.2.2.2.2.2) (h:=fun e w5 ⟨h1,z,h2,h3⟩=>⟨z,h2,by exact h3,h1⟩)
     ·have f4:SlT i (many k (chans l)) (tqf l k) (v 4) w4:=hF.1;have f8:SlF i (wq I) (v 8) w4:=hF.2.1;obtain⟨g4,e4,h4⟩:=id f4;obtain⟨g8,e8,h8⟩:=id f8;exact gV hK ⟨_,_,rfl,e4▸f4,e8▸f8⟩
     ·exact gW hK (h:=ZC.new (qb4 J).size)
     obtain⟨z1,z2,e9,f1,f2⟩:∃z1 z2,_:=hF 9 (by decide) (by decide);obtain⟨g7,ak,e10,aJ⟩:∃g7,_:=hF 10 (by decide) (by decide);have K4:=H.below (qb4 J);obtain⟨g4,rfl,h4⟩:=f1;obtain⟨g8,rfl,h8⟩:=f2;rw [e9,e10];refine hSt 11 3 ak (h:=⟨qS (qb4 J) aJ _,?_⟩);have aL:=qe7 Hk.o.1 O.o.n1 O.o.n4 af.o;have bF:∀x∈(#[.slice none 0 0,.slice none 0 0,.slice none 0 0]:Array Value).toList,x=.slice none 0 0:=by simp
     obtain⟨W5,ai⟩:=qY (w4.setRow g7 #[.slice (some ⟨b,off,none⟩) i c,.slice (some ⟨g4,0,none⟩) i i,.slice (some ⟨g8,0,none⟩) i i]);have bf:Below w2.heap.size w2 W5:=ai▸qS (qb4 J) aJ _;have K5:=((H.below bf).also (q:=fun W=>W.heap[g7]? = some (.cells #[.slice (some ⟨b,off,none⟩) i c,.slice (some ⟨g4,0,none⟩) i i,.slice (some ⟨g8,0,none⟩) i i] 123 (0,0))) (ai▸qT _ _ _ _ _ _ ak)).also
      (q:=fun W=>SlT i (many k (chans l)) (tqf l k) (.slice (some ⟨g4,0,none⟩) i i) W/\SlF i (wq I) (.slice (some ⟨g8,0,none⟩) i i) W)
      (by rw [ai];exact⟨SlT.keepZ ⟨g4,rfl,h4⟩ aL.1 ak bF,SlF.keepZ ⟨g8,rfl,h8⟩ ak bF⟩)
     rw [<-ai];clear H ai K4 bf J hF ak aJ h4 h8 q1 q2 q3 bM aB bN e9 e10;have s0:=qC _ _ 0 _ _ _ K5.o.1.2;have s1:=qC _ _ 1 _ _ _ K5.o.1.2;have s2:=qC _ _ 2 _ _ _ K5.o.1.2;have kk:=qC _ _ 0 _ _ _ K5.o.1.1.2.2.1;obtain⟨W6,aV,K6⟩:=nw1 W5 #[.int .i64 kind,.int .i64 n,.slice none 0 0,.slice none 0 0,.slice none 0 0] 38
     go_wp2_with (((with_reducible refine qex rfl 38 _ _ rfl #[.int .i64 0,.int .i64 0,.slice none 0 0,.slice none 0 0,.slice none 0 0] #[.int .i64 kind,.int .i64 n,.slice none 0 0,.slice none 0 0,.slice none 0 0] ?_ ?_ 5 ?_ ?_ ?_ ?_ ?_);(next=>rfl);(next=>rfl);(next=>kernel_rfl);(next=>rfl);(next=>rfl);(next=>rfl)))
     rw [<-aV];have aF:VRow W6 W5.heap.size 5 (.slice none 0 0) 38 [.int .i64 kind,.int .i64 n]:=⟨K6.o.2,by simp⟩;have aH:=qH (qA aF K6.o.1);clear aF aV K6 k0 k1 k2 kk s0 s1 s2 c0 f1;obtain⟨M,hM⟩:=qY W5.heap.size;rw [<-hM] at aH ⊢;have HM:=qH hM;clear hM
     go_loopw [66] (fun x66 W=>∃j:Nat,x66=.int .i64 j/\j<=3/\Hu (FitI l k I i kind n W5 M W j)) (fun x66 _=>3-(intOf x66).toNat)
     case atStart=>exact⟨0,rfl,qal _,qH ⟨[],[],fun _ _=>0,rfl,aH.o.1,⟨rfl,fun q hq=>absurd hq (qbR _)⟩,fun q hq=>absurd hq (qbR _),fun h=>absurd h (qbR _),HM.o▸aH.o.2⟩⟩
     case round =>
      obtain⟨j,rfl,hj,hI⟩:=hrel;obtain⟨vs,t,x,aM,hV,Y,hx,av,hB⟩:=hI.o;have ag:=F.o.1
      by_cases aK:j<3
      ·have bX:(j:Int)<3:=by omega
       obtain⟨⟨g4',e4',aQ⟩,bT,bH,aR⟩:=K5.o.2;cases e4';cases bH;have HC:=qH (row_any j i (many k (chans l)) b off c g4 i g8 i _ _ _ l (tqf l k) (wq I) _ ag bI aG aL.1 aL.2 aK (K5.o.1.1.2.2.2.2.1.below hB) (ag▸O.o.bound j) (ag▸O.o.terms Hk.o.1 af.o) (ag▸O.o.labs) (by have:=HW.o.short;rw [F.o.2.2.2.1] at this;exact this) (by have:=HW.o.pos;rw [F.o.2.2.2.1] at this;exact this) (aQ.below hB) (aR.below hB) (K5.o.1.1.2.2.2.2.2.2.below hB));have HI:=qH (qA aM (qA hV (qA Y (qA hx (qA av hB)))));clear hI aM hV Y hx av hB aQ aR;have bA:nq l k I j=normR i (many k (chans l)) (tqf l k) (labq l j) (wq I):=by unfold nq;rw [ag]
       have bu:I.length=l.length:=by have:=F.o.2.2.2.1;omega
       have HQ:=qH (qA bA bu);clear bA bu ag;go_wp2_with fail;refine HC.o.mono ?_;rintro e w7 ⟨hr,bg⟩;rw [<-HQ.o.1] at hr;have az:=qH bg;clear bg;have aO:Hu (Below w.heap.size w w7):=qH ((K5.o.1.1.1.1.trans (HI.o.2.2.2.2.2.mono K5.o.1.1.1.1.size)).trans (az.o.mono (K5.o.1.1.1.1.trans (HI.o.2.2.2.2.2.mono K5.o.1.1.1.1.size)).size));rcases hr with ⟨Z,rfl⟩ | ⟨Z,y,hy,⟨ay,g9,rfl,aT⟩ | ⟨ay,rfl⟩⟩
       ·have HS:=qH Z;clear Z;unfold thrown;go_wp2_with fail;exact⟨rfl,aO.o,qag ⟨7,rfl,qag (qag ⟨O.o,HQ.o.2,HW.o,k,Hk.o.1,qag ⟨af.o,qan ⟨qgR HS.o,rfl⟩⟩⟩)⟩⟩
       ·have aI:=HI.o.2.1.below az.o;have aa:(Value.int .i64 kind :: Value.int .i64 n :: vs).length=2+j:=by simp only [qbM];have:=HI.o.1;omega
        have aW:=aI.at (by rw [aa];omega);have ax:=aI.set (by rw [aa];omega) (.slice (some ⟨g9,0,none⟩) (many k (chans l)) (many k (chans l)));rw [aa] at aW ax;obtain⟨q0,qf⟩:=aW;have cz:=qf (2+j);have HN:=qH (qA ax (qA (((HI.o.2.2.1.below az.o).append (RVals.one (rc:=many k (chans l)) (qb0 _ _) aT)).kept (qkI (u:=.slice (some ⟨g9,0,none⟩) (many k (chans l)) (many k (chans l))) q0 (fun s h=>by cases h))) (qA ((HI.o.2.2.2.2.2.trans (az.o.mono HI.o.2.2.2.2.2.size)).setCell (p:=⟨M,2+j,none⟩) (by rw [HM.o];exact qae _) (.slice (some ⟨g9,0,none⟩) (many k (chans l)) (many k (chans l)))) (qA Z (qA hy ay)))));clear aI aa ax qf Z hy ay aT;go_wp2;go_roundw
        case rel =>
         refine⟨j+1,by go_num,aK,qH ⟨vs++[.slice (some ⟨g9,0,none⟩) (many k (chans l)) (many k (chans l))],t++[told (many k (chans l)) y],fun q=>if q=j then y else x q,by simp [HI.o.1],by exact HN.o.1,HN.o.2.1,fun q hq=>?_,fun _ h=>HN.o.2.2.2.1 (qgR h),HN.o.2.2.1⟩⟩;have bD:t.length=j:=HI.o.2.2.1.1.symm.trans HI.o.1
         by_cases e:q=j
         ·subst e;dsimp only;rw [if_pos rfl,qaa,qaq (by omega),bD,qaG];exact⟨rfl,HN.o.2.2.2.2.1,HN.o.2.2.2.2.2⟩
         ·dsimp only;rw [if_neg e,qaa,qas (by omega),<-qaa];exact HI.o.2.2.2.1 q (by omega)
        case measure=>simp [intOf];omega
       ·have HS:=qH (qA Z (qA hy ay));clear Z hy ay;unfold thrown;go_wp2_with fail;exact⟨rfl,aO.o,qag ⟨6,rfl,qag (qag ⟨O.o,HQ.o.2,HW.o,k,Hk.o.1,qag ⟨af.o,qag ⟨fun h=>HS.o.1 (qgR h),j,y,aK,HS.o.2.1,HS.o.2.2,rfl⟩⟩⟩)⟩⟩
      ·obtain rfl:j=3:=by omega
       obtain⟨s0,s1,s2,rfl⟩:∃s0 s1 s2,vs=[s0,s1,s2]:=by
        rcases vs with _ | ⟨s0,_ | ⟨s1,_ | ⟨s2,_ | ⟨s3,vs⟩⟩⟩⟩ <;> simp at aM
        exact⟨s0,s1,s2,rfl⟩
       have bD:t.length=3:=Y.1.symm;obtain⟨a0,b0,o0,d0,e0,f0⟩:=Y.2 0 (by omega);obtain⟨a1,b1,o1,d1,e1,f1⟩:=Y.2 1 (by omega);obtain⟨U,b2',o2,d2,e2,f2⟩:=Y.2 2 (by omega);rw [(hx 0 (by omega)).1,qb0] at e0;rw [(hx 1 (by omega)).1,qb0] at e1;rw [(hx 2 (by omega)).1,qb0] at e2;rw [(hx 0 (by omega)).1] at f0;rw [(hx 1 (by omega)).1] at f1;rw [(hx 2 (by omega)).1] at f2;have e0:s0=_:=e0;have e1:s1=_:=e1;have e2:s2=_:=e2;subst e0 e1 e2;obtain⟨m,hm⟩:=qX (many k (chans l));rw [hm] at hV f0 f1 f2 hx av;have V:=hV.1;have ah:=(K5.below hB).o.1.1.1.2;have aS:=K5.o.1.1.1.1.trans (hB.mono K5.o.1.1.1.1.size);have bY:=(qG V).1;have z0:=qC _ _ 0 _ _ _ V;have z1:=qC _ _ 1 _ _ _ V;have z2:=qC _ _ 2 _ _ _ V;have z3:=qC _ _ 3 _ _ _ V;have z4:=qC _ _ 4 _ _ _ V;have aN:∀s,.string s∉(#[.int .i64 0,.int .i64 0,.slice none 0 0,.slice none 0 0,.slice none 0 0]:Array Value).toList:=by intro s;simp
       have HE:=qH (qA (qT _ _ _ #[.int .i64 kind,.int .i64 n,.slice a0 m d0,.slice a1 m d1,.slice U m d2] _ _ ah) (qA (qS aS qN #[.int .i64 kind,.int .i64 n,.slice a0 m d0,.slice a1 m d1,.slice U m d2])
        (qA (f0.kept (qdX (cs:=#[.int .i64 kind,.int .i64 n,.slice a0 m d0,.slice a1 m d1,.slice U m d2]) ah aN)) (qA (f1.kept (qdX (cs:=#[.int .i64 kind,.int .i64 n,.slice a0 m d0,.slice a1 m d1,.slice U m d2]) ah aN)) (f2.kept (qdX (cs:=#[.int .i64 kind,.int .i64 n,.slice a0 m d0,.slice a1 m d1,.slice U m d2]) ah aN))))))
       have HX:=qH (qA hx av);have bG:=qH ah;clear hI hV Y hx av hB f0 f1 f2 V aS ah
       go_wp2_with ((with_reducible refine sR_ rfl 38 _ _ rfl (w.heap.size) #[.int .i64 kind,.int .i64 n,.slice a0 m d0,.slice a1 m d1,.slice U m d2] bG.o 5 ?_))
       refine qR (v:=.agg #[.int .i64 kind,.int .i64 n,.slice a0 m d0,.slice a1 m d1,.slice U m d2]) (rA_ rfl (w.heap.size) HE.o.1 underlying38 5) rfl ?_;have bO:=Hk.o.1.1;refine⟨HE.o.2.1,qan ⟨_,_,_,_,_,_,_,_,_,_,_,rfl,O.o,by have:=F.o.1;have:=F.o.2.2.2.1;omega,HW.o,k,Hk.o.1,af.o,by rw [hm];exact HX.o.2 (by omega),x,?_,?_⟩⟩
       ·intro q hq;exact (HX.o.1 q hq).2.imp id fun h=>by rw [hm];exact h
       ·rw [hm];have hc:=HC.o;refine⟨a0,a1,U,b0,o0,d0,b1,o1,d1,b2',o2,d2,?_,HE.o.2.2.1,HE.o.2.2.2.1,HE.o.2.2.2.2⟩;unfold mdq;simp only [qb0,hc,bO]
theorem MdAt.kept {W W':World} {v:Value} {m:Md} (h:MdAt W v m) (F:∀a s,W.cell? a=some (.string s)->W'.cell? a=some (.string s)):MdAt W' v m:=by
 obtain⟨a0,a1,a2,b0,o0,c0,b1,o1,c1,b2,o2,c2,rfl,H,I,J⟩:=h;exact⟨a0,a1,a2,b0,o0,c0,b1,o1,c1,b2,o2,c2,rfl,H.kept F,I.kept F,J.kept F⟩
theorem FitG.kept {l:List Pt} {kind:Int} {F:List Int} {W W':World} {v:Value} (hk:∀a s,W.cell? a=some (.string s)->W'.cell? a=some (.string s)) (h:FitG l kind F W v):FitG l kind F W' v:=by
 obtain⟨H,I,J,k,O,U,V,x,Y,Z⟩:=h;exact⟨H,I,J,k,O,U,V,x,Y,Z.kept hk⟩
theorem qjF (R b off c b2 J n2 c2:Nat) (ao a2:Option Addr) (l:List Pt) (kind:Int) (ws:List Int) (w:World) (hR:l.length=R) (hl:R<=4611686018427387904) (hs:∀k,k<R->(l.getD k pt0).name.size<=4611686018427387904/\(l.getD k pt0).dev.length<=4611686018427387904)
  (ag:ws.length=n2) (af:n2<=4611686018427387904) (hP:PCells w ao b off l) (hN:NCells w a2 b2 J ws) (hT:HasT w) :
  Calls prog 14 #[.slice ao R c,.int .i64 kind,.slice a2 n2 c2] w fun e w'=>FitAs w l kind ws e w':=by
 obtain⟨W3,U,Y⟩:=nw3 w #[.slice ao R c] 30 #[.int .i64 kind] 3 #[.slice a2 n2 c2] 32;obtain⟨W4,ae,Z⟩:=nw1 W3 #[.int .i64 0,.int .i64 0,.slice none 0 0,.slice none 0 0,.slice none 0 0] 38;have aj:=@hmf_ prog;have ah:W3.heap.size=w.heap.size+1+1+1:=by rw [U];simp
 have F:Below w.heap.size w W4:=Y.o.1.trans (Z.o.1.mono Y.o.1.size);have HG:=qH (qip 51 #[.pointer (some ⟨w.heap.size,0,none⟩),.pointer (some ⟨w.heap.size+1,0,none⟩),.pointer (some ⟨w.heap.size+1+1,0,none⟩)] (FitG l kind ws) (FitF l kind ws) W4 (fun W=>enters func51 (by kernel_rfl) (by kernel_rfl) _ W)
  (fun W W' v hk h=>h.kept hk)
  (fun w1 hb=>fit1_any R b off c w.heap.size (w.heap.size+1) (w.heap.size+1+1) b2 J n2 c2 ao a2 l kind ws _ _ _ w1 hR hl hs ag af (zkeep hb _ _ (zkeep Z.o.1 _ _ Y.o.2.1)) (zkeep hb _ _ (zkeep Z.o.1 _ _ Y.o.2.2.1)) (zkeep hb _ _ (zkeep Z.o.1 _ _ Y.o.2.2.2))
   (hP.below (F.trans (hb.mono F.size))) (hN.below (F.trans (hb.mono F.size))) (hT.below (F.trans (hb.mono F.size)))))
 have HB:=qH (qA F ah);clear hR hl hs ag af hP hN hT F ah;go_enter func14,ntmps14;go_upto_region 1 with fail;rw [<-U,<-ae];clear U ae;go_wp2_with fail;refine HG.o.mono ?_;rintro e w5 ⟨V,h⟩;have K5:=Z.below V;have aa:=qH (HB.o.1.trans (V.mono HB.o.1.size));clear V HG;have H:=K5.o.2;rw [HB.o.2] at H;have Hr:=qH H;clear H K5 Z Y;have ai:∀s,.string s∉(#[.int .i64 0,.int .i64 0,.slice none 0 0,.slice none 0 0,.slice none 0 0]:Array Value).toList:=by intro s;simp
 rcases h with ⟨i0,i1,p0,n0,c0,p1,n1,c1,p2,I,c2',rfl,hg⟩ | ⟨cc,rfl,hf⟩
 ·have O:=qH (qA (qT _ _ _ #[.int .i64 i0,.int .i64 i1,.slice p0 n0 c0,.slice p1 n1 c1,.slice p2 I c2'] _ _ Hr.o) (qA (qS aa.o (show w.heap.size<=w.heap.size+1+1+1 by omega) #[.int .i64 i0,.int .i64 i1,.slice p0 n0 c0,.slice p1 n1 c1,.slice p2 I c2'])
   (hg.kept (qdX (cs:=#[.int .i64 i0,.int .i64 i1,.slice p0 n0 c0,.slice p1 n1 c1,.slice p2 I c2']) Hr.o ai))))
  clear hg;rename_i hK;dsimp only;refine hK _ _ ?_
  go_wp2_with ((with_reducible refine sR_ rfl 38 _ _ rfl ((w.heap.size+1+1+1)) #[.int .i64 i0,.int .i64 i1,.slice p0 n0 c0,.slice p1 n1 c1,.slice p2 I c2'] Hr.o 5 ?_))
  exact qR (v:=.tuple #[.agg #[.int .i64 i0,.int .i64 i1,.slice p0 n0 c0,.slice p1 n1 c1,.slice p2 I c2'],.int .i64 0]) (rB_ rfl (w.heap.size+1+1+1) O.o.1 underlying38 5) rfl ⟨O.o.2.1,qan ⟨_,rfl,O.o.2.2⟩⟩
 ·have O:=qH (qA (qT _ _ _ #[.int .i64 0,.int .i64 0,.slice none 0 0,.slice none 0 0,.slice none 0 0] _ _ Hr.o) (qA (qS aa.o (show w.heap.size<=w.heap.size+1+1+1 by omega) #[.int .i64 0,.int .i64 0,.slice none 0 0,.slice none 0 0,.slice none 0 0]) hf));clear hf;rename_i hK;dsimp only;refine hK _ _ ?_
  go_wp2_with ((with_reducible refine sR_ rfl 38 _ _ rfl ((w.heap.size+1+1+1)) #[.int .i64 0,.int .i64 0,.slice none 0 0,.slice none 0 0,.slice none 0 0] Hr.o 5 ?_))
  exact qR (v:=.tuple #[mdv0,.int .i64 cc]) (rB_ rfl (w.heap.size+1+1+1) O.o.1 underlying38 5) rfl ⟨O.o.2.1,qag ⟨cc,rfl,O.o.2.2⟩⟩
def MatchAs (w:World) (m:Md) (l:List Pt) (e:Ending) (F:World):Prop :=
 Below w.heap.size w F/\((¬qdz m/\e=thrown 320)\/(qdz m/\¬PtsOk l/\e=thrown 310)\/(qdz m/\PtsOk l/\m.inn≠(chans l:Nat)/\e=thrown 5)\/(qdz m/\PtsOk l/\m.inn=(chans l:Nat)/\e=.returned (.tuple #[])))
theorem qmQ (m:Md) (v:Value) (R b off c:Nat) (ao:Option Addr) (l:List Pt) (w:World) (hM:MdAt w v m) (ae:∀q,q<3->(m.row q).length<=4611686018427387904) (hR:l.length=R) (hl:R<=4611686018427387904) (hs:∀k,k<R->(l.getD k pt0).name.size<=4611686018427387904/\(l.getD k pt0).dev.length<=4611686018427387904) (hP:PCells w ao b off l) :
  Calls prog 71 #[v,.slice ao R c] w fun e w'=>MatchAs w m l e w':=by
 obtain⟨a,b',o,c',rfl,hF⟩:=id hM.parts;obtain⟨kind,I⟩:∃z,m.kind=z:=⟨_,rfl⟩;obtain⟨inn,H⟩:∃z,m.inn=z:=⟨_,rfl⟩;rw [I,H] at hM ⊢;obtain⟨L,hL⟩:∃L:Nat->Nat,∀q,(m.row q).length=L q:=⟨_,fun _=>rfl⟩;rw [hL,hL,hL] at hM ⊢;obtain⟨W1,aa,U⟩:=nw1 w #[.int .i64 kind,.int .i64 inn,.slice (a 0) (L 0) (c' 0),.slice (a 1) (L 1) (c' 1),.slice (a 2) (L 2) (c' 2)] 38;have c0:=qC _ _ 0 _ _ _ U.o.2;have c1:=qC _ _ 1 _ _ _ U.o.2;have c2:=qC _ _ 2 _ _ _ U.o.2;have c3:=qC _ _ 3 _ _ _ U.o.2;have c4:=qC _ _ 4 _ _ _ U.o.2;have HC:=qH (qfN m _ W1 (hM.below U.o.1) ae);have HX:=qH (qA hR (qA hl (qA hs (qA (hP.below U.o.1) H))));clear hM hF ae hR hl hs hP I H hL;go_enter func71,ntmps71;go_upto_region 1 with fail;rw [<-aa];clear aa;go_wp2_with fail;refine HC.o.mono ?_;rintro e w2 ⟨cc,rfl,af,Z⟩;have HB:=qH (U.o.1.trans (Z.mono U.o.1.size));have K2:=(U.below Z).also (q:=fun W=>PCells W ao b off l) (HX.o.2.2.2.1.below Z);clear Z HC c0 c1 c2 c3 c4;rcases af with ⟨rfl,O⟩ | ⟨rfl,J⟩
 case inr =>
  have HN:=qH J;clear J;go_wp2_with fail;refine (qcj 320 (by decide) _).mono ?_;rintro e w3 ⟨rfl,rfl⟩;unfold thrown;go_wp2_with fail;exact⟨rfl,HB.o,qan ⟨HN.o,rfl⟩⟩
 have HO:=qH O;clear O;go_wp2_with fail;refine (qeu _).mono ?_;rintro e w3 ⟨rfl,hw⟩;subst hw;go_wp2_with fail;have ag:=(qG K2.o.1.2).1;have q1:=rowC (B:=w2.heap.size) K2.o.1.2 1;refine wp_region_held_drew (S:=fun W=>Below w2.heap.size w2 W) (by kernel_rfl) qB.drew (fun hS0=>?_);refine hT 0 (h:=?_);refine hT 5 (h:=?_);refine hT 6 (h:=?_);refine hC 1 (chan_any ao b off R c l w2.drew HX.o.1 HX.o.2.1 HX.o.2.2.1 (K2.o.2.below qB.drew)) (h:=?_);rintro e w3 ⟨h,hb⟩;have F:=qH (qb4 hb);clear hb;rcases h with ⟨O,rfl⟩ | ⟨J,rfl⟩
 ·refine⟨_,rfl,F.o,hN (h:=?_)⟩;have Y:=qH O;clear O;refine hT 2 (hS:=F.o) (h:=?_);refine hT 3 (hS:=F.o) (h:=?_);refine hC 4 (qer _ w3) (h:=?_);rintro e w4 ⟨rfl,rfl⟩;refine⟨_,rfl,F.o,hN (h:=?_)⟩;refine hT 7 (hS:=F.o) (h:=?_);refine wpAnyH_done (by kernel_rfl) ?_ _;have V:=qH (HB.o.trans (F.o.mono HB.o.size))
  by_cases hc:((chans l:Nat):Int)=inn
  ·have hb:(((chans l:Nat):Int) != inn)=false:=by simp [hc]
   have Hc:=qH hc;clear hc;rw [hb];clear hb;go_wp2_with fail;exact qR (results_none rfl _ _ _) rfl ⟨V.o,qag (qag (qag ⟨HO.o,Y.o,by rw [HX.o.2.2.2.2];exact Hc.o.symm,rfl⟩))⟩
  ·have hb:(((chans l:Nat):Int) != inn)=true:=by rw [bne_iff_ne];exact hc
   have Hc:=qH hc;clear hc;rw [hb];clear hb;go_wp2_with fail;refine (qcj 5 (by decide) _).mono ?_;rintro e w4 ⟨rfl,rfl⟩;unfold thrown;go_wp2_with fail;exact⟨rfl,V.o,qag (qag (qan ⟨HO.o,Y.o,fun h=>Hc.o (by rw [HX.o.2.2.2.2] at h;exact h.symm),rfl⟩))⟩
 ·refine⟨_,rfl,F.o,hN (h:=?_)⟩;have Y:=qH J;clear J;refine hT 2 (hS:=F.o) (h:=?_);refine hT 3 (hS:=F.o) (h:=?_);refine hCx 4 (qgP 0 310 (by decide) w3) (h:=?_);rintro e w4 ⟨rfl,rfl⟩;refine qag ⟨_,rfl,?_⟩;have V:=qH (HB.o.trans (F.o.mono HB.o.size));go_wp2_with fail;exact⟨rfl,V.o,qag (qan ⟨HO.o,Y.o,rfl⟩)⟩
theorem qnH (k F R pb ib b off c:Nat) (ao:Option Addr) (l:List Pt) (ty ae:TypeId) (w:World) (hR:l.length=R) (hk:k<R) (af:R<=40) (ag:F<3) (Z:w.heap[pb]? = some (.cells #[.slice ao R c] ty (0,0))) (V:w.heap[ib]? = some (.cells #[.int .i64 (k:Int)] ae (0,0)))
  (hP:PCells w ao b off l) (hl:-9223372036854775808<=(l.getD k pt0).lab F/\(l.getD k pt0).lab F<=9223372036854775807) (hT:HasT w) :
  Calls prog 103 #[.int .i64 (F:Int),.pointer (some ⟨pb,0,none⟩),.pointer (some ⟨ib,0,none⟩)] w fun e w'=>Below w.heap.size w w'/\e=.returned (.agg #[.string (ftxt (labq l F k)).1,.string (ftxt (labq l F k)).2]):=by
 have aa:=hP.addr (by omega);subst aa;obtain⟨t1,t2,ht⟩:=qcd (labq l F k);rw [ht];obtain⟨W1,J,I⟩:=nw1 w #[.string ⟨#[]⟩,.string ⟨#[]⟩] 44;have d0:W1.cell? ⟨b,off+k*5+2+F,none⟩=some (.int .i64 ((l.getD k pt0).lab F)):=by
  obtain⟨_,_,d2,d3,d4⟩:=(hP.below I.o.1).cell k (by omega);rcases (show F=0\/F=1\/F=2 by omega) with rfl | rfl | rfl
  ·exact d2
  ·exact d3
  ·exact d4
 have q1:=qC W1 _ 0 _ _ _ (zkeep I.o.1 _ _ Z);have q2:=qC W1 _ 0 _ _ _ (zkeep I.o.1 _ _ V);obtain⟨x,hx⟩:=qX ((l.getD k pt0).lab F);have Y:(x:Rat) / ((100:Int):Rat)=labq l F k:=by unfold labq;rw [hx];rfl
 have H:=of_int x 100 (by decide) (by rw [<-hx];exact hl) (by decide) W1 (hT.below I.o.1);rw [Y,ht] at H;rw [hx] at d0;have HO:=qH H;have ai:(k:Int)<R:=by omega
 have ah:(F:Int)<3:=by omega
 clear H Y hx hP Z V hT ht hl;go_enter func103,ntmps103;go_upto_region 1 with fail;rw [<-J];clear J;go_wp2_with fail;refine HO.o.mono ?_;rintro e w1 ⟨rfl,O⟩;have K2:Kn (fun W=>Below w.heap.size w W/\W.heap[w.heap.size]? = some (.cells #[.string ⟨#[]⟩,.string ⟨#[]⟩] 44 (0,0))) w1:=I.below O;clear I O;go_wp2_with fail;refine (qcE t1 t2 w1).mono ?_;rintro e w2 ⟨rfl,U⟩;have K3:=K2.below U;clear K2 U;have HE:=qH (qA (qT _ _ _ #[.string t1,.string t2] _ _ K3.o.2) (qS K3.o.1 qN #[.string t1,.string t2]));rename_i hK;dsimp only;refine hK _ _ ?_
 go_wp2_with ((with_reducible refine sR_ rfl 44 _ _ rfl (w.heap.size) #[.string t1,.string t2] K3.o.2 2 ?_))
 exact qR (v:=.agg #[.string t1,.string t2]) (rA_ rfl (w.heap.size) HE.o.1 underlying44 2) rfl ⟨HE.o.2,rfl⟩
theorem qnD:Short 1:=qg5 ⟨by decide,by decide⟩
theorem meas_at {R n:Nat} {f:Nat->Nat->Rat} {b v x:Nat->Rat} {J:Option Addr} {g Z c:Nat} {F:Option Addr} {g2 c2:Nat} {H:Option Addr} {Y c3:Nat} {I:Option Addr} {g4 c4:Nat} {w:World} (h1:1<=R) (h2:R<=40) (h3:1<=n) (h4:n<=10) (hf:∀i,i<R->qb2 n (f i)) (hb:qb2 R b) (hv:qb2 R v) (hx:qb2 n x) (V:∀i,i<R->0<=v i) (hT:TCells w J g Z (ttab R n f)) (hF:FCells w F g2 0 (told R b)) (O:FCells w H Y 0 (told R v)) (U:FCells w I g4 0 (told n x)) (hP:HasT w) :
  Calls prog 104 #[.slice J R c,.slice F R c2,.slice H R c3,.slice I n c4] w fun e w'=>(Short (msR R n f b v x)/\e=.returned (.tuple #[fstr (msR R n f b v x),.int .i64 0])\/¬Short (msR R n f b v x)/\e=.returned (.tuple #[.agg #[.string ⟨#[]⟩,.string ⟨#[]⟩],.int .i64 6]))/\Below w.heap.size w w' :=
 (qiK J g Z R c _ F g2 0 R c2 _ H Y 0 R c3 _ I g4 0 n c4 _ w (qcK _ _ _) (by omega) (qhg (by omega)) hT (qb0 _ _) (by omega) hF (qb0 _ _) (by omega) O (qb0 _ _) (by omega) U hP).mono fun _ _ h=>h.told h1 h2 h3 h4 hf hb hv hx V
structure MBox (W:World) (mb:Nat) (m:Md) (N:Nat):Prop where
 ex:∃(a:Nat->Option Addr) (b o d:Nat->Nat),W.heap[mb]? = some (.cells #[.int .i64 m.kind,.int .i64 m.inn,.slice (a 0) N (d 0),.slice (a 1) N (d 1),.slice (a 2) N (d 2)] 38 (0,0))/\∀q,q<3->FCells W (a q) (b q) (o q) (m.row q)
theorem MBox.below {W W':World} {mb N:Nat} {m:Md} (h:MBox W mb m N) (F:Below W.heap.size W W'):MBox W' mb m N:=by
 obtain⟨a,b,o,d,H,I⟩:=h.ex;exact⟨a,b,o,d,zkeep F _ _ H,fun q J=>(I q J).below F⟩
instance stays_mbox {mb N:Nat} {m:Md}:Stays fun W=>MBox W mb m N:=⟨fun h F=>h.below F⟩
theorem MBox.tab {W:World} {mb N:Nat} {m:Md} (h:MBox W mb m N) (hN:∀q,q<3->(m.row q).length=N/\FAll (m.row q)):TCells W (some ⟨mb,2,none⟩) mb 2 (ttab 3 N fun q=>lval (m.row q)):=by
 obtain⟨a,b,o,d,H,I⟩:=h.ex;refine⟨fun _=>rfl,fun k F=>?_⟩;rw [qcK] at F;rw [qeK F,qb0];have e:told N (lval (m.row k))=m.row k:=by rw [<-(hN k F).1];exact (hN k F).2.eq_told.symm
 rw [e];refine⟨a k,b k,o k,d k,?_,I k F⟩;rcases (show k=0\/k=1\/k=2 by omega) with rfl | rfl | rfl
 ·exact qC _ _ 2 _ _ _ H
 ·exact qC _ _ 3 _ _ _ H
 ·exact qC _ _ 4 _ _ _ H
def sqq (m:Md) (l:List Pt) (F k:Nat):Rat:=msR 3 (many F (chans l)) (fun q=>lval (m.row q)) (fun q=>labq l q k) (fun _=>1) (tqf l F k)
theorem sq11_any (k H R pb ob mb b off c:Nat) (ao:Option Addr) (l:List Pt) (m:Md) (o1 o2:ByteArray) (ty aQ:TypeId) (w:World) (hR:l.length=R) (hk:k<R) (ae:PtsOk l) (hM:MdOk m H (chans l)) (h1:(o1,o2)=ftxt 1) (ax:w.heap[pb]? = some (.cells #[.slice ao R c] ty (0,0))) (aL:w.heap[ob]? = some (.cells #[.string o1,.string o2] aQ (0,0)))
  (av:MBox w mb m (many H (chans l))) (hP:PCells w ao b off l) (hT:HasT w) :
  Calls prog 102 #[.int .i64 (k:Int),.pointer (some ⟨pb,0,none⟩),.pointer (some ⟨ob,0,none⟩),.pointer (some ⟨mb,0,none⟩)] w fun e w'=>Below w.heap.size w w' /\
   ((∃x y,e=.returned (.agg #[.string x,.string y])/\Short (sqq m l H k)/\(x,y)=ftxt (sqq m l H k))\/∃c,e=thrown c/\¬Short (sqq m l H k)/\c=6):=by
 have aV:=hP.addr (by omega);subst aV;have aU:R<=40:=hR▸ae.r2;obtain⟨W2,aC,K0⟩:=nw2 w #[.int .i64 (k:Int)] 3 #[.string ⟨#[]⟩,.string ⟨#[]⟩] 44;have K2:=K0.also (q:=fun W=>W.heap[pb]? = some (.cells #[.slice (some ⟨b,off,none⟩) R c] ty (0,0))/\W.heap[ob]? = some (.cells #[.string o1,.string o2] aQ (0,0))/\MBox W mb m (many H (chans l))/\PCells W (some ⟨b,off,none⟩) b off l/\HasT W)
  ⟨zkeep K0.o.1 _ _ ax,zkeep K0.o.1 _ _ aL,av.below K0.o.1,hP.below K0.o.1,hT.below K0.o.1⟩
 have aY:=@hmf_ prog;have hg:qj7 103 #[.pointer (some ⟨pb,0,none⟩),.pointer (some ⟨w.heap.size,0,none⟩)] W2 3 (fun q x=>x=ftxt (labq l q k)) (fun _ _=>False):=by
  intro q hq W hb;refine (qnH k q R pb w.heap.size b off c _ l _ _ W hR hk aU hq (zkeep hb _ _ K2.o.2.1) (zkeep hb _ _ K2.o.1.2.1) (K2.o.2.2.2.2.1.below hb) (ae.bound q k (by omega)) (K2.o.2.2.2.2.2.below hb)).mono ?_;rintro e w' ⟨h1,h2⟩;exact⟨h1,qan ⟨_,_,h2,rfl⟩⟩
 have HG:=qH (qen 103 #[.pointer (some ⟨pb,0,none⟩),.pointer (some ⟨w.heap.size,0,none⟩)] 3 (by decide) _ _ W2 (fun a W=>enters func103 (by kernel_rfl) (by kernel_rfl) _ W) hg);have F:=qH (qA hR (qA ae (qA hM h1)));have aK:=(qG ax).1;have aJ:mb<w.heap.size:=by
  obtain⟨_,_,_,_,h2,_⟩:=av.ex;exact (qG h2).1
 have aI:b<w.heap.size:=qac _ _ (hP.cell k (by omega)).1;have ag:=qH (qA aK (qA aJ aI));clear K0 hg ax aL av hP hT hR ae hM h1 aK aJ aI;go_enter func102,ntmps102;go_upto_region 1 with fail;rw [<-aC];clear aC;go_wp2_with fail;refine HG.o.mono ?_;rintro e w3 ⟨aF,h⟩;have K3:=K2.below aF;rcases h with ⟨la,g3,aH,aP,rfl,az,_⟩ | ⟨_,_,_,_,hF⟩
 case inr=>exact hF.elim
 have K4:=K3.also (q:=fun W=>FCells W (some ⟨g3,0,none⟩) g3 0 (told 3 fun q=>labq l q k)) (qie aH aP▸az);clear K2 HG aH aP az aF K3;have z0:=qC _ _ 0 _ _ _ K4.o.1.2.2.1;have z1:=qC _ _ 1 _ _ _ K4.o.1.2.2.1;obtain⟨W4,aD,N4⟩:=nw1 w3 #[.string o1,.string o2,.string o1,.string o2,.string o1,.string o2] 44;have af:FCells W4 (some ⟨w3.heap.size,0,none⟩) w3.heap.size 0 (told 3 fun _=>1):=by
  have e:told 3 (fun _=>(1:Rat))=[(o1,o2),(o1,o2),(o1,o2)]:=by rw [F.o.2.2.2];rfl
  rw [e];exact FCells.ofRow N4.o.2
 have K5:=(K4.below N4.o.1).also (q:=fun W=>FCells W (some ⟨w3.heap.size,0,none⟩) w3.heap.size 0 (told 3 fun _=>1)) af;clear K4 N4 af;go_wp2_with fail;rw [<-aD];clear aD z0 z1;obtain⟨_,⟨ra,rb,ro,rc,d1,hN⟩,_⟩:=K5.o.1.1.2.2.2.2.1.cell k (by have:=F.o.1;omega);have aa:=(F.o.2.1.rows k (by have:=F.o.1;omega)).2;have Z:=(F.o.2.1.rows k (by have:=F.o.1;omega)).1.vals;obtain⟨n,hn⟩:=qX (chans l);rw [hn] at aa;rw [aa] at d1;obtain⟨a,b',o,d,J,_⟩:=K5.o.1.1.2.2.2.1.ex;obtain⟨kind,I⟩:∃z,m.kind=z:=⟨_,rfl⟩;rw [I] at J;have aX:=(qG K5.o.1.1.1.2.2).1;have U:=qH (qA aa (qA Z (qA hN (qA hn I))));have q0:=rowG (g0:=w.heap.size+1) J 0 (hne:=by have:=ag.o.2.1;omega);have q1:=rowG (g0:=w.heap.size+1) K5.o.1.1.2.1 0 (hne:=by have:=ag.o.1;omega);have q2:=rowG (g0:=w.heap.size+1) K5.o.1.1.1.2.1 0 (hne:=by omega);have q3:∀W,W4.grownBy W (some (w.heap.size+1))->W.cell? ⟨b,off+k*5+1,none⟩=some (.slice ra n rc):=fun W hg=>hg.cell d1 (fun e=>by have:=ag.o.2.2;have:=qah e;simp at this;omega)
 have aW:(k:Int)<R:=by omega
 clear aa Z hN hn I J d1;refine wp_region_held_drew (S:=fun W=>W4.grownBy W (some (w.heap.size+1))) (by kernel_rfl) (keepB qB.drew) (fun hS0=>?_);refine hT 0 (h:=?_);refine hT 1 (h:=?_);refine hT 2 (h:=?_);refine hT 3 (h:=?_);refine hT 4 (h:=?_);refine hT 5 (h:=?_);refine hT 6 (h:=?_);refine hT 7 (h:=?_);refine hT 8 (h:=?_);refine hT 9 (h:=?_);refine hT 10 (h:=?_);refine hC 11 (qfI kind H (by rw [<-U.o.2.2.2.2];exact F.o.2.2.1.kind) ra rb ro n rc (l.getD k pt0).dev W4.drew U.o.1 (by rw [<-U.o.2.2.2.1];exact F.o.2.1.n1) (by rw [<-U.o.2.2.2.1];exact F.o.2.1.n4) (fun e=>by have h3:=F.o.2.2.1.both;have h4:=F.o.2.1.n4;have:=U.o.2.2.2.1;omega) (U.o.2.2.1.below qB.drew) U.o.2.1 (K5.o.1.1.2.2.2.2.2.below qB.drew)) (h:=?_);rintro e w5 ⟨v5,rfl,aO,aG⟩;have ay:=qH (qb4 aG);clear aG;obtain⟨a5,g5,c5,rfl,ah,_⟩:=aO.cells (n:=many H n) (by rw [qav,qeJ,U.o.1]);have aA:W4.grownBy w5 (some (w.heap.size+1)):=keepB ay.o;have K6:=K5.below ay.o;have aN:(termL H (l.getD k pt0).dev).map ftxt=told (many H n) (tqf l H k):=by
  rw [<-U.o.1];exact (qfU H (l.getD k pt0).dev).symm
 rw [aN] at ah;have aS:=qH ah;clear ah aO aN;refine⟨_,rfl,aA,hN (h:=?_)⟩;have V:=qe7 F.o.2.2.1.kind F.o.2.1.n1 F.o.2.1.n4 F.o.2.2.1.both;have au:k<l.length:=by have:=F.o.1;omega
 have ai:=meas_at (c:=3) (c2:=3) (c3:=3) (c4:=c5) (by decide) (by decide) V.1 V.2 (f:=fun q=>lval (m.row q)) (b:=fun q=>labq l q k) (v:=fun _=>1) (x:=tqf l H k)
  (fun q hq=>by have:=(F.o.2.2.1.rows q hq).2.short;rw [(F.o.2.2.1.rows q hq).1] at this;exact this) (fun q hq=>F.o.2.1.labs k au) (fun _ _=>qnD) (F.o.2.1.terms F.o.2.2.1.kind F.o.2.2.1.both k au) (fun _ _=>by decide)
  (MBox.tab K6.o.1.1.2.2.2.1 F.o.2.2.1.rows) K6.o.1.2 K6.o.2 (by rw [U.o.2.2.2.1];exact aS.o) K6.o.1.1.2.2.2.2.2
 rw [U.o.2.2.2.1] at ai;have aT:=qH ai;clear ai V au;refine hC 12 aT.o (h:=?_);rintro e w6 ⟨h,ak⟩;have aR:=qH ak;have aj:=qck aA ak;clear ak;have K7:=K6.below aR.o;have aM:sqq m l H k=msR 3 (many H n) (fun q=>lval (m.row q)) (fun q=>labq l q k) (fun _=>1) (tqf l H k):=by unfold sqq;rw [U.o.2.2.2.1]
 rw [<-aM] at h;clear aM;obtain⟨y1,y2,hy⟩:=qcd (sqq m l H k);rcases h with ⟨Y,rfl⟩ | ⟨Y,rfl⟩
 ·rw [qem,hy];have HS:=qH (qA Y hy);clear Y hy;refine⟨_,rfl,aj,hN (h:=?_)⟩;refine hT 13 (h:=?_);refine hT 14 (h:=?_);refine hC 15 (qcE y1 y2 w6) (h:=?_);rintro e w7 ⟨rfl,O⟩;have aB:=qck aj O;have K8:=K7.below O;clear O;refine⟨_,rfl,aB,hN (h:=?_)⟩;have HE:=qH (qA (qT _ _ _ #[.string y1,.string y2] _ _ K8.o.1.1.1.2.2) (qS K8.o.1.1.1.1 (show w.heap.size<=w.heap.size+1 by omega) #[.string y1,.string y2]));refine hSt 16 2 K8.o.1.1.1.2.2 (h:=⟨qbZ aB (qci _ _ _),?_⟩);go_wp2_with fail;exact qR (v:=.agg #[.string y1,.string y2]) (rA_ rfl ((w.heap.size+1)) HE.o.1 underlying44 2) rfl ⟨HE.o.2,qan ⟨_,_,rfl,HS.o.1,HS.o.2.symm⟩⟩
 ·have HS:=qH Y;clear Y hy;refine⟨_,rfl,aj,hN (h:=?_)⟩;refine hT 13 (h:=?_);refine hT 14 (h:=?_);refine hCx 15 (qm3 ⟨#[]⟩ ⟨#[]⟩ 6 (by decide) w6) (h:=?_);rintro e w7 ⟨rfl,O⟩;have K8:=K7.below O;clear O;refine qag ⟨_,rfl,?_⟩;go_wp2_with fail;exact⟨rfl,K8.o.1.1.1.1,qag ⟨6,rfl,HS.o,rfl⟩⟩
def SqG (m:Md) (l:List Pt) (W:World) (v:Value):Prop:=PtsOk l/\∃F,MdOk m F (chans l)/\qb2 l.length (sqq m l F)/\SlF l.length (sqq m l F) v W
def SqF (m:Md) (l:List Pt) (e:Int):Prop :=
 (¬qdz m/\e=320)\/(qdz m/\¬PtsOk l/\e=310)\/(qdz m/\PtsOk l/\m.inn≠(chans l:Nat)/\e=5) \/
 (PtsOk l/\e=6/\∃F,MdOk m F (chans l)/\¬qb2 l.length (sqq m l F))
theorem sq1_any (m:Md) (R pb mb b off c:Nat) (ao:Option Addr) (l:List Pt) (a:Nat->Option Addr) (b' o d:Nat->Nat) (ty:TypeId) (w:World) (hR:l.length=R) (hl:R<=4611686018427387904) (hs:∀k,k<R->(l.getD k pt0).name.size<=4611686018427387904/\(l.getD k pt0).dev.length<=4611686018427387904) (az:∀q,q<3->(m.row q).length<=4611686018427387904)
  (af:w.heap[pb]? = some (.cells #[.slice ao R c] ty (0,0))) (I:w.heap[mb]? = some (.cells #[.int .i64 m.kind,.int .i64 m.inn,.slice (a 0) (m.row 0).length (d 0),.slice (a 1) (m.row 1).length (d 1),.slice (a 2) (m.row 2).length (d 2)] 38 (0,0))) (hF:∀q,q<3->FCells w (a q) (b' q) (o q) (m.row q))
  (hP:PCells w ao b off l) (hT:HasT w) :
  Calls prog 101 #[.pointer (some ⟨mb,0,none⟩),.pointer (some ⟨pb,0,none⟩)] w fun e w'=>Below w.heap.size w w' /\
   ((∃(p:Option Addr) (n c:Nat),e=.returned (.slice p n c)/\SqG m l w' (.slice p n c))\/∃c,e=thrown c/\SqF m l c):=by
 have hM:MdAt w (.agg #[.int .i64 m.kind,.int .i64 m.inn,.slice (a 0) (m.row 0).length (d 0),.slice (a 1) (m.row 1).length (d 1),.slice (a 2) (m.row 2).length (d 2)]) m :=
  ⟨_,_,_,_,_,_,_,_,_,_,_,_,rfl,hF 0 (by decide),hF 1 (by decide),hF 2 (by decide)⟩
 have aa:=qmQ m _ R b off c ao l w hM az hR hl hs hP;obtain⟨kind,J⟩:∃z,m.kind=z:=⟨_,rfl⟩;obtain⟨inn,Y⟩:∃z,m.inn=z:=⟨_,rfl⟩;obtain⟨L,hL⟩:∃L:Nat->Nat,∀q,(m.row q).length=L q:=⟨_,fun _=>rfl⟩;rw [J,Y,hL,hL,hL] at I aa;have ah:=qH aa;have c0:=qC _ _ 0 _ _ _ I;have c1:=qC _ _ 1 _ _ _ I;have c2:=qC _ _ 2 _ _ _ I;have c3:=qC _ _ 3 _ _ _ I;have c4:=qC _ _ 4 _ _ _ I;have p0:=qC _ _ 0 _ _ _ af;have K0:Kn (fun W=>Below w.heap.size w W/\W.heap[mb]? = some (.cells #[.int .i64 kind,.int .i64 inn,.slice (a 0) (L 0) (d 0),.slice (a 1) (L 1) (d 1),.slice (a 2) (L 2) (d 2)] 38 (0,0))/\W.heap[pb]? = some (.cells #[.slice ao R c] ty (0,0))/\PCells W ao b off l/\HasT W) w:=.of ⟨Below.refl _ _,I,af,hP,hT⟩;have U:=qH (qA hR (qA J (qA Y (qA hL hF))));have aF:=@hmf_ prog;clear hM aa af I hF hP hT hR hl hs az J Y hL;go_enter func101,ntmps101;go_wp2_with fail;refine ah.o.mono ?_;rintro e w2 ⟨ak,h⟩;have K2:=K0.below ak;clear ak ah c0 c1 c2 c3 c4 p0;rcases h with ⟨F,rfl⟩ | ⟨F,O,rfl⟩ | ⟨F,O,V,rfl⟩ | ⟨F,O,V,rfl⟩
 ·have H:=qH F;clear F;unfold thrown;go_wp2_with fail;exact⟨rfl,K2.o.1,qag ⟨320,rfl,qan ⟨H.o,rfl⟩⟩⟩
 ·have H:=qH (qA F O);clear F O;unfold thrown;go_wp2_with fail;exact⟨rfl,K2.o.1,qag ⟨310,rfl,qag (qan ⟨H.o.1,H.o.2,rfl⟩)⟩⟩
 ·have H:=qH (qA F (qA O V));clear F O V;unfold thrown;go_wp2_with fail;exact⟨rfl,K2.o.1,qag ⟨5,rfl,qag (qag (qan ⟨H.o.1,H.o.2.1,H.o.2.2,rfl⟩))⟩⟩
 obtain⟨Z,ai⟩:∃Z,MdOk m Z (chans l):=by
  obtain⟨Z,n,h⟩:=F;have:=h.inn.1;obtain rfl:n=chans l:=by omega
  exact⟨Z,h⟩
 have H:=qH (qA O ai);clear F O V ai;go_wp2_with fail;have aA:((1:Int):Rat) / ((1:Int):Rat)=1:=by decide +kernel
 have ae:=of_int 1 1 (by decide) (by decide) (by decide) w2 K2.o.2.2.2.2;obtain⟨o1,o2,ho⟩:=qcd 1;rw [aA,ho] at ae;have Ho:=qH ho;clear ho aA;refine ae.mono ?_;rintro e w3 ⟨rfl,au⟩;have K3:=K2.below au;clear au K2 ae;go_wp2_with fail;refine (qcE o1 o2 w3).mono ?_;rintro e w4 ⟨rfl,av⟩;have K4:=K3.below av;clear av K3;obtain⟨W5,aj,N5⟩:=nw1 w4 #[.string o1,.string o2] 44;have K5:=(K4.below N5.o.1).also (q:=fun W=>W.heap[w4.heap.size]? = some (.cells #[.string o1,.string o2] 44 (0,0))) N5.o.2;have ay:MBox W5 mb m (many Z (chans l)):=by
  have F:=(K5.o.1).2.1;have aB:=(H.o.2.rows 0 (by decide)).1;have aC:=(H.o.2.rows 1 (by decide)).1;have aD:=(H.o.2.rows 2 (by decide)).1;rw [<-U.o.2.1,<-U.o.2.2.1,<-U.o.2.2.2.1,<-U.o.2.2.2.1,<-U.o.2.2.2.1,aB,aC,aD] at F;exact⟨a,b',o,d,F,fun q hq=>(U.o.2.2.2.2 q hq).below K5.o.1.1⟩
 have hg:qj7 102 #[.pointer (some ⟨pb,0,none⟩),.pointer (some ⟨w4.heap.size,0,none⟩),.pointer (some ⟨mb,0,none⟩)] W5 R (fun i x=>Short (sqq m l Z i)/\x=ftxt (sqq m l Z i)) (fun i c=>¬Short (sqq m l Z i)/\c=6):=by
  intro i hi W hb;refine (sq11_any i Z R pb w4.heap.size mb b off c ao l m o1 o2 ty 44 W U.o.1 hi H.o.1 H.o.2 Ho.o.symm (zkeep hb _ _ K5.o.1.2.2.1) (zkeep hb _ _ K5.o.2) (ay.below hb) (K5.o.1.2.2.2.1.below hb) (K5.o.1.2.2.2.2.below hb)).mono ?_;rintro e w' ⟨F,O⟩;refine⟨F,?_⟩;rcases O with ⟨x,y,rfl,V,h4⟩ | ⟨cc,rfl,V,h4⟩
  ·exact qan ⟨x,y,rfl,V,h4⟩
  ·exact qag ⟨cc,rfl,V,h4⟩
 have HG:=qH (qen 102 #[.pointer (some ⟨pb,0,none⟩),.pointer (some ⟨w4.heap.size,0,none⟩),.pointer (some ⟨mb,0,none⟩)] R (by have:=H.o.1.r2;have:=U.o.1;omega) _ _ W5 (fun a W=>enters func102 (by kernel_rfl) (by kernel_rfl) _ W) hg);have p5:=qC _ _ 0 _ _ _ K5.o.1.2.2.1;clear N5 ay hg K4;go_upto_region 3 with fail;rw [<-aj];clear aj;go_wp2_with fail;refine HG.o.mono ?_;rintro e w6 ⟨ax,h⟩;have ag:=qH (K5.o.1.1.trans (ax.mono K5.o.1.1.size));clear ax;rcases h with ⟨lq,g,F,O,rfl,h4,_⟩ | ⟨i,cc,hi,rfl,V,rfl⟩
 ·have HE:=qH (qA F (qA O h4));clear F O h4 HG;go_wp2;go_ret;refine⟨ag.o,qan ⟨_,_,_,rfl,H.o.1,Z,H.o.2,fun i hi=>(HE.o.2.1 i (by have:=U.o.1;omega)).1,?_⟩⟩;have hr:=U.o.1;refine⟨g,by rw [hr],?_⟩;rw [hr,<-qie HE.o.1 (fun i hi=>(HE.o.2.1 i hi).2)];exact HE.o.2.2
 ·have HE:=qH (qA hi V);clear hi V HG;unfold thrown;go_wp2_with fail;exact⟨rfl,ag.o,qag ⟨6,rfl,qag (qag (qag ⟨H.o.1,rfl,Z,H.o.2,fun h=>HE.o.2 (h i (by have:=U.o.1;have:=HE.o.1;omega))⟩))⟩⟩
theorem SlF.kept {W W':World} {n:Nat} {f:Nat->Rat} {v:Value} (I:∀a s,W.cell? a=some (.string s)->W'.cell? a=some (.string s)) (h:SlF n f v W):SlF n f v W':=by
 obtain⟨g,F,H⟩:=h;exact⟨g,F,H.kept I⟩
theorem SqG.kept {m:Md} {l:List Pt} {W W':World} {v:Value} (O:∀a s,W.cell? a=some (.string s)->W'.cell? a=some (.string s)) (h:SqG m l W v):SqG m l W' v:=by
 obtain⟨F,kk,H,I,J⟩:=h;exact⟨F,kk,H,I,J.kept O⟩
def SqAs (w:World) (m:Md) (l:List Pt) (e:Ending) (F:World):Prop :=
 Below w.heap.size w F/\((∃v,e=.returned (.tuple #[v,.int .i64 0])/\SqG m l F v)\/∃c,e=.returned (.tuple #[.slice none 0 0,.int .i64 c])/\SqF m l c)
theorem qg7 (m:Md) (v:Value) (R b off c:Nat) (V:Option Addr) (l:List Pt) (w:World) (hM:MdAt w v m) (hR:l.length=R) (hl:R<=4611686018427387904) (hs:∀k,k<R->(l.getD k pt0).name.size<=4611686018427387904/\(l.getD k pt0).dev.length<=4611686018427387904) (U:∀q,q<3->(m.row q).length<=4611686018427387904) (hP:PCells w V b off l) (hT:HasT w) :
  Calls prog 33 #[v,.slice V R c] w fun e w'=>SqAs w m l e w':=by
 obtain⟨a,b',o,d,rfl,hF⟩:=hM.parts;obtain⟨W2,I,F⟩:=nw2 w #[.int .i64 m.kind,.int .i64 m.inn,.slice (a 0) (m.row 0).length (d 0),.slice (a 1) (m.row 1).length (d 1),.slice (a 2) (m.row 2).length (d 2)] 38 #[.slice V R c] 30;have aa:=@hmf_ prog;have HG:=qH (qf3 101 #[.pointer (some ⟨w.heap.size,0,none⟩),.pointer (some ⟨w.heap.size+1,0,none⟩)] (SqG m l) (SqF m l) W2 (fun W=>enters func101 (by kernel_rfl) (by kernel_rfl) _ W)
  (fun W W' v hk h=>h.kept hk)
  (fun w1 J=>sq1_any m R (w.heap.size+1) w.heap.size b off c V l a b' o d _ w1 hR hl hs U (zkeep J _ _ F.o.2.2) (zkeep J _ _ F.o.2.1) (fun q hq=>(hF q hq).below (F.o.1.trans (J.mono F.o.1.size))) (hP.below (F.o.1.trans (J.mono F.o.1.size))) (hT.below (F.o.1.trans (J.mono F.o.1.size)))))
 have Z:=qH F.o.1;clear hM hR hl hs U hP hT hF F;go_enter func33,ntmps33;go_upto_region 1 with fail;rw [<-I];clear I;go_wp2_with fail;refine HG.o.mono ?_;rintro e w5 ⟨O,h⟩;have H:=qH (Z.o.trans (O.mono Z.o.size));clear O HG;rcases h with ⟨p,n,c',rfl,hg⟩ | ⟨cc,rfl,hf⟩
 ·have Y:=qH hg;clear hg;go_wp2_with fail
  go_ret2
  exact⟨H.o,qan ⟨_,rfl,Y.o⟩⟩
 ·have Y:=qH hf;clear hf;go_wp2_with fail
  go_ret2
  exact⟨H.o,qag ⟨cc,rfl,Y.o⟩⟩
def TmG (kind:Int) (d:List Int) (W:World) (v:Value):Prop:=1<=d.length/\d.length<=4/\qcJ d/\∃k,qcA kind k/\¬(k=3/\d.length=4)/\∃(p:Option Addr) (g c:Nat),v=.slice p (many k d.length) c/\FCells W p g 0 ((termL k d).map ftxt)
def TmF (kind:Int) (d:List Int) (e:Int):Prop :=
 (¬((∃k,qcA kind k)/\1<=d.length/\d.length<=4)/\e=2)\/(((∃k,qcA kind k)/\1<=d.length/\d.length<=4)/\((¬qcJ d/\e=2)\/(qcJ d/\qcA kind 3/\d.length=4/\e=5)))
theorem tm1_any (kind:Int) (kb db b off n c:Nat) (ao:Option Addr) (dv:List Int) (ty ak:TypeId) (w:World) (J:dv.length=n) (hl:n<=4611686018427387904) (af:w.heap[kb]? = some (.cells #[.int .i64 kind] ty (0,0))) (ae:w.heap[db]? = some (.cells #[.slice ao n c] ak (0,0))) (hN:NCells w ao b off dv) (hT:HasT w) :
  Calls prog 83 #[.pointer (some ⟨kb,0,none⟩),.pointer (some ⟨db,0,none⟩)] w fun e w'=>Below w.heap.size w w' /\
   ((∃(p:Option Addr) (n c:Nat),e=.returned (.slice p n c)/\TmG kind dv w' (.slice p n c))\/∃c,e=thrown c/\TmF kind dv c):=by
 have c0:=qC _ _ 0 _ _ _ af;have c1:=qC _ _ 0 _ _ _ ae;have F:=qH (qA J (qA hl (qA hN hT)));clear af ae J hl hN hT;go_enter func83,ntmps83;go_wp2_with fail;refine (qgF kind w).mono ?_;rintro e Z ⟨rfl,hw⟩;subst hw
 by_cases H:1<=kind/\kind<=3
 case neg =>
  rw [qU H];have HN:=qH H;clear H;go_wp2_with fail;refine (qcj 2 (by decide) _).mono ?_;rintro e Z ⟨rfl,rfl⟩;unfold thrown;go_wp2_with fail;exact⟨rfl,Below.refl _ _,qag ⟨2,rfl,qan ⟨fun⟨⟨k,h1,h2,h3⟩,_⟩=>HN.o ⟨by omega,by omega⟩,rfl⟩⟩⟩
 obtain⟨k,ag⟩:∃k,qcA kind k:=⟨kind.toNat,by omega,by omega,by omega⟩;rw [qV H];have O:=qH ag;clear ag H
 by_cases J:1<=n/\n<=4
 case neg =>
  have HN:=qH J;have aa:TmF kind dv 2:=qan ⟨fun⟨_,h⟩=>HN.o (by have:=F.o.1;omega),rfl⟩
  by_cases h1:(n:Int)<1
  ·clear J;go_wp2_with fail;refine (qcj 2 (by decide) _).mono ?_;rintro e Z ⟨rfl,rfl⟩;unfold thrown;go_wp2_with fail;exact⟨rfl,Below.refl _ _,qag ⟨2,rfl,aa⟩⟩
  ·have h2:(4:Int)<n:=by omega
   clear J;go_wp2_with fail;refine (qcj 2 (by decide) _).mono ?_;rintro e Z ⟨rfl,rfl⟩;unfold thrown;go_wp2_with fail;exact⟨rfl,Below.refl _ _,qag ⟨2,rfl,aa⟩⟩
 have au:¬(n:Int)<1:=by omega
 have ax:¬(4:Int)<n:=by omega
 have U:=qH J;clear J;go_wp2_with fail;refine (qf4 ao b off n c dv n w F.o.1 F.o.2.1 F.o.2.2.1).mono ?_;rintro e Z ⟨r,rfl,Y,hw⟩;subst hw;rcases Y with ⟨rfl,Y⟩ | ⟨rfl,Y⟩
 case inr =>
  have HN:=qH Y;clear Y;go_wp2_with fail;refine (qcj 2 (by decide) _).mono ?_;rintro e Z ⟨rfl,rfl⟩;unfold thrown;go_wp2_with fail;exact⟨rfl,Below.refl _ _,qag ⟨2,rfl,qag ⟨⟨⟨k,O.o⟩,by have:=U.o;have:=F.o.1;omega⟩,qan ⟨fun h=>HN.o ⟨by trivial,h⟩,rfl⟩⟩⟩⟩
 have HV:=qH Y.2;clear Y;go_wp2_with fail;refine (qeu _).mono ?_;rintro e Z ⟨rfl,hw⟩;subst hw
 by_cases I:k=3/\n=4
 ·obtain⟨h3,h4⟩:=I;have aj:kind=3:=by have:=O.o.1;omega
  subst h3 h4 aj;go_wp2_with fail;refine (qcj 5 (by decide) _).mono ?_;rintro e Z ⟨rfl,rfl⟩;unfold thrown;go_wp2_with fail;exact⟨rfl,Below.refl _ _,qag ⟨5,rfl,qag ⟨⟨⟨3,O.o⟩,by have:=F.o.1;omega⟩,qag ⟨HV.o,O.o,F.o.1,rfl⟩⟩⟩⟩
 have ah:=qH I;have ai:=qH (qfI kind k O.o ao b off n c dv w F.o.1 U.o.1 U.o.2 (fun e=>by have:=U.o.2;omega) F.o.2.2.1 HV.o F.o.2.2.2);go_upto_region 4 with fail
 go_cut [28] (fun x28 W=>x28=.bool false/\Hu (W=w))
 case first =>
  by_cases h3:kind=3
  ·have av:¬(3:Int)<n:=fun h=>I ⟨by have:=O.o.1;omega,by have:=U.o.2;omega⟩
   subst h3;go_wp2;go_meet;exact⟨rfl,qH rfl⟩
  ·go_wp2;go_meet;exact⟨rfl,qH rfl⟩
 case rest =>
  obtain⟨rfl,V⟩:=hcut;have V:=V.o.symm;subst V;clear I;go_wp2_with fail;refine ai.o.mono ?_;rintro e w4 ⟨v,rfl,hv,hb⟩;obtain⟨p,g,cp,rfl,hF,_⟩:=hv.cells (n:=many k n) (by rw [qav,qeJ,F.o.1]);have HE:=qH (qA hF hb);clear hv hF hb;go_wp2;go_ret;have e:=F.o.1;refine⟨HE.o.2,qan ⟨_,_,_,rfl,by rw [e];exact U.o.1,by rw [e];exact U.o.2,HV.o,k,O.o,by rw [e];exact ah.o,p,g,cp,by rw [e],HE.o.1⟩⟩
theorem TmG.kept {kind:Int} {d:List Int} {W W':World} {v:Value} (Y:∀a s,W.cell? a=some (.string s)->W'.cell? a=some (.string s)) (h:TmG kind d W v):TmG kind d W' v:=by
 obtain⟨F,H,I,k,J,O,p,g,c,U,V⟩:=h;exact⟨F,H,I,k,J,O,p,g,c,U,V.kept Y⟩
def TmAs (w:World) (kind:Int) (d:List Int) (e:Ending) (F:World):Prop :=
 Below w.heap.size w F/\((∃v,e=.returned (.tuple #[v,.int .i64 0])/\TmG kind d F v)\/∃c,e=.returned (.tuple #[.slice none 0 0,.int .i64 c])/\TmF kind d c)
theorem qhJ (kind:Int) (b off n c:Nat) (O:Option Addr) (dv:List Int) (w:World) (hn:dv.length=n) (hl:n<=4611686018427387904) (hN:NCells w O b off dv) (hT:HasT w) :
  Calls prog 25 #[.int .i64 kind,.slice O n c] w fun e w'=>TmAs w kind dv e w':=by
 obtain⟨W2,I,F⟩:=nw2 w #[.int .i64 kind] 3 #[.slice O n c] 32;have aa:=@hmf_ prog;have Z:=qH (qf3 83 #[.pointer (some ⟨w.heap.size,0,none⟩),.pointer (some ⟨w.heap.size+1,0,none⟩)] (TmG kind dv) (TmF kind dv) W2 (fun W=>enters func83 (by kernel_rfl) (by kernel_rfl) _ W)
  (fun W W' v hk h=>h.kept hk)
  (fun w1 U=>tm1_any kind w.heap.size (w.heap.size+1) b off n c O dv _ _ w1 hn hl (zkeep U _ _ F.o.2.1) (zkeep U _ _ F.o.2.2) (hN.below (F.o.1.trans (U.mono F.o.1.size))) (hT.below (F.o.1.trans (U.mono F.o.1.size)))))
 have Y:=qH F.o.1;clear hn hl hN hT F;go_enter func25,ntmps25;go_upto_region 1 with fail;rw [<-I];clear I;go_wp2_with fail;refine Z.o.mono ?_;rintro e w5 ⟨J,h⟩;have H:=qH (Y.o.trans (J.mono Y.o.size));clear J Z;rcases h with ⟨p,n,c',rfl,hg⟩ | ⟨cc,rfl,hf⟩
 ·have V:=qH hg;clear hg;go_wp2_with fail
  go_ret2
  exact⟨H.o,qan ⟨_,rfl,V.o⟩⟩
 ·have V:=qH hf;clear hf;go_wp2_with fail
  go_ret2
  exact⟨H.o,qag ⟨cc,rfl,V.o⟩⟩
theorem qlV (v:Value) (U:Nat) (H I:ByteArray) (V:TypeId) (w:World) (hy:w.heap[U]? = some (.cells #[.string H,.string I] V (0,0))) :
  Calls prog 145 #[v,.pointer (some ⟨U,0,none⟩)] w fun e O=>Below w.heap.size w O/\∃g,e=.returned (.slice (some ⟨g,0,none⟩) 1 1)/\FCells O (some ⟨g,0,none⟩) g 0 [(H,I)]:=by
 have c0:=qC _ _ 0 _ _ _ hy;have c1:=qC _ _ 1 _ _ _ hy;obtain⟨Y,F,J⟩:=nw1 w #[.string H,.string I] 44;clear hy;go_enter func145,ntmps145;go_wp2_with fail;rw [<-F];go_ret;exact⟨J.o.1,_,rfl,FCells.ofRow J.o.2⟩
theorem comb_law {m:Nat} {t r:Nat->Rat} {y:Rat} {e:Ending} {w':World} (hT:sumQ m t≠0) (hy:y=(sumQ m t)⁻¹) (h:qfe m 1 (fun _ _=>y) r t e w') :
  (Short (sumQ m fun j=>t j*r j)/\∃g,e=.returned (.tuple #[.slice (some ⟨g,0,none⟩) 1 1,.int .i64 0])/\FCells w' (some ⟨g,0,none⟩) g 0 [ftxt (sumQ m fun j=>t j*r j)]) \/
  (¬Short (sumQ m fun j=>t j*r j)/\e=.returned (.tuple #[.slice none 0 0,.int .i64 6])):=by
 have I:sumQ m t*y=1:=by rw [hy];exact Rat.mul_inv_cancel _ hT
 have O:y≠0:=fun e=>by rw [e,Rat.mul_zero] at I;exact absurd I (by decide)
 have J:normR m 1 (fun _ _=>y) r t 0 0=y:=by
  unfold normR gR;have:sumQ m (fun i=>t i*((if 0<1 then y else r i)*(if 0<1 then y else r i)))=sumQ m fun i=>(y*y)*t i:=qbX fun i _=>by rw [if_pos (by decide)];exact Rat.mul_comm _ _
  rw [this,qcb,Rat.mul_assoc,Rat.mul_comm y (sumQ m t),I,Rat.mul_one]
 have U:normR m 1 (fun _ _=>y) r t 0 1=y*sumQ m fun j=>t j*r j:=by
  unfold normR gR;rw [<-qcb];refine qbX fun i _=>?_
  rw [if_pos (by decide),if_neg (by decide),<-Rat.mul_assoc,<-Rat.mul_assoc,Rat.mul_comm (t i) y]
 rcases h with ⟨⟨z,⟨j,hj,hz⟩,F⟩,_⟩ | ⟨_,x,hx,ht⟩
 ·exfalso;obtain rfl:j=0:=by omega
  have:=F 0 (by decide);rw [qc7 1 0 _ (by decide) (fun i hi V=>absurd (show i=0 by omega) V),J] at this;rcases Rat.mul_eq_zero.1 this with h | h
  ·exact O h
  ·exact hz h
 ·have F:=hx 0 (by decide);rw [qc7 1 0 _ (by decide) (fun i hi V=>absurd (show i=0 by omega) V),J] at F;have F:y*x 0=normR m 1 (fun _ _=>y) r t 0 1:=F;rw [U] at F;have H:x 0=sumQ m fun j=>t j*r j:=by
   have:=congrArg (fun q=>y⁻¹*q) F;rw [<-Rat.mul_assoc,<-Rat.mul_assoc,Rat.inv_mul_cancel _ O,Rat.one_mul,Rat.one_mul] at this;exact this
  rcases ht with ⟨Y,g,he,Z⟩ | ⟨Y,he⟩
  ·refine qan ⟨H▸Y 0 (by decide),g,he,?_⟩;have:told 1 x=[ftxt (x 0)]:=rfl;rw [this,H] at Z;exact Z
  ·refine qag ⟨fun h=>Y fun i hi=>?_,he⟩;obtain rfl:i=0:=by omega
   rw [H];exact h
theorem least_at {R n:Nat} {f:Nat->Nat->Rat} {b v:Nat->Rat} {J:Option Addr} {g c:Nat} {F:Option Addr} {g2 I c2:Nat} {H:Option Addr} {V c3:Nat} {w:World} (Z:1<=R) (h2:R<=40) (h3:1<=n) (h4:n<=10) (hf:∀i,i<R->qb2 n (f i)) (hb:qb2 R b) (hv:qb2 R v) (U:∀i,i<R->0<=v i) (hT:TCells w J g 0 (ttab R n f)) (hF:FCells w F g2 I (told R b)) (O:FCells w H V 0 (told R v)) (hP:HasT w) :
  Calls prog 129 #[.slice J R c,.slice F R c2,.slice H R c3] w fun e Y=>qfe R n f b v e Y/\Below w.heap.size w Y :=
 (qhy J g 0 R c _ F g2 I R c2 _ H V 0 R c3 _ w (qcK _ _ _) (by omega) (qhg (by omega)) hT (qb0 _ _) (by omega) hF (qb0 _ _) (by omega) O hP).mono fun _ _ h=>h.told Z h2 h3 h4 hf hb hv U
theorem qmc (m b c b2 aH c2:Nat) (ao a2:Option Addr) (t r:Nat->Rat) (w:World) (aJ:1<=m) (hm:m<=10) (ht:qb2 m t) (aF:∀i,i<m->0<=t i) (hr:qb2 m r) (hT:Short (sumQ m t)) (av:sumQ m t≠0) (hy:Short (sumQ m t)⁻¹) (F:FCells w ao b 0 (told m t)) (hG:FCells w a2 b2 aH (told m r)) (hP:HasT w) :
  Calls prog 78 #[.slice ao m c,.slice a2 m c2] w fun e w'=>Below w.heap.size w w'/\((Short (sumQ m fun j=>t j*r j)/\e=.returned (.agg #[.string (ftxt (sumQ m fun j=>t j*r j)).1,.string (ftxt (sumQ m fun j=>t j*r j)).2]))\/(¬Short (sumQ m fun j=>t j*r j)/\e=thrown 6)):=by
 obtain⟨s1,s2,ai⟩:=qcd (sumQ m fun j=>t j*r j);obtain⟨u1,u2,aj⟩:=qcd (sumQ m t);obtain⟨y1,y2,aG⟩:=qcd (sumQ m t)⁻¹;rw [ai];obtain⟨W1,ax,N1⟩:=nw1 w #[.string ⟨#[]⟩,.string ⟨#[]⟩] 44;have K1:=N1.also (q:=fun W=>FCells W ao b 0 (told m t)/\FCells W a2 b2 aH (told m r)/\HasT W) ⟨F.below N1.o.1,hG.below N1.o.1,hP.below N1.o.1⟩;have Y:=sum_any b m c ao t W1 (by omega) K1.o.2.1 ht hT K1.o.2.2.2;rw [aj] at Y;have aa:=qH Y;have O:=qH (qA ht (qA aF (qA hr (qA hT (qA av (qA hy (qA ai (qA aj aG))))))));have aK:=@hmf_ prog;clear N1 ht aF hr hT av hy F hG hP Y ai aj aG;go_enter func78,ntmps78;go_upto_region 1 with fail;rw [<-ax];clear ax;go_wp2_with fail;refine aa.o.mono ?_;rintro e w2 ⟨rfl,az⟩;have K2:=K1.below az;clear az K1 aa;go_wp2_with fail;refine (qcE u1 u2 w2).mono ?_;rintro e w3 ⟨rfl,aA⟩;have K3:=K2.below aA;clear aA K2;obtain⟨W4,ay,N4⟩:=nw1 w3 #[.string u1,.string u2] 44;have K4:=(K3.below N4.o.1).also (q:=fun W=>W.heap[w3.heap.size]? = some (.cells #[.string u1,.string u2] 44 (0,0))) N4.o.2;clear K3 N4;go_upto_region 2 with fail;rw [<-ay];clear ay;have aI:=(qG K4.o.2).1;have q0:=rowC (B:=W4.heap.size) K4.o.2 0;have q1:=rowC (B:=W4.heap.size) K4.o.2 1;refine wp_region_held_drew (S:=fun W=>Below W4.heap.size W4 W) (by kernel_rfl) qB.drew (fun hS0=>?_);refine hT 4 (h:=?_);obtain⟨o1,o2,ho⟩:=qcd 1;refine gr [(0,13),(1,14),(2,15),(3,16),(5,18),(6,19),(7,20),(8,21),(9,6)] [(1,[0]),(2,[0]),(3,[1,2]),(5,[3]),(6,[5]),(7,[5]),(8,[6,7])] [4] [0,1,2,3,5,6,7,8,9] [] 10 11
  (fl2 [(0,fun z _=>z=.tuple #[.agg #[.string o1,.string o2],.int .i64 0]),(1,fun z _=>z=.agg #[.string o1,.string o2]),(2,fun z _=>z=.int .i64 0),(3,fun z _=>z=.agg #[.string o1,.string o2]),(5,fun z _=>z=.tuple #[.agg #[.string y1,.string y2],.int .i64 0]),(6,fun z _=>z=.agg #[.string y1,.string y2]),(7,fun z _=>z=.int .i64 0),(8,fun z _=>z=.agg #[.string y1,.string y2]),(9,ZC W4.heap.size #[.string ⟨#[]⟩,.string ⟨#[]⟩] 44)]) _ 1
  (hS:=fun w' h=>qb4 h) (hstep:=⟨⟨_,rfl,fun v J I F K H=>?_⟩,⟨_,rfl,fun v J I F K H=>?_⟩,⟨_,rfl,fun v J I F K H=>?_⟩,⟨_,rfl,fun v J I F K H=>?_⟩,⟨_,rfl,fun v J I F K H=>?_⟩,⟨_,rfl,fun v J I F K H=>?_⟩,⟨_,rfl,fun v J I F K H=>?_⟩,⟨_,rfl,fun v J I F K H=>?_⟩,⟨_,rfl,fun v J I F K H=>?_⟩,trivial⟩) (hend:=fun v J I F _ fu=>?_)
 ·have au:=of_int 1 1 (by decide) (by decide) (by decide) J (K4.o.1.2.2.2.below (qb4 I));rw [show ((1:Int):Rat) / ((1:Int):Rat)=1 by decide +kernel,ho] at au;exact gC H au (h:=fun e w5 ⟨U,V⟩=>⟨_,U,rfl,V⟩)
 ·have e0:v 0=_:=F.1;rw [e0] at H ⊢;exact gV H rfl
 ·have e0:v 0=_:=F.1;rw [e0] at H ⊢;exact gV H rfl
 ·have e1:v 1=_:=F.1;have e2:v 2=_:=F.2.1;rw [e1,e2] at H ⊢;exact gC H (qcE o1 o2 J) (h:=fun e w5 ⟨U,V⟩=>⟨_,U,rfl,V⟩)
 ·have e3:v 3=_:=F.1;rw [e3] at H ⊢;have hD:=divq (p:=1) (q:=sumQ m t) qnD O.o.2.2.2.1 O.o.2.2.2.2.1 (by rw [Rat.one_mul];exact O.o.2.2.2.2.2.1) J (K4.o.1.2.2.2.below (qb4 I));rw [Rat.one_mul,ho,O.o.2.2.2.2.2.2.2.1,O.o.2.2.2.2.2.2.2.2] at hD;exact gC H hD (h:=fun e w5 ⟨U,V⟩=>⟨_,U,rfl,V⟩)
 ·have e5:v 5=_:=F.1;rw [e5] at H ⊢;exact gV H rfl
 ·have e5:v 5=_:=F.1;rw [e5] at H ⊢;exact gV H rfl
 ·have e6:v 6=_:=F.1;have e7:v 7=_:=F.2.1;rw [e6,e7] at H ⊢;exact gC H (qcE y1 y2 J) (h:=fun e w5 ⟨U,V⟩=>⟨_,U,rfl,V⟩)
 ·exact gW H (h:=ZC.new (qb4 I).size)
 have e8:v 8=.agg #[.string y1,.string y2]:=F 8 (by decide) (by decide);obtain⟨g9,ag,e9,ah⟩:∃g9,_:=F 9 (by decide) (by decide);rw [e8,e9];refine hSt 10 2 ag (h:=⟨qS (qb4 I) ah _,?_⟩);obtain⟨W5,Z⟩:=qY (J.setRow g9 #[.string y1,.string y2]);have aB:Below W4.heap.size W4 W5:=Z▸qS (qb4 I) ah _;have K5:=(K4.below aB).also (q:=fun W=>W.heap[g9]? = some (.cells #[.string y1,.string y2] 44 (0,0))) (Z▸qT _ _ _ _ _ _ ag);rw [<-Z];clear K4 Z aB I F ag ah e8 e9 q0 q1 aI;have hg:qlK 145 #[.pointer (some ⟨g9,0,none⟩)] W5 m (fun _ l=>l=[(y1,y2)]) (fun _ _=>False):=by
  intro i hi W I;refine (qlV _ g9 y1 y2 _ W (zkeep I _ _ K5.o.2)).mono ?_;rintro e w' ⟨U,g,V,h3⟩;exact⟨U,qan ⟨_,_,g,1,1,V,rfl,h3,rfl⟩⟩
 have HG:=qH (qgz 145 #[.pointer (some ⟨g9,0,none⟩)] m (by omega) _ _ W5 (fun a W=>enters func145 (by kernel_rfl) (by kernel_rfl) _ W) hg);clear hg;go_wp2_with fail;refine HG.o.mono ?_;rintro e w6 ⟨aC,h⟩;have K6:=K5.below aC;clear aC K5 HG;rcases h with ⟨tb,g,U,V,rfl,h3,_⟩ | ⟨_,_,_,_,h⟩
 case inr=>exact h.elim
 have af:tb=ttab m 1 fun _ _=>(sumQ m t)⁻¹:=qnX U fun i hi=>by rw [V i hi,<-O.o.2.2.2.2.2.2.2.2];rfl
 rw [af] at h3;have ak:=qH (least_at (c:=m) (c2:=c2) (c3:=c) aJ (by omega) (by decide) (by decide) (fun i hi j hj=>O.o.2.2.2.2.2.1) O.o.2.2.1 O.o.1 O.o.2.1 h3 K6.o.1.1.2.2.1 K6.o.1.1.2.1 K6.o.1.1.2.2.2);clear U V h3 af;go_wp2_with fail;refine ak.o.mono ?_;rintro e w7 ⟨h,aD⟩;have K7:=K6.below aD;clear aD K6 ak;have h:=comb_law O.o.2.2.2.2.1 rfl h;rw [O.o.2.2.2.2.2.2.1] at h;rcases h with ⟨hs,g,rfl,F⟩ | ⟨hs,rfl⟩
 ·have HS:=qH hs;obtain⟨d0,d1⟩:=F.cell 0 (by simp);have d0:w7.cell? ⟨g,0,none⟩=some (.string s1):=d0;have d1:w7.cell? ⟨g,1,none⟩=some (.string s2):=d1;clear hs F;go_wp2_with fail;refine (qkw (some ⟨g,0,none⟩) 1 1 w7).mono ?_;rintro e w8 ⟨rfl,hw⟩;subst hw;have ae:=qH K7.o.1.1.1.2;have HE:=qH (qA (qT _ _ _ #[.string s1,.string s2] _ _ ae.o) (qS K7.o.1.1.1.1 qN #[.string s1,.string s2]))
  go_wp2_with ((with_reducible refine sR_ rfl 44 _ _ rfl (w.heap.size) #[.string s1,.string s2] ae.o 2 ?_))
  exact qR (v:=.agg #[.string s1,.string s2]) (rA_ rfl (w.heap.size) HE.o.1 underlying44 2) rfl ⟨HE.o.2,qan ⟨HS.o,rfl⟩⟩
 ·have HS:=qH hs;clear hs;go_wp2_with fail;refine (qgQ none 0 0 6 (by decide) w7).mono ?_;rintro e w8 ⟨rfl,hw⟩;subst hw;unfold thrown;go_wp2_with fail;exact⟨rfl,K7.o.1.1.1.1,qag ⟨HS.o,rfl⟩⟩
theorem Cd.to12 {p:Rat} {D:Nat} (k:Nat) (F:D*k=1000000000000) (h:Cd p D D):Cd p 1000000000000 1000000000000:=by
 have H:D≠0:=fun e=>by rw [e,Nat.zero_mul] at F;exact absurd F (by decide)
 have I:k≠0:=fun e=>by rw [e,Nat.mul_zero] at F;exact absurd F (by decide)
 have:=h.up k H I;rw [F] at this;exact this
theorem qkg {d:List Int} (h:qcJ d) (k:Nat):0<=dq d k:=by
 have:=h.at k;unfold dq;rw [Rat.div_def];exact Rat.mul_nonneg (Rat.intCast_nonneg.2 this.1) (by decide +kernel)
theorem qgU {d:List Int} (h:qcJ d):∀n,∀p∈prods d n,0<=p
 | 0,p,hp=>by
  have:p=1:=by simpa [prods] using hp
  rw [this];decide +kernel
 | n+1,p,hp=>by
  rcases qaK.1 hp with hp | hp
  ·exact qgU h n p hp
  ·obtain⟨q,F,rfl⟩:=qbp.1 hp;exact Rat.mul_nonneg (qgU h n q F) (qkg h n)
theorem qkP {kind:Nat} {d:List Int} (Y:kind=1\/kind=2\/kind=3) (H:qcJ d) (U:kind=3->d.length<=3):∀p∈termL kind d,Cd p 1000000000000 1000000000000/\0<=p:=by
 have O:Cd 1 1000000000000 1000000000000/\(0:Rat)<=1:=⟨⟨1000000000000,by decide +kernel,by decide⟩,by decide +kernel⟩;have V:∀k,Cd (dq d k) 1000000000000 1000000000000/\0<=dq d k:=fun k=>⟨(dq_cd H k).to12 100000000 (by decide),qkg H k⟩
 have Z:∀k,Cd (dq d k*dq d k) 1000000000000 1000000000000/\0<=dq d k*dq d k:=fun k=>⟨((dq_cd H k).mul (dq_cd H k) (by decide) (by decide)).to12 10000 (by decide),Rat.mul_nonneg (qkg H k) (qkg H k)⟩
 have I:∀p∈lin d,Cd p 1000000000000 1000000000000/\0<=p:=fun p F=>by
  unfold lin at F;rcases qaJ.1 F with rfl | F
  ·exact O
  ·obtain⟨j,_,rfl⟩:=qbp.1 F;exact V j
 rcases Y with rfl | rfl | rfl
 ·exact I
 ·intro p F;rw [qjZ] at F;rcases qaK.1 F with F | F
  ·exact I p F
  ·unfold sqs at F;obtain⟨j,_,rfl⟩:=qbp.1 F;exact Z j
 ·intro p F;rw [qhc] at F;refine⟨?_,qgU H _ p F⟩;have J:=qeS (by decide) (dq_cd H) d.length p F;have:=U rfl;rcases (show d.length=0\/d.length=1\/d.length=2\/d.length=3 by omega) with e | e | e | e <;> rw [e] at J
  ·exact J.to12 1000000000000 (by decide)
  ·exact J.to12 100000000 (by decide)
  ·exact J.to12 10000 (by decide)
  ·exact J.to12 1 (by decide)
theorem qfS (d:List Int):∀n,(prods d n).getD 0 0=1
 | 0=>rfl
 | n+1=>by
  have h:0<(prods d n).length:=by
   have:=qfS d n;rcases qaU (prods d n).length with e | e
   ·rw [qbI.1 e] at this;exact absurd this (by decide +kernel)
   ·exact e
  show (prods d n++_).getD 0 0=1
  rw [qaa,qas h,<-qaa];exact qfS d n
theorem qfV {kind:Nat} {d:List Int} (F:kind=1\/kind=2\/kind=3):termQ kind d 0=1:=by
 unfold termQ;rcases F with rfl | rfl | rfl
 ·rfl
 ·rfl
 ·rw [qhc];exact qfS d _
theorem qnN {f:Nat->Rat}:∀{n:Nat},(∀i,i<n->0<=f i)->0<n->f 0<=sumQ n f
 | 1,h,_=>by show f 0<=0+f 0;rw [Rat.zero_add];exact Rat.le_refl
 | n+2,h,_=>by
  have ih:=qnN (n:=n+1) (fun i F=>h i (by omega)) (by omega);have:=h (n+1) (by omega)
  show f 0<=sumQ (n+1) f+f (n+1)
  grind
theorem qnS {kind:Nat} {d:List Int} (U:kind=1\/kind=2\/kind=3) (hV:qcJ d) (h3:kind=3->d.length<=3) (Y:1<=many kind d.length) (Z:many kind d.length<=10) :
  sumQ (many kind d.length) (termQ kind d)≠0/\Short (sumQ (many kind d.length) (termQ kind d))/\Short (sumQ (many kind d.length) (termQ kind d))⁻¹:=by
 have H:=fun j hj=>qkP U hV h3 _ (qfH (kind:=kind) (d:=d) (j:=j) hj)
 have I:=qnN (f:=termQ kind d) (fun i O=>(H i O).2) Y;rw [qfV U] at I;have hne:sumQ (many kind d.length) (termQ kind d)≠0:=fun e=>by rw [e] at I;exact absurd I (by decide +kernel)
 have F:=Cd.sum (n:=many kind d.length) (f:=termQ kind d) fun i O=>(H i O).1
 have F:=F.mono (M:=10000000000000) (by omega);refine⟨hne,F.short (by decide) (by decide +kernel) (by decide +kernel),?_⟩;obtain⟨p,e,hp⟩:=F;have J:p≠0:=fun V=>hne (by rw [e,V,Rat.div_def];exact Rat.zero_mul _)
 refine qdk (N:=10000000000000) (qgX (p:=((1000000000000:Nat):Int)) (z:=p) J (by decide) hp ?_) (by decide +kernel);have aa:(p:Rat)≠0:=fun h=>J (by exact_mod_cast h)
 have hD:((1000000000000:Nat):Rat)≠0:=qeG (by decide);rw [e,show (((1000000000000:Nat):Int):Rat)=((1000000000000:Nat):Rat) from rfl];generalize ((1000000000000:Nat):Rat)=D at hD
 grind
def ARow (W:World) (g:Nat) (l:List FT):Prop:=W.heap[g]? = some (.cells (fflat (l++List.replicate (3-l.length) fd0)).toArray 65 (0,0))/\l.length<=3
theorem ARow.below {W W':World} {g:Nat} {l:List FT} (h:ARow W g l) (F:Below W.heap.size W W'):ARow W' g l:=⟨zkeep F _ _ h.1,h.2⟩
theorem ARow.at {W:World} {g:Nat} {l:List FT} (h:ARow W g l) (J:l.length<3):(W.cell? ⟨g,l.length*2,none⟩=some (.string ⟨#[]⟩)/\W.cell? ⟨g,l.length*2+1,none⟩=some (.string ⟨#[]⟩))/\∀j,W.frozen? ⟨g,j,none⟩=false:=by
 have F:(l++List.replicate (3-l.length) fd0)[l.length]? = some fd0:=by
  rw [qaq qN,qaG,qbc,if_pos (by omega)]
 obtain⟨H,I⟩:=qd5 _ _ _ F;exact⟨⟨(qC _ _ _ _ _ _ h.1).trans ((qau ..).trans H),(qC _ _ _ _ _ _ h.1).trans ((qau ..).trans I)⟩,fun j=>qF _ _ _ _ _ h.1⟩
theorem ARow.set {W:World} {g:Nat} {l:List FT} (h:ARow W g l) (J:l.length<3) (x:FT) :
  ARow ((W.setCell ⟨g,l.length*2,none⟩ (.string x.1)).setCell ⟨g,l.length*2+1,none⟩ (.string x.2)) g (l++[x]):=by
 refine⟨?_,by rw [qaf,qaz];omega⟩;rw [heap_setCell_same _ g (l.length*2+1) _ _ _ (heap_setCell_same _ g (l.length*2) _ _ _ h.1)]
 congr 3
 obtain⟨m,I⟩:∃m,3-l.length=m+1:=⟨3-l.length-1,by omega⟩;have F:fflat (l++List.replicate (m+1) fd0)=fflat l++(.string fd0.1 :: .string fd0.2 :: fflat (List.replicate m fd0)):=by
  rw [qcM,qbn];rfl
 have H:fflat (l++[x]++List.replicate m fd0)=fflat l++(.string x.1 :: .string x.2 :: fflat (List.replicate m fd0)):=by
  rw [qcM,qcM,qaI];rfl
 rw [qaA,qaA,I,qaf,qaz,show 3-(l.length+1)=m by omega,F,H];rw [qa8 _ _ (by rw [qce];exact qae _),qce,qaG,qbk,qa8 _ _ (by rw [qce];omega),qce,show l.length*2+1-l.length*2=1 by omega]
 rfl
def apq (m:Md) (dv:List Int) (F c:Nat):Rat:=sumQ (many F dv.length) fun j=>termQ F dv j*lval (m.row c) j
def ApG (m:Md) (dv:List Int) (v:Value):Prop:=qcJ dv/\∃F,MdOk m F dv.length/\(∀c,c<3->Short (apq m dv F c)) /\
 v=.agg #[.string (ftxt (apq m dv F 0)).1,.string (ftxt (apq m dv F 0)).2,.string (ftxt (apq m dv F 1)).1,.string (ftxt (apq m dv F 1)).2,.string (ftxt (apq m dv F 2)).1,.string (ftxt (apq m dv F 2)).2]
def ApF (m:Md) (dv:List Int) (e:Int):Prop:=(¬qdz m/\e=320)\/(qdz m/\¬((dv.length:Int)=m.inn/\qcJ dv)/\e=2) \/
 (qcJ dv/\e=6/\∃F,MdOk m F dv.length/\¬(∀c,c<3->Short (apq m dv F c)))
theorem ap1_any (m:Md) (n mb db b off cd:Nat) (ao:Option Addr) (dv:List Int) (a:Nat->Option Addr) (b' o d:Nat->Nat) (ty:TypeId) (w:World) (hn:dv.length=n) (hl:n<=4611686018427387904) (aS:∀q,q<3->(m.row q).length<=4611686018427387904)
  (aQ:w.heap[db]? = some (.cells #[.slice ao n cd] ty (0,0))) (aB:w.heap[mb]? = some (.cells #[.int .i64 m.kind,.int .i64 m.inn,.slice (a 0) (m.row 0).length (d 0),.slice (a 1) (m.row 1).length (d 1),.slice (a 2) (m.row 2).length (d 2)] 38 (0,0))) (hF:∀q,q<3->FCells w (a q) (b' q) (o q) (m.row q))
  (hN:NCells w ao b off dv) (hT:HasT w) :
  Calls prog 76 #[.pointer (some ⟨mb,0,none⟩),.pointer (some ⟨db,0,none⟩)] w fun e w'=>Below w.heap.size w w' /\
   ((∃b0 b1 b2 b3 b4 b5:ByteArray,e=.returned (.agg #[.string b0,.string b1,.string b2,.string b3,.string b4,.string b5])/\ApG m dv (.agg #[.string b0,.string b1,.string b2,.string b3,.string b4,.string b5]))\/∃c,e=thrown c/\ApF m dv c):=by
 obtain⟨W1,aJ,N1⟩:=nw1 w #[.string ⟨#[]⟩,.string ⟨#[]⟩,.string ⟨#[]⟩,.string ⟨#[]⟩,.string ⟨#[]⟩,.string ⟨#[]⟩] 65;have U:MdAt W1 (.agg #[.int .i64 m.kind,.int .i64 m.inn,.slice (a 0) (m.row 0).length (d 0),.slice (a 1) (m.row 1).length (d 1),.slice (a 2) (m.row 2).length (d 2)]) m :=
  ⟨_,_,_,_,_,_,_,_,_,_,_,_,rfl,(hF 0 (by decide)).below N1.o.1,(hF 1 (by decide)).below N1.o.1,(hF 2 (by decide)).below N1.o.1⟩
 have av:=qfN m _ W1 U aS;obtain⟨kind,O⟩:∃z,m.kind=z:=⟨_,rfl⟩;obtain⟨inn,aa⟩:∃z,m.inn=z:=⟨_,rfl⟩;obtain⟨L,hL⟩:∃L:Nat->Nat,∀q,(m.row q).length=L q:=⟨_,fun _=>rfl⟩;rw [O,aa,hL,hL,hL] at aB av;have aF:=qH av;have K1:=N1.also (q:=fun W=>W.heap[mb]? = some (.cells #[.int .i64 kind,.int .i64 inn,.slice (a 0) (L 0) (d 0),.slice (a 1) (L 1) (d 1),.slice (a 2) (L 2) (d 2)] 38 (0,0))/\W.heap[db]? = some (.cells #[.slice ao n cd] ty (0,0))/\NCells W ao b off dv/\HasT W) ⟨zkeep N1.o.1 _ _ aB,zkeep N1.o.1 _ _ aQ,hN.below N1.o.1,hT.below N1.o.1⟩;have c0:=qC _ _ 0 _ _ _ K1.o.2.1;have c1:=qC _ _ 1 _ _ _ K1.o.2.1;have c2:=qC _ _ 2 _ _ _ K1.o.2.1;have c3:=qC _ _ 3 _ _ _ K1.o.2.1;have c4:=qC _ _ 4 _ _ _ K1.o.2.1;have I:=qH (qA hn (qA hl (qA O (qA aa (qA hL hF)))));clear N1 U av aB aQ hF hN hT hn hl aS O aa hL;go_enter func76,ntmps76;go_upto_region 1 with fail;rw [<-aJ];clear aJ;go_wp2_with fail;refine aF.o.mono ?_;rintro e w2 ⟨cc,rfl,aX,aN⟩;have K2:=K1.below aN;clear aN K1 aF c0 c1 c2 c3 c4;rcases aX with ⟨rfl,aU⟩ | ⟨rfl,aT⟩
 case inr =>
  have HN:=qH aT;clear aT;go_wp2_with fail;refine (qcj 320 (by decide) _).mono ?_;rintro e w3 ⟨rfl,rfl⟩;unfold thrown;go_wp2_with fail;exact⟨rfl,K2.o.1.1,qag ⟨320,rfl,qan ⟨HN.o,rfl⟩⟩⟩
 have aG:=qH aU;clear aU;go_wp2_with fail;refine (qeu _).mono ?_;rintro e w3 ⟨rfl,hw⟩;subst hw;have c0:=qC _ _ 0 _ _ _ K2.o.2.1;have c1:=qC _ _ 1 _ _ _ K2.o.2.1;have p0:=qC _ _ 0 _ _ _ K2.o.2.2.1;go_wp2_with fail;refine (qf4 ao b off n cd dv inn w2 I.o.1 I.o.2.1 K2.o.2.2.2.1).mono ?_;rintro e w3 ⟨r,rfl,hr,hw⟩;subst hw;rcases hr with ⟨rfl,hr⟩ | ⟨rfl,hr⟩
 case inr =>
  have HN:=qH hr;clear hr;go_wp2_with fail;refine (qcj 2 (by decide) _).mono ?_;rintro e w3 ⟨rfl,rfl⟩;unfold thrown;go_wp2_with fail;exact⟨rfl,K2.o.1.1,qag ⟨2,rfl,qag (qan ⟨aG.o,by rw [I.o.1,I.o.2.2.2.1];exact HN.o,rfl⟩)⟩⟩
 obtain⟨F,aI⟩:∃F,MdOk m F n:=by
  obtain⟨F,n',h⟩:=aG.o;have h1:=h.inn.1;have h2:=I.o.2.2.2.1;have h3:=hr.1;obtain rfl:n'=n:=by omega
  exact⟨F,h⟩
 have H:=qH (qA aI hr.2);clear hr aI;go_wp2_with fail;refine (qeu _).mono ?_;rintro e w3 ⟨rfl,hw⟩;subst hw;go_wp2_with fail;refine (qfI kind F (by rw [<-I.o.2.2.1];exact H.o.1.kind) ao b off n cd dv w2 I.o.1 H.o.1.inn.2.1 H.o.1.inn.2.2 (fun e=>by have h3:=H.o.1.both;have h4:=H.o.1.inn.2.2;omega) K2.o.2.2.2.1 H.o.2 K2.o.2.2.2.2).mono ?_;rintro e w3 ⟨v,rfl,hv,aO⟩;have K3:=K2.below aO;obtain⟨ta,tg,tc,rfl,ax,_⟩:=hv.cells (n:=many F n) (by rw [qav,qeJ,I.o.1]);clear aO hv c0 c1 p0 K2;have aV:(termL F dv).map ftxt=told (many F n) (termQ F dv):=by
  rw [<-I.o.1];exact (qfU F dv).symm
 rw [aV] at ax;have aW:=qH ax;clear ax aV;obtain⟨W4,aK,N4⟩:=nw1 w3 #[.string ⟨#[]⟩,.string ⟨#[]⟩,.string ⟨#[]⟩,.string ⟨#[]⟩,.string ⟨#[]⟩,.string ⟨#[]⟩] 65;have aM:ARow W4 w3.heap.size []:=⟨N4.o.2,by decide⟩;have H0:=qH (qA aM N4.o.1);clear aM N4;go_wp2_with fail;rw [<-aK];clear aK;obtain⟨M,U⟩:=qY w3.heap.size;rw [<-U] at H0 ⊢;have ak:=qH U;clear U;have aA:F=1\/F=2\/F=3:=by have:=H.o.1.kind.2;omega
 have ag:=qe7 H.o.1.kind H.o.1.inn.2.1 H.o.1.inn.2.2 H.o.1.both;have ay:=qnS (kind:=F) (d:=dv) aA H.o.2 (fun e=>by rw [I.o.1];have h3:=H.o.1.both;have h4:=H.o.1.inn.2.2;omega) (by rw [I.o.1];exact ag.1) (by rw [I.o.1];exact ag.2);rw [I.o.1] at ay;have J:=qH (qA ay (qA aA ag));clear ay aA ag
 go_loopw [18] (fun x18 W=>∃j:Nat,x18=.int .i64 j/\j<=3/\Hu (∃l:List FT,l.length=j/\(∀q,q<j->Short (apq m dv F q)/\l.getD q fd0=ftxt (apq m dv F q))/\ARow W M l/\Below w3.heap.size w3 W)) (fun x18 _=>3-(intOf x18).toNat)
 case atStart=>exact⟨0,rfl,qal _,qH ⟨[],rfl,fun q hq=>absurd hq (qbR _),H0.o.1,ak.o▸H0.o.2⟩⟩
 case round =>
  obtain⟨j,rfl,hj,hI⟩:=hrel;obtain⟨l,ah,Y,hA,hB⟩:=hI.o
  by_cases V:j<3
  ·have aY:(j:Int)<3:=by omega
   have K4:=K3.below hB;have Z:=H.o.1.rows j V;have aH:L j=many F n:=by rw [<-I.o.2.2.2.2.1 j];exact Z.1
   have d0:wr.cell? ⟨mb,2+j,none⟩=some (.slice (a j) (many F n) (d j)):=by
    rw [<-aH];rcases (show j=0\/j=1\/j=2 by omega) with rfl | rfl | rfl
    ·exact qC _ _ 2 _ _ _ K4.o.2.1
    ·exact qC _ _ 3 _ _ _ K4.o.2.1
    ·exact qC _ _ 4 _ _ _ K4.o.2.1
   have af:=((I.o.2.2.2.2.2 j V).below (K4.o.1.1));have e:m.row j=told (many F n) (lval (m.row j)):=by rw [<-Z.1];exact Z.2.eq_told
   rw [e] at af;have aC:=Z.2.short;rw [Z.1] at aC;obtain⟨aj,az⟩:∃z,a j=z:=⟨_,rfl⟩;obtain⟨dj,aR⟩:∃z,d j=z:=⟨_,rfl⟩;rw [az,aR] at d0;rw [az] at af;have HC:=qH (qmc (many F n) tg tc (b' j) (o j) dj ta aj (termQ F dv) (lval (m.row j)) wr J.o.2.2.1 J.o.2.2.2
    (fun i hi=>qhd J.o.2.1 H.o.2 (by rw [I.o.1];exact H.o.1.inn.2.2) (fun e=>by rw [I.o.1];have h3:=H.o.1.both;have h4:=H.o.1.inn.2.2;omega) _ (qfH (by rw [I.o.1];exact hi)))
    (fun i hi=>(qkP J.o.2.1 H.o.2 (fun e=>by rw [I.o.1];have h3:=H.o.1.both;have h4:=H.o.1.inn.2.2;omega) _ (qfH (by rw [I.o.1];exact hi))).2)
    aC J.o.1.2.1 J.o.1.1 J.o.1.2.2 (aW.o.below hB) af K4.o.2.2.2.2)
   have aL:apq m dv F j=sumQ (many F n) fun q=>termQ F dv q*lval (m.row j) q:=by unfold apq;rw [I.o.1]
   rw [<-aL] at HC;have HI:=qH (qA ah (qA Y (qA hA hB)));have aD:=qH (K3.o.1.1.trans (hB.mono K3.o.1.1.size));clear hI ah Y hA hB K4 Z aH af e aC az aR aL;go_wp2_with fail;refine HC.o.mono ?_;rintro e w5 ⟨aP,h⟩;have ai:=qH aP;clear aP HC;rcases h with ⟨hs,rfl⟩ | ⟨hs,rfl⟩
   ·obtain⟨y1,y2,hy⟩:=qcd (apq m dv F j);rw [hy];have au:=HI.o.2.2.1.below ai.o;obtain⟨⟨z0,z1⟩,zf⟩:=au.at (by rw [HI.o.1];exact V);have ae:=au.set (by rw [HI.o.1];exact V) (y1,y2);rw [HI.o.1] at z0 z1 ae;have aZ:=zf (j*2);have bf:=zf (j*2+1);have HN:=qH (qA ae (qA (((HI.o.2.2.2.trans (ai.o.mono HI.o.2.2.2.size)).setCell (p:=⟨M,j*2,none⟩) (by rw [ak.o];exact qae _) (.string y1)).setCell (p:=⟨M,j*2+1,none⟩) (by rw [ak.o];exact qae _) (.string y2)) (qA hs hy)));clear au zf ae hs hy;go_wp2;go_roundw
    case rel =>
     refine⟨j+1,by go_num,V,qH ⟨l++[(y1,y2)],by simp [HI.o.1],fun q hq=>?_,HN.o.1,HN.o.2.1⟩⟩;rcases qaQ q j with h | h
     ·rw [qaa,qas (by rw [HI.o.1];exact h),<-qaa];exact HI.o.2.1 q h
     ·obtain rfl:q=j:=by omega
      rw [qaa,qaq (by rw [HI.o.1];exact qae _),HI.o.1,qaG];exact⟨HN.o.2.2.1,HN.o.2.2.2.symm⟩
    case measure=>simp [intOf];omega
   ·have HS:=qH hs;clear hs;unfold thrown;go_wp2_with fail;exact⟨rfl,aD.o.trans (ai.o.mono aD.o.size),qag ⟨6,rfl,qag (qag ⟨H.o.2,rfl,F,by rw [I.o.1];exact H.o.1,fun h=>HS.o (h j V)⟩)⟩⟩
  ·obtain rfl:j=3:=by omega
   obtain⟨p0,p1,p2,rfl⟩:∃p0 p1 p2,l=[p0,p1,p2]:=by
    rcases l with _ | ⟨s0,_ | ⟨s1,_ | ⟨s2,_ | ⟨s3,vs⟩⟩⟩⟩ <;> simp at ah
    exact⟨s0,s1,s2,rfl⟩
   have v0:=Y 0 (by decide);have v1:=Y 1 (by decide);have v2:=Y 2 (by decide);obtain⟨x0,x1⟩:=p0;obtain⟨x2,x3⟩:=p1;obtain⟨x4,x5⟩:=p2;have U:wr.heap[M]? = some (.cells #[.string x0,.string x1,.string x2,.string x3,.string x4,.string x5] 65 (0,0)):=hA.1;have y0:=qC _ _ 0 _ _ _ U;have y1:=qC _ _ 1 _ _ _ U;have y2:=qC _ _ 2 _ _ _ U;have y3:=qC _ _ 3 _ _ _ U;have y4:=qC _ _ 4 _ _ _ U;have y5:=qC _ _ 5 _ _ _ U;have K4:=K3.below hB;have HV:=qH (qA v0 (qA v1 v2));have Hr:=qH K4.o.1.2;have HE:=qH (qA (qT _ _ _ #[.string x0,.string x1,.string x2,.string x3,.string x4,.string x5] _ _ Hr.o) (qS K4.o.1.1 qN #[.string x0,.string x1,.string x2,.string x3,.string x4,.string x5]));clear hI ah Y hA hB v0 v1 v2 U K4
   go_wp2_with ((with_reducible refine sR_ rfl 65 _ _ rfl (w.heap.size) #[.string x0,.string x1,.string x2,.string x3,.string x4,.string x5] Hr.o 6 ?_))
   refine qR (v:=.agg #[.string x0,.string x1,.string x2,.string x3,.string x4,.string x5]) (rA_ rfl (w.heap.size) HE.o.1 underlying65 6) rfl ?_;obtain⟨⟨g0,e0⟩,⟨g1,e1⟩,g2,e2⟩:=HV.o;have e0:(x0,x1)=_:=e0;have e1:(x2,x3)=_:=e1;have e2:(x4,x5)=_:=e2;refine⟨HE.o.2,qan ⟨x0,x1,x2,x3,x4,x5,rfl,H.o.2,F,by rw [I.o.1];exact H.o.1,fun q hq=>?_,?_⟩⟩
   ·rcases (show q=0\/q=1\/q=2 by omega) with rfl | rfl | rfl
    ·exact g0
    ·exact g1
    ·exact g2
   ·rw [<-e0,<-e1,<-e2]
def ApAs (w:World) (m:Md) (dv:List Int) (e:Ending) (F:World):Prop :=
 Below w.heap.size w F/\((∃v,e=.returned (.tuple #[v,.int .i64 0])/\ApG m dv v)\/∃c,e=.returned (.tuple #[.agg #[.string ⟨#[]⟩,.string ⟨#[]⟩,.string ⟨#[]⟩,.string ⟨#[]⟩,.string ⟨#[]⟩,.string ⟨#[]⟩],.int .i64 c])/\ApF m dv c)
theorem qlQ (m:Md) (v:Value) (n b off cd:Nat) (Z:Option Addr) (dv:List Int) (w:World) (hM:MdAt w v m) (hn:dv.length=n) (hl:n<=4611686018427387904) (V:∀q,q<3->(m.row q).length<=4611686018427387904) (hN:NCells w Z b off dv) (hT:HasT w) :
  Calls prog 22 #[v,.slice Z n cd] w fun e w'=>ApAs w m dv e w':=by
 obtain⟨a,b',o,d,rfl,hF⟩:=hM.parts;obtain⟨W3,O,F⟩:=nw3 w #[.int .i64 m.kind,.int .i64 m.inn,.slice (a 0) (m.row 0).length (d 0),.slice (a 1) (m.row 1).length (d 1),.slice (a 2) (m.row 2).length (d 2)] 38 #[.slice Z n cd] 32 #[.string ⟨#[]⟩,.string ⟨#[]⟩,.string ⟨#[]⟩,.string ⟨#[]⟩,.string ⟨#[]⟩,.string ⟨#[]⟩] 65;have aa:=@hmf_ prog;have HG:=qH (qin 76 #[.pointer (some ⟨w.heap.size,0,none⟩),.pointer (some ⟨w.heap.size+1,0,none⟩)] (fun _ v=>ApG m dv v) (ApF m dv) W3 (fun W=>enters func76 (by kernel_rfl) (by kernel_rfl) _ W)
  (fun W W' v h=>h)
  (fun w1 U=>ap1_any m n w.heap.size (w.heap.size+1) b off cd Z dv a b' o d _ w1 hn hl V (zkeep U _ _ F.o.2.2.1) (zkeep U _ _ F.o.2.1) (fun q hq=>(hF q hq).below (F.o.1.trans (U.mono F.o.1.size))) (hN.below (F.o.1.trans (U.mono F.o.1.size))) (hT.below (F.o.1.trans (U.mono F.o.1.size)))))
 have HB:=qH (qA F.o.1 F.o.2.2.2);clear hM hn hl V hN hT hF F;go_enter func22,ntmps22;go_upto_region 1 with fail;rw [<-O];clear O;go_wp2_with fail;refine HG.o.mono ?_;rintro e w5 ⟨I,h⟩;have J:=qH (HB.o.1.trans (I.mono HB.o.1.size));have Y:=qH (zkeep I _ _ HB.o.2);clear I HG;rcases h with ⟨b0,b1,b2,b3,b4,b5,rfl,hg⟩ | ⟨cc,rfl,hf⟩
 ·have H:=qH (qA (qT _ _ _ #[.string b0,.string b1,.string b2,.string b3,.string b4,.string b5] _ _ Y.o) (qA (qS J.o (show w.heap.size<=w.heap.size+1+1 by omega) #[.string b0,.string b1,.string b2,.string b3,.string b4,.string b5]) hg));clear hg;rename_i hK;dsimp only;refine hK _ _ ?_
  go_wp2_with ((with_reducible refine sR_ rfl 65 _ _ rfl ((w.heap.size+1+1)) #[.string b0,.string b1,.string b2,.string b3,.string b4,.string b5] Y.o 6 ?_))
  exact qR (v:=.tuple #[.agg #[.string b0,.string b1,.string b2,.string b3,.string b4,.string b5],.int .i64 0]) (rB_ rfl (w.heap.size+1+1) H.o.1 underlying65 6) rfl ⟨H.o.2.1,qan ⟨_,rfl,H.o.2.2⟩⟩
 ·have H:=qH (qA (qT _ _ _ #[.string ⟨#[]⟩,.string ⟨#[]⟩,.string ⟨#[]⟩,.string ⟨#[]⟩,.string ⟨#[]⟩,.string ⟨#[]⟩] _ _ Y.o) (qA (qS J.o (show w.heap.size<=w.heap.size+1+1 by omega) #[.string ⟨#[]⟩,.string ⟨#[]⟩,.string ⟨#[]⟩,.string ⟨#[]⟩,.string ⟨#[]⟩,.string ⟨#[]⟩]) hf));clear hf;rename_i hK;dsimp only;refine hK _ _ ?_
  go_wp2_with ((with_reducible refine sR_ rfl 65 _ _ rfl ((w.heap.size+1+1)) #[.string ⟨#[]⟩,.string ⟨#[]⟩,.string ⟨#[]⟩,.string ⟨#[]⟩,.string ⟨#[]⟩,.string ⟨#[]⟩] Y.o 6 ?_))
  exact qR (v:=.tuple #[.agg #[.string ⟨#[]⟩,.string ⟨#[]⟩,.string ⟨#[]⟩,.string ⟨#[]⟩,.string ⟨#[]⟩,.string ⟨#[]⟩],.int .i64 cc]) (rB_ rfl (w.heap.size+1+1) H.o.1 underlying65 6) rfl ⟨H.o.2.1,qag ⟨cc,rfl,H.o.2.2⟩⟩
theorem qcA.uniq {z:Int} {k F:Nat} (h:qcA z k) (H:qcA z F):F=k:=by have:=h.1;have:=H.1;omega
theorem qmS {k n m:Nat} {x y:Nat->Nat->Rat} (h:∀c,c<3->told m (x c)=told m (y c)):mdq k n m x=mdq k n m y:=by
 unfold mdq;rw [h 0 (by decide),h 1 (by decide),h 2 (by decide)]
theorem FitAs.only {w:World} {l:List Pt} {kind:Int} {k:Nat} {I:List Int} {e:Ending} {Y:World} {X:Nat->Nat->Rat} (h:FitAs w l kind I e Y) (hP:PtsOk l) (V:I.length=l.length) (hW:WOk I) (U:qcA kind k) (h3:¬(k=3/\chans l=4))
  (hs:¬Sing (many k (chans l)) (nq l k I 0)) (O:∀c,c<3->FitX l k I c (X c)/\qb2 (many k (chans l)) (X c)):Below w.heap.size w Y/\∃v,e=.returned (.tuple #[v,.int .i64 0])/\MdAt Y v (mdq k (chans l) (many k (chans l)) X):=by
 refine⟨h.1,?_⟩;have J:∀c,¬Sing (many k (chans l)) (nq l k I c):=fun c F=>hs (qgR F)
 rcases h.2 with ⟨v,rfl,_,_,_,k',H,_,_,x,hx,Z⟩ | ⟨c,rfl,hf⟩
 ·obtain rfl:=U.uniq H;refine⟨v,rfl,?_⟩;rw [qmS fun c F=>qeV ((hx c F).1.uniq (J c) (O c F).1)] at Z;exact Z
 ·exfalso;rcases hf with ⟨h,_⟩ | ⟨_,h,_⟩ | ⟨_,_,_,k',H,h⟩
  ·exact h hP
  ·exact h ⟨⟨k,U⟩,V,hW⟩
  ·obtain rfl:=U.uniq H;rcases h with ⟨a,b,_⟩ | ⟨_,⟨h,_⟩ | ⟨_,c,x,F,hx,hn,_⟩⟩
   ·exact h3 ⟨a,b⟩
   ·exact hs h
   ·exact hn ((O c F).2.congr (qcL.uniq (J c) (O c F).1 hx))
theorem FitAs.sing {w:World} {l:List Pt} {kind:Int} {k:Nat} {H:List Int} {e:Ending} {U:World} (h:FitAs w l kind H e U) (Y:PtsOk l) (J:H.length=l.length) (Z:WOk H) (I:qcA kind k) (V:¬(k=3/\chans l=4))
  (O:Sing (many k (chans l)) (nq l k H 0)):Below w.heap.size w U/\e=.returned (.tuple #[mdv0,.int .i64 7]):=by
 refine⟨h.1,?_⟩;rcases h.2 with ⟨v,rfl,_,_,_,k',F,_,hn,_⟩ | ⟨c,rfl,hf⟩
 ·obtain rfl:=I.uniq F;exact absurd O hn
 ·rcases hf with ⟨h,_⟩ | ⟨_,h,_⟩ | ⟨_,_,_,k',F,h⟩
  ·exact absurd Y h
  ·exact absurd ⟨⟨k,I⟩,J,Z⟩ h
  ·obtain rfl:=I.uniq F;rcases h with ⟨a,b,_⟩ | ⟨_,⟨_,rfl⟩ | ⟨h,_⟩⟩
   ·exact absurd ⟨a,b⟩ V
   ·rfl
   ·exact absurd O h
theorem qmT {k n:Nat} {X:Nat->Nat->Rat} (U:1<=k/\k<=3) (H:1<=n) (J:n<=4) (I:¬(k=3/\n=4)) (O:∀c,c<3->qb2 (many k n) (X c)):MdOk (mdq k n (many k n) X) k n :=
 ⟨⟨rfl,U⟩,⟨rfl,H,J⟩,I,fun c F=>by rw [qeo F];exact⟨qb0 _ _,qdN (O c F)⟩⟩
theorem MdOk.uniq {m:Md} {k n H I:Nat} (h:MdOk m k n) (F:MdOk m H I):H=k/\I=n:=⟨h.kind.uniq F.kind,by have:=h.inn.1;have:=F.inn.1;omega⟩
theorem sqq_mdq {k n m:Nat} {X:Nat->Nat->Rat} {l:List Pt} {F i:Nat} (O:many F (chans l)<=m):sqq (mdq k n m X) l F i=msR 3 (many F (chans l)) X (fun q=>labq l q i) (fun _=>1) (tqf l F i):=by
 unfold sqq msR;refine qbX fun q H=>?_
 have:(sumQ (many F (chans l)) fun j=>lval ((mdq k n m X).row q) j*tqf l F i j)=sumQ (many F (chans l)) fun j=>X q j*tqf l F i j:=by
  rw [qeo H];exact qbX fun j J=>by rw [qcU (by omega)]
 have I:resR (many F (chans l)) (fun q=>lval ((mdq k n m X).row q)) (fun q=>labq l q i) (tqf l F i) q=resR (many F (chans l)) X (fun q=>labq l q i) (tqf l F i) q:=by
  unfold resR;rw [this]
 rw [I]
theorem SqAs.only {w:World} {m:Md} {k:Nat} {l:List Pt} {e:Ending} {I:World} (h:SqAs w m l e I) (O:PtsOk l) (H:MdOk m k (chans l)) (V:qb2 l.length (sqq m l k)):Below w.heap.size w I /\
  ∃g,e=.returned (.tuple #[.slice (some ⟨g,0,none⟩) l.length l.length,.int .i64 0])/\FCells I (some ⟨g,0,none⟩) g 0 (told l.length (sqq m l k)):=by
 refine⟨h.1,?_⟩;rcases h.2 with ⟨v,rfl,_,k',F,_,g,rfl,J⟩ | ⟨c,rfl,U⟩
 ·obtain rfl:=(H.uniq F).1;exact⟨g,rfl,J⟩
 ·exfalso;rcases U with ⟨h,_⟩ | ⟨_,h,_⟩ | ⟨_,_,h,_⟩ | ⟨_,_,k',F,h⟩
  ·exact h ⟨_,_,H⟩
  ·exact h O
  ·exact h H.inn.1
  ·obtain rfl:=(H.uniq F).1;exact h V
theorem qh2 {c:UInt8} (h:qdx c=true):qhp ⟨#[c]⟩:=⟨qae 1,show 1<=12 by decide,fun k F=>by
 have F:k<1:=F;obtain rfl:k=0:=by omega
 exact h⟩
theorem qfJ {z:Int} (h:0<=z/\z<=10000):qcJ [z]:=fun k F=>by
 have F:k<1:=F;obtain rfl:k=0:=by omega
 exact h
theorem kind1:qcA 1 1:=⟨rfl,by decide,by decide⟩
theorem kind2:qcA 2 2:=⟨rfl,by decide,by decide⟩
theorem kind3:qcA 3 3:=⟨rfl,by decide,by decide⟩
