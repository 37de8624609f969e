import Derived.Test.YtplkdeknjghobaaGreatDoorBe24
set_option maxRecDepth 100000
set_option maxHeartbeats 0
namespace Go.Proofs.YtplkdeknjghobaaGreatDoor
open Go.RowKit
def FitI (l:List Pt) (k:Nat) (ws:List Int) (_i:Nat) (kind:Int) (n:Nat) (W5:World) (M:Nat) (W:World) (j:Nat):Prop :=
 ∃(vs:List Value) (t:Tbl) (x:Nat->Nat->Rat),vs.length=j/\VRow W M 5 (.slice none 0 0) 38 (.int .i64 kind :: .int .i64 n :: vs)/\RVals W vs t /\
  (∀q,q<j->t.getD q []=told (many k (chans l)) (x q)/\FitX l k ws q (x q)/\qbY (many k (chans l)) (x q))/\(0<j->¬Sing (many k (chans l)) (nq l k ws 0))/\Below W5.heap.size W5 W
theorem fit1_any (R b off c pb kb wb b2 off2 n2 c2:Nat) (ao a2:Option Addr) (l:List Pt) (kind:Int) (ws:List Int) (ty ty2 ty3:TypeId) (w:World) (hR:l.length=R) (hl:R<=4611686018427387904) (hs:∀k,k<R->(l.getD k pt0).name.size<=4611686018427387904/\(l.getD k pt0).dev.length<=4611686018427387904)
  (hn2:ws.length=n2) (hl2:n2<=4611686018427387904) (hpb:w.heap[pb]? = some (.cells #[.slice ao R c] ty (0,0))) (hkb:w.heap[kb]? = some (.cells #[.int .i64 kind] ty2 (0,0))) (hwb:w.heap[wb]? = some (.cells #[.slice a2 n2 c2] ty3 (0,0)))
  (hP:PCells w ao b off l) (hN:NCells w a2 b2 off2 ws) (hT:HasT w) :
  Calls Tryz.prog 51 #[.pointer (some ⟨pb,0,none⟩),.pointer (some ⟨kb,0,none⟩),.pointer (some ⟨wb,0,none⟩)] w fun e w'=>Below w.heap.size w w' /\
   ((∃(i0 i1:Int) (p0:Option Addr) (n0 c0:Nat) (p1:Option Addr) (n1 c1:Nat) (p2:Option Addr) (n2 c2:Nat),e=.returned (.agg #[.int .i64 i0,.int .i64 i1,.slice p0 n0 c0,.slice p1 n1 c1,.slice p2 n2 c2])/\FitG l kind ws w' (.agg #[.int .i64 i0,.int .i64 i1,.slice p0 n0 c0,.slice p1 n1 c1,.slice p2 n2 c2])) \/
    ∃c,e=thrown c/\FitF l kind ws c):=by
 obtain⟨W1,hW1,K0⟩:=nw1 w #[.int .i64 0,.int .i64 0,.slice none 0 0,.slice none 0 0,.slice none 0 0] 38;have K1:Kn (fun W=>(Below w.heap.size w W/\W.heap[w.heap.size]? = some (.cells #[.int .i64 0,.int .i64 0,.slice none 0 0,.slice none 0 0,.slice none 0 0] 38 (0,0)))/\W.heap[pb]? = some (.cells #[.slice ao R c] ty (0,0))/\W.heap[kb]? = some (.cells #[.int .i64 kind] ty2 (0,0))/\W.heap[wb]? = some (.cells #[.slice a2 n2 c2] ty3 (0,0))/\PCells W ao b off l/\NCells W a2 b2 off2 ws/\HasT W) W1 :=
  K0.also (q:=fun W=>W.heap[pb]? = some (.cells #[.slice ao R c] ty (0,0))/\W.heap[kb]? = some (.cells #[.int .i64 kind] ty2 (0,0))/\W.heap[wb]? = some (.cells #[.slice a2 n2 c2] ty3 (0,0))/\PCells W ao b off l/\NCells W a2 b2 off2 ws/\HasT W)
   ⟨zkeep K0.out.1 _ _ hpb,zkeep K0.out.1 _ _ hkb,zkeep K0.out.1 _ _ hwb,hP.below K0.out.1,hN.below K0.out.1,hT.below K0.out.1⟩
 have c0:=qC _ _ 0 _ _ _ K1.out.2.1;have HL:=qH (qA hR (qA hl (qA hs (qA hn2 hl2))));have hmf:=@hmf_ Tryz.prog;clear K0 hpb hkb hwb hP hN hT hR hl hs hn2 hl2;go_enter Tryz.func51,Tryz.ntmps51;go_upto_region 1 with fail;rw [<-hW1];clear hW1;go_wp2_with fail;refine (qhz ao b off R c l W1 HL.out.1 HL.out.2.1 HL.out.2.2.1 K1.out.2.2.2.2.1).mono ?_;rintro e w2 ⟨cc,rfl,hcc,hb2⟩;have K2:=K1.below hb2;clear K1 hb2;rcases hcc with ⟨rfl,hok⟩ | ⟨rfl,hno⟩
 case inr =>
  have HN:=qH hno;clear hno;go_wp2_with fail;refine (qcg 310 (by decide) w2).mono ?_;rintro e w3 ⟨rfl,rfl⟩;unfold thrown;go_wp2_with fail;exact⟨rfl,K2.out.1.1,qah ⟨310,rfl,qan ⟨HN.out,rfl⟩⟩⟩
 have HO:=qH hok;clear hok;go_wp2_with fail;refine (qep w2).mono ?_;rintro e w3 ⟨rfl,hw⟩;subst hw;have k0:=qC _ _ 0 _ _ _ K2.out.2.2.1;go_wp2_with fail;refine (qgP kind w2).mono ?_;rintro e w3 ⟨rfl,hw⟩;subst hw
 by_cases hkn:1<=kind/\kind<=3
 case neg =>
  rw [qU hkn];go_wp2_with fail;refine (qcg 2 (by decide) w2).mono ?_;rintro e w3 ⟨rfl,rfl⟩;unfold thrown;go_wp2_with fail;exact⟨rfl,K2.out.1.1,qah ⟨2,rfl,qah (qan ⟨HO.out,fun h=>by obtain⟨⟨k,h1,h2,h3⟩,_⟩:=h;exact hkn ⟨by omega,by omega⟩,rfl⟩)⟩⟩
 obtain⟨k,hkk⟩:∃k,qcC kind k:=⟨kind.toNat,by omega,by omega,by omega⟩;rw [qV hkn];have k1:=qC _ _ 0 _ _ _ K2.out.2.2.2.1;have k2:=qC _ _ 0 _ _ _ K2.out.2.1;have Hk:=qH (qA hkk hkn);clear hkk hkn
 by_cases hne:n2=R
 case neg =>
  have hneI:¬((n2:Int)=(R:Int)):=by omega
  go_wp2_with fail;refine (qcg 2 (by decide) w2).mono ?_;rintro e w3 ⟨rfl,rfl⟩;unfold thrown;go_wp2_with fail;exact⟨rfl,K2.out.1.1,qah ⟨2,rfl,qah (qan ⟨HO.out,fun h=>hne (by have:=HL.out.1;have:=HL.out.2.2.2.1;omega),rfl⟩)⟩⟩
 subst hne;go_wp2_with fail;have hr40:n2<=40:=by have:=HO.out.r2;have:=HL.out.1;omega
 go_loopw [27] (fun x27 W=>∃i:Nat,x27=.int .i64 i/\i<=n2/\Hid (W=w2/\∀j,j<i->0<=ws.getD j 0/\ws.getD j 0<=1000)) (fun x27 _=>n2-(intOf x27).toNat)
 case atStart=>exact⟨0,rfl,qam _,qH ⟨rfl,fun j hj=>absurd hj (Nat.not_lt_zero _)⟩⟩
 case round =>
  obtain⟨i,rfl,hin,hI⟩:=hrel;have hWe:=hI.out.1.symm;subst hWe
  by_cases hi:i<n2
  ·have hii:(i:Int)<n2:=by omega
   have haw:=K2.out.2.2.2.2.2.1.addr (by have:=HL.out.2.2.2.1;omega);subst haw;have d0:=K2.out.2.2.2.2.2.1.cell i (by have:=HL.out.2.2.2.1;omega);obtain⟨x,hx⟩:=qX (ws.getD i 0);rw [hx] at d0;have HX:=qH hx;clear hx
   by_cases hb:0<=x/\x<=1000
   ·obtain⟨hb0,hb1⟩:=hb;have hb0':¬x<0:=by omega
    have hb1':¬1000<x:=by omega
    go_wp2;go_roundw
    case rel =>
     refine⟨i+1,by go_num,hi,qH ⟨by trivial,fun j hj=>?_⟩⟩;rcases qaT j i with h | h
     ·exact hI.out.2 j h
     ·obtain rfl:j=i:=by omega
      rw [HX.out];exact⟨hb0,hb1⟩
    case measure=>simp [intOf];omega
   ·have HNB:=qH hb
    by_cases hb0:x<0
    ·clear hb;go_wp2_with fail;refine (qcg 2 (by decide) _).mono ?_;rintro e w3 ⟨rfl,rfl⟩;unfold thrown;go_wp2_with fail;exact⟨rfl,K2.out.1.1,qah ⟨2,rfl,qah (qan ⟨HO.out,fun h=>by have:=h.2.2 i (by have:=HL.out.2.2.2.1;omega);rw [HX.out] at this;exact HNB.out this,rfl⟩)⟩⟩
    ·have hb1:1000<x:=by omega
     clear hb;go_wp2_with fail;refine (qcg 2 (by decide) _).mono ?_;rintro e w3 ⟨rfl,rfl⟩;unfold thrown;go_wp2_with fail;exact⟨rfl,K2.out.1.1,qah ⟨2,rfl,qah (qan ⟨HO.out,fun h=>by have:=h.2.2 i (by have:=HL.out.2.2.2.1;omega);rw [HX.out] at this;exact HNB.out this,rfl⟩)⟩⟩
  ·obtain rfl:i=n2:=by omega
   have HW:Hid (WOk ws):=qH fun j hj=>hI.out.2 j (by have:=HL.out.2.2.2.1;omega)
   clear hI;have hR1:0<i:=by have:=HO.out.r1;have:=HL.out.1;omega
   have hR1I:(0:Int)<i:=by omega
   have hao:=K2.out.2.2.2.2.1.addr (by have:=HL.out.1;omega);subst hao;obtain⟨_,⟨ra,rb,ro,rc,f1,_⟩,_⟩:=K2.out.2.2.2.2.1.cell 0 (by have:=HL.out.1;omega);rw [Nat.zero_mul,qbh] at f1;obtain⟨n,hn⟩:=qX ((l.getD 0 pt0).dev.length);have hch:chans l=n:=hn;rw [hn] at f1;have HC:=qH hch;clear hn hch
   by_cases h34:kind=3/\3<n
   ·obtain⟨h3,h4⟩:=h34;have h4I:(3:Int)<n:=by omega
    subst h3;go_wp2_with fail;refine (qcg 5 (by decide) _).mono ?_;rintro e w3 ⟨rfl,rfl⟩;unfold thrown;go_wp2_with fail;exact⟨rfl,K2.out.1.1,qah ⟨5,rfl,qah (qah ⟨HO.out,by have:=HL.out.1;have:=HL.out.2.2.2.1;omega,HW.out,k,Hk.out.1,qan ⟨by have:=Hk.out.1.1;omega,by have:=HO.out.n4;have:=HC.out;omega,rfl⟩⟩)⟩⟩
   ·have HNK:Hid (¬(k=3/\chans l=4)):=qH fun h=>h34 ⟨by have:=Hk.out.1.1;omega,by have:=HC.out;omega⟩
    go_upto_region 11 with fail
    go_cut [49] (fun x49 W=>x49=.bool false/\Hid (W=w2))
    case first =>
     by_cases h3:kind=3
     ·have hn3:¬(3:Int)<n:=fun h=>h34 ⟨h3,by omega⟩
      go_wp2;go_meet;exact⟨rfl,qH rfl⟩
     ·go_wp2;go_meet;exact⟨rfl,qH rfl⟩
    case rest =>
     obtain⟨rfl,hWe⟩:=hcut;have hWe:=hWe.out.symm;subst hWe;clear h34;go_wp2_with fail;have hl1:=(qG K2.out.2.1).1;have hl2:=(qG K2.out.2.2.1).1;have hl3:=(qG K2.out.2.2.2.1).1;have q1:=rowC (B:=w2.heap.size) K2.out.2.1 0;have q2:=rowC (B:=w2.heap.size) K2.out.2.2.1 0;have q3:=rowC (B:=w2.heap.size) K2.out.2.2.2.1 0;refine wp_region_held_drew (S:=fun W=>Below w2.heap.size w2 W) (by kernel_rfl) qB.drew (fun hS0=>?_);refine hT 0 (h:=?_);refine hT 1 (h:=?_);refine hT 2 (h:=?_);refine hT 5 (h:=?_);refine hT 6 (h:=?_);refine gr [(3,54),(4,55),(7,58),(8,59),(9,60),(10,7)] [(4,[3]),(8,[7]),(9,[4,8])] [0,1,2,5,6] [3,4,7,8,9,10] [] 11 12
      (fl2 [(3,fun z _=>z=.func (.func 56) #[] #[.pointer (some ⟨kb,0,none⟩),.pointer (some ⟨pb,0,none⟩)]),(4,SlT i (many k (chans l)) (tqf l k)),(7,fun z _=>z=.func (.func 59) #[] #[.pointer (some ⟨wb,0,none⟩)]),(8,SlF i (wq ws)),
       (9,fun z W=>∃z1 z2,z=.agg #[.slice (some ⟨b,off,none⟩) i c,z1,z2]/\SlT i (many k (chans l)) (tqf l k) z1 W/\SlF i (wq ws) z2 W),(10,ZC w2.heap.size #[.slice none 0 0,.slice none 0 0,.slice none 0 0] 123)]) _ 1
      (hS:=fun w' h=>qb1 h) (hstep:=⟨⟨_,rfl,fun v w4 hb hF K hK=>?_⟩,⟨_,rfl,fun v w4 hb hF K hK=>?_⟩,⟨_,rfl,fun v w4 hb hF K hK=>?_⟩,⟨_,rfl,fun v w4 hb hF K hK=>?_⟩,⟨_,rfl,fun v w4 hb hF K hK=>?_⟩,⟨_,rfl,fun v w4 hb hF K hK=>?_⟩,trivial⟩) (hend:=fun v w4 hb hF _ fu=>?_)
     ·exact gV hK rfl
     ·have e3:v 3=_:=hF.1;have K4:=K2.below (qb1 hb);rw [e3] at hK ⊢;exact gC hK (qna i k pb kb b off c kind _ l ty ty2 w4 Hk.out.1 HL.out.1 HNK.out HO.out K4.out.2.1 K4.out.2.2.1 K4.out.2.2.2.2.1 K4.out.2.2.2.2.2.2) (h:=fun e w5 ⟨h1,z,h2,h3⟩=>⟨z,h2,by exact h3,h1⟩)
     ·exact gV hK rfl
     ·have e7:v 7=_:=hF.1;have K4:=K2.below (qb1 hb);rw [e7] at hK ⊢;exact gC hK (qjD i wb b2 off2 c2 _ ws ty3 w4 HL.out.2.2.2.1 hr40 HW.out K4.out.2.2.2.1 K4.out.2.2.2.2.2.1 K4.out.2.2.2.2.2.2) (h:=fun e w5 ⟨h1,z,h2,h3⟩=>⟨z,h2,by exact h3,h1⟩)
     ·have f4:SlT i (many k (chans l)) (tqf l k) (v 4) w4:=hF.1;have f8:SlF i (wq ws) (v 8) w4:=hF.2.1;obtain⟨g4,e4,h4⟩:=id f4;obtain⟨g8,e8,h8⟩:=id f8;exact gV hK ⟨_,_,rfl,e4▸f4,e8▸f8⟩
     ·exact gW hK (h:=ZC.new (qb1 hb).size)
     obtain⟨z1,z2,e9,f1,f2⟩:∃z1 z2,_:=hF 9 (by decide) (by decide);obtain⟨g7,hg7,e10,hge⟩:∃g7,_:=hF 10 (by decide) (by decide);have K4:=K2.below (qb1 hb);obtain⟨g4,rfl,h4⟩:=f1;obtain⟨g8,rfl,h8⟩:=f2;rw [e9,e10];refine hSt 11 3 hg7 (h:=⟨qS (qb1 hb) hge _,?_⟩);have hm1:=qjp Hk.out.1 HO.out.n1 HO.out.n4 HNK.out;have hzz:∀x∈(#[.slice none 0 0,.slice none 0 0,.slice none 0 0]:Array Value).toList,x=.slice none 0 0:=by simp
     obtain⟨W5,hW5⟩:=qY (w4.setRow g7 #[.slice (some ⟨b,off,none⟩) i c,.slice (some ⟨g4,0,none⟩) i i,.slice (some ⟨g8,0,none⟩) i i]);have hb5:Below w2.heap.size w2 W5:=hW5▸qS (qb1 hb) hge _;have K5:=((K2.below hb5).also (q:=fun W=>W.heap[g7]? = some (.cells #[.slice (some ⟨b,off,none⟩) i c,.slice (some ⟨g4,0,none⟩) i i,.slice (some ⟨g8,0,none⟩) i i] 123 (0,0))) (hW5▸qT _ _ _ _ _ _ hg7)).also
      (q:=fun W=>SlT i (many k (chans l)) (tqf l k) (.slice (some ⟨g4,0,none⟩) i i) W/\SlF i (wq ws) (.slice (some ⟨g8,0,none⟩) i i) W)
      (by rw [hW5];exact⟨SlT.keepZ ⟨g4,rfl,h4⟩ hm1.1 hg7 hzz,SlF.keepZ ⟨g8,rfl,h8⟩ hg7 hzz⟩)
     rw [<-hW5];clear K2 hW5 K4 hb5 hb hF hg7 hge h4 h8 q1 q2 q3 hl1 hl2 hl3 e9 e10;have s0:=qC _ _ 0 _ _ _ K5.out.1.2;have s1:=qC _ _ 1 _ _ _ K5.out.1.2;have s2:=qC _ _ 2 _ _ _ K5.out.1.2;have kk:=qC _ _ 0 _ _ _ K5.out.1.1.2.2.1;obtain⟨W6,hW6,K6⟩:=nw1 W5 #[.int .i64 kind,.int .i64 n,.slice none 0 0,.slice none 0 0,.slice none 0 0] 38
     go_wp2_with (((with_reducible refine qes rfl 38 _ _ rfl #[.int .i64 0,.int .i64 0,.slice none 0 0,.slice none 0 0,.slice none 0 0] #[.int .i64 kind,.int .i64 n,.slice none 0 0,.slice none 0 0,.slice none 0 0] ?_ ?_ 5 ?_ ?_ ?_ ?_ ?_);(next=>rfl);(next=>rfl);(next=>kernel_rfl);(next=>rfl);(next=>rfl);(next=>rfl)))
     rw [<-hW6];have hfr6:VRow W6 W5.heap.size 5 (.slice none 0 0) 38 [.int .i64 kind,.int .i64 n]:=⟨K6.out.2,by simp⟩;have HI0:=qH (qA hfr6 K6.out.1);clear hfr6 hW6 K6 k0 k1 k2 kk s0 s1 s2 c0 f1;obtain⟨M,hM⟩:=qY W5.heap.size;rw [<-hM] at HI0 ⊢;have HM:=qH hM;clear hM
     go_loopw [66] (fun x66 W=>∃j:Nat,x66=.int .i64 j/\j<=3/\Hid (FitI l k ws i kind n W5 M W j)) (fun x66 _=>3-(intOf x66).toNat)
     case atStart=>exact⟨0,rfl,qam _,qH ⟨[],[],fun _ _=>0,rfl,HI0.out.1,⟨rfl,fun q hq=>absurd hq (Nat.not_lt_zero _)⟩,fun q hq=>absurd hq (Nat.not_lt_zero _),fun h=>absurd h (Nat.not_lt_zero _),HM.out▸HI0.out.2⟩⟩
     case round =>
      obtain⟨j,rfl,hj,hI⟩:=hrel;obtain⟨vs,t,x,hvl,hV,hRV,hx,hns,hB⟩:=hI.out;have hRl:=HL.out.1
      by_cases hj3:j<3
      ·have hji:(j:Int)<3:=by omega
       obtain⟨⟨g4',e4',h4'⟩,g8',e8',h8'⟩:=K5.out.2;cases e4';cases e8';have HC:=qH (row_any j i (many k (chans l)) b off c g4 i g8 i _ _ _ l (tqf l k) (wq ws) _ hRl hR1 hr40 hm1.1 hm1.2 hj3 (K5.out.1.1.2.2.2.2.1.below hB) (hRl▸HO.out.bound j) (hRl▸HO.out.terms Hk.out.1 HNK.out) (hRl▸HO.out.labs) (by have:=HW.out.short;rw [HL.out.2.2.2.1] at this;exact this) (by have:=HW.out.pos;rw [HL.out.2.2.2.1] at this;exact this) (h4'.below hB) (h8'.below hB) (K5.out.1.1.2.2.2.2.2.2.below hB));have HI:=qH (qA hvl (qA hV (qA hRV (qA hx (qA hns hB)))));clear hI hvl hV hRV hx hns hB h4' h8';have hnq:nq l k ws j=normR i (many k (chans l)) (tqf l k) (labq l j) (wq ws):=by unfold nq;rw [hRl]
       have hlw:ws.length=l.length:=by have:=HL.out.2.2.2.1;omega
       have HQ:=qH (qA hnq hlw);clear hnq hlw hRl;go_wp2_with fail;refine HC.out.mono ?_;rintro e w7 ⟨hr,hb7⟩;rw [<-HQ.out.1] at hr;have HB7:=qH hb7;clear hb7;have HBw:Hid (Below w.heap.size w w7):=qH ((K5.out.1.1.1.1.trans (HI.out.2.2.2.2.2.mono K5.out.1.1.1.1.size)).trans (HB7.out.mono (K5.out.1.1.1.1.trans (HI.out.2.2.2.2.2.mono K5.out.1.1.1.1.size)).size));rcases hr with ⟨hsg,rfl⟩ | ⟨hsg,y,hy,⟨hsh,g9,rfl,hF9⟩ | ⟨hsh,rfl⟩⟩
       ·have HS:=qH hsg;clear hsg;unfold thrown;go_wp2_with fail;exact⟨rfl,HBw.out,qah ⟨7,rfl,qah (qah ⟨HO.out,HQ.out.2,HW.out,k,Hk.out.1,qah ⟨HNK.out,qan ⟨qhZ HS.out,rfl⟩⟩⟩)⟩⟩
       ·have hVc:=HI.out.2.1.below HB7.out;have hlen:(Value.int .i64 kind :: Value.int .i64 n :: vs).length=2+j:=by simp only [qbI];have:=HI.out.1;omega
        have hat:=hVc.at (by rw [hlen];omega);have hset:=hVc.set (by rw [hlen];omega) (.slice (some ⟨g9,0,none⟩) (many k (chans l)) (many k (chans l)));rw [hlen] at hat hset;obtain⟨q0,qf⟩:=hat;have qf0:=qf (2+j);have HN:=qH (qA hset (qA (((HI.out.2.2.1.below HB7.out).append (RVals.one (rc:=many k (chans l)) (qbW _ _) hF9)).kept (qkc (u:=.slice (some ⟨g9,0,none⟩) (many k (chans l)) (many k (chans l))) q0 (fun s h=>by cases h))) (qA ((HI.out.2.2.2.2.2.trans (HB7.out.mono HI.out.2.2.2.2.2.size)).setCell (p:=⟨M,2+j,none⟩) (by rw [HM.out];exact qad _) (.slice (some ⟨g9,0,none⟩) (many k (chans l)) (many k (chans l)))) (qA hsg (qA hy hsh)))));clear hVc hlen hset qf hsg hy hsh hF9;go_wp2;go_roundw
        case rel =>
         refine⟨j+1,by go_num,hj3,qH ⟨vs++[.slice (some ⟨g9,0,none⟩) (many k (chans l)) (many k (chans l))],t++[told (many k (chans l)) y],fun q=>if q=j then y else x q,by simp [HI.out.1],by exact HN.out.1,HN.out.2.1,fun q hq=>?_,fun _ h=>HN.out.2.2.2.1 (qhZ h),HN.out.2.2.1⟩⟩;have htl:t.length=j:=HI.out.2.2.1.1.symm.trans HI.out.1
         by_cases e:q=j
         ·subst e;dsimp only;rw [if_pos rfl,qaa,qas (by omega),htl,qaI];exact⟨rfl,HN.out.2.2.2.2.1,HN.out.2.2.2.2.2⟩
         ·dsimp only;rw [if_neg e,qaa,qaA (by omega),<-qaa];exact HI.out.2.2.2.1 q (by omega)
        case measure=>simp [intOf];omega
       ·have HS:=qH (qA hsg (qA hy hsh));clear hsg hy hsh;unfold thrown;go_wp2_with fail;exact⟨rfl,HBw.out,qah ⟨6,rfl,qah (qah ⟨HO.out,HQ.out.2,HW.out,k,Hk.out.1,qah ⟨HNK.out,qah ⟨fun h=>HS.out.1 (qhZ h),j,y,hj3,HS.out.2.1,HS.out.2.2,rfl⟩⟩⟩)⟩⟩
      ·obtain rfl:j=3:=by omega
       obtain⟨s0,s1,s2,rfl⟩:∃s0 s1 s2,vs=[s0,s1,s2]:=by
        rcases vs with _ | ⟨s0,_ | ⟨s1,_ | ⟨s2,_ | ⟨s3,vs⟩⟩⟩⟩ <;> simp at hvl
        exact⟨s0,s1,s2,rfl⟩
       have htl:t.length=3:=hRV.1.symm;obtain⟨a0,b0,o0,d0,e0,f0⟩:=hRV.2 0 (by omega);obtain⟨a1,b1,o1,d1,e1,f1⟩:=hRV.2 1 (by omega);obtain⟨a2',b2',o2,d2,e2,f2⟩:=hRV.2 2 (by omega);rw [(hx 0 (by omega)).1,qbW] at e0;rw [(hx 1 (by omega)).1,qbW] at e1;rw [(hx 2 (by omega)).1,qbW] at e2;rw [(hx 0 (by omega)).1] at f0;rw [(hx 1 (by omega)).1] at f1;rw [(hx 2 (by omega)).1] at f2;have e0:s0=_:=e0;have e1:s1=_:=e1;have e2:s2=_:=e2;subst e0 e1 e2;obtain⟨m,hm⟩:=qX (many k (chans l));rw [hm] at hV f0 f1 f2 hx hns;have hMr:=hV.1;have hw1:=(K5.below hB).out.1.1.1.2;have hB0:=K5.out.1.1.1.1.trans (hB.mono K5.out.1.1.1.1.size);have hlM:=(qG hMr).1;have z0:=qC _ _ 0 _ _ _ hMr;have z1:=qC _ _ 1 _ _ _ hMr;have z2:=qC _ _ 2 _ _ _ hMr;have z3:=qC _ _ 3 _ _ _ hMr;have z4:=qC _ _ 4 _ _ _ hMr;have hzn:∀s,.string s∉(#[.int .i64 0,.int .i64 0,.slice none 0 0,.slice none 0 0,.slice none 0 0]:Array Value).toList:=by intro s;simp
       have HE:=qH (qA (qT _ _ _ #[.int .i64 kind,.int .i64 n,.slice a0 m d0,.slice a1 m d1,.slice a2' m d2] _ _ hw1) (qA (qS hB0 qN #[.int .i64 kind,.int .i64 n,.slice a0 m d0,.slice a1 m d1,.slice a2' m d2])
        (qA (f0.kept (qdP (cs:=#[.int .i64 kind,.int .i64 n,.slice a0 m d0,.slice a1 m d1,.slice a2' m d2]) hw1 hzn)) (qA (f1.kept (qdP (cs:=#[.int .i64 kind,.int .i64 n,.slice a0 m d0,.slice a1 m d1,.slice a2' m d2]) hw1 hzn)) (f2.kept (qdP (cs:=#[.int .i64 kind,.int .i64 n,.slice a0 m d0,.slice a1 m d1,.slice a2' m d2]) hw1 hzn))))))
       have HX:=qH (qA hx hns);have Hw1:=qH hw1;clear hI hV hRV hx hns hB f0 f1 f2 hMr hB0 hw1
       go_wp2_with ((with_reducible refine sR_ rfl 38 _ _ rfl (w.heap.size) #[.int .i64 kind,.int .i64 n,.slice a0 m d0,.slice a1 m d1,.slice a2' m d2] Hw1.out 5 ?_))
       refine qR (v:=.agg #[.int .i64 kind,.int .i64 n,.slice a0 m d0,.slice a1 m d1,.slice a2' m d2]) (rA_ rfl (w.heap.size) HE.out.1 Tryz.underlying38 5) rfl ?_;have hmk:=Hk.out.1.1;refine⟨HE.out.2.1,qan ⟨_,_,_,_,_,_,_,_,_,_,_,rfl,HO.out,by have:=HL.out.1;have:=HL.out.2.2.2.1;omega,HW.out,k,Hk.out.1,HNK.out,by rw [hm];exact HX.out.2 (by omega),x,?_,?_⟩⟩
       ·intro q hq;exact (HX.out.1 q hq).2.imp id fun h=>by rw [hm];exact h
       ·rw [hm];have hc:=HC.out;refine⟨a0,a1,a2',b0,o0,d0,b1,o1,d1,b2',o2,d2,?_,HE.out.2.2.1,HE.out.2.2.2.1,HE.out.2.2.2.2⟩;unfold mdq;simp only [qbW,hc,hmk]
theorem MdAt.kept {W W':World} {v:Value} {m:Md} (h:MdAt W v m) (hk:∀a s,W.cell? a=some (.string s)->W'.cell? a=some (.string s)):MdAt W' v m:=by
 obtain⟨a0,a1,a2,b0,o0,c0,b1,o1,c1,b2,o2,c2,rfl,h0,h1,h2⟩:=h;exact⟨a0,a1,a2,b0,o0,c0,b1,o1,c1,b2,o2,c2,rfl,h0.kept hk,h1.kept hk,h2.kept hk⟩
theorem FitG.kept {l:List Pt} {kind:Int} {ws:List Int} {W W':World} {v:Value} (hk:∀a s,W.cell? a=some (.string s)->W'.cell? a=some (.string s)) (h:FitG l kind ws W v):FitG l kind ws W' v:=by
 obtain⟨h1,h2,h3,k,h4,h5,h6,x,h7,h8⟩:=h;exact⟨h1,h2,h3,k,h4,h5,h6,x,h7,h8.kept hk⟩
theorem qlM (R b off c b2 off2 n2 c2:Nat) (ao a2:Option Addr) (l:List Pt) (kind:Int) (ws:List Int) (w:World) (hR:l.length=R) (hl:R<=4611686018427387904) (hs:∀k,k<R->(l.getD k pt0).name.size<=4611686018427387904/\(l.getD k pt0).dev.length<=4611686018427387904)
  (hn2:ws.length=n2) (hl2:n2<=4611686018427387904) (hP:PCells w ao b off l) (hN:NCells w a2 b2 off2 ws) (hT:HasT w) :
  Calls Tryz.prog 14 #[.slice ao R c,.int .i64 kind,.slice a2 n2 c2] w fun e w'=>FitAs w l kind ws e w':=by
 obtain⟨W3,hW3,K3⟩:=nw3 w #[.slice ao R c] 30 #[.int .i64 kind] 3 #[.slice a2 n2 c2] 32;obtain⟨W4,hW4,K4⟩:=nw1 W3 #[.int .i64 0,.int .i64 0,.slice none 0 0,.slice none 0 0,.slice none 0 0] 38;have hmf:=@hmf_ Tryz.prog;have hs3:W3.heap.size=w.heap.size+1+1+1:=by rw [hW3];simp
 have hb4:Below w.heap.size w W4:=K3.out.1.trans (K4.out.1.mono K3.out.1.size);have HG:=qH (qii 51 #[.pointer (some ⟨w.heap.size,0,none⟩),.pointer (some ⟨w.heap.size+1,0,none⟩),.pointer (some ⟨w.heap.size+1+1,0,none⟩)] (FitG l kind ws) (FitF l kind ws) W4 (fun W=>enters Tryz.func51 (by kernel_rfl) (by kernel_rfl) _ W)
  (fun W W' v hk h=>h.kept hk)
  (fun w1 hb=>fit1_any R b off c w.heap.size (w.heap.size+1) (w.heap.size+1+1) b2 off2 n2 c2 ao a2 l kind ws _ _ _ w1 hR hl hs hn2 hl2 (zkeep hb _ _ (zkeep K4.out.1 _ _ K3.out.2.1)) (zkeep hb _ _ (zkeep K4.out.1 _ _ K3.out.2.2.1)) (zkeep hb _ _ (zkeep K4.out.1 _ _ K3.out.2.2.2))
   (hP.below (hb4.trans (hb.mono hb4.size))) (hN.below (hb4.trans (hb.mono hb4.size))) (hT.below (hb4.trans (hb.mono hb4.size)))))
 have HB:=qH (qA hb4 hs3);clear hR hl hs hn2 hl2 hP hN hT hb4 hs3;go_enter Tryz.func14,Tryz.ntmps14;go_upto_region 1 with fail;rw [<-hW3,<-hW4];clear hW3 hW4;go_wp2_with fail;refine HG.out.mono ?_;rintro e w5 ⟨hb5,h⟩;have K5:=K4.below hb5;have HB5:=qH (HB.out.1.trans (hb5.mono HB.out.1.size));clear hb5 HG;have hrow:=K5.out.2;rw [HB.out.2] at hrow;have Hr:=qH hrow;clear hrow K5 K4 K3;have hzn:∀s,.string s∉(#[.int .i64 0,.int .i64 0,.slice none 0 0,.slice none 0 0,.slice none 0 0]:Array Value).toList:=by intro s;simp
 rcases h with ⟨i0,i1,p0,n0,c0,p1,n1,c1,p2,n2',c2',rfl,hg⟩ | ⟨cc,rfl,hf⟩
 ·have HE:=qH (qA (qT _ _ _ #[.int .i64 i0,.int .i64 i1,.slice p0 n0 c0,.slice p1 n1 c1,.slice p2 n2' c2'] _ _ Hr.out) (qA (qS HB5.out (show w.heap.size<=w.heap.size+1+1+1 by omega) #[.int .i64 i0,.int .i64 i1,.slice p0 n0 c0,.slice p1 n1 c1,.slice p2 n2' c2'])
   (hg.kept (qdP (cs:=#[.int .i64 i0,.int .i64 i1,.slice p0 n0 c0,.slice p1 n1 c1,.slice p2 n2' c2']) Hr.out hzn))))
  clear hg;rename_i hK;dsimp only;refine hK _ _ ?_
  go_wp2_with ((with_reducible refine sR_ rfl 38 _ _ rfl ((w.heap.size+1+1+1)) #[.int .i64 i0,.int .i64 i1,.slice p0 n0 c0,.slice p1 n1 c1,.slice p2 n2' c2'] Hr.out 5 ?_))
  exact qR (v:=.tuple #[.agg #[.int .i64 i0,.int .i64 i1,.slice p0 n0 c0,.slice p1 n1 c1,.slice p2 n2' c2'],.int .i64 0]) (rB_ rfl (w.heap.size+1+1+1) HE.out.1 Tryz.underlying38 5) rfl ⟨HE.out.2.1,qan ⟨_,rfl,HE.out.2.2⟩⟩
 ·have HE:=qH (qA (qT _ _ _ #[.int .i64 0,.int .i64 0,.slice none 0 0,.slice none 0 0,.slice none 0 0] _ _ Hr.out) (qA (qS HB5.out (show w.heap.size<=w.heap.size+1+1+1 by omega) #[.int .i64 0,.int .i64 0,.slice none 0 0,.slice none 0 0,.slice none 0 0]) hf));clear hf;rename_i hK;dsimp only;refine hK _ _ ?_
  go_wp2_with ((with_reducible refine sR_ rfl 38 _ _ rfl ((w.heap.size+1+1+1)) #[.int .i64 0,.int .i64 0,.slice none 0 0,.slice none 0 0,.slice none 0 0] Hr.out 5 ?_))
  exact qR (v:=.tuple #[mdv0,.int .i64 cc]) (rB_ rfl (w.heap.size+1+1+1) HE.out.1 Tryz.underlying38 5) rfl ⟨HE.out.2.1,qah ⟨cc,rfl,HE.out.2.2⟩⟩
def MatchAs (w:World) (m:Md) (l:List Pt) (e:Ending) (w':World):Prop :=
 Below w.heap.size w w'/\((¬qdC m/\e=thrown 320)\/(qdC m/\¬PtsOk l/\e=thrown 310)\/(qdC m/\PtsOk l/\m.inn≠(chans l:Nat)/\e=thrown 5)\/(qdC m/\PtsOk l/\m.inn=(chans l:Nat)/\e=.returned (.tuple #[])))
theorem qmh (m:Md) (v:Value) (R b off c:Nat) (ao:Option Addr) (l:List Pt) (w:World) (hM:MdAt w v m) (hml:∀q,q<3->(m.row q).length<=4611686018427387904) (hR:l.length=R) (hl:R<=4611686018427387904) (hs:∀k,k<R->(l.getD k pt0).name.size<=4611686018427387904/\(l.getD k pt0).dev.length<=4611686018427387904) (hP:PCells w ao b off l) :
  Calls Tryz.prog 71 #[v,.slice ao R c] w fun e w'=>MatchAs w m l e w':=by
 obtain⟨a,b',o,c',rfl,hF⟩:=id hM.parts;obtain⟨kind,hkind⟩:∃z,m.kind=z:=⟨_,rfl⟩;obtain⟨inn,hinn⟩:∃z,m.inn=z:=⟨_,rfl⟩;rw [hkind,hinn] at hM ⊢;obtain⟨L,hL⟩:∃L:Nat->Nat,∀q,(m.row q).length=L q:=⟨_,fun _=>rfl⟩;rw [hL,hL,hL] at hM ⊢;obtain⟨W1,hW1,K0⟩:=nw1 w #[.int .i64 kind,.int .i64 inn,.slice (a 0) (L 0) (c' 0),.slice (a 1) (L 1) (c' 1),.slice (a 2) (L 2) (c' 2)] 38;have c0:=qC _ _ 0 _ _ _ K0.out.2;have c1:=qC _ _ 1 _ _ _ K0.out.2;have c2:=qC _ _ 2 _ _ _ K0.out.2;have c3:=qC _ _ 3 _ _ _ K0.out.2;have c4:=qC _ _ 4 _ _ _ K0.out.2;have HC:=qH (qfS m _ W1 (hM.below K0.out.1) hml);have HX:=qH (qA hR (qA hl (qA hs (qA (hP.below K0.out.1) hinn))));clear hM hF hml hR hl hs hP hkind hinn hL;go_enter Tryz.func71,Tryz.ntmps71;go_upto_region 1 with fail;rw [<-hW1];clear hW1;go_wp2_with fail;refine HC.out.mono ?_;rintro e w2 ⟨cc,rfl,hcc,hb2⟩;have HB:=qH (K0.out.1.trans (hb2.mono K0.out.1.size));have K2:=(K0.below hb2).also (q:=fun W=>PCells W ao b off l) (HX.out.2.2.2.1.below hb2);clear hb2 HC c0 c1 c2 c3 c4;rcases hcc with ⟨rfl,hok⟩ | ⟨rfl,hno⟩
 case inr =>
  have HN:=qH hno;clear hno;go_wp2_with fail;refine (qcg 320 (by decide) _).mono ?_;rintro e w3 ⟨rfl,rfl⟩;unfold thrown;go_wp2_with fail;exact⟨rfl,HB.out,qan ⟨HN.out,rfl⟩⟩
 have HO:=qH hok;clear hok;go_wp2_with fail;refine (qep _).mono ?_;rintro e w3 ⟨rfl,hw⟩;subst hw;go_wp2_with fail;have hlt:=(qG K2.out.1.2).1;have q1:=rowC (B:=w2.heap.size) K2.out.1.2 1;refine wp_region_held_drew (S:=fun W=>Below w2.heap.size w2 W) (by kernel_rfl) qB.drew (fun hS0=>?_);refine hT 0 (h:=?_);refine hT 5 (h:=?_);refine hT 6 (h:=?_);refine hC 1 (chan_any ao b off R c l w2.drew HX.out.1 HX.out.2.1 HX.out.2.2.1 (K2.out.2.below qB.drew)) (h:=?_);rintro e w3 ⟨h,hb⟩;have HB3:=qH (qb1 hb);clear hb;rcases h with ⟨hok,rfl⟩ | ⟨hno,rfl⟩
 ·refine⟨_,rfl,HB3.out,hN (h:=?_)⟩;have HPo:=qH hok;clear hok;refine hT 2 (hS:=HB3.out) (h:=?_);refine hT 3 (hS:=HB3.out) (h:=?_);refine hC 4 (qem _ w3) (h:=?_);rintro e w4 ⟨rfl,rfl⟩;refine⟨_,rfl,HB3.out,hN (h:=?_)⟩;refine hT 7 (hS:=HB3.out) (h:=?_);refine wpAnyH_done (by kernel_rfl) ?_ _;have HBw:=qH (HB.out.trans (HB3.out.mono HB.out.size))
  by_cases hc:((chans l:Nat):Int)=inn
  ·have hb:(((chans l:Nat):Int) != inn)=false:=by simp [hc]
   have Hc:=qH hc;clear hc;rw [hb];clear hb;go_wp2_with fail;exact qR (results_none rfl _ _ _) rfl ⟨HBw.out,qah (qah (qah ⟨HO.out,HPo.out,by rw [HX.out.2.2.2.2];exact Hc.out.symm,rfl⟩))⟩
  ·have hb:(((chans l:Nat):Int) != inn)=true:=by rw [bne_iff_ne];exact hc
   have Hc:=qH hc;clear hc;rw [hb];clear hb;go_wp2_with fail;refine (qcg 5 (by decide) _).mono ?_;rintro e w4 ⟨rfl,rfl⟩;unfold thrown;go_wp2_with fail;exact⟨rfl,HBw.out,qah (qah (qan ⟨HO.out,HPo.out,fun h=>Hc.out (by rw [HX.out.2.2.2.2] at h;exact h.symm),rfl⟩))⟩
 ·refine⟨_,rfl,HB3.out,hN (h:=?_)⟩;have HPo:=qH hno;clear hno;refine hT 2 (hS:=HB3.out) (h:=?_);refine hT 3 (hS:=HB3.out) (h:=?_);refine hCx 4 (qgU 0 310 (by decide) w3) (h:=?_);rintro e w4 ⟨rfl,rfl⟩;refine qah ⟨_,rfl,?_⟩;have HBw:=qH (HB.out.trans (HB3.out.mono HB.out.size));go_wp2_with fail;exact⟨rfl,HBw.out,qah (qan ⟨HO.out,HPo.out,rfl⟩)⟩
theorem qm1 (k ch R pb ib b off c:Nat) (ao:Option Addr) (l:List Pt) (ty ty2:TypeId) (w:World) (hR:l.length=R) (hk:k<R) (hR4:R<=40) (hch:ch<3) (hpb:w.heap[pb]? = some (.cells #[.slice ao R c] ty (0,0))) (hib:w.heap[ib]? = some (.cells #[.int .i64 (k:Int)] ty2 (0,0)))
  (hP:PCells w ao b off l) (hl:-9223372036854775808<=(l.getD k pt0).lab ch/\(l.getD k pt0).lab ch<=9223372036854775807) (hT:HasT w) :
  Calls Tryz.prog 103 #[.int .i64 (ch:Int),.pointer (some ⟨pb,0,none⟩),.pointer (some ⟨ib,0,none⟩)] w fun e w'=>Below w.heap.size w w'/\e=.returned (.agg #[.string (ftxt (labq l ch k)).1,.string (ftxt (labq l ch k)).2]):=by
 have hao:=hP.addr (by omega);subst hao;obtain⟨t1,t2,ht⟩:=qb6 (labq l ch k);rw [ht];obtain⟨W1,hW1,K1⟩:=nw1 w #[.string ⟨#[]⟩,.string ⟨#[]⟩] 44;have d0:W1.cell? ⟨b,off+k*5+2+ch,none⟩=some (.int .i64 ((l.getD k pt0).lab ch)):=by
  obtain⟨_,_,d2,d3,d4⟩:=(hP.below K1.out.1).cell k (by omega);rcases (show ch=0\/ch=1\/ch=2 by omega) with rfl | rfl | rfl
  ·exact d2
  ·exact d3
  ·exact d4
 have q1:=qC W1 _ 0 _ _ _ (zkeep K1.out.1 _ _ hpb);have q2:=qC W1 _ 0 _ _ _ (zkeep K1.out.1 _ _ hib);obtain⟨x,hx⟩:=qX ((l.getD k pt0).lab ch);have hlq:(x:Rat) / ((100:Int):Rat)=labq l ch k:=by unfold labq;rw [hx];rfl
 have hOf:=of_int x 100 (by decide) (by rw [<-hx];exact hl) (by decide) W1 (hT.below K1.out.1);rw [hlq,ht] at hOf;rw [hx] at d0;have HO:=qH hOf;have hki:(k:Int)<R:=by omega
 have hci:(ch:Int)<3:=by omega
 clear hOf hlq hx hP hpb hib hT ht hl;go_enter Tryz.func103,Tryz.ntmps103;go_upto_region 1 with fail;rw [<-hW1];clear hW1;go_wp2_with fail;refine HO.out.mono ?_;rintro e w1 ⟨rfl,hb1⟩;have K2:Kn (fun W=>Below w.heap.size w W/\W.heap[w.heap.size]? = some (.cells #[.string ⟨#[]⟩,.string ⟨#[]⟩] 44 (0,0))) w1:=K1.below hb1;clear K1 hb1;go_wp2_with fail;refine (qcI t1 t2 w1).mono ?_;rintro e w2 ⟨rfl,hb2⟩;have K3:=K2.below hb2;clear K2 hb2;have HE:=qH (qA (qT _ _ _ #[.string t1,.string t2] _ _ K3.out.2) (qS K3.out.1 qN #[.string t1,.string t2]));rename_i hK;dsimp only;refine hK _ _ ?_
 go_wp2_with ((with_reducible refine sR_ rfl 44 _ _ rfl (w.heap.size) #[.string t1,.string t2] K3.out.2 2 ?_))
 exact qR (v:=.agg #[.string t1,.string t2]) (rA_ rfl (w.heap.size) HE.out.1 Tryz.underlying44 2) rfl ⟨HE.out.2,rfl⟩
theorem qmY:Short 1:=qg8 ⟨by decide,by decide⟩
theorem meas_at {R n:Nat} {f:Nat->Nat->Rat} {b v x:Nat->Rat} {ao:Option Addr} {g og c:Nat} {ao2:Option Addr} {g2 c2:Nat} {ao3:Option Addr} {g3 c3:Nat} {ao4:Option Addr} {g4 c4:Nat} {w:World} (h1:1<=R) (h2:R<=40) (h3:1<=n) (h4:n<=10) (hf:∀i,i<R->qbY n (f i)) (hb:qbY R b) (hv:qbY R v) (hx:qbY n x) (hv0:∀i,i<R->0<=v i) (hT:TCells w ao g og (ttab R n f)) (hF:FCells w ao2 g2 0 (told R b)) (hF3:FCells w ao3 g3 0 (told R v)) (hF4:FCells w ao4 g4 0 (told n x)) (hP:HasT w) :
  Calls Tryz.prog 104 #[.slice ao R c,.slice ao2 R c2,.slice ao3 R c3,.slice ao4 n c4] w fun e w'=>(Short (msR R n f b v x)/\e=.returned (.tuple #[fstr (msR R n f b v x),.int .i64 0])\/¬Short (msR R n f b v x)/\e=.returned (.tuple #[.agg #[.string ⟨#[]⟩,.string ⟨#[]⟩],.int .i64 6]))/\Below w.heap.size w w' :=
 (qiC ao g og R c _ ao2 g2 0 R c2 _ ao3 g3 0 R c3 _ ao4 g4 0 n c4 _ w (qcS _ _ _) (by omega) (qhi (by omega)) hT (qbW _ _) (by omega) hF (qbW _ _) (by omega) hF3 (qbW _ _) (by omega) hF4 hP).mono fun _ _ h=>h.told h1 h2 h3 h4 hf hb hv hx hv0
structure MBox (W:World) (mb:Nat) (m:Md) (N:Nat):Prop where
 ex:∃(a:Nat->Option Addr) (b o d:Nat->Nat),W.heap[mb]? = some (.cells #[.int .i64 m.kind,.int .i64 m.inn,.slice (a 0) N (d 0),.slice (a 1) N (d 1),.slice (a 2) N (d 2)] 38 (0,0))/\∀q,q<3->FCells W (a q) (b q) (o q) (m.row q)
theorem MBox.below {W W':World} {mb N:Nat} {m:Md} (h:MBox W mb m N) (hb:Below W.heap.size W W'):MBox W' mb m N:=by
 obtain⟨a,b,o,d,h1,h2⟩:=h.ex;exact⟨a,b,o,d,zkeep hb _ _ h1,fun q hq=>(h2 q hq).below hb⟩
instance stays_mbox {mb N:Nat} {m:Md}:Stays fun W=>MBox W mb m N:=⟨fun h hb=>h.below hb⟩
theorem MBox.tab {W:World} {mb N:Nat} {m:Md} (h:MBox W mb m N) (hN:∀q,q<3->(m.row q).length=N/\FAll (m.row q)):TCells W (some ⟨mb,2,none⟩) mb 2 (ttab 3 N fun q=>lval (m.row q)):=by
 obtain⟨a,b,o,d,h1,h2⟩:=h.ex;refine⟨fun _=>rfl,fun k hk=>?_⟩;rw [qcS] at hk;rw [qeH hk,qbW];have e:told N (lval (m.row k))=m.row k:=by rw [<-(hN k hk).1];exact (hN k hk).2.eq_told.symm
 rw [e];refine⟨a k,b k,o k,d k,?_,h2 k hk⟩;rcases (show k=0\/k=1\/k=2 by omega) with rfl | rfl | rfl
 ·exact qC _ _ 2 _ _ _ h1
 ·exact qC _ _ 3 _ _ _ h1
 ·exact qC _ _ 4 _ _ _ h1
def sqq (m:Md) (l:List Pt) (kk k:Nat):Rat:=msR 3 (many kk (chans l)) (fun q=>lval (m.row q)) (fun q=>labq l q k) (fun _=>1) (tqf l kk k)
theorem sq11_any (k kk R pb ob mb b off c:Nat) (ao:Option Addr) (l:List Pt) (m:Md) (o1 o2:ByteArray) (ty ty2:TypeId) (w:World) (hR:l.length=R) (hk:k<R) (hok:PtsOk l) (hM:MdOk m kk (chans l)) (h1:(o1,o2)=ftxt 1) (hpb:w.heap[pb]? = some (.cells #[.slice ao R c] ty (0,0))) (hob:w.heap[ob]? = some (.cells #[.string o1,.string o2] ty2 (0,0)))
  (hmb:MBox w mb m (many kk (chans l))) (hP:PCells w ao b off l) (hT:HasT w) :
  Calls Tryz.prog 102 #[.int .i64 (k:Int),.pointer (some ⟨pb,0,none⟩),.pointer (some ⟨ob,0,none⟩),.pointer (some ⟨mb,0,none⟩)] w fun e w'=>Below w.heap.size w w' /\
   ((∃x y,e=.returned (.agg #[.string x,.string y])/\Short (sqq m l kk k)/\(x,y)=ftxt (sqq m l kk k))\/∃c,e=thrown c/\¬Short (sqq m l kk k)/\c=6):=by
 have hao:=hP.addr (by omega);subst hao;have hR4:R<=40:=hR▸hok.r2;obtain⟨W2,hW2,K0⟩:=nw2 w #[.int .i64 (k:Int)] 3 #[.string ⟨#[]⟩,.string ⟨#[]⟩] 44;have K2:=K0.also (q:=fun W=>W.heap[pb]? = some (.cells #[.slice (some ⟨b,off,none⟩) R c] ty (0,0))/\W.heap[ob]? = some (.cells #[.string o1,.string o2] ty2 (0,0))/\MBox W mb m (many kk (chans l))/\PCells W (some ⟨b,off,none⟩) b off l/\HasT W)
  ⟨zkeep K0.out.1 _ _ hpb,zkeep K0.out.1 _ _ hob,hmb.below K0.out.1,hP.below K0.out.1,hT.below K0.out.1⟩
 have hmf:=@hmf_ Tryz.prog;have hg:qjG 103 #[.pointer (some ⟨pb,0,none⟩),.pointer (some ⟨w.heap.size,0,none⟩)] W2 3 (fun q x=>x=ftxt (labq l q k)) (fun _ _=>False):=by
  intro q hq W hb;refine (qm1 k q R pb w.heap.size b off c _ l _ _ W hR hk hR4 hq (zkeep hb _ _ K2.out.2.1) (zkeep hb _ _ K2.out.1.2.1) (K2.out.2.2.2.2.1.below hb) (hok.bound q k (by omega)) (K2.out.2.2.2.2.2.below hb)).mono ?_;rintro e w' ⟨h1,h2⟩;exact⟨h1,qan ⟨_,_,h2,rfl⟩⟩
 have HG:=qH (qek 103 #[.pointer (some ⟨pb,0,none⟩),.pointer (some ⟨w.heap.size,0,none⟩)] 3 (by decide) _ _ W2 (fun a W=>enters Tryz.func103 (by kernel_rfl) (by kernel_rfl) _ W) hg);have HX:=qH (qA hR (qA hok (qA hM h1)));have hlp:=(qG hpb).1;have hlm:mb<w.heap.size:=by
  obtain⟨_,_,_,_,h2,_⟩:=hmb.ex;exact (qG h2).1
 have hlb:b<w.heap.size:=qac _ _ (hP.cell k (by omega)).1;have HLt:=qH (qA hlp (qA hlm hlb));clear K0 hg hpb hob hmb hP hT hR hok hM h1 hlp hlm hlb;go_enter Tryz.func102,Tryz.ntmps102;go_upto_region 1 with fail;rw [<-hW2];clear hW2;go_wp2_with fail;refine HG.out.mono ?_;rintro e w3 ⟨hb3,h⟩;have K3:=K2.below hb3;rcases h with ⟨la,g3,hla,hva,rfl,hF3,_⟩ | ⟨_,_,_,_,hF⟩
 case inr=>exact hF.elim
 have K4:=K3.also (q:=fun W=>FCells W (some ⟨g3,0,none⟩) g3 0 (told 3 fun q=>labq l q k)) (qia hla hva▸hF3);clear K2 HG hla hva hF3 hb3 K3;have z0:=qC _ _ 0 _ _ _ K4.out.1.2.2.1;have z1:=qC _ _ 1 _ _ _ K4.out.1.2.2.1;obtain⟨W4,hW4,N4⟩:=nw1 w3 #[.string o1,.string o2,.string o1,.string o2,.string o1,.string o2] 44;have hone:FCells W4 (some ⟨w3.heap.size,0,none⟩) w3.heap.size 0 (told 3 fun _=>1):=by
  have e:told 3 (fun _=>(1:Rat))=[(o1,o2),(o1,o2),(o1,o2)]:=by rw [HX.out.2.2.2];rfl
  rw [e];exact FCells.ofRow N4.out.2
 have K5:=(K4.below N4.out.1).also (q:=fun W=>FCells W (some ⟨w3.heap.size,0,none⟩) w3.heap.size 0 (told 3 fun _=>1)) hone;clear K4 N4 hone;go_wp2_with fail;rw [<-hW4];clear hW4 z0 z1;obtain⟨_,⟨ra,rb,ro,rc,d1,hN⟩,_⟩:=K5.out.1.1.2.2.2.2.1.cell k (by have:=HX.out.1;omega);have hdn:=(HX.out.2.1.rows k (by have:=HX.out.1;omega)).2;have hvals:=(HX.out.2.1.rows k (by have:=HX.out.1;omega)).1.vals;obtain⟨n,hn⟩:=qX (chans l);rw [hn] at hdn;rw [hdn] at d1;obtain⟨a,b',o,d,hmrow,_⟩:=K5.out.1.1.2.2.2.1.ex;obtain⟨kind,hkind⟩:∃z,m.kind=z:=⟨_,rfl⟩;rw [hkind] at hmrow;have hl0:=(qG K5.out.1.1.1.2.2).1;have HN:=qH (qA hdn (qA hvals (qA hN (qA hn hkind))));have q0:=rowG (g0:=w.heap.size+1) hmrow 0 (hne:=by have:=HLt.out.2.1;omega);have q1:=rowG (g0:=w.heap.size+1) K5.out.1.1.2.1 0 (hne:=by have:=HLt.out.1;omega);have q2:=rowG (g0:=w.heap.size+1) K5.out.1.1.1.2.1 0 (hne:=by omega);have q3:∀W,W4.grownBy W (some (w.heap.size+1))->W.cell? ⟨b,off+k*5+1,none⟩=some (.slice ra n rc):=fun W hg=>hg.cell d1 (fun e=>by have:=HLt.out.2.2;have:=qai e;simp at this;omega)
 have hki:(k:Int)<R:=by omega
 clear hdn hvals hN hn hkind hmrow d1;refine wp_region_held_drew (S:=fun W=>W4.grownBy W (some (w.heap.size+1))) (by kernel_rfl) (keepB qB.drew) (fun hS0=>?_);refine hT 0 (h:=?_);refine hT 1 (h:=?_);refine hT 2 (h:=?_);refine hT 3 (h:=?_);refine hT 4 (h:=?_);refine hT 5 (h:=?_);refine hT 6 (h:=?_);refine hT 7 (h:=?_);refine hT 8 (h:=?_);refine hT 9 (h:=?_);refine hT 10 (h:=?_);refine hC 11 (qfK kind kk (by rw [<-HN.out.2.2.2.2];exact HX.out.2.2.1.kind) ra rb ro n rc (l.getD k pt0).dev W4.drew HN.out.1 (by rw [<-HN.out.2.2.2.1];exact HX.out.2.1.n1) (by rw [<-HN.out.2.2.2.1];exact HX.out.2.1.n4) (fun e=>by have h3:=HX.out.2.2.1.both;have h4:=HX.out.2.1.n4;have:=HN.out.2.2.2.1;omega) (HN.out.2.2.1.below qB.drew) HN.out.2.1 (K5.out.1.1.2.2.2.2.2.below qB.drew)) (h:=?_);rintro e w5 ⟨v5,rfl,hv5,hb5⟩;have HB5:=qH (qb1 hb5);clear hb5;obtain⟨a5,g5,c5,rfl,hF5,_⟩:=hv5.cells (n:=many kk n) (by rw [qaw,qeF,HN.out.1]);have hS5:W4.grownBy w5 (some (w.heap.size+1)):=keepB HB5.out;have K6:=K5.below HB5.out;have htt:(termL kk (l.getD k pt0).dev).map ftxt=told (many kk n) (tqf l kk k):=by
  rw [<-HN.out.1];exact (qf7 kk (l.getD k pt0).dev).symm
 rw [htt] at hF5;have HF5:=qH hF5;clear hF5 hv5 htt;refine⟨_,rfl,hS5,hN (h:=?_)⟩;have hlen:=qjp HX.out.2.2.1.kind HX.out.2.1.n1 HX.out.2.1.n4 HX.out.2.2.1.both;have hkl:k<l.length:=by have:=HX.out.1;omega
 have hMe:=meas_at (c:=3) (c2:=3) (c3:=3) (c4:=c5) (by decide) (by decide) hlen.1 hlen.2 (f:=fun q=>lval (m.row q)) (b:=fun q=>labq l q k) (v:=fun _=>1) (x:=tqf l kk k)
  (fun q hq=>by have:=(HX.out.2.2.1.rows q hq).2.short;rw [(HX.out.2.2.1.rows q hq).1] at this;exact this) (fun q hq=>HX.out.2.1.labs k hkl) (fun _ _=>qmY) (HX.out.2.1.terms HX.out.2.2.1.kind HX.out.2.2.1.both k hkl) (fun _ _=>by decide)
  (MBox.tab K6.out.1.1.2.2.2.1 HX.out.2.2.1.rows) K6.out.1.2 K6.out.2 (by rw [HN.out.2.2.2.1];exact HF5.out) K6.out.1.1.2.2.2.2.2
 rw [HN.out.2.2.2.1] at hMe;have HMe:=qH hMe;clear hMe hlen hkl;refine hC 12 HMe.out (h:=?_);rintro e w6 ⟨h,hb6⟩;have HB6:=qH hb6;have hS6:=qcd hS5 hb6;clear hb6;have K7:=K6.below HB6.out;have hsq:sqq m l kk k=msR 3 (many kk n) (fun q=>lval (m.row q)) (fun q=>labq l q k) (fun _=>1) (tqf l kk k):=by unfold sqq;rw [HN.out.2.2.2.1]
 rw [<-hsq] at h;clear hsq;obtain⟨y1,y2,hy⟩:=qb6 (sqq m l kk k);rcases h with ⟨hsh,rfl⟩ | ⟨hsh,rfl⟩
 ·rw [qdT,hy];have HS:=qH (qA hsh hy);clear hsh hy;refine⟨_,rfl,hS6,hN (h:=?_)⟩;refine hT 13 (h:=?_);refine hT 14 (h:=?_);refine hC 15 (qcI y1 y2 w6) (h:=?_);rintro e w7 ⟨rfl,hb7⟩;have hS7:=qcd hS6 hb7;have K8:=K7.below hb7;clear hb7;refine⟨_,rfl,hS7,hN (h:=?_)⟩;have HE:=qH (qA (qT _ _ _ #[.string y1,.string y2] _ _ K8.out.1.1.1.2.2) (qS K8.out.1.1.1.1 (show w.heap.size<=w.heap.size+1 by omega) #[.string y1,.string y2]));refine hSt 16 2 K8.out.1.1.1.2.2 (h:=⟨qbU hS7 (qb5 _ _ _),?_⟩);go_wp2_with fail;exact qR (v:=.agg #[.string y1,.string y2]) (rA_ rfl ((w.heap.size+1)) HE.out.1 Tryz.underlying44 2) rfl ⟨HE.out.2,qan ⟨_,_,rfl,HS.out.1,HS.out.2.symm⟩⟩
 ·have HS:=qH hsh;clear hsh hy;refine⟨_,rfl,hS6,hN (h:=?_)⟩;refine hT 13 (h:=?_);refine hT 14 (h:=?_);refine hCx 15 (qms ⟨#[]⟩ ⟨#[]⟩ 6 (by decide) w6) (h:=?_);rintro e w7 ⟨rfl,hb7⟩;have K8:=K7.below hb7;clear hb7;refine qah ⟨_,rfl,?_⟩;go_wp2_with fail;exact⟨rfl,K8.out.1.1.1.1,qah ⟨6,rfl,HS.out,rfl⟩⟩
def SqG (m:Md) (l:List Pt) (W:World) (v:Value):Prop:=PtsOk l/\∃kk,MdOk m kk (chans l)/\qbY l.length (sqq m l kk)/\SlF l.length (sqq m l kk) v W
def SqF (m:Md) (l:List Pt) (e:Int):Prop :=
 (¬qdC m/\e=320)\/(qdC m/\¬PtsOk l/\e=310)\/(qdC m/\PtsOk l/\m.inn≠(chans l:Nat)/\e=5) \/
 (PtsOk l/\e=6/\∃kk,MdOk m kk (chans l)/\¬qbY l.length (sqq m l kk))
theorem sq1_any (m:Md) (R pb mb b off c:Nat) (ao:Option Addr) (l:List Pt) (a:Nat->Option Addr) (b' o d:Nat->Nat) (ty:TypeId) (w:World) (hR:l.length=R) (hl:R<=4611686018427387904) (hs:∀k,k<R->(l.getD k pt0).name.size<=4611686018427387904/\(l.getD k pt0).dev.length<=4611686018427387904) (hml:∀q,q<3->(m.row q).length<=4611686018427387904)
  (hpb:w.heap[pb]? = some (.cells #[.slice ao R c] ty (0,0))) (hmb:w.heap[mb]? = some (.cells #[.int .i64 m.kind,.int .i64 m.inn,.slice (a 0) (m.row 0).length (d 0),.slice (a 1) (m.row 1).length (d 1),.slice (a 2) (m.row 2).length (d 2)] 38 (0,0))) (hF:∀q,q<3->FCells w (a q) (b' q) (o q) (m.row q))
  (hP:PCells w ao b off l) (hT:HasT w) :
  Calls Tryz.prog 101 #[.pointer (some ⟨mb,0,none⟩),.pointer (some ⟨pb,0,none⟩)] w fun e w'=>Below w.heap.size w w' /\
   ((∃(p:Option Addr) (n c:Nat),e=.returned (.slice p n c)/\SqG m l w' (.slice p n c))\/∃c,e=thrown c/\SqF m l c):=by
 have hM:MdAt w (.agg #[.int .i64 m.kind,.int .i64 m.inn,.slice (a 0) (m.row 0).length (d 0),.slice (a 1) (m.row 1).length (d 1),.slice (a 2) (m.row 2).length (d 2)]) m :=
  ⟨_,_,_,_,_,_,_,_,_,_,_,_,rfl,hF 0 (by decide),hF 1 (by decide),hF 2 (by decide)⟩
 have hMt:=qmh m _ R b off c ao l w hM hml hR hl hs hP;obtain⟨kind,hkind⟩:∃z,m.kind=z:=⟨_,rfl⟩;obtain⟨inn,hinn⟩:∃z,m.inn=z:=⟨_,rfl⟩;obtain⟨L,hL⟩:∃L:Nat->Nat,∀q,(m.row q).length=L q:=⟨_,fun _=>rfl⟩;rw [hkind,hinn,hL,hL,hL] at hmb hMt;have HMt:=qH hMt;have c0:=qC _ _ 0 _ _ _ hmb;have c1:=qC _ _ 1 _ _ _ hmb;have c2:=qC _ _ 2 _ _ _ hmb;have c3:=qC _ _ 3 _ _ _ hmb;have c4:=qC _ _ 4 _ _ _ hmb;have p0:=qC _ _ 0 _ _ _ hpb;have K0:Kn (fun W=>Below w.heap.size w W/\W.heap[mb]? = some (.cells #[.int .i64 kind,.int .i64 inn,.slice (a 0) (L 0) (d 0),.slice (a 1) (L 1) (d 1),.slice (a 2) (L 2) (d 2)] 38 (0,0))/\W.heap[pb]? = some (.cells #[.slice ao R c] ty (0,0))/\PCells W ao b off l/\HasT W) w:=.of ⟨Below.refl _ _,hmb,hpb,hP,hT⟩;have HX:=qH (qA hR (qA hkind (qA hinn (qA hL hF))));have hmf:=@hmf_ Tryz.prog;clear hM hMt hpb hmb hF hP hT hR hl hs hml hkind hinn hL;go_enter Tryz.func101,Tryz.ntmps101;go_wp2_with fail;refine HMt.out.mono ?_;rintro e w2 ⟨hb2,h⟩;have K2:=K0.below hb2;clear hb2 HMt c0 c1 c2 c3 c4 p0;rcases h with ⟨h1,rfl⟩ | ⟨h1,h2,rfl⟩ | ⟨h1,h2,h3,rfl⟩ | ⟨h1,h2,h3,rfl⟩
 ·have H:=qH h1;clear h1;unfold thrown;go_wp2_with fail;exact⟨rfl,K2.out.1,qah ⟨320,rfl,qan ⟨H.out,rfl⟩⟩⟩
 ·have H:=qH (qA h1 h2);clear h1 h2;unfold thrown;go_wp2_with fail;exact⟨rfl,K2.out.1,qah ⟨310,rfl,qah (qan ⟨H.out.1,H.out.2,rfl⟩)⟩⟩
 ·have H:=qH (qA h1 (qA h2 h3));clear h1 h2 h3;unfold thrown;go_wp2_with fail;exact⟨rfl,K2.out.1,qah ⟨5,rfl,qah (qah (qan ⟨H.out.1,H.out.2.1,H.out.2.2,rfl⟩))⟩⟩
 obtain⟨kk,hMd⟩:∃kk,MdOk m kk (chans l):=by
  obtain⟨kk,n,h⟩:=h1;have:=h.inn.1;obtain rfl:n=chans l:=by omega
  exact⟨kk,h⟩
 have H:=qH (qA h2 hMd);clear h1 h2 h3 hMd;go_wp2_with fail;have hq1:((1:Int):Rat) / ((1:Int):Rat)=1:=by decide +kernel
 have hOf:=of_int 1 1 (by decide) (by decide) (by decide) w2 K2.out.2.2.2.2;obtain⟨o1,o2,ho⟩:=qb6 1;rw [hq1,ho] at hOf;have Ho:=qH ho;clear ho hq1;refine hOf.mono ?_;rintro e w3 ⟨rfl,hb3⟩;have K3:=K2.below hb3;clear hb3 K2 hOf;go_wp2_with fail;refine (qcI o1 o2 w3).mono ?_;rintro e w4 ⟨rfl,hb4⟩;have K4:=K3.below hb4;clear hb4 K3;obtain⟨W5,hW5,N5⟩:=nw1 w4 #[.string o1,.string o2] 44;have K5:=(K4.below N5.out.1).also (q:=fun W=>W.heap[w4.heap.size]? = some (.cells #[.string o1,.string o2] 44 (0,0))) N5.out.2;have hbx:MBox W5 mb m (many kk (chans l)):=by
  have h1:=(K5.out.1).2.1;have hl0:=(H.out.2.rows 0 (by decide)).1;have hl1:=(H.out.2.rows 1 (by decide)).1;have hl2:=(H.out.2.rows 2 (by decide)).1;rw [<-HX.out.2.1,<-HX.out.2.2.1,<-HX.out.2.2.2.1,<-HX.out.2.2.2.1,<-HX.out.2.2.2.1,hl0,hl1,hl2] at h1;exact⟨a,b',o,d,h1,fun q hq=>(HX.out.2.2.2.2 q hq).below K5.out.1.1⟩
 have hg:qjG 102 #[.pointer (some ⟨pb,0,none⟩),.pointer (some ⟨w4.heap.size,0,none⟩),.pointer (some ⟨mb,0,none⟩)] W5 R (fun i x=>Short (sqq m l kk i)/\x=ftxt (sqq m l kk i)) (fun i c=>¬Short (sqq m l kk i)/\c=6):=by
  intro i hi W hb;refine (sq11_any i kk R pb w4.heap.size mb b off c ao l m o1 o2 ty 44 W HX.out.1 hi H.out.1 H.out.2 Ho.out.symm (zkeep hb _ _ K5.out.1.2.2.1) (zkeep hb _ _ K5.out.2) (hbx.below hb) (K5.out.1.2.2.2.1.below hb) (K5.out.1.2.2.2.2.below hb)).mono ?_;rintro e w' ⟨h1,h2⟩;refine⟨h1,?_⟩;rcases h2 with ⟨x,y,rfl,h3,h4⟩ | ⟨cc,rfl,h3,h4⟩
  ·exact qan ⟨x,y,rfl,h3,h4⟩
  ·exact qah ⟨cc,rfl,h3,h4⟩
 have HG:=qH (qek 102 #[.pointer (some ⟨pb,0,none⟩),.pointer (some ⟨w4.heap.size,0,none⟩),.pointer (some ⟨mb,0,none⟩)] R (by have:=H.out.1.r2;have:=HX.out.1;omega) _ _ W5 (fun a W=>enters Tryz.func102 (by kernel_rfl) (by kernel_rfl) _ W) hg);have p5:=qC _ _ 0 _ _ _ K5.out.1.2.2.1;clear N5 hbx hg K4;go_upto_region 3 with fail;rw [<-hW5];clear hW5;go_wp2_with fail;refine HG.out.mono ?_;rintro e w6 ⟨hb6,h⟩;have HB6:=qH (K5.out.1.1.trans (hb6.mono K5.out.1.1.size));clear hb6;rcases h with ⟨lq,g,h1,h2,rfl,h4,_⟩ | ⟨i,cc,hi,rfl,h3,rfl⟩
 ·have HE:=qH (qA h1 (qA h2 h4));clear h1 h2 h4 HG;go_wp2;go_ret;refine⟨HB6.out,qan ⟨_,_,_,rfl,H.out.1,kk,H.out.2,fun i hi=>(HE.out.2.1 i (by have:=HX.out.1;omega)).1,?_⟩⟩;have hr:=HX.out.1;refine⟨g,by rw [hr],?_⟩;rw [hr,<-qia HE.out.1 (fun i hi=>(HE.out.2.1 i hi).2)];exact HE.out.2.2
 ·have HE:=qH (qA hi h3);clear hi h3 HG;unfold thrown;go_wp2_with fail;exact⟨rfl,HB6.out,qah ⟨6,rfl,qah (qah (qah ⟨H.out.1,rfl,kk,H.out.2,fun h=>HE.out.2 (h i (by have:=HX.out.1;have:=HE.out.1;omega))⟩))⟩⟩
theorem SlF.kept {W W':World} {n:Nat} {f:Nat->Rat} {v:Value} (hk:∀a s,W.cell? a=some (.string s)->W'.cell? a=some (.string s)) (h:SlF n f v W):SlF n f v W':=by
 obtain⟨g,h1,h2⟩:=h;exact⟨g,h1,h2.kept hk⟩
theorem SqG.kept {m:Md} {l:List Pt} {W W':World} {v:Value} (hk:∀a s,W.cell? a=some (.string s)->W'.cell? a=some (.string s)) (h:SqG m l W v):SqG m l W' v:=by
 obtain⟨h1,kk,h2,h3,h4⟩:=h;exact⟨h1,kk,h2,h3,h4.kept hk⟩
def SqAs (w:World) (m:Md) (l:List Pt) (e:Ending) (w':World):Prop :=
 Below w.heap.size w w'/\((∃v,e=.returned (.tuple #[v,.int .i64 0])/\SqG m l w' v)\/∃c,e=.returned (.tuple #[.slice none 0 0,.int .i64 c])/\SqF m l c)
theorem qjA (m:Md) (v:Value) (R b off c:Nat) (ao:Option Addr) (l:List Pt) (w:World) (hM:MdAt w v m) (hR:l.length=R) (hl:R<=4611686018427387904) (hs:∀k,k<R->(l.getD k pt0).name.size<=4611686018427387904/\(l.getD k pt0).dev.length<=4611686018427387904) (hml:∀q,q<3->(m.row q).length<=4611686018427387904) (hP:PCells w ao b off l) (hT:HasT w) :
  Calls Tryz.prog 33 #[v,.slice ao R c] w fun e w'=>SqAs w m l e w':=by
 obtain⟨a,b',o,d,rfl,hF⟩:=hM.parts;obtain⟨W2,hW2,K2⟩:=nw2 w #[.int .i64 m.kind,.int .i64 m.inn,.slice (a 0) (m.row 0).length (d 0),.slice (a 1) (m.row 1).length (d 1),.slice (a 2) (m.row 2).length (d 2)] 38 #[.slice ao R c] 30;have hmf:=@hmf_ Tryz.prog;have HG:=qH (qgb 101 #[.pointer (some ⟨w.heap.size,0,none⟩),.pointer (some ⟨w.heap.size+1,0,none⟩)] (SqG m l) (SqF m l) W2 (fun W=>enters Tryz.func101 (by kernel_rfl) (by kernel_rfl) _ W)
  (fun W W' v hk h=>h.kept hk)
  (fun w1 hb=>sq1_any m R (w.heap.size+1) w.heap.size b off c ao l a b' o d _ w1 hR hl hs hml (zkeep hb _ _ K2.out.2.2) (zkeep hb _ _ K2.out.2.1) (fun q hq=>(hF q hq).below (K2.out.1.trans (hb.mono K2.out.1.size))) (hP.below (K2.out.1.trans (hb.mono K2.out.1.size))) (hT.below (K2.out.1.trans (hb.mono K2.out.1.size)))))
 have HB:=qH K2.out.1;clear hM hR hl hs hml hP hT hF K2;go_enter Tryz.func33,Tryz.ntmps33;go_upto_region 1 with fail;rw [<-hW2];clear hW2;go_wp2_with fail;refine HG.out.mono ?_;rintro e w5 ⟨hb5,h⟩;have HB5:=qH (HB.out.trans (hb5.mono HB.out.size));clear hb5 HG;rcases h with ⟨p,n,c',rfl,hg⟩ | ⟨cc,rfl,hf⟩
 ·have HE:=qH hg;clear hg;go_wp2_with fail
  go_ret2
  exact⟨HB5.out,qan ⟨_,rfl,HE.out⟩⟩
 ·have HE:=qH hf;clear hf;go_wp2_with fail
  go_ret2
  exact⟨HB5.out,qah ⟨cc,rfl,HE.out⟩⟩
def TmG (kind:Int) (d:List Int) (W:World) (v:Value):Prop:=1<=d.length/\d.length<=4/\qcO d/\∃k,qcC kind k/\¬(k=3/\d.length=4)/\∃(p:Option Addr) (g c:Nat),v=.slice p (many k d.length) c/\FCells W p g 0 ((termL k d).map ftxt)
def TmF (kind:Int) (d:List Int) (e:Int):Prop :=
 (¬((∃k,qcC kind k)/\1<=d.length/\d.length<=4)/\e=2)\/(((∃k,qcC kind k)/\1<=d.length/\d.length<=4)/\((¬qcO d/\e=2)\/(qcO d/\qcC kind 3/\d.length=4/\e=5)))
theorem tm1_any (kind:Int) (kb db b off n c:Nat) (ao:Option Addr) (dv:List Int) (ty ty2:TypeId) (w:World) (hn:dv.length=n) (hl:n<=4611686018427387904) (hkb:w.heap[kb]? = some (.cells #[.int .i64 kind] ty (0,0))) (hdb:w.heap[db]? = some (.cells #[.slice ao n c] ty2 (0,0))) (hN:NCells w ao b off dv) (hT:HasT w) :
  Calls Tryz.prog 83 #[.pointer (some ⟨kb,0,none⟩),.pointer (some ⟨db,0,none⟩)] w fun e w'=>Below w.heap.size w w' /\
   ((∃(p:Option Addr) (n c:Nat),e=.returned (.slice p n c)/\TmG kind dv w' (.slice p n c))\/∃c,e=thrown c/\TmF kind dv c):=by
 have c0:=qC _ _ 0 _ _ _ hkb;have c1:=qC _ _ 0 _ _ _ hdb;have HX:=qH (qA hn (qA hl (qA hN hT)));clear hkb hdb hn hl hN hT;go_enter Tryz.func83,Tryz.ntmps83;go_wp2_with fail;refine (qgP kind w).mono ?_;rintro e w3 ⟨rfl,hw⟩;subst hw
 by_cases hkn:1<=kind/\kind<=3
 case neg =>
  rw [qU hkn];have HN:=qH hkn;clear hkn;go_wp2_with fail;refine (qcg 2 (by decide) _).mono ?_;rintro e w3 ⟨rfl,rfl⟩;unfold thrown;go_wp2_with fail;exact⟨rfl,Below.refl _ _,qah ⟨2,rfl,qan ⟨fun⟨⟨k,h1,h2,h3⟩,_⟩=>HN.out ⟨by omega,by omega⟩,rfl⟩⟩⟩
 obtain⟨k,hkk⟩:∃k,qcC kind k:=⟨kind.toNat,by omega,by omega,by omega⟩;rw [qV hkn];have Hk:=qH hkk;clear hkk hkn
 by_cases hn:1<=n/\n<=4
 case neg =>
  have HN:=qH hn;have fin:TmF kind dv 2:=qan ⟨fun⟨_,h⟩=>HN.out (by have:=HX.out.1;omega),rfl⟩
  by_cases h1:(n:Int)<1
  ·clear hn;go_wp2_with fail;refine (qcg 2 (by decide) _).mono ?_;rintro e w3 ⟨rfl,rfl⟩;unfold thrown;go_wp2_with fail;exact⟨rfl,Below.refl _ _,qah ⟨2,rfl,fin⟩⟩
  ·have h2:(4:Int)<n:=by omega
   clear hn;go_wp2_with fail;refine (qcg 2 (by decide) _).mono ?_;rintro e w3 ⟨rfl,rfl⟩;unfold thrown;go_wp2_with fail;exact⟨rfl,Below.refl _ _,qah ⟨2,rfl,fin⟩⟩
 have hn1:¬(n:Int)<1:=by omega
 have hn4:¬(4:Int)<n:=by omega
 have Hn:=qH hn;clear hn;go_wp2_with fail;refine (qgc ao b off n c dv n w HX.out.1 HX.out.2.1 HX.out.2.2.1).mono ?_;rintro e w3 ⟨r,rfl,hr,hw⟩;subst hw;rcases hr with ⟨rfl,hr⟩ | ⟨rfl,hr⟩
 case inr =>
  have HN:=qH hr;clear hr;go_wp2_with fail;refine (qcg 2 (by decide) _).mono ?_;rintro e w3 ⟨rfl,rfl⟩;unfold thrown;go_wp2_with fail;exact⟨rfl,Below.refl _ _,qah ⟨2,rfl,qah ⟨⟨⟨k,Hk.out⟩,by have:=Hn.out;have:=HX.out.1;omega⟩,qan ⟨fun h=>HN.out ⟨by trivial,h⟩,rfl⟩⟩⟩⟩
 have HV:=qH hr.2;clear hr;go_wp2_with fail;refine (qep _).mono ?_;rintro e w3 ⟨rfl,hw⟩;subst hw
 by_cases h34:k=3/\n=4
 ·obtain⟨h3,h4⟩:=h34;have hk3:kind=3:=by have:=Hk.out.1;omega
  subst h3 h4 hk3;go_wp2_with fail;refine (qcg 5 (by decide) _).mono ?_;rintro e w3 ⟨rfl,rfl⟩;unfold thrown;go_wp2_with fail;exact⟨rfl,Below.refl _ _,qah ⟨5,rfl,qah ⟨⟨⟨3,Hk.out⟩,by have:=HX.out.1;omega⟩,qah ⟨HV.out,Hk.out,HX.out.1,rfl⟩⟩⟩⟩
 have HNK:=qH h34;have HTm:=qH (qfK kind k Hk.out ao b off n c dv w HX.out.1 Hn.out.1 Hn.out.2 (fun e=>by have:=Hn.out.2;omega) HX.out.2.2.1 HV.out HX.out.2.2.2);go_upto_region 4 with fail
 go_cut [28] (fun x28 W=>x28=.bool false/\Hid (W=w))
 case first =>
  by_cases h3:kind=3
  ·have hn3:¬(3:Int)<n:=fun h=>h34 ⟨by have:=Hk.out.1;omega,by have:=Hn.out.2;omega⟩
   subst h3;go_wp2;go_meet;exact⟨rfl,qH rfl⟩
  ·go_wp2;go_meet;exact⟨rfl,qH rfl⟩
 case rest =>
  obtain⟨rfl,hWe⟩:=hcut;have hWe:=hWe.out.symm;subst hWe;clear h34;go_wp2_with fail;refine HTm.out.mono ?_;rintro e w4 ⟨v,rfl,hv,hb⟩;obtain⟨p,g,cp,rfl,hF,_⟩:=hv.cells (n:=many k n) (by rw [qaw,qeF,HX.out.1]);have HE:=qH (qA hF hb);clear hv hF hb;go_wp2;go_ret;have e:=HX.out.1;refine⟨HE.out.2,qan ⟨_,_,_,rfl,by rw [e];exact Hn.out.1,by rw [e];exact Hn.out.2,HV.out,k,Hk.out,by rw [e];exact HNK.out,p,g,cp,by rw [e],HE.out.1⟩⟩
theorem TmG.kept {kind:Int} {d:List Int} {W W':World} {v:Value} (hk:∀a s,W.cell? a=some (.string s)->W'.cell? a=some (.string s)) (h:TmG kind d W v):TmG kind d W' v:=by
 obtain⟨h1,h2,h3,k,h4,h5,p,g,c,h6,h7⟩:=h;exact⟨h1,h2,h3,k,h4,h5,p,g,c,h6,h7.kept hk⟩
def TmAs (w:World) (kind:Int) (d:List Int) (e:Ending) (w':World):Prop :=
 Below w.heap.size w w'/\((∃v,e=.returned (.tuple #[v,.int .i64 0])/\TmG kind d w' v)\/∃c,e=.returned (.tuple #[.slice none 0 0,.int .i64 c])/\TmF kind d c)
theorem qhG (kind:Int) (b off n c:Nat) (ao:Option Addr) (dv:List Int) (w:World) (hn:dv.length=n) (hl:n<=4611686018427387904) (hN:NCells w ao b off dv) (hT:HasT w) :
  Calls Tryz.prog 25 #[.int .i64 kind,.slice ao n c] w fun e w'=>TmAs w kind dv e w':=by
 obtain⟨W2,hW2,K2⟩:=nw2 w #[.int .i64 kind] 3 #[.slice ao n c] 32;have hmf:=@hmf_ Tryz.prog;have HG:=qH (qgb 83 #[.pointer (some ⟨w.heap.size,0,none⟩),.pointer (some ⟨w.heap.size+1,0,none⟩)] (TmG kind dv) (TmF kind dv) W2 (fun W=>enters Tryz.func83 (by kernel_rfl) (by kernel_rfl) _ W)
  (fun W W' v hk h=>h.kept hk)
  (fun w1 hb=>tm1_any kind w.heap.size (w.heap.size+1) b off n c ao dv _ _ w1 hn hl (zkeep hb _ _ K2.out.2.1) (zkeep hb _ _ K2.out.2.2) (hN.below (K2.out.1.trans (hb.mono K2.out.1.size))) (hT.below (K2.out.1.trans (hb.mono K2.out.1.size)))))
 have HB:=qH K2.out.1;clear hn hl hN hT K2;go_enter Tryz.func25,Tryz.ntmps25;go_upto_region 1 with fail;rw [<-hW2];clear hW2;go_wp2_with fail;refine HG.out.mono ?_;rintro e w5 ⟨hb5,h⟩;have HB5:=qH (HB.out.trans (hb5.mono HB.out.size));clear hb5 HG;rcases h with ⟨p,n,c',rfl,hg⟩ | ⟨cc,rfl,hf⟩
 ·have HE:=qH hg;clear hg;go_wp2_with fail
  go_ret2
  exact⟨HB5.out,qan ⟨_,rfl,HE.out⟩⟩
 ·have HE:=qH hf;clear hf;go_wp2_with fail
  go_ret2
  exact⟨HB5.out,qah ⟨cc,rfl,HE.out⟩⟩
theorem qln (v:Value) (yb:Nat) (y1 y2:ByteArray) (ty:TypeId) (w:World) (hy:w.heap[yb]? = some (.cells #[.string y1,.string y2] ty (0,0))) :
  Calls Tryz.prog 145 #[v,.pointer (some ⟨yb,0,none⟩)] w fun e w'=>Below w.heap.size w w'/\∃g,e=.returned (.slice (some ⟨g,0,none⟩) 1 1)/\FCells w' (some ⟨g,0,none⟩) g 0 [(y1,y2)]:=by
 have c0:=qC _ _ 0 _ _ _ hy;have c1:=qC _ _ 1 _ _ _ hy;obtain⟨W1,hW1,K1⟩:=nw1 w #[.string y1,.string y2] 44;clear hy;go_enter Tryz.func145,Tryz.ntmps145;go_wp2_with fail;rw [<-hW1];go_ret;exact⟨K1.out.1,_,rfl,FCells.ofRow K1.out.2⟩
theorem comb_law {m:Nat} {t r:Nat->Rat} {y:Rat} {e:Ending} {w':World} (hT:sumQ m t≠0) (hy:y=(sumQ m t)⁻¹) (h:qfc m 1 (fun _ _=>y) r t e w') :
  (Short (sumQ m fun j=>t j*r j)/\∃g,e=.returned (.tuple #[.slice (some ⟨g,0,none⟩) 1 1,.int .i64 0])/\FCells w' (some ⟨g,0,none⟩) g 0 [ftxt (sumQ m fun j=>t j*r j)]) \/
  (¬Short (sumQ m fun j=>t j*r j)/\e=.returned (.tuple #[.slice none 0 0,.int .i64 6])):=by
 have hyT:sumQ m t*y=1:=by rw [hy];exact Rat.mul_inv_cancel _ hT
 have hy0:y≠0:=fun e=>by rw [e,Rat.mul_zero] at hyT;exact absurd hyT (by decide)
 have e00:normR m 1 (fun _ _=>y) r t 0 0=y:=by
  unfold normR gR;have:sumQ m (fun i=>t i*((if 0<1 then y else r i)*(if 0<1 then y else r i)))=sumQ m fun i=>(y*y)*t i:=qb0 fun i _=>by rw [if_pos (by decide)];exact Rat.mul_comm _ _
  rw [this,qcv,Rat.mul_assoc,Rat.mul_comm y (sumQ m t),hyT,Rat.mul_one]
 have e01:normR m 1 (fun _ _=>y) r t 0 1=y*sumQ m fun j=>t j*r j:=by
  unfold normR gR;rw [<-qcv];refine qb0 fun i _=>?_
  rw [if_pos (by decide),if_neg (by decide),<-Rat.mul_assoc,<-Rat.mul_assoc,Rat.mul_comm (t i) y]
 rcases h with ⟨⟨z,⟨j,hj,hz⟩,h0⟩,_⟩ | ⟨_,x,hx,ht⟩
 ·exfalso;obtain rfl:j=0:=by omega
  have:=h0 0 (by decide);rw [qdx 1 0 _ (by decide) (fun i hi hn=>absurd (show i=0 by omega) hn),e00] at this;rcases Rat.mul_eq_zero.1 this with h | h
  ·exact hy0 h
  ·exact hz h
 ·have h0:=hx 0 (by decide);rw [qdx 1 0 _ (by decide) (fun i hi hn=>absurd (show i=0 by omega) hn),e00] at h0;have h0:y*x 0=normR m 1 (fun _ _=>y) r t 0 1:=h0;rw [e01] at h0;have hxs:x 0=sumQ m fun j=>t j*r j:=by
   have:=congrArg (fun q=>y⁻¹*q) h0;rw [<-Rat.mul_assoc,<-Rat.mul_assoc,Rat.inv_mul_cancel _ hy0,Rat.one_mul,Rat.one_mul] at this;exact this
  rcases ht with ⟨hs,g,he,hF⟩ | ⟨hs,he⟩
  ·refine qan ⟨hxs▸hs 0 (by decide),g,he,?_⟩;have:told 1 x=[ftxt (x 0)]:=rfl;rw [this,hxs] at hF;exact hF
  ·refine qah ⟨fun h=>hs fun i hi=>?_,he⟩;obtain rfl:i=0:=by omega
   rw [hxs];exact h
theorem least_at {R n:Nat} {f:Nat->Nat->Rat} {b v:Nat->Rat} {ao:Option Addr} {g c:Nat} {ao2:Option Addr} {g2 og2 c2:Nat} {ao3:Option Addr} {g3 c3:Nat} {w:World} (h1:1<=R) (h2:R<=40) (h3:1<=n) (h4:n<=10) (hf:∀i,i<R->qbY n (f i)) (hb:qbY R b) (hv:qbY R v) (hv0:∀i,i<R->0<=v i) (hT:TCells w ao g 0 (ttab R n f)) (hF:FCells w ao2 g2 og2 (told R b)) (hF3:FCells w ao3 g3 0 (told R v)) (hP:HasT w) :
  Calls Tryz.prog 129 #[.slice ao R c,.slice ao2 R c2,.slice ao3 R c3] w fun e w'=>qfc R n f b v e w'/\Below w.heap.size w w' :=
 (qhu ao g 0 R c _ ao2 g2 og2 R c2 _ ao3 g3 0 R c3 _ w (qcS _ _ _) (by omega) (qhi (by omega)) hT (qbW _ _) (by omega) hF (qbW _ _) (by omega) hF3 hP).mono fun _ _ h=>h.told h1 h2 h3 h4 hf hb hv hv0
theorem qlG (m b c b2 o2' c2:Nat) (ao a2:Option Addr) (t r:Nat->Rat) (w:World) (hm1:1<=m) (hm:m<=10) (ht:qbY m t) (ht0:∀i,i<m->0<=t i) (hr:qbY m r) (hT:Short (sumQ m t)) (hT0:sumQ m t≠0) (hy:Short (sumQ m t)⁻¹) (hF:FCells w ao b 0 (told m t)) (hG:FCells w a2 b2 o2' (told m r)) (hP:HasT w) :
  Calls Tryz.prog 78 #[.slice ao m c,.slice a2 m c2] w fun e w'=>Below w.heap.size w w'/\((Short (sumQ m fun j=>t j*r j)/\e=.returned (.agg #[.string (ftxt (sumQ m fun j=>t j*r j)).1,.string (ftxt (sumQ m fun j=>t j*r j)).2]))\/(¬Short (sumQ m fun j=>t j*r j)/\e=thrown 6)):=by
 obtain⟨s1,s2,hsx⟩:=qb6 (sumQ m fun j=>t j*r j);obtain⟨u1,u2,hux⟩:=qb6 (sumQ m t);obtain⟨y1,y2,hyx⟩:=qb6 (sumQ m t)⁻¹;rw [hsx];obtain⟨W1,hW1,N1⟩:=nw1 w #[.string ⟨#[]⟩,.string ⟨#[]⟩] 44;have K1:=N1.also (q:=fun W=>FCells W ao b 0 (told m t)/\FCells W a2 b2 o2' (told m r)/\HasT W) ⟨hF.below N1.out.1,hG.below N1.out.1,hP.below N1.out.1⟩;have hSum:=qdS b m c ao t W1 (by omega) K1.out.2.1 ht hT K1.out.2.2.2;rw [hux] at hSum;have HSum:=qH hSum;have HX:=qH (qA ht (qA ht0 (qA hr (qA hT (qA hT0 (qA hy (qA hsx (qA hux hyx))))))));have hmf:=@hmf_ Tryz.prog;clear N1 ht ht0 hr hT hT0 hy hF hG hP hSum hsx hux hyx;go_enter Tryz.func78,Tryz.ntmps78;go_upto_region 1 with fail;rw [<-hW1];clear hW1;go_wp2_with fail;refine HSum.out.mono ?_;rintro e w2 ⟨rfl,hb2⟩;have K2:=K1.below hb2;clear hb2 K1 HSum;go_wp2_with fail;refine (qcI u1 u2 w2).mono ?_;rintro e w3 ⟨rfl,hb3⟩;have K3:=K2.below hb3;clear hb3 K2;obtain⟨W4,hW4,N4⟩:=nw1 w3 #[.string u1,.string u2] 44;have K4:=(K3.below N4.out.1).also (q:=fun W=>W.heap[w3.heap.size]? = some (.cells #[.string u1,.string u2] 44 (0,0))) N4.out.2;clear K3 N4;go_upto_region 2 with fail;rw [<-hW4];clear hW4;have hl4:=(qG K4.out.2).1;have q0:=rowC (B:=W4.heap.size) K4.out.2 0;have q1:=rowC (B:=W4.heap.size) K4.out.2 1;refine wp_region_held_drew (S:=fun W=>Below W4.heap.size W4 W) (by kernel_rfl) qB.drew (fun hS0=>?_);refine hT 4 (h:=?_);obtain⟨o1,o2,ho⟩:=qb6 1;refine gr [(0,13),(1,14),(2,15),(3,16),(5,18),(6,19),(7,20),(8,21),(9,6)] [(1,[0]),(2,[0]),(3,[1,2]),(5,[3]),(6,[5]),(7,[5]),(8,[6,7])] [4] [0,1,2,3,5,6,7,8,9] [] 10 11
  (fl2 [(0,fun z _=>z=.tuple #[.agg #[.string o1,.string o2],.int .i64 0]),(1,fun z _=>z=.agg #[.string o1,.string o2]),(2,fun z _=>z=.int .i64 0),(3,fun z _=>z=.agg #[.string o1,.string o2]),(5,fun z _=>z=.tuple #[.agg #[.string y1,.string y2],.int .i64 0]),(6,fun z _=>z=.agg #[.string y1,.string y2]),(7,fun z _=>z=.int .i64 0),(8,fun z _=>z=.agg #[.string y1,.string y2]),(9,ZC W4.heap.size #[.string ⟨#[]⟩,.string ⟨#[]⟩] 44)]) _ 1
  (hS:=fun w' h=>qb1 h) (hstep:=⟨⟨_,rfl,fun v w4 hb hF K hK=>?_⟩,⟨_,rfl,fun v w4 hb hF K hK=>?_⟩,⟨_,rfl,fun v w4 hb hF K hK=>?_⟩,⟨_,rfl,fun v w4 hb hF K hK=>?_⟩,⟨_,rfl,fun v w4 hb hF K hK=>?_⟩,⟨_,rfl,fun v w4 hb hF K hK=>?_⟩,⟨_,rfl,fun v w4 hb hF K hK=>?_⟩,⟨_,rfl,fun v w4 hb hF K hK=>?_⟩,⟨_,rfl,fun v w4 hb hF K hK=>?_⟩,trivial⟩) (hend:=fun v w4 hb hF _ fu=>?_)
 ·have hOf:=of_int 1 1 (by decide) (by decide) (by decide) w4 (K4.out.1.2.2.2.below (qb1 hb));rw [show ((1:Int):Rat) / ((1:Int):Rat)=1 by decide +kernel,ho] at hOf;exact gC hK hOf (h:=fun e w5 ⟨h1,h2⟩=>⟨_,h1,rfl,h2⟩)
 ·have e0:v 0=_:=hF.1;rw [e0] at hK ⊢;exact gV hK rfl
 ·have e0:v 0=_:=hF.1;rw [e0] at hK ⊢;exact gV hK rfl
 ·have e1:v 1=_:=hF.1;have e2:v 2=_:=hF.2.1;rw [e1,e2] at hK ⊢;exact gC hK (qcI o1 o2 w4) (h:=fun e w5 ⟨h1,h2⟩=>⟨_,h1,rfl,h2⟩)
 ·have e3:v 3=_:=hF.1;rw [e3] at hK ⊢;have hD:=divq (p:=1) (q:=sumQ m t) qmY HX.out.2.2.2.1 HX.out.2.2.2.2.1 (by rw [Rat.one_mul];exact HX.out.2.2.2.2.2.1) w4 (K4.out.1.2.2.2.below (qb1 hb));rw [Rat.one_mul,ho,HX.out.2.2.2.2.2.2.2.1,HX.out.2.2.2.2.2.2.2.2] at hD;exact gC hK hD (h:=fun e w5 ⟨h1,h2⟩=>⟨_,h1,rfl,h2⟩)
 ·have e5:v 5=_:=hF.1;rw [e5] at hK ⊢;exact gV hK rfl
 ·have e5:v 5=_:=hF.1;rw [e5] at hK ⊢;exact gV hK rfl
 ·have e6:v 6=_:=hF.1;have e7:v 7=_:=hF.2.1;rw [e6,e7] at hK ⊢;exact gC hK (qcI y1 y2 w4) (h:=fun e w5 ⟨h1,h2⟩=>⟨_,h1,rfl,h2⟩)
 ·exact gW hK (h:=ZC.new (qb1 hb).size)
 have e8:v 8=.agg #[.string y1,.string y2]:=hF 8 (by decide) (by decide);obtain⟨g9,hg9,e9,hge⟩:∃g9,_:=hF 9 (by decide) (by decide);rw [e8,e9];refine hSt 10 2 hg9 (h:=⟨qS (qb1 hb) hge _,?_⟩);obtain⟨W5,hW5⟩:=qY (w4.setRow g9 #[.string y1,.string y2]);have hb5:Below W4.heap.size W4 W5:=hW5▸qS (qb1 hb) hge _;have K5:=(K4.below hb5).also (q:=fun W=>W.heap[g9]? = some (.cells #[.string y1,.string y2] 44 (0,0))) (hW5▸qT _ _ _ _ _ _ hg9);rw [<-hW5];clear K4 hW5 hb5 hb hF hg9 hge e8 e9 q0 q1 hl4;have hg:qk9 145 #[.pointer (some ⟨g9,0,none⟩)] W5 m (fun _ l=>l=[(y1,y2)]) (fun _ _=>False):=by
  intro i hi W hb;refine (qln _ g9 y1 y2 _ W (zkeep hb _ _ K5.out.2)).mono ?_;rintro e w' ⟨h1,g,h2,h3⟩;exact⟨h1,qan ⟨_,_,g,1,1,h2,rfl,h3,rfl⟩⟩
 have HG:=qH (qgJ 145 #[.pointer (some ⟨g9,0,none⟩)] m (by omega) _ _ W5 (fun a W=>enters Tryz.func145 (by kernel_rfl) (by kernel_rfl) _ W) hg);clear hg;go_wp2_with fail;refine HG.out.mono ?_;rintro e w6 ⟨hb6,h⟩;have K6:=K5.below hb6;clear hb6 K5 HG;rcases h with ⟨tb,g,h1,h2,rfl,h3,_⟩ | ⟨_,_,_,_,h⟩
 case inr=>exact h.elim
 have htab:tb=ttab m 1 fun _ _=>(sumQ m t)⁻¹:=qne h1 fun i hi=>by rw [h2 i hi,<-HX.out.2.2.2.2.2.2.2.2];rfl
 rw [htab] at h3;have HLe:=qH (least_at (c:=m) (c2:=c2) (c3:=c) hm1 (by omega) (by decide) (by decide) (fun i hi j hj=>HX.out.2.2.2.2.2.1) HX.out.2.2.1 HX.out.1 HX.out.2.1 h3 K6.out.1.1.2.2.1 K6.out.1.1.2.1 K6.out.1.1.2.2.2);clear h1 h2 h3 htab;go_wp2_with fail;refine HLe.out.mono ?_;rintro e w7 ⟨h,hb7⟩;have K7:=K6.below hb7;clear hb7 K6 HLe;have h:=comb_law HX.out.2.2.2.2.1 rfl h;rw [HX.out.2.2.2.2.2.2.1] at h;rcases h with ⟨hs,g,rfl,hF⟩ | ⟨hs,rfl⟩
 ·have HS:=qH hs;obtain⟨d0,d1⟩:=hF.cell 0 (by simp);have d0:w7.cell? ⟨g,0,none⟩=some (.string s1):=d0;have d1:w7.cell? ⟨g,1,none⟩=some (.string s2):=d1;clear hs hF;go_wp2_with fail;refine (qj3 (some ⟨g,0,none⟩) 1 1 w7).mono ?_;rintro e w8 ⟨rfl,hw⟩;subst hw;have Hrow:=qH K7.out.1.1.1.2;have HE:=qH (qA (qT _ _ _ #[.string s1,.string s2] _ _ Hrow.out) (qS K7.out.1.1.1.1 qN #[.string s1,.string s2]))
  go_wp2_with ((with_reducible refine sR_ rfl 44 _ _ rfl (w.heap.size) #[.string s1,.string s2] Hrow.out 2 ?_))
  exact qR (v:=.agg #[.string s1,.string s2]) (rA_ rfl (w.heap.size) HE.out.1 Tryz.underlying44 2) rfl ⟨HE.out.2,qan ⟨HS.out,rfl⟩⟩
 ·have HS:=qH hs;clear hs;go_wp2_with fail;refine (qgV none 0 0 6 (by decide) w7).mono ?_;rintro e w8 ⟨rfl,hw⟩;subst hw;unfold thrown;go_wp2_with fail;exact⟨rfl,K7.out.1.1.1.1,qah ⟨HS.out,rfl⟩⟩
theorem Cd.to12 {p:Rat} {D:Nat} (k:Nat) (hD:D*k=1000000000000) (h:Cd p D D):Cd p 1000000000000 1000000000000:=by
 have h1:D≠0:=fun e=>by rw [e,Nat.zero_mul] at hD;exact absurd hD (by decide)
 have h2:k≠0:=fun e=>by rw [e,Nat.mul_zero] at hD;exact absurd hD (by decide)
 have:=h.up k h1 h2;rw [hD] at this;exact this
theorem qjP {d:List Int} (h:qcO d) (k:Nat):0<=dq d k:=by
 have:=h.at k;unfold dq;rw [Rat.div_def];exact Rat.mul_nonneg (Rat.intCast_nonneg.2 this.1) (by decide +kernel)
theorem qgY {d:List Int} (h:qcO d):∀n,∀p∈prods d n,0<=p
 | 0,p,hp=>by
  have:p=1:=by simpa [prods] using hp
  rw [this];decide +kernel
 | n+1,p,hp=>by
  rcases qaN.1 hp with hp | hp
  ·exact qgY h n p hp
  ·obtain⟨q,hq,rfl⟩:=qbB.1 hp;exact Rat.mul_nonneg (qgY h n q hq) (qjP h n)
theorem qkj {kind:Nat} {d:List Int} (hk:kind=1\/kind=2\/kind=3) (hV:qcO d) (h3:kind=3->d.length<=3):∀p∈termL kind d,Cd p 1000000000000 1000000000000/\0<=p:=by
 have h1:Cd 1 1000000000000 1000000000000/\(0:Rat)<=1:=⟨⟨1000000000000,by decide +kernel,by decide⟩,by decide +kernel⟩;have hd:∀k,Cd (dq d k) 1000000000000 1000000000000/\0<=dq d k:=fun k=>⟨(dq_cd hV k).to12 100000000 (by decide),qjP hV k⟩
 have hs:∀k,Cd (dq d k*dq d k) 1000000000000 1000000000000/\0<=dq d k*dq d k:=fun k=>⟨((dq_cd hV k).mul (dq_cd hV k) (by decide) (by decide)).to12 10000 (by decide),Rat.mul_nonneg (qjP hV k) (qjP hV k)⟩
 have hlin:∀p∈lin d,Cd p 1000000000000 1000000000000/\0<=p:=fun p hp=>by
  unfold lin at hp;rcases qaP.1 hp with rfl | hp
  ·exact h1
  ·obtain⟨j,_,rfl⟩:=qbB.1 hp;exact hd j
 rcases hk with rfl | rfl | rfl
 ·exact hlin
 ·intro p hp;rw [qjB] at hp;rcases qaN.1 hp with hp | hp
  ·exact hlin p hp
  ·unfold sqs at hp;obtain⟨j,_,rfl⟩:=qbB.1 hp;exact hs j
 ·intro p hp;rw [qh8] at hp;refine⟨?_,qgY hV _ p hp⟩;have hc:=qfA (by decide) (dq_cd hV) d.length p hp;have:=h3 rfl;rcases (show d.length=0\/d.length=1\/d.length=2\/d.length=3 by omega) with e | e | e | e <;> rw [e] at hc
  ·exact hc.to12 1000000000000 (by decide)
  ·exact hc.to12 100000000 (by decide)
  ·exact hc.to12 10000 (by decide)
  ·exact hc.to12 1 (by decide)
theorem qfZ (d:List Int):∀n,(prods d n).getD 0 0=1
 | 0=>rfl
 | n+1=>by
  have h:0<(prods d n).length:=by
   have:=qfZ d n;rcases qaK (prods d n).length with e | e
   ·rw [qbu.1 e] at this;exact absurd this (by decide +kernel)
   ·exact e
  show (prods d n++_).getD 0 0=1
  rw [qaa,qaA h,<-qaa];exact qfZ d n
theorem qk3 {kind:Nat} {d:List Int} (hk:kind=1\/kind=2\/kind=3):termQ kind d 0=1:=by
 unfold termQ;rcases hk with rfl | rfl | rfl
 ·rfl
 ·rfl
 ·rw [qh8];exact qfZ d _
theorem qm4 {f:Nat->Rat}:∀{n:Nat},(∀i,i<n->0<=f i)->0<n->f 0<=sumQ n f
 | 1,h,_=>by show f 0<=0+f 0;rw [Rat.zero_add];exact Rat.le_refl
 | n+2,h,_=>by
  have ih:=qm4 (n:=n+1) (fun i hi=>h i (by omega)) (by omega);have:=h (n+1) (by omega)
  show f 0<=sumQ (n+1) f+f (n+1)
  grind
theorem qm9 {kind:Nat} {d:List Int} (hk:kind=1\/kind=2\/kind=3) (hV:qcO d) (h3:kind=3->d.length<=3) (h1:1<=many kind d.length) (h10:many kind d.length<=10) :
  sumQ (many kind d.length) (termQ kind d)≠0/\Short (sumQ (many kind d.length) (termQ kind d))/\Short (sumQ (many kind d.length) (termQ kind d))⁻¹:=by
 have hall:=fun j hj=>qkj hk hV h3 _ (qfJ (kind:=kind) (d:=d) (j:=j) hj)
 have hge:=qm4 (f:=termQ kind d) (fun i hi=>(hall i hi).2) h1;rw [qk3 hk] at hge;have hne:sumQ (many kind d.length) (termQ kind d)≠0:=fun e=>by rw [e] at hge;exact absurd hge (by decide +kernel)
 have hcd:=Cd.sum (n:=many kind d.length) (f:=termQ kind d) fun i hi=>(hall i hi).1
 have hcd:=hcd.mono (M:=10000000000000) (by omega);refine⟨hne,hcd.short (by decide) (by decide +kernel) (by decide +kernel),?_⟩;obtain⟨p,e,hp⟩:=hcd;have hp0:p≠0:=fun h0=>hne (by rw [e,h0,Rat.div_def];exact Rat.zero_mul _)
 refine qdd (N:=10000000000000) (qhC (p:=((1000000000000:Nat):Int)) (z:=p) hp0 (by decide) hp ?_) (by decide +kernel);have hpz:(p:Rat)≠0:=fun h=>hp0 (by exact_mod_cast h)
 have hD:((1000000000000:Nat):Rat)≠0:=qfV (by decide);rw [e,show (((1000000000000:Nat):Int):Rat)=((1000000000000:Nat):Rat) from rfl];generalize ((1000000000000:Nat):Rat)=D at hD
 grind
def ARow (W:World) (g:Nat) (l:List FT):Prop:=W.heap[g]? = some (.cells (fflat (l++List.replicate (3-l.length) fd0)).toArray 65 (0,0))/\l.length<=3
theorem ARow.below {W W':World} {g:Nat} {l:List FT} (h:ARow W g l) (hb:Below W.heap.size W W'):ARow W' g l:=⟨zkeep hb _ _ h.1,h.2⟩
theorem ARow.at {W:World} {g:Nat} {l:List FT} (h:ARow W g l) (hk:l.length<3):(W.cell? ⟨g,l.length*2,none⟩=some (.string ⟨#[]⟩)/\W.cell? ⟨g,l.length*2+1,none⟩=some (.string ⟨#[]⟩))/\∀j,W.frozen? ⟨g,j,none⟩=false:=by
 have h0:(l++List.replicate (3-l.length) fd0)[l.length]? = some fd0:=by
  rw [qas qN,qaI,qbc,if_pos (by omega)]
 obtain⟨h1,h2⟩:=qd0 _ _ _ h0;exact⟨⟨(qC _ _ _ _ _ _ h.1).trans ((qat ..).trans h1),(qC _ _ _ _ _ _ h.1).trans ((qat ..).trans h2)⟩,fun j=>qF _ _ _ _ _ h.1⟩
theorem ARow.set {W:World} {g:Nat} {l:List FT} (h:ARow W g l) (hk:l.length<3) (x:FT) :
  ARow ((W.setCell ⟨g,l.length*2,none⟩ (.string x.1)).setCell ⟨g,l.length*2+1,none⟩ (.string x.2)) g (l++[x]):=by
 refine⟨?_,by rw [qaf,qax];omega⟩;rw [heap_setCell_same _ g (l.length*2+1) _ _ _ (heap_setCell_same _ g (l.length*2) _ _ _ h.1)]
 congr 3
 obtain⟨m,hm⟩:∃m,3-l.length=m+1:=⟨3-l.length-1,by omega⟩;have e1:fflat (l++List.replicate (m+1) fd0)=fflat l++(.string fd0.1 :: .string fd0.2 :: fflat (List.replicate m fd0)):=by
  rw [qdj,qbo];rfl
 have e2:fflat (l++[x]++List.replicate m fd0)=fflat l++(.string x.1 :: .string x.2 :: fflat (List.replicate m fd0)):=by
  rw [qdj,qdj,qay];rfl
 rw [qaC,qaC,hm,qaf,qax,show 3-(l.length+1)=m by omega,e1,e2];rw [qbd _ _ (by rw [qck];exact qad _),qck,qaI,qbn,qbd _ _ (by rw [qck];omega),qck,show l.length*2+1-l.length*2=1 by omega]
 rfl
def apq (m:Md) (dv:List Int) (kk c:Nat):Rat:=sumQ (many kk dv.length) fun j=>termQ kk dv j*lval (m.row c) j
def ApG (m:Md) (dv:List Int) (v:Value):Prop:=qcO dv/\∃kk,MdOk m kk dv.length/\(∀c,c<3->Short (apq m dv kk c)) /\
 v=.agg #[.string (ftxt (apq m dv kk 0)).1,.string (ftxt (apq m dv kk 0)).2,.string (ftxt (apq m dv kk 1)).1,.string (ftxt (apq m dv kk 1)).2,.string (ftxt (apq m dv kk 2)).1,.string (ftxt (apq m dv kk 2)).2]
def ApF (m:Md) (dv:List Int) (e:Int):Prop:=(¬qdC m/\e=320)\/(qdC m/\¬((dv.length:Int)=m.inn/\qcO dv)/\e=2) \/
 (qcO dv/\e=6/\∃kk,MdOk m kk dv.length/\¬(∀c,c<3->Short (apq m dv kk c)))
theorem ap1_any (m:Md) (n mb db b off cd:Nat) (ao:Option Addr) (dv:List Int) (a:Nat->Option Addr) (b' o d:Nat->Nat) (ty:TypeId) (w:World) (hn:dv.length=n) (hl:n<=4611686018427387904) (hml:∀q,q<3->(m.row q).length<=4611686018427387904)
  (hdb:w.heap[db]? = some (.cells #[.slice ao n cd] ty (0,0))) (hmb:w.heap[mb]? = some (.cells #[.int .i64 m.kind,.int .i64 m.inn,.slice (a 0) (m.row 0).length (d 0),.slice (a 1) (m.row 1).length (d 1),.slice (a 2) (m.row 2).length (d 2)] 38 (0,0))) (hF:∀q,q<3->FCells w (a q) (b' q) (o q) (m.row q))
  (hN:NCells w ao b off dv) (hT:HasT w) :
  Calls Tryz.prog 76 #[.pointer (some ⟨mb,0,none⟩),.pointer (some ⟨db,0,none⟩)] w fun e w'=>Below w.heap.size w w' /\
   ((∃b0 b1 b2 b3 b4 b5:ByteArray,e=.returned (.agg #[.string b0,.string b1,.string b2,.string b3,.string b4,.string b5])/\ApG m dv (.agg #[.string b0,.string b1,.string b2,.string b3,.string b4,.string b5]))\/∃c,e=thrown c/\ApF m dv c):=by
 obtain⟨W1,hW1,N1⟩:=nw1 w #[.string ⟨#[]⟩,.string ⟨#[]⟩,.string ⟨#[]⟩,.string ⟨#[]⟩,.string ⟨#[]⟩,.string ⟨#[]⟩] 65;have hM:MdAt W1 (.agg #[.int .i64 m.kind,.int .i64 m.inn,.slice (a 0) (m.row 0).length (d 0),.slice (a 1) (m.row 1).length (d 1),.slice (a 2) (m.row 2).length (d 2)]) m :=
  ⟨_,_,_,_,_,_,_,_,_,_,_,_,rfl,(hF 0 (by decide)).below N1.out.1,(hF 1 (by decide)).below N1.out.1,(hF 2 (by decide)).below N1.out.1⟩
 have hCk:=qfS m _ W1 hM hml;obtain⟨kind,hkind⟩:∃z,m.kind=z:=⟨_,rfl⟩;obtain⟨inn,hinn⟩:∃z,m.inn=z:=⟨_,rfl⟩;obtain⟨L,hL⟩:∃L:Nat->Nat,∀q,(m.row q).length=L q:=⟨_,fun _=>rfl⟩;rw [hkind,hinn,hL,hL,hL] at hmb hCk;have HCk:=qH hCk;have K1:=N1.also (q:=fun W=>W.heap[mb]? = some (.cells #[.int .i64 kind,.int .i64 inn,.slice (a 0) (L 0) (d 0),.slice (a 1) (L 1) (d 1),.slice (a 2) (L 2) (d 2)] 38 (0,0))/\W.heap[db]? = some (.cells #[.slice ao n cd] ty (0,0))/\NCells W ao b off dv/\HasT W) ⟨zkeep N1.out.1 _ _ hmb,zkeep N1.out.1 _ _ hdb,hN.below N1.out.1,hT.below N1.out.1⟩;have c0:=qC _ _ 0 _ _ _ K1.out.2.1;have c1:=qC _ _ 1 _ _ _ K1.out.2.1;have c2:=qC _ _ 2 _ _ _ K1.out.2.1;have c3:=qC _ _ 3 _ _ _ K1.out.2.1;have c4:=qC _ _ 4 _ _ _ K1.out.2.1;have HX:=qH (qA hn (qA hl (qA hkind (qA hinn (qA hL hF)))));clear N1 hM hCk hmb hdb hF hN hT hn hl hml hkind hinn hL;go_enter Tryz.func76,Tryz.ntmps76;go_upto_region 1 with fail;rw [<-hW1];clear hW1;go_wp2_with fail;refine HCk.out.mono ?_;rintro e w2 ⟨cc,rfl,hcc,hb2⟩;have K2:=K1.below hb2;clear hb2 K1 HCk c0 c1 c2 c3 c4;rcases hcc with ⟨rfl,hok⟩ | ⟨rfl,hno⟩
 case inr =>
  have HN:=qH hno;clear hno;go_wp2_with fail;refine (qcg 320 (by decide) _).mono ?_;rintro e w3 ⟨rfl,rfl⟩;unfold thrown;go_wp2_with fail;exact⟨rfl,K2.out.1.1,qah ⟨320,rfl,qan ⟨HN.out,rfl⟩⟩⟩
 have HSd:=qH hok;clear hok;go_wp2_with fail;refine (qep _).mono ?_;rintro e w3 ⟨rfl,hw⟩;subst hw;have c0:=qC _ _ 0 _ _ _ K2.out.2.1;have c1:=qC _ _ 1 _ _ _ K2.out.2.1;have p0:=qC _ _ 0 _ _ _ K2.out.2.2.1;go_wp2_with fail;refine (qgc ao b off n cd dv inn w2 HX.out.1 HX.out.2.1 K2.out.2.2.2.1).mono ?_;rintro e w3 ⟨r,rfl,hr,hw⟩;subst hw;rcases hr with ⟨rfl,hr⟩ | ⟨rfl,hr⟩
 case inr =>
  have HN:=qH hr;clear hr;go_wp2_with fail;refine (qcg 2 (by decide) _).mono ?_;rintro e w3 ⟨rfl,rfl⟩;unfold thrown;go_wp2_with fail;exact⟨rfl,K2.out.1.1,qah ⟨2,rfl,qah (qan ⟨HSd.out,by rw [HX.out.1,HX.out.2.2.2.1];exact HN.out,rfl⟩)⟩⟩
 obtain⟨kk,hMd⟩:∃kk,MdOk m kk n:=by
  obtain⟨kk,n',h⟩:=HSd.out;have h1:=h.inn.1;have h2:=HX.out.2.2.2.1;have h3:=hr.1;obtain rfl:n'=n:=by omega
  exact⟨kk,h⟩
 have HM:=qH (qA hMd hr.2);clear hr hMd;go_wp2_with fail;refine (qep _).mono ?_;rintro e w3 ⟨rfl,hw⟩;subst hw;go_wp2_with fail;refine (qfK kind kk (by rw [<-HX.out.2.2.1];exact HM.out.1.kind) ao b off n cd dv w2 HX.out.1 HM.out.1.inn.2.1 HM.out.1.inn.2.2 (fun e=>by have h3:=HM.out.1.both;have h4:=HM.out.1.inn.2.2;omega) K2.out.2.2.2.1 HM.out.2 K2.out.2.2.2.2).mono ?_;rintro e w3 ⟨v,rfl,hv,hb3⟩;have K3:=K2.below hb3;obtain⟨ta,tg,tc,rfl,hTF,_⟩:=hv.cells (n:=many kk n) (by rw [qaw,qeF,HX.out.1]);clear hb3 hv c0 c1 p0 K2;have htt:(termL kk dv).map ftxt=told (many kk n) (termQ kk dv):=by
  rw [<-HX.out.1];exact (qf7 kk dv).symm
 rw [htt] at hTF;have HTF:=qH hTF;clear hTF htt;obtain⟨W4,hW4,N4⟩:=nw1 w3 #[.string ⟨#[]⟩,.string ⟨#[]⟩,.string ⟨#[]⟩,.string ⟨#[]⟩,.string ⟨#[]⟩,.string ⟨#[]⟩] 65;have har:ARow W4 w3.heap.size []:=⟨N4.out.2,by decide⟩;have H0:=qH (qA har N4.out.1);clear har N4;go_wp2_with fail;rw [<-hW4];clear hW4;obtain⟨M,hM⟩:=qY w3.heap.size;rw [<-hM] at H0 ⊢;have HMM:=qH hM;clear hM;have hkl:kk=1\/kk=2\/kk=3:=by have:=HM.out.1.kind.2;omega
 have hNb:=qjp HM.out.1.kind HM.out.1.inn.2.1 HM.out.1.inn.2.2 HM.out.1.both;have hTS:=qm9 (kind:=kk) (d:=dv) hkl HM.out.2 (fun e=>by rw [HX.out.1];have h3:=HM.out.1.both;have h4:=HM.out.1.inn.2.2;omega) (by rw [HX.out.1];exact hNb.1) (by rw [HX.out.1];exact hNb.2);rw [HX.out.1] at hTS;have HTS:=qH (qA hTS (qA hkl hNb));clear hTS hkl hNb
 go_loopw [18] (fun x18 W=>∃j:Nat,x18=.int .i64 j/\j<=3/\Hid (∃l:List FT,l.length=j/\(∀q,q<j->Short (apq m dv kk q)/\l.getD q fd0=ftxt (apq m dv kk q))/\ARow W M l/\Below w3.heap.size w3 W)) (fun x18 _=>3-(intOf x18).toNat)
 case atStart=>exact⟨0,rfl,qam _,qH ⟨[],rfl,fun q hq=>absurd hq (Nat.not_lt_zero _),H0.out.1,HMM.out▸H0.out.2⟩⟩
 case round =>
  obtain⟨j,rfl,hj,hI⟩:=hrel;obtain⟨l,hll,hlv,hA,hB⟩:=hI.out
  by_cases hj3:j<3
  ·have hji:(j:Int)<3:=by omega
   have K4:=K3.below hB;have hrw:=HM.out.1.rows j hj3;have hLj:L j=many kk n:=by rw [<-HX.out.2.2.2.2.1 j];exact hrw.1
   have d0:wr.cell? ⟨mb,2+j,none⟩=some (.slice (a j) (many kk n) (d j)):=by
    rw [<-hLj];rcases (show j=0\/j=1\/j=2 by omega) with rfl | rfl | rfl
    ·exact qC _ _ 2 _ _ _ K4.out.2.1
    ·exact qC _ _ 3 _ _ _ K4.out.2.1
    ·exact qC _ _ 4 _ _ _ K4.out.2.1
   have hFj:=((HX.out.2.2.2.2.2 j hj3).below (K4.out.1.1));have e:m.row j=told (many kk n) (lval (m.row j)):=by rw [<-hrw.1];exact hrw.2.eq_told
   rw [e] at hFj;have hsr:=hrw.2.short;rw [hrw.1] at hsr;obtain⟨aj,haj⟩:∃z,a j=z:=⟨_,rfl⟩;obtain⟨dj,hdj⟩:∃z,d j=z:=⟨_,rfl⟩;rw [haj,hdj] at d0;rw [haj] at hFj;have HC:=qH (qlG (many kk n) tg tc (b' j) (o j) dj ta aj (termQ kk dv) (lval (m.row j)) wr HTS.out.2.2.1 HTS.out.2.2.2
    (fun i hi=>qhe HTS.out.2.1 HM.out.2 (by rw [HX.out.1];exact HM.out.1.inn.2.2) (fun e=>by rw [HX.out.1];have h3:=HM.out.1.both;have h4:=HM.out.1.inn.2.2;omega) _ (qfJ (by rw [HX.out.1];exact hi)))
    (fun i hi=>(qkj HTS.out.2.1 HM.out.2 (fun e=>by rw [HX.out.1];have h3:=HM.out.1.both;have h4:=HM.out.1.inn.2.2;omega) _ (qfJ (by rw [HX.out.1];exact hi))).2)
    hsr HTS.out.1.2.1 HTS.out.1.1 HTS.out.1.2.2 (HTF.out.below hB) hFj K4.out.2.2.2.2)
   have hap:apq m dv kk j=sumQ (many kk n) fun q=>termQ kk dv q*lval (m.row j) q:=by unfold apq;rw [HX.out.1]
   rw [<-hap] at HC;have HI:=qH (qA hll (qA hlv (qA hA hB)));have HB0:=qH (K3.out.1.1.trans (hB.mono K3.out.1.1.size));clear hI hll hlv hA hB K4 hrw hLj hFj e hsr haj hdj hap;go_wp2_with fail;refine HC.out.mono ?_;rintro e w5 ⟨hb5,h⟩;have HB5:=qH hb5;clear hb5 HC;rcases h with ⟨hs,rfl⟩ | ⟨hs,rfl⟩
   ·obtain⟨y1,y2,hy⟩:=qb6 (apq m dv kk j);rw [hy];have hAc:=HI.out.2.2.1.below HB5.out;obtain⟨⟨z0,z1⟩,zf⟩:=hAc.at (by rw [HI.out.1];exact hj3);have hset:=hAc.set (by rw [HI.out.1];exact hj3) (y1,y2);rw [HI.out.1] at z0 z1 hset;have zf0:=zf (j*2);have zf1:=zf (j*2+1);have HN:=qH (qA hset (qA (((HI.out.2.2.2.trans (HB5.out.mono HI.out.2.2.2.size)).setCell (p:=⟨M,j*2,none⟩) (by rw [HMM.out];exact qad _) (.string y1)).setCell (p:=⟨M,j*2+1,none⟩) (by rw [HMM.out];exact qad _) (.string y2)) (qA hs hy)));clear hAc zf hset hs hy;go_wp2;go_roundw
    case rel =>
     refine⟨j+1,by go_num,hj3,qH ⟨l++[(y1,y2)],by simp [HI.out.1],fun q hq=>?_,HN.out.1,HN.out.2.1⟩⟩;rcases qaT q j with h | h
     ·rw [qaa,qaA (by rw [HI.out.1];exact h),<-qaa];exact HI.out.2.1 q h
     ·obtain rfl:q=j:=by omega
      rw [qaa,qas (by rw [HI.out.1];exact qad _),HI.out.1,qaI];exact⟨HN.out.2.2.1,HN.out.2.2.2.symm⟩
    case measure=>simp [intOf];omega
   ·have HS:=qH hs;clear hs;unfold thrown;go_wp2_with fail;exact⟨rfl,HB0.out.trans (HB5.out.mono HB0.out.size),qah ⟨6,rfl,qah (qah ⟨HM.out.2,rfl,kk,by rw [HX.out.1];exact HM.out.1,fun h=>HS.out (h j hj3)⟩)⟩⟩
  ·obtain rfl:j=3:=by omega
   obtain⟨p0,p1,p2,rfl⟩:∃p0 p1 p2,l=[p0,p1,p2]:=by
    rcases l with _ | ⟨s0,_ | ⟨s1,_ | ⟨s2,_ | ⟨s3,vs⟩⟩⟩⟩ <;> simp at hll
    exact⟨s0,s1,s2,rfl⟩
   have v0:=hlv 0 (by decide);have v1:=hlv 1 (by decide);have v2:=hlv 2 (by decide);obtain⟨x0,x1⟩:=p0;obtain⟨x2,x3⟩:=p1;obtain⟨x4,x5⟩:=p2;have hM:wr.heap[M]? = some (.cells #[.string x0,.string x1,.string x2,.string x3,.string x4,.string x5] 65 (0,0)):=hA.1;have y0:=qC _ _ 0 _ _ _ hM;have y1:=qC _ _ 1 _ _ _ hM;have y2:=qC _ _ 2 _ _ _ hM;have y3:=qC _ _ 3 _ _ _ hM;have y4:=qC _ _ 4 _ _ _ hM;have y5:=qC _ _ 5 _ _ _ hM;have K4:=K3.below hB;have HV:=qH (qA v0 (qA v1 v2));have Hr:=qH K4.out.1.2;have HE:=qH (qA (qT _ _ _ #[.string x0,.string x1,.string x2,.string x3,.string x4,.string x5] _ _ Hr.out) (qS K4.out.1.1 qN #[.string x0,.string x1,.string x2,.string x3,.string x4,.string x5]));clear hI hll hlv hA hB v0 v1 v2 hM K4
   go_wp2_with ((with_reducible refine sR_ rfl 65 _ _ rfl (w.heap.size) #[.string x0,.string x1,.string x2,.string x3,.string x4,.string x5] Hr.out 6 ?_))
   refine qR (v:=.agg #[.string x0,.string x1,.string x2,.string x3,.string x4,.string x5]) (rA_ rfl (w.heap.size) HE.out.1 Tryz.underlying65 6) rfl ?_;obtain⟨⟨g0,e0⟩,⟨g1,e1⟩,g2,e2⟩:=HV.out;have e0:(x0,x1)=_:=e0;have e1:(x2,x3)=_:=e1;have e2:(x4,x5)=_:=e2;refine⟨HE.out.2,qan ⟨x0,x1,x2,x3,x4,x5,rfl,HM.out.2,kk,by rw [HX.out.1];exact HM.out.1,fun q hq=>?_,?_⟩⟩
   ·rcases (show q=0\/q=1\/q=2 by omega) with rfl | rfl | rfl
    ·exact g0
    ·exact g1
    ·exact g2
   ·rw [<-e0,<-e1,<-e2]
def ApAs (w:World) (m:Md) (dv:List Int) (e:Ending) (w':World):Prop :=
 Below w.heap.size w w'/\((∃v,e=.returned (.tuple #[v,.int .i64 0])/\ApG m dv v)\/∃c,e=.returned (.tuple #[.agg #[.string ⟨#[]⟩,.string ⟨#[]⟩,.string ⟨#[]⟩,.string ⟨#[]⟩,.string ⟨#[]⟩,.string ⟨#[]⟩],.int .i64 c])/\ApF m dv c)
theorem qlf (m:Md) (v:Value) (n b off cd:Nat) (ao:Option Addr) (dv:List Int) (w:World) (hM:MdAt w v m) (hn:dv.length=n) (hl:n<=4611686018427387904) (hml:∀q,q<3->(m.row q).length<=4611686018427387904) (hN:NCells w ao b off dv) (hT:HasT w) :
  Calls Tryz.prog 22 #[v,.slice ao n cd] w fun e w'=>ApAs w m dv e w':=by
 obtain⟨a,b',o,d,rfl,hF⟩:=hM.parts;obtain⟨W3,hW3,K3⟩:=nw3 w #[.int .i64 m.kind,.int .i64 m.inn,.slice (a 0) (m.row 0).length (d 0),.slice (a 1) (m.row 1).length (d 1),.slice (a 2) (m.row 2).length (d 2)] 38 #[.slice ao n cd] 32 #[.string ⟨#[]⟩,.string ⟨#[]⟩,.string ⟨#[]⟩,.string ⟨#[]⟩,.string ⟨#[]⟩,.string ⟨#[]⟩] 65;have hmf:=@hmf_ Tryz.prog;have HG:=qH (qig 76 #[.pointer (some ⟨w.heap.size,0,none⟩),.pointer (some ⟨w.heap.size+1,0,none⟩)] (fun _ v=>ApG m dv v) (ApF m dv) W3 (fun W=>enters Tryz.func76 (by kernel_rfl) (by kernel_rfl) _ W)
  (fun W W' v h=>h)
  (fun w1 hb=>ap1_any m n w.heap.size (w.heap.size+1) b off cd ao dv a b' o d _ w1 hn hl hml (zkeep hb _ _ K3.out.2.2.1) (zkeep hb _ _ K3.out.2.1) (fun q hq=>(hF q hq).below (K3.out.1.trans (hb.mono K3.out.1.size))) (hN.below (K3.out.1.trans (hb.mono K3.out.1.size))) (hT.below (K3.out.1.trans (hb.mono K3.out.1.size)))))
 have HB:=qH (qA K3.out.1 K3.out.2.2.2);clear hM hn hl hml hN hT hF K3;go_enter Tryz.func22,Tryz.ntmps22;go_upto_region 1 with fail;rw [<-hW3];clear hW3;go_wp2_with fail;refine HG.out.mono ?_;rintro e w5 ⟨hb5,h⟩;have HB5:=qH (HB.out.1.trans (hb5.mono HB.out.1.size));have Hr:=qH (zkeep hb5 _ _ HB.out.2);clear hb5 HG;rcases h with ⟨b0,b1,b2,b3,b4,b5,rfl,hg⟩ | ⟨cc,rfl,hf⟩
 ·have HE:=qH (qA (qT _ _ _ #[.string b0,.string b1,.string b2,.string b3,.string b4,.string b5] _ _ Hr.out) (qA (qS HB5.out (show w.heap.size<=w.heap.size+1+1 by omega) #[.string b0,.string b1,.string b2,.string b3,.string b4,.string b5]) hg));clear hg;rename_i hK;dsimp only;refine hK _ _ ?_
  go_wp2_with ((with_reducible refine sR_ rfl 65 _ _ rfl ((w.heap.size+1+1)) #[.string b0,.string b1,.string b2,.string b3,.string b4,.string b5] Hr.out 6 ?_))
  exact qR (v:=.tuple #[.agg #[.string b0,.string b1,.string b2,.string b3,.string b4,.string b5],.int .i64 0]) (rB_ rfl (w.heap.size+1+1) HE.out.1 Tryz.underlying65 6) rfl ⟨HE.out.2.1,qan ⟨_,rfl,HE.out.2.2⟩⟩
 ·have HE:=qH (qA (qT _ _ _ #[.string ⟨#[]⟩,.string ⟨#[]⟩,.string ⟨#[]⟩,.string ⟨#[]⟩,.string ⟨#[]⟩,.string ⟨#[]⟩] _ _ Hr.out) (qA (qS HB5.out (show w.heap.size<=w.heap.size+1+1 by omega) #[.string ⟨#[]⟩,.string ⟨#[]⟩,.string ⟨#[]⟩,.string ⟨#[]⟩,.string ⟨#[]⟩,.string ⟨#[]⟩]) hf));clear hf;rename_i hK;dsimp only;refine hK _ _ ?_
  go_wp2_with ((with_reducible refine sR_ rfl 65 _ _ rfl ((w.heap.size+1+1)) #[.string ⟨#[]⟩,.string ⟨#[]⟩,.string ⟨#[]⟩,.string ⟨#[]⟩,.string ⟨#[]⟩,.string ⟨#[]⟩] Hr.out 6 ?_))
  exact qR (v:=.tuple #[.agg #[.string ⟨#[]⟩,.string ⟨#[]⟩,.string ⟨#[]⟩,.string ⟨#[]⟩,.string ⟨#[]⟩,.string ⟨#[]⟩],.int .i64 cc]) (rB_ rfl (w.heap.size+1+1) HE.out.1 Tryz.underlying65 6) rfl ⟨HE.out.2.1,qah ⟨cc,rfl,HE.out.2.2⟩⟩
