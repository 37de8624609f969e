import Derived.Deep.DeepCutAuto
import Derived.Test.YtjalhnlhcdfncaaGreatDoorBu2
set_option maxRecDepth 100000
set_option maxHeartbeats 0
namespace Go.Proofs.YtjalhnlhcdfncaaGreatDoor.whole
open Go.RowKit Go.Proofs.Tryz
theorem qnW (E:World) (B k:Nat) (H:Value) (S:List Nat) (v:Nat) (h:Hu (E.ownsRow B 201 1 H (k+1) (row32 S++[.int .u32 (v:Int)]))) (J:Dig (S++[v])) (O:k+1<=1099511627776) :
  Calls prog 257 #[H] E fun e U=>∃u,e=.returned u/\U=E/\MagAt E u (mval (S++[v])):=by
 have F:=h.o;rw [<-qdK] at F;have I:(S++[v]).length=k+1:=by have:=F.1;rw [qcy] at this;omega
 rcases F.2 with ⟨_,V⟩ | ⟨g,c,cur,rfl,Y,hg,G,Z,hs,ht⟩
 ·omega
 ·exact trim_mag _ g 0 c (k+1) (S++[v]) E I O G (qcQ F I) J
theorem qk3 (s:ByteArray) (hs:Nums s.data.toList) (h0:0<s.size) (ai:s.size<=274877906944) (w:World) :
  Calls prog 241 #[.string s] w fun e w'=>∃v,e=.returned v/\Below w.heap.size w w'/\MagAt w' v (dval s.data.toList):=by
 obtain⟨i0,hi,ay,az,aA⟩:=info_parts info32;have Hz:=qH (qA ay (qA az aA));have Hi:=qH hi;obtain⟨n,hn⟩:=qX s.size;obtain⟨L,hL⟩:=qX s.data.toList;have aH:L.length=n:=by rw [<-hL,<-hn];rfl
 have ag:∀k (h:k<s.size) (h':k<L.length),s[k]=L[k]:=fun k h h'=>by subst hL;rfl
 rw [hL] at hs ⊢;rw [hn] at h0 ai;have aC:=qH ag;have HL:=qH (qA hs (qA aH hn));clear ay az aA hi hs ag hL;go_enter func241,ntmps241;go_wp2
 go_step3
 go_wp2
 go_step3
 go_wp2
 go_loopw [3,4] (fun x3 x4 W=>∃(e k:Nat) (V:Value) (S:List Nat),0<e/\e<=n/\k<=n/\x4=.int .i64 e/\x3=V/\Hu (Dig S/\k+e<=n/\mval S+1000000000 ^ k*dval (L.take e)=dval L)/\Hu (W.ownsRow w.heap.size 201 1 V k (row32 S))/\Hu (Below w.heap.size w W)) (fun _ x4 _=>(intOf x4).toNat)
 case atStart=>exact⟨n,0,_,[],h0,qae _,qaj _,rfl,rfl,qH ⟨Dig.nil,by omega,by rw [qah (by rw [HL.o.2.1];exact qae _)];simp [mval]⟩,qH (World.ownsRow_nil _ _ _ _),qH qB⟩
 case round =>
  obtain⟨e,k,V,S,aJ,aK,hk,rfl,rfl,hI,hO,hB⟩:=hrel;have aQ:(e:Int)<=274877906944:=by omega
  go_upto_region 4 with fail
  go_cut [5] (fun x5 W=>∃G:Nat,x5=.int .i64 G/\W=wr/\Hu ((G=0/\e<=9)\/G+9=e))
  case first =>
   by_cases h9:e<=9
   ·have aG:(e:Int)-9<=0:=by omega
    go_wp2_with fail
    all_goals go_meet
    all_goals first
     | exact⟨0,rfl,rfl,qH (qax ⟨rfl,h9⟩)⟩
     | exact⟨0,by rw [show (e:Int)-9=0 by omega];rfl,rfl,qH (qax ⟨rfl,h9⟩)⟩
   ·have aG:¬(e:Int)-9<=0:=by omega
    go_wp2_with fail
    all_goals go_meet
    all_goals exact⟨e-9,by rw [show ((e-9:Nat):Int)=(e:Int)-9 by omega],rfl,qH (qam (by omega))⟩
  case rest =>
   obtain⟨G,rfl,rfl,aa⟩:=hcut;have U:G<=e/\e<=G+9:=by have:=aa.o;omega
   go_wp2_with fail
   go_loopw [6,7] (fun x6 x7 W=>∃i v:Nat,G<=i/\i<=e/\x7=.int .i64 i/\x6=.int .u32 v/\W=wc/\Hu (v<10 ^ (i-G)/\dval (L.take i)=dval (L.take G)*10 ^ (i-G)+v)) (fun _ x7 _=>e-(intOf x7).toNat)
   case atStart=>exact⟨G,0,qae _,U.1,rfl,rfl,rfl,qH ⟨by rw [qaM];decide,by rw [qaM];simp⟩⟩
   case round =>
    obtain⟨i,v,aV,aR,rfl,rfl,rfl,hv⟩:=hrel
    by_cases aj:i<e
    ·have aS:(i:Int)<e:=by omega
     have aT:(i:Int)<n:=by omega
     have Y:i<L.length:=by rw [HL.o.2.1];omega
     have ak:i<s.size:=by rw [HL.o.2.2];omega
     have hc:=HL.o.1 L[i] (qbM Y);have hd:=qiv L i Y;have af:=aC.o i ak Y;obtain⟨c,Z⟩:=qX (L[i].toNat);have aU:(s[i]'ak).toNat=c:=by rw [af,Z]
     rw [Z] at hc hd;have aW:v<100000000:=below8 hv.o.1 (by omega);obtain⟨d,ah⟩:=qX (c-48);obtain⟨v1,au⟩:=qX (v*10+d);have i1:(c:Int)-48=d:=by omega
     have i2:(v:Int)*10+d=v1:=by omega
     have aI:d<=9:=by omega
     have aD:Hu (v1<10 ^ (i+1-G)/\dval (L.take (i+1))=dval (L.take G)*10 ^ (i+1-G)+v1):=qH (by
      have h1:=qf3 hv.o (D:=dval (L.take (i+1))) (d:=d) (by rw [hd,ah]) aI
      rwa [au,show i-G+1=i+1-G by omega] at h1)
     clear Z hd af ah au;go_wp2;go_roundw
     case rel=>exact⟨i+1,v1,by omega,aj,by go_num,rfl,trivial,aD⟩
     case measure=>simp [intOf];omega
    ·obtain rfl:i=e:=by omega
     have ax:v<1000000000:=below9 hv.o.1 (by omega);have aF:=qH ax;have aP:=qH (qA U (qA aJ aK));clear aj ax;have J:Hu (Dig (S++[v])/\k+1+G<=n+9):=qH ⟨hI.o.1.snoc aF.o,by have:=hI.o.2.1;omega⟩;have ae:S.length=k:=by have:=hO.o.1;rw [qcy] at this;omega
     have O:Hu (mval (S++[v])+1000000000 ^ (k+1)*dval (L.take G)=dval L):=qH (qgv ae hI.o.2.2 hv.o.2 aa.o);clear ae
     by_cases aL:G=0
     ·subst aL
      go_wp2_with (first | (at_builtin;refine wpList_append_own _ rfl (.tmp 29) (.tmp 31) 265 rfl w.heap.size 201 i0 (.int .u32 0) 1 4 underlying265 Hi.o Hz.o.1 Hz.o.2.1 Hz.o.2.2 rfl (by decide) _ _ _ rfl (hO.o.alloc _) ⟨_,0,none⟩ 1 1 [.int .u32 (v:Int)] rfl rfl (qdC _ _ _) (one_cell _ _) (by unfold maxLen;omega) (by omega) (by have:=hB.o.size;simp only [qab];omega) ?_;intro v' w1 F E _;have I:=qH F;have H:=qH E;clear F E) | fail)
      have hR:=qnW _ _ _ _ _ _ I J.o.1 (by omega);rw [show mval (S++[v])=dval L by have:=O.o;have e:dval (L.take 0)=0:=rfl;rw [e,Nat.mul_zero,qbA] at this;exact this] at hR;have HR:=qH hR;clear hR;refine HR.o.mono ?_;rintro e w2 ⟨v2,rfl,rfl,av⟩;have aB:=qH av;clear av;go_wp2_with fail;rw [Exit.noGoto_ret];go_ret;exact⟨_,rfl,qcR hB.o qN H.o (fun j h=>(hO.o.lt j h).1),aB.o⟩
     ·have aM:((G:Int) == 0)=false:=by rw [beq_eq_false_iff_ne];omega
      have aN:G+9=i:=by have:=aa.o;omega
      have aO:(i:Int)-9=G:=by omega
      go_wp2_with (first | (at_builtin;refine wpList_append_own _ rfl (.tmp 29) (.tmp 31) 265 rfl w.heap.size 201 i0 (.int .u32 0) 1 4 underlying265 Hi.o Hz.o.1 Hz.o.2.1 Hz.o.2.2 rfl (by decide) _ _ _ rfl (hO.o.alloc _) ⟨_,0,none⟩ 1 1 [.int .u32 (v:Int)] rfl rfl (qdC _ _ _) (one_cell _ _) (by unfold maxLen;omega) (by omega) (by have:=hB.o.size;simp only [qab];omega) ?_;intro v' w1 F E _;have I:=qH F;have H:=qH E;clear F E) | fail)
      go_roundw
      case rel=>exact⟨G,k+1,_,S++[v],by omega,by omega,by have:=hI.o.2.1;omega,rfl,rfl,qH ⟨J.o.1,by have:=hI.o.2.1;omega,O.o⟩,qH (by rw [qdK];exact I.o),qH (qcR hB.o qN H.o (fun j h=>(hO.o.lt j h).1))⟩
      case measure=>simp [intOf];omega
end Go.Proofs.YtjalhnlhcdfncaaGreatDoor.whole
namespace Go.Proofs.YtjalhnlhcdfncaaGreatDoor
open Go.RowKit Go.Proofs.Tryz
theorem qiP (J:Pk) (E:World) (B k:Nat) (H:Value) (S:List Nat) (v:Nat) (h:Hu (E.ownsRow B 201 1 H (k+1) (row32 S++[.int .u32 (v:Int)]))) (O:Dig (S++[v])) (U:k+1<=1099511627776) :
  Calls prog (Pk.of J 238 216) #[H] E fun e V=>∃u,e=.returned u/\V=E/\MagAt E u (mval (S++[v])):=by
 have F:=h.o;rw [<-qdK] at F;have I:(S++[v]).length=k+1:=by have:=F.1;rw [qcy] at this;omega
 rcases F.2 with ⟨_,Y⟩ | ⟨g,c,cur,rfl,Z,hg,G,hm,hs,ht⟩
 ·omega
 ·exact (qdS J) _ g 0 c (k+1) (S++[v]) E I U G (qcQ F I) O
theorem qhZ (pk:Pk) (s:ByteArray) (hs:Nums s.data.toList) (h0:0<s.size) (ai:s.size<=274877906944) (w:World) :
  Calls prog (Pk.of pk 194 212) #[.string s] w fun e w'=>∃v,e=.returned v/\Below w.heap.size w w'/\MagAt w' v (dval s.data.toList):=by
 obtain⟨i0,hi,ay,az,aA⟩:=info_parts qcM;have Hz:=qH (qA ay (qA az aA));have Hi:=qH hi;obtain⟨n,hn⟩:=qX s.size;obtain⟨L,hL⟩:=qX s.data.toList;have aH:L.length=n:=by rw [<-hL,<-hn];rfl
 have ag:∀k (h:k<s.size) (h':k<L.length),s[k]=L[k]:=fun k h h'=>by subst hL;rfl
 rw [hL] at hs ⊢;rw [hn] at h0 ai;have aC:=qH ag;have HL:=qH (qA hs (qA aH hn));clear ay az aA hi hs ag hL;have z_trim_mag0:=qH (@qiP pk);cases pk <;> dsimp only [Pk.of] at * <;> (
 first | go_enter func194,ntmps194 | go_enter func212,ntmps212
 go_wp2
 go_step3
 go_wp2
 go_step3
 go_wp2
 go_loopw [3,4] (fun x3 x4 W=>∃(e k:Nat) (V:Value) (S:List Nat),0<e/\e<=n/\k<=n/\x4=.int .i64 e/\x3=V/\Hu (Dig S/\k+e<=n/\mval S+1000000000 ^ k*dval (L.take e)=dval L)/\Hu (W.ownsRow w.heap.size 201 1 V k (row32 S))/\Hu (Below w.heap.size w W)) (fun _ x4 _=>(intOf x4).toNat)
 case atStart=>exact⟨n,0,_,[],h0,qae _,qaj _,rfl,rfl,qH ⟨Dig.nil,by omega,by rw [qah (by rw [HL.o.2.1];exact qae _)];simp [mval]⟩,qH (World.ownsRow_nil _ _ _ _),qH qB⟩
 case round =>
  obtain⟨e,k,V,S,aJ,aK,hk,rfl,rfl,hI,hO,hB⟩:=hrel;have aQ:(e:Int)<=274877906944:=by omega
  go_upto_region 4 with fail
  go_cut [5] (fun x5 W=>∃G:Nat,x5=.int .i64 G/\W=wr/\Hu ((G=0/\e<=9)\/G+9=e))
  case first =>
   by_cases h9:e<=9
   ·have aG:(e:Int)-9<=0:=by omega
    go_wp2_with fail
    all_goals go_meet
    all_goals first
     | exact⟨0,rfl,rfl,qH (qax ⟨rfl,h9⟩)⟩
     | exact⟨0,by rw [show (e:Int)-9=0 by omega];rfl,rfl,qH (qax ⟨rfl,h9⟩)⟩
   ·have aG:¬(e:Int)-9<=0:=by omega
    go_wp2_with fail
    all_goals go_meet
    all_goals exact⟨e-9,by rw [show ((e-9:Nat):Int)=(e:Int)-9 by omega],rfl,qH (qam (by omega))⟩
  case rest =>
   obtain⟨G,rfl,rfl,aa⟩:=hcut;have U:G<=e/\e<=G+9:=by have:=aa.o;omega
   go_wp2_with fail
   go_loopw [6,7] (fun x6 x7 W=>∃i v:Nat,G<=i/\i<=e/\x7=.int .i64 i/\x6=.int .u32 v/\W=wc/\Hu (v<10 ^ (i-G)/\dval (L.take i)=dval (L.take G)*10 ^ (i-G)+v)) (fun _ x7 _=>e-(intOf x7).toNat)
   case atStart=>exact⟨G,0,qae _,U.1,rfl,rfl,rfl,qH ⟨by rw [qaM];decide,by rw [qaM];simp⟩⟩
   case round =>
    obtain⟨i,v,aV,aR,rfl,rfl,rfl,hv⟩:=hrel
    by_cases aj:i<e
    ·have aS:(i:Int)<e:=by omega
     have aT:(i:Int)<n:=by omega
     have Y:i<L.length:=by rw [HL.o.2.1];omega
     have ak:i<s.size:=by rw [HL.o.2.2];omega
     have hc:=HL.o.1 L[i] (qbM Y);have hd:=qiv L i Y;have af:=aC.o i ak Y;obtain⟨c,Z⟩:=qX (L[i].toNat);have aU:(s[i]'ak).toNat=c:=by rw [af,Z]
     rw [Z] at hc hd;have aW:v<100000000:=below8 hv.o.1 (by omega);obtain⟨d,ah⟩:=qX (c-48);obtain⟨v1,au⟩:=qX (v*10+d);have i1:(c:Int)-48=d:=by omega
     have i2:(v:Int)*10+d=v1:=by omega
     have aI:d<=9:=by omega
     have aD:Hu (v1<10 ^ (i+1-G)/\dval (L.take (i+1))=dval (L.take G)*10 ^ (i+1-G)+v1):=qH (by
      have h1:=qf3 hv.o (D:=dval (L.take (i+1))) (d:=d) (by rw [hd,ah]) aI
      rwa [au,show i-G+1=i+1-G by omega] at h1)
     clear Z hd af ah au;go_wp2;go_roundw
     case rel=>exact⟨i+1,v1,by omega,aj,by go_num,rfl,trivial,aD⟩
     case measure=>simp [intOf];omega
    ·obtain rfl:i=e:=by omega
     have ax:v<1000000000:=below9 hv.o.1 (by omega);have aF:=qH ax;have aP:=qH (qA U (qA aJ aK));clear aj ax;have J:Hu (Dig (S++[v])/\k+1+G<=n+9):=qH ⟨hI.o.1.snoc aF.o,by have:=hI.o.2.1;omega⟩;have ae:S.length=k:=by have:=hO.o.1;rw [qcy] at this;omega
     have O:Hu (mval (S++[v])+1000000000 ^ (k+1)*dval (L.take G)=dval L):=qH (qgv ae hI.o.2.2 hv.o.2 aa.o);clear ae
     by_cases aL:G=0
     ·subst aL
      go_wp2_with (first | (at_builtin;refine wpList_append_own _ rfl (.tmp 29) (.tmp 31) _ rfl w.heap.size 201 i0 (.int .u32 0) 1 4 (qdW (by decide)) Hi.o Hz.o.1 Hz.o.2.1 Hz.o.2.2 rfl (by decide) _ _ _ rfl (hO.o.alloc _) ⟨_,0,none⟩ 1 1 [.int .u32 (v:Int)] rfl rfl (qdC _ _ _) (one_cell _ _) (by unfold maxLen;omega) (by omega) (by have:=hB.o.size;simp only [qab];omega) ?_;intro v' w1 F E _;have I:=qH F;have H:=qH E;clear F E) | fail)
      have hR:=z_trim_mag0.o _ _ _ _ _ _ I J.o.1 (by omega);rw [show mval (S++[v])=dval L by have:=O.o;have e:dval (L.take 0)=0:=rfl;rw [e,Nat.mul_zero,qbA] at this;exact this] at hR;have HR:=qH hR;clear hR;refine HR.o.mono ?_;rintro e w2 ⟨v2,rfl,rfl,av⟩;have aB:=qH av;clear av;go_wp2_with fail;rw [Exit.noGoto_ret];go_ret;exact⟨_,rfl,qcR hB.o qN H.o (fun j h=>(hO.o.lt j h).1),aB.o⟩
     ·have aM:((G:Int) == 0)=false:=by rw [beq_eq_false_iff_ne];omega
      have aN:G+9=i:=by have:=aa.o;omega
      have aO:(i:Int)-9=G:=by omega
      go_wp2_with (first | (at_builtin;refine wpList_append_own _ rfl (.tmp 29) (.tmp 31) _ rfl w.heap.size 201 i0 (.int .u32 0) 1 4 (qdW (by decide)) Hi.o Hz.o.1 Hz.o.2.1 Hz.o.2.2 rfl (by decide) _ _ _ rfl (hO.o.alloc _) ⟨_,0,none⟩ 1 1 [.int .u32 (v:Int)] rfl rfl (qdC _ _ _) (one_cell _ _) (by unfold maxLen;omega) (by omega) (by have:=hB.o.size;simp only [qab];omega) ?_;intro v' w1 F E _;have I:=qH F;have H:=qH E;clear F E) | fail)
      go_roundw
      case rel=>exact⟨G,k+1,_,S++[v],by omega,by omega,by have:=hI.o.2.1;omega,rfl,rfl,qH ⟨J.o.1,by have:=hI.o.2.1;omega,O.o⟩,qH (by rw [qdK];exact I.o),qH (qcR hB.o qN H.o (fun j h=>(hO.o.lt j h).1))⟩
      case measure=>simp [intOf];omega)
