import Derived.Deep.DeepCutAuto
import Derived.Test.YtjalhnlhcdfncaaGreatDoorBo2
set_option maxRecDepth 100000
set_option maxHeartbeats 0
namespace Go.Proofs.YtjalhnlhcdfncaaGreatDoor.whole
open Go.RowKit Go.Proofs.Tryz
theorem qpg (E:World) (B k:Nat) (I:Value) (S:List Nat) (v:Nat) (h:Hu (E.ownsRow B 201 1 I (k+1) (row32 S++[.int .u32 (v:Int)]))) (O:Dig (S++[v])) (U:k+1<=1099511627776) :
  Calls prog 257 #[I] E fun e w'=>∃u,e=.returned u/\w'=E/\MagAt E u (mval (S++[v])):=by
 have F:=h.o;rw [<-qd3] at F;have J:(S++[v]).length=k+1:=by have:=F.1;rw [qcN] at this;omega
 rcases F.2 with ⟨_,V⟩ | ⟨g,c,cur,rfl,Y,hg,H,Z,hs,ht⟩
 ·omega
 ·exact trim_mag _ g 0 c (k+1) (S++[v]) E J U H (qcP F J) O
theorem ql5 (s:ByteArray) (hs:Nums s.data.toList) (h0:0<s.size) (aj:s.size<=274877906944) (w:World) :
  Calls prog 241 #[.string s] w fun e w'=>∃v,e=.returned v/\Below w.heap.size w w'/\MagAt w' v (dval s.data.toList):=by
 obtain⟨i0,hi,az,aA,aB⟩:=info_parts info32;have Hz:=qH (qA az (qA aA aB));have Hi:=qH hi;obtain⟨n,hn⟩:=qX s.size;obtain⟨L,hL⟩:=qX s.data.toList;have aI:L.length=n:=by rw [<-hL,<-hn];rfl
 have ah:∀k (h:k<s.size) (h':k<L.length),s[k]=L[k]:=fun k h h'=>by subst hL;rfl
 rw [hL] at hs ⊢;rw [hn] at h0 aj;have aD:=qH ah;have HL:=qH (qA hs (qA aI hn));clear az aA aB hi hs ah hL;go_enter func241,ntmps241;go_wp2
 go_step3
 go_wp2
 go_step3
 go_wp2
 go_loopw [3,4] (fun x3 x4 W=>∃(e k:Nat) (V:Value) (S:List Nat),0<e/\e<=n/\k<=n/\x4=.int .i64 e/\x3=V/\Hu (Dig S/\k+e<=n/\mval S+1000000000 ^ k*dval (L.take e)=dval L)/\Hu (W.ownsRow w.heap.size 201 1 V k (row32 S))/\Hu (Below w.heap.size w W)) (fun _ x4 _=>(intOf x4).toNat)
 case atStart=>exact⟨n,0,_,[],h0,qad _,qaj _,rfl,rfl,qH ⟨Dig.nil,by omega,by rw [qah (by rw [HL.o.2.1];exact qad _)];simp [mval]⟩,qH (World.ownsRow_nil _ _ _ _),qH qB⟩
 case round =>
  obtain⟨e,k,V,S,aK,aL,hk,rfl,rfl,hI,hO,hB⟩:=hrel;have aR:(e:Int)<=274877906944:=by omega
  go_upto_region 4 with fail
  go_cut [5] (fun x5 W=>∃H:Nat,x5=.int .i64 H/\W=wr/\Hu ((H=0/\e<=9)\/H+9=e))
  case first =>
   by_cases h9:e<=9
   ·have aH:(e:Int)-9<=0:=by omega
    go_wp2_with fail
    all_goals go_meet
    all_goals first
     | exact⟨0,rfl,rfl,qH (qaw ⟨rfl,h9⟩)⟩
     | exact⟨0,by rw [show (e:Int)-9=0 by omega];rfl,rfl,qH (qaw ⟨rfl,h9⟩)⟩
   ·have aH:¬(e:Int)-9<=0:=by omega
    go_wp2_with fail
    all_goals go_meet
    all_goals exact⟨e-9,by rw [show ((e-9:Nat):Int)=(e:Int)-9 by omega],rfl,qH (qam (by omega))⟩
  case rest =>
   obtain⟨H,rfl,rfl,ae⟩:=hcut;have Y:H<=e/\e<=H+9:=by have:=ae.o;omega
   go_wp2_with fail
   go_loopw [6,7] (fun x6 x7 W=>∃i v:Nat,H<=i/\i<=e/\x7=.int .i64 i/\x6=.int .u32 v/\W=wc/\Hu (v<10 ^ (i-H)/\dval (L.take i)=dval (L.take H)*10 ^ (i-H)+v)) (fun _ x7 _=>e-(intOf x7).toNat)
   case atStart=>exact⟨H,0,qad _,Y.1,rfl,rfl,rfl,qH ⟨by rw [qaJ];decide,by rw [qaJ];simp⟩⟩
   case round =>
    obtain⟨i,v,aW,aS,rfl,rfl,rfl,hv⟩:=hrel
    by_cases ak:i<e
    ·have aT:(i:Int)<e:=by omega
     have aU:(i:Int)<n:=by omega
     have Z:i<L.length:=by rw [HL.o.2.1];omega
     have au:i<s.size:=by rw [HL.o.2.2];omega
     have hc:=HL.o.1 L[i] (qbz Z);have hd:=qfO L i Z;have ag:=aD.o i au Z;obtain⟨c,aa⟩:=qX (L[i].toNat);have aV:(s[i]'au).toNat=c:=by rw [ag,aa]
     rw [aa] at hc hd;have aX:v<100000000:=below8 hv.o.1 (by omega);obtain⟨d,ai⟩:=qX (c-48);obtain⟨v1,av⟩:=qX (v*10+d);have i1:(c:Int)-48=d:=by omega
     have i2:(v:Int)*10+d=v1:=by omega
     have aJ:d<=9:=by omega
     have aF:Hu (v1<10 ^ (i+1-H)/\dval (L.take (i+1))=dval (L.take H)*10 ^ (i+1-H)+v1):=qH (by
      have h1:=qef hv.o (D:=dval (L.take (i+1))) (d:=d) (by rw [hd,ai]) aJ
      rwa [av,show i-H+1=i+1-H by omega] at h1)
     clear aa hd ag ai av;go_wp2;go_roundw
     case rel=>exact⟨i+1,v1,by omega,ak,by go_num,rfl,trivial,aF⟩
     case measure=>simp [intOf];omega
    ·obtain rfl:i=e:=by omega
     have ay:v<1000000000:=below9 hv.o.1 (by omega);have aG:=qH ay;have aQ:=qH (qA Y (qA aK aL));clear ak ay;have O:Hu (Dig (S++[v])/\k+1+H<=n+9):=qH ⟨hI.o.1.snoc aG.o,by have:=hI.o.2.1;omega⟩;have af:S.length=k:=by have:=hO.o.1;rw [qcN] at this;omega
     have U:Hu (mval (S++[v])+1000000000 ^ (k+1)*dval (L.take H)=dval L):=qH (qhc af hI.o.2.2 hv.o.2 ae.o);clear af
     by_cases aM:H=0
     ·subst aM
      go_wp2_with (first | (at_builtin;refine wpList_append_own _ rfl (.tmp 29) (.tmp 31) 265 rfl w.heap.size 201 i0 (.int .u32 0) 1 4 underlying265 Hi.o Hz.o.1 Hz.o.2.1 Hz.o.2.2 rfl (by decide) _ _ _ rfl (hO.o.alloc _) ⟨_,0,none⟩ 1 1 [.int .u32 (v:Int)] rfl rfl (qdT _ _ _) (one_cell _ _) (by unfold maxLen;omega) (by omega) (by have:=hB.o.size;simp only [qab];omega) ?_;intro v' w1 F E _;have J:=qH F;have I:=qH E;clear F E) | fail)
      have hR:=qpg _ _ _ _ _ _ J O.o.1 (by omega);rw [show mval (S++[v])=dval L by have:=U.o;have e:dval (L.take 0)=0:=rfl;rw [e,Nat.mul_zero,qbt] at this;exact this] at hR;have HR:=qH hR;clear hR;refine HR.o.mono ?_;rintro e w2 ⟨v2,rfl,rfl,ax⟩;have aC:=qH ax;clear ax;go_wp2_with fail;rw [Exit.noGoto_ret];go_ret;exact⟨_,rfl,qc2 hB.o qN I.o (fun j h=>(hO.o.lt j h).1),aC.o⟩
     ·have aN:((H:Int) == 0)=false:=by rw [beq_eq_false_iff_ne];omega
      have aO:H+9=i:=by have:=ae.o;omega
      have aP:(i:Int)-9=H:=by omega
      go_wp2_with (first | (at_builtin;refine wpList_append_own _ rfl (.tmp 29) (.tmp 31) 265 rfl w.heap.size 201 i0 (.int .u32 0) 1 4 underlying265 Hi.o Hz.o.1 Hz.o.2.1 Hz.o.2.2 rfl (by decide) _ _ _ rfl (hO.o.alloc _) ⟨_,0,none⟩ 1 1 [.int .u32 (v:Int)] rfl rfl (qdT _ _ _) (one_cell _ _) (by unfold maxLen;omega) (by omega) (by have:=hB.o.size;simp only [qab];omega) ?_;intro v' w1 F E _;have J:=qH F;have I:=qH E;clear F E) | fail)
      go_roundw
      case rel=>exact⟨H,k+1,_,S++[v],by omega,by omega,by have:=hI.o.2.1;omega,rfl,rfl,qH ⟨O.o.1,by have:=hI.o.2.1;omega,U.o⟩,qH (by rw [qd3];exact J.o),qH (qc2 hB.o qN I.o (fun j h=>(hO.o.lt j h).1))⟩
      case measure=>simp [intOf];omega
end Go.Proofs.YtjalhnlhcdfncaaGreatDoor.whole
namespace Go.Proofs.YtjalhnlhcdfncaaGreatDoor
open Go.RowKit Go.Proofs.Tryz
theorem qjB (O:Pk) (E:World) (B k:Nat) (I:Value) (S:List Nat) (v:Nat) (h:Hu (E.ownsRow B 201 1 I (k+1) (row32 S++[.int .u32 (v:Int)]))) (U:Dig (S++[v])) (V:k+1<=1099511627776) :
  Calls prog (Pk.of O 238 216) #[I] E fun e w'=>∃u,e=.returned u/\w'=E/\MagAt E u (mval (S++[v])):=by
 have F:=h.o;rw [<-qd3] at F;have J:(S++[v]).length=k+1:=by have:=F.1;rw [qcN] at this;omega
 rcases F.2 with ⟨_,Y⟩ | ⟨g,c,cur,rfl,Z,hg,H,hm,hs,ht⟩
 ·omega
 ·exact (qea O) _ g 0 c (k+1) (S++[v]) E J V H (qcP F J) U
theorem qiI (pk:Pk) (s:ByteArray) (hs:Nums s.data.toList) (h0:0<s.size) (aj:s.size<=274877906944) (w:World) :
  Calls prog (Pk.of pk 194 212) #[.string s] w fun e w'=>∃v,e=.returned v/\Below w.heap.size w w'/\MagAt w' v (dval s.data.toList):=by
 obtain⟨i0,hi,az,aA,aB⟩:=info_parts qcX;have Hz:=qH (qA az (qA aA aB));have Hi:=qH hi;obtain⟨n,hn⟩:=qX s.size;obtain⟨L,hL⟩:=qX s.data.toList;have aI:L.length=n:=by rw [<-hL,<-hn];rfl
 have ah:∀k (h:k<s.size) (h':k<L.length),s[k]=L[k]:=fun k h h'=>by subst hL;rfl
 rw [hL] at hs ⊢;rw [hn] at h0 aj;have aD:=qH ah;have HL:=qH (qA hs (qA aI hn));clear az aA aB hi hs ah hL;have z_trim_mag0:=qH (@qjB pk);cases pk <;> dsimp only [Pk.of] at * <;> (
 first | go_enter func194,ntmps194 | go_enter func212,ntmps212
 go_wp2
 go_step3
 go_wp2
 go_step3
 go_wp2
 go_loopw [3,4] (fun x3 x4 W=>∃(e k:Nat) (V:Value) (S:List Nat),0<e/\e<=n/\k<=n/\x4=.int .i64 e/\x3=V/\Hu (Dig S/\k+e<=n/\mval S+1000000000 ^ k*dval (L.take e)=dval L)/\Hu (W.ownsRow w.heap.size 201 1 V k (row32 S))/\Hu (Below w.heap.size w W)) (fun _ x4 _=>(intOf x4).toNat)
 case atStart=>exact⟨n,0,_,[],h0,qad _,qaj _,rfl,rfl,qH ⟨Dig.nil,by omega,by rw [qah (by rw [HL.o.2.1];exact qad _)];simp [mval]⟩,qH (World.ownsRow_nil _ _ _ _),qH qB⟩
 case round =>
  obtain⟨e,k,V,S,aK,aL,hk,rfl,rfl,hI,hO,hB⟩:=hrel;have aR:(e:Int)<=274877906944:=by omega
  go_upto_region 4 with fail
  go_cut [5] (fun x5 W=>∃H:Nat,x5=.int .i64 H/\W=wr/\Hu ((H=0/\e<=9)\/H+9=e))
  case first =>
   by_cases h9:e<=9
   ·have aH:(e:Int)-9<=0:=by omega
    go_wp2_with fail
    all_goals go_meet
    all_goals first
     | exact⟨0,rfl,rfl,qH (qaw ⟨rfl,h9⟩)⟩
     | exact⟨0,by rw [show (e:Int)-9=0 by omega];rfl,rfl,qH (qaw ⟨rfl,h9⟩)⟩
   ·have aH:¬(e:Int)-9<=0:=by omega
    go_wp2_with fail
    all_goals go_meet
    all_goals exact⟨e-9,by rw [show ((e-9:Nat):Int)=(e:Int)-9 by omega],rfl,qH (qam (by omega))⟩
  case rest =>
   obtain⟨H,rfl,rfl,ae⟩:=hcut;have Y:H<=e/\e<=H+9:=by have:=ae.o;omega
   go_wp2_with fail
   go_loopw [6,7] (fun x6 x7 W=>∃i v:Nat,H<=i/\i<=e/\x7=.int .i64 i/\x6=.int .u32 v/\W=wc/\Hu (v<10 ^ (i-H)/\dval (L.take i)=dval (L.take H)*10 ^ (i-H)+v)) (fun _ x7 _=>e-(intOf x7).toNat)
   case atStart=>exact⟨H,0,qad _,Y.1,rfl,rfl,rfl,qH ⟨by rw [qaJ];decide,by rw [qaJ];simp⟩⟩
   case round =>
    obtain⟨i,v,aW,aS,rfl,rfl,rfl,hv⟩:=hrel
    by_cases ak:i<e
    ·have aT:(i:Int)<e:=by omega
     have aU:(i:Int)<n:=by omega
     have Z:i<L.length:=by rw [HL.o.2.1];omega
     have au:i<s.size:=by rw [HL.o.2.2];omega
     have hc:=HL.o.1 L[i] (qbz Z);have hd:=qfO L i Z;have ag:=aD.o i au Z;obtain⟨c,aa⟩:=qX (L[i].toNat);have aV:(s[i]'au).toNat=c:=by rw [ag,aa]
     rw [aa] at hc hd;have aX:v<100000000:=below8 hv.o.1 (by omega);obtain⟨d,ai⟩:=qX (c-48);obtain⟨v1,av⟩:=qX (v*10+d);have i1:(c:Int)-48=d:=by omega
     have i2:(v:Int)*10+d=v1:=by omega
     have aJ:d<=9:=by omega
     have aF:Hu (v1<10 ^ (i+1-H)/\dval (L.take (i+1))=dval (L.take H)*10 ^ (i+1-H)+v1):=qH (by
      have h1:=qef hv.o (D:=dval (L.take (i+1))) (d:=d) (by rw [hd,ai]) aJ
      rwa [av,show i-H+1=i+1-H by omega] at h1)
     clear aa hd ag ai av;go_wp2;go_roundw
     case rel=>exact⟨i+1,v1,by omega,ak,by go_num,rfl,trivial,aF⟩
     case measure=>simp [intOf];omega
    ·obtain rfl:i=e:=by omega
     have ay:v<1000000000:=below9 hv.o.1 (by omega);have aG:=qH ay;have aQ:=qH (qA Y (qA aK aL));clear ak ay;have O:Hu (Dig (S++[v])/\k+1+H<=n+9):=qH ⟨hI.o.1.snoc aG.o,by have:=hI.o.2.1;omega⟩;have af:S.length=k:=by have:=hO.o.1;rw [qcN] at this;omega
     have U:Hu (mval (S++[v])+1000000000 ^ (k+1)*dval (L.take H)=dval L):=qH (qhc af hI.o.2.2 hv.o.2 ae.o);clear af
     by_cases aM:H=0
     ·subst aM
      go_wp2_with (first | (at_builtin;refine wpList_append_own _ rfl (.tmp 29) (.tmp 31) _ rfl w.heap.size 201 i0 (.int .u32 0) 1 4 (qej (by decide)) Hi.o Hz.o.1 Hz.o.2.1 Hz.o.2.2 rfl (by decide) _ _ _ rfl (hO.o.alloc _) ⟨_,0,none⟩ 1 1 [.int .u32 (v:Int)] rfl rfl (qdT _ _ _) (one_cell _ _) (by unfold maxLen;omega) (by omega) (by have:=hB.o.size;simp only [qab];omega) ?_;intro v' w1 F E _;have J:=qH F;have I:=qH E;clear F E) | fail)
      have hR:=z_trim_mag0.o _ _ _ _ _ _ J O.o.1 (by omega);rw [show mval (S++[v])=dval L by have:=U.o;have e:dval (L.take 0)=0:=rfl;rw [e,Nat.mul_zero,qbt] at this;exact this] at hR;have HR:=qH hR;clear hR;refine HR.o.mono ?_;rintro e w2 ⟨v2,rfl,rfl,ax⟩;have aC:=qH ax;clear ax;go_wp2_with fail;rw [Exit.noGoto_ret];go_ret;exact⟨_,rfl,qc2 hB.o qN I.o (fun j h=>(hO.o.lt j h).1),aC.o⟩
     ·have aN:((H:Int) == 0)=false:=by rw [beq_eq_false_iff_ne];omega
      have aO:H+9=i:=by have:=ae.o;omega
      have aP:(i:Int)-9=H:=by omega
      go_wp2_with (first | (at_builtin;refine wpList_append_own _ rfl (.tmp 29) (.tmp 31) _ rfl w.heap.size 201 i0 (.int .u32 0) 1 4 (qej (by decide)) Hi.o Hz.o.1 Hz.o.2.1 Hz.o.2.2 rfl (by decide) _ _ _ rfl (hO.o.alloc _) ⟨_,0,none⟩ 1 1 [.int .u32 (v:Int)] rfl rfl (qdT _ _ _) (one_cell _ _) (by unfold maxLen;omega) (by omega) (by have:=hB.o.size;simp only [qab];omega) ?_;intro v' w1 F E _;have J:=qH F;have I:=qH E;clear F E) | fail)
      go_roundw
      case rel=>exact⟨H,k+1,_,S++[v],by omega,by omega,by have:=hI.o.2.1;omega,rfl,rfl,qH ⟨O.o.1,by have:=hI.o.2.1;omega,U.o⟩,qH (by rw [qd3];exact J.o),qH (qc2 hB.o qN I.o (fun j h=>(hO.o.lt j h).1))⟩
      case measure=>simp [intOf];omega)
