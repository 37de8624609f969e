import Derived.Deep.DeepCutAuto
import Derived.Test.YtplkdeknjghobaaGreatDoorBe2
import Derived.Test.YtplkdeknjghobaaGreatDoorBe3
set_option maxRecDepth 100000
set_option maxHeartbeats 0
namespace Go.Proofs.YtplkdeknjghobaaGreatDoor.whole
open Go.RowKit
theorem qeG {W1:World} {B k:Nat} {V1:Value} {S:List Nat} {v:Nat} (h:Hid (W1.ownsRow B 232 1 V1 (k+1) (row32 S++[.int .u32 (v:Int)]))) (hd:Dig (S++[v])) (hk:k+1<=1099511627776) :
  Calls Tryz.prog 279 #[V1] W1 fun e w'=>∃u,e=.returned u/\w'=W1/\MagAt W1 u (mval (S++[v])):=by
 have h1:=h.out;rw [<-qc5] at h1;have hl:(S++[v]).length=k+1:=by have:=h1.1;rw [qcc] at this;omega
 rcases h1.2 with ⟨_,h2⟩ | ⟨g,c,cur,rfl,hb,hg,hnc,hm,hs,ht⟩
 ·omega
 ·exact qcR _ g 0 c (k+1) (S++[v]) W1 hl hk hnc (qcn h1 hl) hd
theorem qd3 (s:ByteArray) (hs:Nums s.data.toList) (h0:0<s.size) (hlen:s.size<=274877906944) (w:World) :
  Calls Tryz.prog 256 #[.string s] w fun e w'=>∃v,e=.returned v/\Below w.heap.size w w'/\MagAt w' v (dval s.data.toList):=by
 obtain⟨i0,hi,hz0,hz1,hz2⟩:=info_parts qdm;have Hz:=qH (qA hz0 (qA hz1 hz2));have Hi:=qH hi;obtain⟨n,hn⟩:=qX s.size;obtain⟨L,hL⟩:=qX s.data.toList;have hLn:L.length=n:=by rw [<-hL,<-hn];rfl
 have hat:∀k (h:k<s.size) (h':k<L.length),s[k]=L[k]:=fun k h h'=>by subst hL;rfl
 rw [hL] at hs ⊢;rw [hn] at h0 hlen;have Hat:=qH hat;have HL:=qH (qA hs (qA hLn hn));clear hz0 hz1 hz2 hi hs hat hL;go_enter Tryz.func256,Tryz.ntmps256;go_wp2
 go_step3
 go_wp2
 go_step3
 go_wp2
 go_loopw [3,4] (fun x3 x4 W=>∃(e k:Nat) (V:Value) (S:List Nat),0<e/\e<=n/\k<=n/\x4=.int .i64 e/\x3=V/\Hid (Dig S/\k+e<=n/\mval S+1000000000 ^ k*dval (L.take e)=dval L)/\Hid (W.ownsRow w.heap.size 232 1 V k (row32 S))/\Hid (Below w.heap.size w W)) (fun _ x4 _=>(intOf x4).toNat)
 case atStart=>exact⟨n,0,_,[],h0,qad _,qam _,rfl,rfl,qH ⟨Dig.nil,by omega,by rw [qak (by rw [HL.out.2.1];exact qad _)];simp [mval]⟩,qH (World.ownsRow_nil _ _ _ _),qH qB⟩
 case round =>
  obtain⟨e,k,V,S,he0,hen,hk,rfl,rfl,hI,hO,hB⟩:=hrel;have hei:(e:Int)<=274877906944:=by omega
  go_upto_region 4 with fail
  go_cut [5] (fun x5 W=>∃st:Nat,x5=.int .i64 st/\W=wr/\Hid ((st=0/\e<=9)\/st+9=e))
  case first =>
   by_cases h9:e<=9
   ·have h9i:(e:Int)-9<=0:=by omega
    go_wp2_with fail
    all_goals go_meet
    all_goals first
     | exact⟨0,rfl,rfl,qH (qan ⟨rfl,h9⟩)⟩
     | exact⟨0,by rw [show (e:Int)-9=0 by omega];rfl,rfl,qH (qan ⟨rfl,h9⟩)⟩
   ·have h9i:¬(e:Int)-9<=0:=by omega
    go_wp2_with fail
    all_goals go_meet
    all_goals exact⟨e-9,by rw [show ((e-9:Nat):Int)=(e:Int)-9 by omega],rfl,qH (qah (by omega))⟩
  case rest =>
   obtain⟨st,rfl,rfl,hst⟩:=hcut;have hst9:st<=e/\e<=st+9:=by have:=hst.out;omega
   go_wp2_with fail
   go_loopw [6,7] (fun x6 x7 W=>∃i v:Nat,st<=i/\i<=e/\x7=.int .i64 i/\x6=.int .u32 v/\W=wc/\Hid (v<10 ^ (i-st)/\dval (L.take i)=dval (L.take st)*10 ^ (i-st)+v)) (fun _ x7 _=>e-(intOf x7).toNat)
   case atStart=>exact⟨st,0,qad _,hst9.1,rfl,rfl,rfl,qH ⟨by rw [qaI];decide,by rw [qaI];simp⟩⟩
   case round =>
    obtain⟨i,v,hsi,hie,rfl,rfl,rfl,hv⟩:=hrel
    by_cases hlt:i<e
    ·have hii:(i:Int)<e:=by omega
     have hin:(i:Int)<n:=by omega
     have hLi:i<L.length:=by rw [HL.out.2.1];omega
     have hsz:i<s.size:=by rw [HL.out.2.2];omega
     have hc:=HL.out.1 L[i] (List.getElem_mem hLi);have hd:=qgG L i hLi;have hai:=Hat.out i hsz hLi;obtain⟨c,hcc⟩:=qX (L[i].toNat);have hsc:(s[i]'hsz).toNat=c:=by rw [hai,hcc]
     rw [hcc] at hc hd;have hv8:v<100000000:=qlh hv.out.1 (by omega);obtain⟨d,hdd⟩:=qX (c-48);obtain⟨v1,hv1⟩:=qX (v*10+d);have i1:(c:Int)-48=d:=by omega
     have i2:(v:Int)*10+d=v1:=by omega
     have hdl:d<=9:=by omega
     have Hv1:Hid (v1<10 ^ (i+1-st)/\dval (L.take (i+1))=dval (L.take st)*10 ^ (i+1-st)+v1):=qH (by
      have h1:=qew hv.out (D:=dval (L.take (i+1))) (d:=d) (by rw [hd,hdd]) hdl
      rwa [hv1,show i-st+1=i+1-st by omega] at h1)
     clear hcc hd hai hdd hv1;go_wp2;go_roundw
     case rel=>exact⟨i+1,v1,by omega,hlt,by go_num,rfl,trivial,Hv1⟩
     case measure=>simp [intOf];omega
    ·obtain rfl:i=e:=by omega
     have hv9:v<1000000000:=qli hv.out.1 (by omega);have Hv9:=qH hv9;have Hsi:=qH (qA hst9 (qA he0 hen));clear hlt hv9;have Hnew:Hid (Dig (S++[v])/\k+1+st<=n+9):=qH ⟨hI.out.1.snoc Hv9.out,by have:=hI.out.2.1;omega⟩;have hSl:S.length=k:=by have:=hO.out.1;rw [qcc] at this;omega
     have Hval:Hid (mval (S++[v])+1000000000 ^ (k+1)*dval (L.take st)=dval L):=qH (qe7 hSl hI.out.2.2 hv.out.2 hst.out);clear hSl
     by_cases hs0:st=0
     ·subst hs0
      go_wp2_with (first | (at_builtin;refine wpList_append_own _ rfl (.tmp 29) (.tmp 31) 284 rfl w.heap.size 232 i0 (.int .u32 0) 1 4 Tryz.underlying284 Hi.out Hz.out.1 Hz.out.2.1 Hz.out.2.2 rfl (by decide) _ _ _ rfl (hO.out.alloc _) ⟨_,0,none⟩ 1 1 [.int .u32 (v:Int)] rfl rfl (qcL _ _ _) (one_cell _ _) (by unfold maxLen;omega) (by omega) (by have:=hB.out.size;simp only [qab];omega) ?_;intro v' w1 hown1 hgrow1 _;have Hown1:=qH hown1;have Hgrow1:=qH hgrow1;clear hown1 hgrow1) | fail)
      have hR:=qeG Hown1 Hnew.out.1 (by omega);rw [show mval (S++[v])=dval L by have:=Hval.out;have e:dval (L.take 0)=0:=rfl;rw [e,Nat.mul_zero,qbh] at this;exact this] at hR;have HR:=qH hR;clear hR;refine HR.out.mono ?_;rintro e w2 ⟨v2,rfl,rfl,hv2⟩;have HV2:=qH hv2;clear hv2;go_wp2_with fail;rw [Exit.noGoto_ret];go_ret;exact⟨_,rfl,qch hB.out qN Hgrow1.out (fun j h=>(hO.out.lt j h).1),HV2.out⟩
     ·have hs0i:((st:Int) == 0)=false:=by rw [beq_eq_false_iff_ne];omega
      have hsi9:st+9=i:=by have:=hst.out;omega
      have hsub:(i:Int)-9=st:=by omega
      go_wp2_with (first | (at_builtin;refine wpList_append_own _ rfl (.tmp 29) (.tmp 31) 284 rfl w.heap.size 232 i0 (.int .u32 0) 1 4 Tryz.underlying284 Hi.out Hz.out.1 Hz.out.2.1 Hz.out.2.2 rfl (by decide) _ _ _ rfl (hO.out.alloc _) ⟨_,0,none⟩ 1 1 [.int .u32 (v:Int)] rfl rfl (qcL _ _ _) (one_cell _ _) (by unfold maxLen;omega) (by omega) (by have:=hB.out.size;simp only [qab];omega) ?_;intro v' w1 hown1 hgrow1 _;have Hown1:=qH hown1;have Hgrow1:=qH hgrow1;clear hown1 hgrow1) | fail)
      go_roundw
      case rel=>exact⟨st,k+1,_,S++[v],by omega,by omega,by have:=hI.out.2.1;omega,rfl,rfl,qH ⟨Hnew.out.1,by have:=hI.out.2.1;omega,Hval.out⟩,qH (by rw [qc5];exact Hown1.out),qH (qch hB.out qN Hgrow1.out (fun j h=>(hO.out.lt j h).1))⟩
      case measure=>simp [intOf];omega
end Go.Proofs.YtplkdeknjghobaaGreatDoor.whole
namespace Go.Proofs.YtplkdeknjghobaaGreatDoor.frac
open Go.RowKit
theorem qeG {W1:World} {B k:Nat} {V1:Value} {S:List Nat} {v:Nat} (h:Hid (W1.ownsRow B 232 1 V1 (k+1) (row32 S++[.int .u32 (v:Int)]))) (hd:Dig (S++[v])) (hk:k+1<=1099511627776) :
  Calls Tryz.prog 215 #[V1] W1 fun e w'=>∃u,e=.returned u/\w'=W1/\MagAt W1 u (mval (S++[v])):=by
 have h1:=h.out;rw [<-qc5] at h1;have hl:(S++[v]).length=k+1:=by have:=h1.1;rw [qcc] at this;omega
 rcases h1.2 with ⟨_,h2⟩ | ⟨g,c,cur,rfl,hb,hg,hnc,hm,hs,ht⟩
 ·omega
 ·exact qcR _ g 0 c (k+1) (S++[v]) W1 hl hk hnc (qcn h1 hl) hd
theorem qd3 (s:ByteArray) (hs:Nums s.data.toList) (h0:0<s.size) (hlen:s.size<=274877906944) (w:World) :
  Calls Tryz.prog 208 #[.string s] w fun e w'=>∃v,e=.returned v/\Below w.heap.size w w'/\MagAt w' v (dval s.data.toList):=by
 obtain⟨i0,hi,hz0,hz1,hz2⟩:=info_parts qdm;have Hz:=qH (qA hz0 (qA hz1 hz2));have Hi:=qH hi;obtain⟨n,hn⟩:=qX s.size;obtain⟨L,hL⟩:=qX s.data.toList;have hLn:L.length=n:=by rw [<-hL,<-hn];rfl
 have hat:∀k (h:k<s.size) (h':k<L.length),s[k]=L[k]:=fun k h h'=>by subst hL;rfl
 rw [hL] at hs ⊢;rw [hn] at h0 hlen;have Hat:=qH hat;have HL:=qH (qA hs (qA hLn hn));clear hz0 hz1 hz2 hi hs hat hL;go_enter Tryz.func208,Tryz.ntmps208;go_wp2
 go_step3
 go_wp2
 go_step3
 go_wp2
 go_loopw [3,4] (fun x3 x4 W=>∃(e k:Nat) (V:Value) (S:List Nat),0<e/\e<=n/\k<=n/\x4=.int .i64 e/\x3=V/\Hid (Dig S/\k+e<=n/\mval S+1000000000 ^ k*dval (L.take e)=dval L)/\Hid (W.ownsRow w.heap.size 232 1 V k (row32 S))/\Hid (Below w.heap.size w W)) (fun _ x4 _=>(intOf x4).toNat)
 case atStart=>exact⟨n,0,_,[],h0,qad _,qam _,rfl,rfl,qH ⟨Dig.nil,by omega,by rw [qak (by rw [HL.out.2.1];exact qad _)];simp [mval]⟩,qH (World.ownsRow_nil _ _ _ _),qH qB⟩
 case round =>
  obtain⟨e,k,V,S,he0,hen,hk,rfl,rfl,hI,hO,hB⟩:=hrel;have hei:(e:Int)<=274877906944:=by omega
  go_upto_region 4 with fail
  go_cut [5] (fun x5 W=>∃st:Nat,x5=.int .i64 st/\W=wr/\Hid ((st=0/\e<=9)\/st+9=e))
  case first =>
   by_cases h9:e<=9
   ·have h9i:(e:Int)-9<=0:=by omega
    go_wp2_with fail
    all_goals go_meet
    all_goals first
     | exact⟨0,rfl,rfl,qH (qan ⟨rfl,h9⟩)⟩
     | exact⟨0,by rw [show (e:Int)-9=0 by omega];rfl,rfl,qH (qan ⟨rfl,h9⟩)⟩
   ·have h9i:¬(e:Int)-9<=0:=by omega
    go_wp2_with fail
    all_goals go_meet
    all_goals exact⟨e-9,by rw [show ((e-9:Nat):Int)=(e:Int)-9 by omega],rfl,qH (qah (by omega))⟩
  case rest =>
   obtain⟨st,rfl,rfl,hst⟩:=hcut;have hst9:st<=e/\e<=st+9:=by have:=hst.out;omega
   go_wp2_with fail
   go_loopw [6,7] (fun x6 x7 W=>∃i v:Nat,st<=i/\i<=e/\x7=.int .i64 i/\x6=.int .u32 v/\W=wc/\Hid (v<10 ^ (i-st)/\dval (L.take i)=dval (L.take st)*10 ^ (i-st)+v)) (fun _ x7 _=>e-(intOf x7).toNat)
   case atStart=>exact⟨st,0,qad _,hst9.1,rfl,rfl,rfl,qH ⟨by rw [qaI];decide,by rw [qaI];simp⟩⟩
   case round =>
    obtain⟨i,v,hsi,hie,rfl,rfl,rfl,hv⟩:=hrel
    by_cases hlt:i<e
    ·have hii:(i:Int)<e:=by omega
     have hin:(i:Int)<n:=by omega
     have hLi:i<L.length:=by rw [HL.out.2.1];omega
     have hsz:i<s.size:=by rw [HL.out.2.2];omega
     have hc:=HL.out.1 L[i] (List.getElem_mem hLi);have hd:=qgG L i hLi;have hai:=Hat.out i hsz hLi;obtain⟨c,hcc⟩:=qX (L[i].toNat);have hsc:(s[i]'hsz).toNat=c:=by rw [hai,hcc]
     rw [hcc] at hc hd;have hv8:v<100000000:=qlh hv.out.1 (by omega);obtain⟨d,hdd⟩:=qX (c-48);obtain⟨v1,hv1⟩:=qX (v*10+d);have i1:(c:Int)-48=d:=by omega
     have i2:(v:Int)*10+d=v1:=by omega
     have hdl:d<=9:=by omega
     have Hv1:Hid (v1<10 ^ (i+1-st)/\dval (L.take (i+1))=dval (L.take st)*10 ^ (i+1-st)+v1):=qH (by
      have h1:=qew hv.out (D:=dval (L.take (i+1))) (d:=d) (by rw [hd,hdd]) hdl
      rwa [hv1,show i-st+1=i+1-st by omega] at h1)
     clear hcc hd hai hdd hv1;go_wp2;go_roundw
     case rel=>exact⟨i+1,v1,by omega,hlt,by go_num,rfl,trivial,Hv1⟩
     case measure=>simp [intOf];omega
    ·obtain rfl:i=e:=by omega
     have hv9:v<1000000000:=qli hv.out.1 (by omega);have Hv9:=qH hv9;have Hsi:=qH (qA hst9 (qA he0 hen));clear hlt hv9;have Hnew:Hid (Dig (S++[v])/\k+1+st<=n+9):=qH ⟨hI.out.1.snoc Hv9.out,by have:=hI.out.2.1;omega⟩;have hSl:S.length=k:=by have:=hO.out.1;rw [qcc] at this;omega
     have Hval:Hid (mval (S++[v])+1000000000 ^ (k+1)*dval (L.take st)=dval L):=qH (qe7 hSl hI.out.2.2 hv.out.2 hst.out);clear hSl
     by_cases hs0:st=0
     ·subst hs0
      go_wp2_with (first | (at_builtin;refine wpList_append_own _ rfl (.tmp 29) (.tmp 31) 134 rfl w.heap.size 232 i0 (.int .u32 0) 1 4 Tryz.underlying134 Hi.out Hz.out.1 Hz.out.2.1 Hz.out.2.2 rfl (by decide) _ _ _ rfl (hO.out.alloc _) ⟨_,0,none⟩ 1 1 [.int .u32 (v:Int)] rfl rfl (qcL _ _ _) (one_cell _ _) (by unfold maxLen;omega) (by omega) (by have:=hB.out.size;simp only [qab];omega) ?_;intro v' w1 hown1 hgrow1 _;have Hown1:=qH hown1;have Hgrow1:=qH hgrow1;clear hown1 hgrow1) | fail)
      have hR:=qeG Hown1 Hnew.out.1 (by omega);rw [show mval (S++[v])=dval L by have:=Hval.out;have e:dval (L.take 0)=0:=rfl;rw [e,Nat.mul_zero,qbh] at this;exact this] at hR;have HR:=qH hR;clear hR;refine HR.out.mono ?_;rintro e w2 ⟨v2,rfl,rfl,hv2⟩;have HV2:=qH hv2;clear hv2;go_wp2_with fail;rw [Exit.noGoto_ret];go_ret;exact⟨_,rfl,qch hB.out qN Hgrow1.out (fun j h=>(hO.out.lt j h).1),HV2.out⟩
     ·have hs0i:((st:Int) == 0)=false:=by rw [beq_eq_false_iff_ne];omega
      have hsi9:st+9=i:=by have:=hst.out;omega
      have hsub:(i:Int)-9=st:=by omega
      go_wp2_with (first | (at_builtin;refine wpList_append_own _ rfl (.tmp 29) (.tmp 31) 134 rfl w.heap.size 232 i0 (.int .u32 0) 1 4 Tryz.underlying134 Hi.out Hz.out.1 Hz.out.2.1 Hz.out.2.2 rfl (by decide) _ _ _ rfl (hO.out.alloc _) ⟨_,0,none⟩ 1 1 [.int .u32 (v:Int)] rfl rfl (qcL _ _ _) (one_cell _ _) (by unfold maxLen;omega) (by omega) (by have:=hB.out.size;simp only [qab];omega) ?_;intro v' w1 hown1 hgrow1 _;have Hown1:=qH hown1;have Hgrow1:=qH hgrow1;clear hown1 hgrow1) | fail)
      go_roundw
      case rel=>exact⟨st,k+1,_,S++[v],by omega,by omega,by have:=hI.out.2.1;omega,rfl,rfl,qH ⟨Hnew.out.1,by have:=hI.out.2.1;omega,Hval.out⟩,qH (by rw [qc5];exact Hown1.out),qH (qch hB.out qN Hgrow1.out (fun j h=>(hO.out.lt j h).1))⟩
      case measure=>simp [intOf];omega
end Go.Proofs.YtplkdeknjghobaaGreatDoor.frac
namespace Go.Proofs.YtplkdeknjghobaaGreatDoor.least
open Go.RowKit
theorem qeG {W1:World} {B k:Nat} {V1:Value} {S:List Nat} {v:Nat} (h:Hid (W1.ownsRow B 232 1 V1 (k+1) (row32 S++[.int .u32 (v:Int)]))) (hd:Dig (S++[v])) (hk:k+1<=1099511627776) :
  Calls Tryz.prog 232 #[V1] W1 fun e w'=>∃u,e=.returned u/\w'=W1/\MagAt W1 u (mval (S++[v])):=by
 have h1:=h.out;rw [<-qc5] at h1;have hl:(S++[v]).length=k+1:=by have:=h1.1;rw [qcc] at this;omega
 rcases h1.2 with ⟨_,h2⟩ | ⟨g,c,cur,rfl,hb,hg,hnc,hm,hs,ht⟩
 ·omega
 ·exact qcR _ g 0 c (k+1) (S++[v]) W1 hl hk hnc (qcn h1 hl) hd
theorem qd3 (s:ByteArray) (hs:Nums s.data.toList) (h0:0<s.size) (hlen:s.size<=274877906944) (w:World) :
  Calls Tryz.prog 228 #[.string s] w fun e w'=>∃v,e=.returned v/\Below w.heap.size w w'/\MagAt w' v (dval s.data.toList):=by
 obtain⟨i0,hi,hz0,hz1,hz2⟩:=info_parts qdm;have Hz:=qH (qA hz0 (qA hz1 hz2));have Hi:=qH hi;obtain⟨n,hn⟩:=qX s.size;obtain⟨L,hL⟩:=qX s.data.toList;have hLn:L.length=n:=by rw [<-hL,<-hn];rfl
 have hat:∀k (h:k<s.size) (h':k<L.length),s[k]=L[k]:=fun k h h'=>by subst hL;rfl
 rw [hL] at hs ⊢;rw [hn] at h0 hlen;have Hat:=qH hat;have HL:=qH (qA hs (qA hLn hn));clear hz0 hz1 hz2 hi hs hat hL;go_enter Tryz.func228,Tryz.ntmps228;go_wp2
 go_step3
 go_wp2
 go_step3
 go_wp2
 go_loopw [3,4] (fun x3 x4 W=>∃(e k:Nat) (V:Value) (S:List Nat),0<e/\e<=n/\k<=n/\x4=.int .i64 e/\x3=V/\Hid (Dig S/\k+e<=n/\mval S+1000000000 ^ k*dval (L.take e)=dval L)/\Hid (W.ownsRow w.heap.size 232 1 V k (row32 S))/\Hid (Below w.heap.size w W)) (fun _ x4 _=>(intOf x4).toNat)
 case atStart=>exact⟨n,0,_,[],h0,qad _,qam _,rfl,rfl,qH ⟨Dig.nil,by omega,by rw [qak (by rw [HL.out.2.1];exact qad _)];simp [mval]⟩,qH (World.ownsRow_nil _ _ _ _),qH qB⟩
 case round =>
  obtain⟨e,k,V,S,he0,hen,hk,rfl,rfl,hI,hO,hB⟩:=hrel;have hei:(e:Int)<=274877906944:=by omega
  go_upto_region 4 with fail
  go_cut [5] (fun x5 W=>∃st:Nat,x5=.int .i64 st/\W=wr/\Hid ((st=0/\e<=9)\/st+9=e))
  case first =>
   by_cases h9:e<=9
   ·have h9i:(e:Int)-9<=0:=by omega
    go_wp2_with fail
    all_goals go_meet
    all_goals first
     | exact⟨0,rfl,rfl,qH (qan ⟨rfl,h9⟩)⟩
     | exact⟨0,by rw [show (e:Int)-9=0 by omega];rfl,rfl,qH (qan ⟨rfl,h9⟩)⟩
   ·have h9i:¬(e:Int)-9<=0:=by omega
    go_wp2_with fail
    all_goals go_meet
    all_goals exact⟨e-9,by rw [show ((e-9:Nat):Int)=(e:Int)-9 by omega],rfl,qH (qah (by omega))⟩
  case rest =>
   obtain⟨st,rfl,rfl,hst⟩:=hcut;have hst9:st<=e/\e<=st+9:=by have:=hst.out;omega
   go_wp2_with fail
   go_loopw [6,7] (fun x6 x7 W=>∃i v:Nat,st<=i/\i<=e/\x7=.int .i64 i/\x6=.int .u32 v/\W=wc/\Hid (v<10 ^ (i-st)/\dval (L.take i)=dval (L.take st)*10 ^ (i-st)+v)) (fun _ x7 _=>e-(intOf x7).toNat)
   case atStart=>exact⟨st,0,qad _,hst9.1,rfl,rfl,rfl,qH ⟨by rw [qaI];decide,by rw [qaI];simp⟩⟩
   case round =>
    obtain⟨i,v,hsi,hie,rfl,rfl,rfl,hv⟩:=hrel
    by_cases hlt:i<e
    ·have hii:(i:Int)<e:=by omega
     have hin:(i:Int)<n:=by omega
     have hLi:i<L.length:=by rw [HL.out.2.1];omega
     have hsz:i<s.size:=by rw [HL.out.2.2];omega
     have hc:=HL.out.1 L[i] (List.getElem_mem hLi);have hd:=qgG L i hLi;have hai:=Hat.out i hsz hLi;obtain⟨c,hcc⟩:=qX (L[i].toNat);have hsc:(s[i]'hsz).toNat=c:=by rw [hai,hcc]
     rw [hcc] at hc hd;have hv8:v<100000000:=qlh hv.out.1 (by omega);obtain⟨d,hdd⟩:=qX (c-48);obtain⟨v1,hv1⟩:=qX (v*10+d);have i1:(c:Int)-48=d:=by omega
     have i2:(v:Int)*10+d=v1:=by omega
     have hdl:d<=9:=by omega
     have Hv1:Hid (v1<10 ^ (i+1-st)/\dval (L.take (i+1))=dval (L.take st)*10 ^ (i+1-st)+v1):=qH (by
      have h1:=qew hv.out (D:=dval (L.take (i+1))) (d:=d) (by rw [hd,hdd]) hdl
      rwa [hv1,show i-st+1=i+1-st by omega] at h1)
     clear hcc hd hai hdd hv1;go_wp2;go_roundw
     case rel=>exact⟨i+1,v1,by omega,hlt,by go_num,rfl,trivial,Hv1⟩
     case measure=>simp [intOf];omega
    ·obtain rfl:i=e:=by omega
     have hv9:v<1000000000:=qli hv.out.1 (by omega);have Hv9:=qH hv9;have Hsi:=qH (qA hst9 (qA he0 hen));clear hlt hv9;have Hnew:Hid (Dig (S++[v])/\k+1+st<=n+9):=qH ⟨hI.out.1.snoc Hv9.out,by have:=hI.out.2.1;omega⟩;have hSl:S.length=k:=by have:=hO.out.1;rw [qcc] at this;omega
     have Hval:Hid (mval (S++[v])+1000000000 ^ (k+1)*dval (L.take st)=dval L):=qH (qe7 hSl hI.out.2.2 hv.out.2 hst.out);clear hSl
     by_cases hs0:st=0
     ·subst hs0
      go_wp2_with (first | (at_builtin;refine wpList_append_own _ rfl (.tmp 29) (.tmp 31) 238 rfl w.heap.size 232 i0 (.int .u32 0) 1 4 Tryz.underlying238 Hi.out Hz.out.1 Hz.out.2.1 Hz.out.2.2 rfl (by decide) _ _ _ rfl (hO.out.alloc _) ⟨_,0,none⟩ 1 1 [.int .u32 (v:Int)] rfl rfl (qcL _ _ _) (one_cell _ _) (by unfold maxLen;omega) (by omega) (by have:=hB.out.size;simp only [qab];omega) ?_;intro v' w1 hown1 hgrow1 _;have Hown1:=qH hown1;have Hgrow1:=qH hgrow1;clear hown1 hgrow1) | fail)
      have hR:=qeG Hown1 Hnew.out.1 (by omega);rw [show mval (S++[v])=dval L by have:=Hval.out;have e:dval (L.take 0)=0:=rfl;rw [e,Nat.mul_zero,qbh] at this;exact this] at hR;have HR:=qH hR;clear hR;refine HR.out.mono ?_;rintro e w2 ⟨v2,rfl,rfl,hv2⟩;have HV2:=qH hv2;clear hv2;go_wp2_with fail;rw [Exit.noGoto_ret];go_ret;exact⟨_,rfl,qch hB.out qN Hgrow1.out (fun j h=>(hO.out.lt j h).1),HV2.out⟩
     ·have hs0i:((st:Int) == 0)=false:=by rw [beq_eq_false_iff_ne];omega
      have hsi9:st+9=i:=by have:=hst.out;omega
      have hsub:(i:Int)-9=st:=by omega
      go_wp2_with (first | (at_builtin;refine wpList_append_own _ rfl (.tmp 29) (.tmp 31) 238 rfl w.heap.size 232 i0 (.int .u32 0) 1 4 Tryz.underlying238 Hi.out Hz.out.1 Hz.out.2.1 Hz.out.2.2 rfl (by decide) _ _ _ rfl (hO.out.alloc _) ⟨_,0,none⟩ 1 1 [.int .u32 (v:Int)] rfl rfl (qcL _ _ _) (one_cell _ _) (by unfold maxLen;omega) (by omega) (by have:=hB.out.size;simp only [qab];omega) ?_;intro v' w1 hown1 hgrow1 _;have Hown1:=qH hown1;have Hgrow1:=qH hgrow1;clear hown1 hgrow1) | fail)
      go_roundw
      case rel=>exact⟨st,k+1,_,S++[v],by omega,by omega,by have:=hI.out.2.1;omega,rfl,rfl,qH ⟨Hnew.out.1,by have:=hI.out.2.1;omega,Hval.out⟩,qH (by rw [qc5];exact Hown1.out),qH (qch hB.out qN Hgrow1.out (fun j h=>(hO.out.lt j h).1))⟩
      case measure=>simp [intOf];omega
