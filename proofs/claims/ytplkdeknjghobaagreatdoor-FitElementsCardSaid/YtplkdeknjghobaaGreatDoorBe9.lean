import Derived.Deep.DeepCutAuto
import Derived.Test.YtplkdeknjghobaaGreatDoorBe8
set_option maxRecDepth 100000
set_option maxHeartbeats 0
namespace Go.Proofs.YtplkdeknjghobaaGreatDoor.frac
open Go.RowKit
theorem qgy (x y K:Nat) (hK:K<=274877906944) (vm vo:Value) (w:World) (hm:MagAt w vm x) (ho:MagAt w vo y) (hx:Fit x K) (hy:Fit y K) :
  Calls Tryz.prog 200 #[vm,vo] w fun e w'=>∃v,e=.returned v/\Below w.heap.size w w'/\MagAt w' v (x+y):=by
 obtain⟨i0,hi,hz0,hz1,hz2⟩:=info_parts qdm;obtain⟨am,bm,om,cm,n,M,rfl,Im,hmx⟩:=hm;obtain⟨ao,bo,oo,co,no,O,rfl,Io,hoy⟩:=ho;have hn:n<=274877906944:=qaj ((hmx▸hx:Fit (mval M) K).len Im) hK;have hno:no<=274877906944:=qaj ((hoy▸hy:Fit (mval O) K).len Io) hK;have HM:=qH Im;have HO:=qH Io;have Hx:=qH hmx;have Hy:=qH hoy;have Hz:=qH (qA hz0 (qA hz1 hz2));have Hi:=qH hi;clear Im Io hx hy hK hmx hoy hz0 hz1 hz2 hi;go_enter Tryz.func200,Tryz.ntmps200
 go_upto_if 13 with fail
 go_cut [0,1] (fun x0 x1 W=>∃(am:Option Addr) (bm om cm n:Nat) (M:List Nat) (ao:Option Addr) (bo oo co no:Nat) (O:List Nat),x0=.slice am n cm/\x1=.slice ao no co/\W=w/\no<=n/\n<=274877906944/\Hid (IsM w am bm om cm n M)/\Hid (IsM w ao bo oo co no O)/\Hid (mval M+mval O=x+y))
 case first =>
  go_wp2_with fail
  all_goals go_meet
  all_goals first
   | exact⟨am,bm,om,cm,n,M,ao,bo,oo,co,no,O,rfl,rfl,rfl,by omega,by omega,HM,HO,qH (by rw [Hx.out,Hy.out])⟩
   | exact⟨ao,bo,oo,co,no,O,am,bm,om,cm,n,M,rfl,rfl,rfl,by omega,by omega,HO,HM,qH (by rw [Hx.out,Hy.out,Nat.add_comm])⟩
 case rest =>
  clear HM HO Hx Hy hn hno am bm om cm n M ao bo oo co no O;obtain⟨am,bm,om,cm,n,M,ao,bo,oo,co,no,O,rfl,rfl,rfl,hno,hn,HM,HO,Hv⟩:=hcut;obtain⟨w,hw⟩:=qX wc;subst hw
  go_wp2_with (first | (refine wpList_make_own _ rfl _ _ 134 rfl wc.heap.size 232 i0 (.int .u32 0) 1 Tryz.underlying134 Hi.out Hz.out.1 Hz.out.2.1 .i64 .i64 _ (n+1) rfl rfl (by omega) (by rw [Hz.out.2.2];omega) (by unfold maxLen;omega) qN ?_;intro w1 hown1 hgrow1;have Hown1:=qH hown1;have Hgrow1:=qH hgrow1;clear hown1 hgrow1) | fail)
  go_loopw [5,6,22] (fun x5 x6 x22 W=>∃(k b:Nat) (S:List Nat),k<=n/\x5=.slice (some ⟨wc.heap.size,0,none⟩) k (n+1)/\x22=.int .i64 k/\x6=.int .u32 b/\Hid (PlusInv M O k S b)/\Hid (W.ownsRow wc.heap.size 232 1 (.slice (some ⟨wc.heap.size,0,none⟩) k (n+1)) k (row32 S))/\Hid (Below wc.heap.size wc W)) (fun _ _ x22 _=>n-(intOf x22).toNat)
  case atStart=>exact⟨0,0,[],qam _,rfl,rfl,rfl,qH (PlusInv.start M O),Hown1,qH (qB.grown Hgrow1.out qN (fun k h=>by cases h))⟩
  case round =>
   obtain⟨k,b,S,hk,rfl,rfl,rfl,hI,hO,hB⟩:=hrel
   by_cases hkn:k<n
   ·have hki:(k:Int)<n:=by omega
    have haw:=HM.out.addr (by omega);subst haw;have hcm:=(HM.out.below hB.out).cell k hkn;have hd:dg M k<1000000000:=HM.out.dig k;have hb:=hI.out.carry
    by_cases hko:k<no
    ·have hkoi:(k:Int)<no:=by omega
     have hao:=HO.out.addr (by omega);subst hao;have hco:=(HO.out.below hB.out).cell k hko;have he:dg O k<1000000000:=HO.out.dig k;obtain⟨e,hee⟩:=qX (dg O k);obtain⟨d,hdd⟩:=qX (dg M k);rw [hee] at hco he;rw [hdd] at hcm hd;have Hee:=qH hee;have Hdd:=qH hdd;clear hee hdd
     by_cases hlt:(1000000000:Int)<=(d:Int)+b+e
     ·go_wp2_with (first | (at_builtin;refine wpList_append_fits _ rfl (.tmp 44) (.tmp 46) 134 rfl wc.heap.size 232 i0 1 Tryz.underlying134 Hi.out Hz.out.2.1 wc.heap.size k (n+1) _ rfl (hO.out.alloc _) ⟨wr.heap.size,0,none⟩ 1 1 [.int .u32 ((d:Int)+b+e-1000000000)] rfl rfl (qcL _ _ _) (one_cell _ _) (by omega) ?_;intro w1 hown1 hgrow1;have Hown1:=qH hown1;have Hgrow1:=qH hgrow1;clear hown1 hgrow1) | fail)
      go_roundw
      case rel=>exact⟨k+1,1,S++[d+b+e-1000000000],hkn,rfl,by go_num,rfl,qH (hI.out.step (by omega) (by omega) (by have h1:O.getD k 0=e:=Hee.out;have h2:M.getD k 0=d:=Hdd.out;omega)),qH (qdu Hown1.out (by omega)),qH (qch hB.out qN Hgrow1.out (fun j h=>by cases h;exact qad _))⟩
      case measure=>simp [intOf];omega
     ·go_wp2_with (first | (at_builtin;refine wpList_append_fits _ rfl (.tmp 44) (.tmp 46) 134 rfl wc.heap.size 232 i0 1 Tryz.underlying134 Hi.out Hz.out.2.1 wc.heap.size k (n+1) _ rfl (hO.out.alloc _) ⟨wr.heap.size,0,none⟩ 1 1 [.int .u32 ((d:Int)+b+e)] rfl rfl (qcL _ _ _) (one_cell _ _) (by omega) ?_;intro w1 hown1 hgrow1;have Hown1:=qH hown1;have Hgrow1:=qH hgrow1;clear hown1 hgrow1) | fail)
      go_roundw
      case rel=>exact⟨k+1,0,S++[d+b+e],hkn,rfl,by go_num,rfl,qH (hI.out.step (by omega) (by omega) (by have h1:O.getD k 0=e:=Hee.out;have h2:M.getD k 0=d:=Hdd.out;omega)),qH (qdu Hown1.out (by omega)),qH (qch hB.out qN Hgrow1.out (fun j h=>by cases h;exact qad _))⟩
      case measure=>simp [intOf];omega
    ·have hkoi:¬(k:Int)<no:=by omega
     have h0:O.getD k 0=0:=qdl (by rw [HO.out.len];omega);obtain⟨d,hdd⟩:=qX (dg M k);rw [hdd] at hcm hd;have Hee:=qH h0;have Hdd:=qH hdd;clear hdd h0
     by_cases hlt:(1000000000:Int)<=(d:Int)+b
     ·go_wp2_with (first | (at_builtin;refine wpList_append_fits _ rfl (.tmp 44) (.tmp 46) 134 rfl wc.heap.size 232 i0 1 Tryz.underlying134 Hi.out Hz.out.2.1 wc.heap.size k (n+1) _ rfl (hO.out.alloc _) ⟨wr.heap.size,0,none⟩ 1 1 [.int .u32 ((d:Int)+b-1000000000)] rfl rfl (qcL _ _ _) (one_cell _ _) (by omega) ?_;intro w1 hown1 hgrow1;have Hown1:=qH hown1;have Hgrow1:=qH hgrow1;clear hown1 hgrow1) | fail)
      go_roundw
      case rel=>exact⟨k+1,1,S++[d+b-1000000000],hkn,rfl,by go_num,rfl,qH (hI.out.step (by omega) (by omega) (by have h1:O.getD k 0=0:=Hee.out;have h2:M.getD k 0=d:=Hdd.out;omega)),qH (qdu Hown1.out (by omega)),qH (qch hB.out qN Hgrow1.out (fun j h=>by cases h;exact qad _))⟩
      case measure=>simp [intOf];omega
     ·go_wp2_with (first | (at_builtin;refine wpList_append_fits _ rfl (.tmp 44) (.tmp 46) 134 rfl wc.heap.size 232 i0 1 Tryz.underlying134 Hi.out Hz.out.2.1 wc.heap.size k (n+1) _ rfl (hO.out.alloc _) ⟨wr.heap.size,0,none⟩ 1 1 [.int .u32 ((d:Int)+b)] rfl rfl (qcL _ _ _) (one_cell _ _) (by omega) ?_;intro w1 hown1 hgrow1;have Hown1:=qH hown1;have Hgrow1:=qH hgrow1;clear hown1 hgrow1) | fail)
      go_roundw
      case rel=>exact⟨k+1,0,S++[d+b],hkn,rfl,by go_num,rfl,qH (hI.out.step (by omega) (by omega) (by have h1:O.getD k 0=0:=Hee.out;have h2:M.getD k 0=d:=Hdd.out;omega)),qH (qdu Hown1.out (by omega)),qH (qch hB.out qN Hgrow1.out (fun j h=>by cases h;exact qad _))⟩
      case measure=>simp [intOf];omega
   ·obtain rfl:k=n:=by omega
    have hl:S.length=k:=hI.out.len;have hI2:=hI.out;rw [<-HM.out.len] at hI2;have hval:=hI2.done (by rw [HO.out.len,HM.out.len];exact hno);rw [Hv.out,HM.out.len] at hval;have hb:=hI.out.carry;have Hval:=qH hval;clear hl hI2 hval
    by_cases hb0:b=0
    ·subst hb0;go_wp2;go_ret;refine⟨_,rfl,hB.out,some ⟨wc.heap.size,0,none⟩,wc.heap.size,0,k+1,k,S,rfl,⟨hI.out.len,by omega,qcn hO.out hI.out.len,hI.out.dig,?_⟩,?_⟩
     ·refine Nrm.of_ge hI.out.dig ?_;rw [hI.out.len,<-HM.out.len];rcases qaK M.length with h0 | h0
      ·exact qan h0
      ·have:=HM.out.nrm.ge h0;have h2:=Hval.out;have h3:=Hv.out;exact qah (by omega)
     ·have:=Hval.out;omega
    ·obtain rfl:b=1:=by omega
     go_wp2_with (first | (at_builtin;refine wpList_append_fits _ rfl (.tmp 51) (.tmp 53) 134 rfl wc.heap.size 232 i0 1 Tryz.underlying134 Hi.out Hz.out.2.1 wc.heap.size k (k+1) _ rfl (hO.out.alloc _) ⟨wr.heap.size,0,none⟩ 1 1 [.int .u32 1] rfl rfl (qcL _ _ _) (one_cell _ _) (by omega) ?_;intro w1 hown1 hgrow1;have Hown1:=qH hown1;have Hgrow1:=qH hgrow1;clear hown1 hgrow1) | fail)
     go_ret;refine⟨_,rfl,qch hB.out qN Hgrow1.out (fun j h=>by cases h;exact qad _),some ⟨wc.heap.size,0,none⟩,wc.heap.size,0,k+1,k+1,S++[1],rfl,⟨by rw [qaf,hI.out.len];rfl,qad _,qcn (qdu Hown1.out rfl) (by rw [qaf,hI.out.len];rfl),hI.out.dig.snoc (by decide),?_⟩,?_⟩
     ·exact Nrm.snoc _ (by decide)
     ·rw [qcK,hI.out.len];have:=Hval.out;omega
theorem qco (x y K J:Nat) (hK:K+J<=274877906944) (vm vo:Value) (w:World) (hm:MagAt w vm x) (ho:MagAt w vo y) (hx:Fit x K) (hy:Fit y J) :
  Calls Tryz.prog 155 #[vm,vo] w fun e w'=>∃v,e=.returned v/\Below w.heap.size w w'/\MagAt w' v (x*y):=by
 obtain⟨am,bm,om,cm,n,M,rfl,Im,rfl⟩:=hm;obtain⟨ao,bo,oo,co,no,O,rfl,Io,rfl⟩:=ho;have hn:n+no<=274877906944:=qaj (Nat.add_le_add (hx.len Im) (hy.len Io)) hK;obtain⟨s,hs⟩:=qX (n+no);have hsi:(n:Int)+(no:Int)=s:=by omega
 have hmk:=run_make_row' (P:=Tryz.prog) 134 232 (.int .u32 0) 4 Tryz.underlying134 qdm rfl .i64 .i64 s (by omega) (by omega);have HM:=qH Im;have HO:=qH Io;have Hs:=qH hs;have Hsi:=qH hsi;have hs2:s<=274877906944:=by omega
 clear Im Io hx hy hK hs;go_enter Tryz.func155,Tryz.ntmps155;go_wp2
 go_loopw [19] (fun x19 W=>∃(k:Nat) (R:List Nat),k<=n/\x19=.int .i64 k/\Hid (TimesInv M O k 0 R 0)/\Hid (W.ownsRow w.heap.size 232 1 (.slice (some ⟨w.heap.size,0,none⟩) s s) s (row32 R))/\Hid (Below w.heap.size w W)) (fun x19 _=>n-(intOf x19).toNat)
 case atStart =>
  refine⟨0,List.replicate s 0,qam _,rfl,qH ?_,qH (qen w s (by unfold maxLen;omega)),qH (qB.alloc qN _)⟩;have:=TimesInv.start M O
  rwa [HM.out.len,HO.out.len,Hs.out] at this
 case round =>
  obtain⟨k,R,hk,rfl,hI,hO,hB⟩:=hrel;clear hmk hsi
  by_cases hkn:k<n
  ·have hki:(k:Int)<n:=by omega
   have haw:=HM.out.addr (by omega);subst haw;have hcm:=(HM.out.below hB.out).cell k hkn;have hd:dg M k<1000000000:=HM.out.dig k;obtain⟨d,hdd⟩:=qX (dg M k);rw [hdd] at hcm hd;have Hdd:=qH hdd;clear hdd;go_wp2_with fail
   go_loopw [8,26] (fun x8 x26 W=>∃(j c:Nat) (S:List Nat),j<=no/\x26=.int .i64 j/\x8=.int .u64 c/\Hid (TimesInv M O k j S c)/\Hid (W.ownsRow w.heap.size 232 1 (.slice (some ⟨w.heap.size,0,none⟩) s s) s (row32 S))/\Hid (Below w.heap.size w W)) (fun _ x26 _=>no-(intOf x26).toNat)
   case atStart=>exact⟨0,0,R,qam _,rfl,rfl,hI,hO,hB⟩
   case round =>
    clear hI hO hB hcm;obtain⟨j,c,S,hj,rfl,rfl,hI,hO,hB⟩:=hrel
    by_cases hjn:j<no
    ·have hji:(j:Int)<no:=by omega
     have hao:=HO.out.addr (by omega);subst hao;have hco:=(HO.out.below hB.out).cell j hjn;have he:dg O j<1000000000:=HO.out.dig j;obtain⟨e,hee⟩:=qX (dg O j);rw [hee] at hco he;have hlr:S.length=s:=by rw [hI.out.len,HM.out.len,HO.out.len,Hs.out]
     have hcr:wr.cell? ⟨w.heap.size,k+j,none⟩=some (.int .u32 ((dg S (k+j):Nat):Int)):=(hO.out.cellAt (k+j) (by have:=Hs.out;omega)).trans (qcz S (k+j) (by have:=Hs.out;omega));have hfr:wr.frozen? ⟨w.heap.size,k+j,none⟩=false:=hO.out.frozenAt (k+j);have hp:dg S (k+j)<1000000000:=hI.out.dig (k+j);obtain⟨p,hpp⟩:=qX (dg S (k+j));rw [hpp] at hcr hp;have hc:=hI.out.carry;have Hb:=qH (qhg hc hp hd he);obtain⟨q,hq⟩:=qX (d*e:Nat);rw [hq] at Hb;have hqi:(d:Int)*(e:Int)=(q:Int):=by rw [<-hq,qbF]
     obtain⟨r,hr⟩:=qX (p+q:Nat);obtain⟨t,ht⟩:=qX (c+r:Nat);have htl:t<1000000000000000000:=by have:=Hb.out;omega
     obtain⟨c1,hc1⟩:=qX (t / 1000000000:Nat);obtain⟨s1,hs1⟩:=qX (t % 1000000000:Nat);have r1:=u64_in d (by omega);have r2:=u64_in e (by omega);have r3:=u64_in q (by omega);have r4:(p:Int)+q=r:=by omega
     have r5:=u64_in r (by omega);have r6:(c:Int)+r=t:=by omega
     have r7:=u64_in t (by omega);have r8:(t:Int).tdiv 1000000000=c1:=tdivB t c1 hc1;have r9:(t:Int).tmod 1000000000=s1:=tmodB t s1 hs1;have r10:=u64_in c1 (by omega);have r11:(s1:Int) % 4294967296=s1:=by omega
     have r12:=u64_in p (by omega);have Ht:=qH (qA hr (qA ht (qA hc1 hs1)));clear hr ht htl hc1 hs1;have hkj:(k:Int)+j<s:=by have:=Hs.out;omega
     have Hee:=qH hee;have Hpp:=qH hpp;have Hq:=qH hq;have Hc:=qH hc;have Hd:=qH hd;have He:=qH he;have Hp:=qH hp;clear hee hpp hq hlr hc hd he hp;go_wp2;go_roundw
     case rel =>
      obtain⟨hr,ht,hc1,hs1⟩:=Ht.out;exact⟨j+1,c1,S.set (k+j) s1,hjn,by go_num,rfl,qH (hI.out.step (by rw [HM.out.len];exact hkn) (by rw [HO.out.len];exact hjn) (by omega) (by have:=Hb.out;omega) (by rw [show S.getD (k+j) 0=p from Hpp.out,show M.getD k 0=d from Hdd.out,show O.getD j 0=e from Hee.out,Hq.out];omega)),qH (qcA hO.out (k+j) s1 rfl),qH (hB.out.setCell qN _)⟩
     case measure=>simp [intOf];omega
    ·obtain rfl:j=no:=by omega
     have hlr:S.length=s:=by rw [hI.out.len,HM.out.len,HO.out.len,Hs.out]
     have hcr:wr.cell? ⟨w.heap.size,k+j,none⟩=some (.int .u32 ((dg S (k+j):Nat):Int)):=(hO.out.cellAt (k+j) (by have:=Hs.out;omega)).trans (qcz S (k+j) (by have:=Hs.out;omega));have hfr:wr.frozen? ⟨w.heap.size,k+j,none⟩=false:=hO.out.frozenAt (k+j);have hkj:(k:Int)+j<s:=by have:=Hs.out;omega
     have hc:=hI.out.carry;have r1:(c:Int) % 4294967296=c:=by omega
     have Hc:=qH hc;have Hd:=qH hd;clear hlr hc hd;go_wp2;go_roundw
     case rel =>
      have h:=hI.out;rw [<-HO.out.len] at h;have h2:=h.next (by rw [HM.out.len];exact hkn)
      rw [HO.out.len] at h2;exact⟨k+1,S.set (k+j) c,hkn,by go_num,qH h2,qH (qcA hO.out (k+j) c rfl),qH (hB.out.setCell qN _)⟩
     case measure=>simp [intOf];omega
  ·obtain rfl:k=n:=by omega
   have hlr:R.length=s:=by rw [hI.out.len,HM.out.len,HO.out.len,Hs.out]
   have ht:=qcR (some ⟨w.heap.size,0,none⟩) w.heap.size 0 s s R wr hlr (by omega) qN (qcn hO.out hlr) hI.out.dig;have hv:mval R=mval M*mval O:=by
    have h1:=hI.out;rw [<-HM.out.len] at h1;exact h1.done rfl
   rw [hv] at ht;have HT:=qH ht;clear ht hv hlr;go_wp2_with fail;refine HT.out.mono ?_;rintro e w1 ⟨v,rfl,rfl,hv⟩;have Hv:=qH hv;clear hv;go_wp2;go_ret;exact⟨v,rfl,hB.out,Hv.out⟩
theorem qdQ (x K d:Nat) (hK:K<=274877906944) (hd0:0<d) (hd:d<=1000000000) (vm:Value) (w:World) (hm:MagAt w vm x) (hx:Fit x K) :
  Calls Tryz.prog 213 #[vm,.int .u32 (d:Int)] w fun e w'=>∃v,e=.returned (.tuple #[v,.int .u32 ((x % d:Nat):Int)])/\Below w.heap.size w w'/\MagAt w' v (x / d):=by
 obtain⟨am,bm,om,cm,n,M,rfl,Im,rfl⟩:=hm;have hn:n<=274877906944:=qaj (hx.len Im) hK;have hmk:=run_make_row' (P:=Tryz.prog) 134 232 (.int .u32 0) 4 Tryz.underlying134 qdm rfl .i64 .i64 n (by omega) (by omega);have HM:=qH Im;have Hd:=qH (qA hd0 hd);obtain⟨rr,hrr⟩:=qX (mval M % d);have Hrr:=qH hrr;rw [hrr];have h0:((d:Int) == 0)=false:=by rw [beq_eq_false_iff_ne];omega
 have h01:¬d=0:=by omega
 have r0:=u64_in d (by omega);clear Im hx hK hrr hd hd0;go_enter Tryz.func213,Tryz.ntmps213;go_wp2
 go_loopw [7,8] (fun x7 x8 W=>∃(k r:Nat) (z:Int) (R:List Nat),k<=n/\x8=.int .i64 z/\Hid (z+1=k)/\x7=.int .u64 r/\Hid (ShortInv M d k R r)/\Hid (W.ownsRow w.heap.size 232 1 (.slice (some ⟨w.heap.size,0,none⟩) n n) n (row32 R))/\Hid (Below w.heap.size w W)) (fun _ x8 _=>(intOf x8+1).toNat)
 case atStart =>
  refine⟨n,0,_,List.replicate n 0,qad _,rfl,qH (by omega),rfl,qH ?_,qH (qen w n (by unfold maxLen;omega)),qH (qB.alloc qN _)⟩;have:=ShortInv.start M Hd.out.1
  rwa [HM.out.len] at this
 case round =>
  obtain⟨k,r,z,R,hk,rfl,hz,rfl,hI,hO,hB⟩:=hrel;clear hmk
  by_cases hk0:0<k
  ·obtain⟨j,rfl⟩:∃j,k=j+1:=⟨k-1,by omega⟩;obtain rfl:z=(j:Int):=by have:=hz.out;omega
   have hji:(j:Int)<n:=by omega
   have haw:=HM.out.addr (by omega);subst haw;have hcm:=(HM.out.below hB.out).cell j (by omega);have hm:dg M j<1000000000:=HM.out.dig j;obtain⟨m,hmm⟩:=qX (dg M j);rw [hmm] at hcm hm;have hr:=hI.out.rest;have hlr:R.length=n:=hI.out.len.trans HM.out.len;have hcr:wr.cell? ⟨w.heap.size,j,none⟩=some (.int .u32 ((dg R j:Nat):Int)):=(hO.out.cellAt j (by omega)).trans (qcz R j (by omega));have hfr:wr.frozen? ⟨w.heap.size,j,none⟩=false:=hO.out.frozenAt j;have hdd:=Hd.out.2;obtain⟨t1,ht1⟩:=qX (r*1000000000:Nat);obtain⟨t2,ht2⟩:=qX (t1+m:Nat);obtain⟨q,hq⟩:=qX (t2 / d:Nat);obtain⟨s,hs⟩:=qX (t2 % d:Nat);have hstep:=hI.out.step (by rw [HM.out.len];omega) HM.out.dig;have hql:q<1000000000:=by
    have:=hstep.dig j;rw [qcQ (by omega),show M.getD j 0=m from hmm,ht1,ht2,hq] at this;exact this
   rw [show M.getD j 0=m from hmm,ht1,ht2,hq,hs] at hstep;have hsl:s<d:=by rw [<-hs];exact qbk _ Hd.out.1
   have r1:(r:Int)*1000000000=t1:=by omega
   have r2:=u64_in t1 (by omega);have r3:=u64_in m (by omega);have r4:(t1:Int)+m=t2:=by omega
   have r5:=u64_in t2 (by omega);have r6:=tdivN t2 d q hq;have r7:=u64_in q (by omega);have r8:(q:Int) % 4294967296=q:=by omega
   have r9:=tmodN t2 d s hs;have r10:=u64_in s (by omega);have Hst:=qH hstep;clear hstep hql hsl ht1 ht2 hq hs hlr hr hm hdd hmm;go_wp2;go_roundw
   case rel=>exact⟨j,s,_,R.set j q,by omega,rfl,qH (by omega),rfl,Hst,qH (qcA hO.out j q rfl),qH (hB.out.setCell qN _)⟩
   case measure=>simp [intOf]
  ·obtain rfl:k=0:=by omega
   obtain rfl:z = -1:=by have:=hz.out;omega
   have hlr:R.length=n:=hI.out.len.trans HM.out.len;have ht:=qcR (some ⟨w.heap.size,0,none⟩) w.heap.size 0 n n R wr hlr (by omega) qN (qcn hO.out hlr) hI.out.dig;rw [hI.out.done.1] at ht;have hre:r=rr:=by rw [<-Hrr.out];exact hI.out.done.2
   have hrl:=hI.out.rest;have hdd:=Hd.out.2;subst hre;have r1:(r:Int) % 4294967296=r:=by omega
   have HT:=qH ht;clear ht hlr hrl hdd;go_wp2_with fail;refine HT.out.mono ?_;rintro e w1 ⟨v,rfl,rfl,hv⟩;have Hv:=qH hv;clear hv;go_wp2_with fail
   go_ret2
   exact⟨v,rfl,hB.out,Hv.out⟩
theorem qdB (x:Nat) (vm:Value) (w:World) (hm:MagAt w vm x) (hx:Fit x 2) :
  Calls Tryz.prog 211 #[vm] w fun e w'=>e=.returned (.int .u64 (x:Int))/\w'=w:=by
 obtain⟨am,bm,om,cm,n,M,rfl,Im,hmx⟩:=hm;have hn:n<=2:=(hmx▸hx:Fit (mval M) 2).len Im;have hxl:x<1000000000000000000:=hx;have HM:=qH Im;have Hx:=qH hmx;have Hl:=qH hxl;clear Im hx hmx hxl;go_enter Tryz.func211,Tryz.ntmps211;go_wp2
 go_loopw [3,4] (fun x3 x4 W=>∃(k v:Nat) (z:Int),k<=n/\x4=.int .i64 z/\Hid (z+1=k)/\x3=.int .u64 v/\W=w/\Hid (v=mval (M.drop k))) (fun _ x4 _=>(intOf x4+1).toNat)
 case atStart =>
  refine⟨n,0,_,qad _,rfl,qH (by omega),rfl,rfl,qH ?_⟩;rw [qaG (by rw [HM.out.len];exact qad _)];rfl
 case round =>
  obtain⟨k,v,z,hk,rfl,hz,rfl,rfl,hI⟩:=hrel
  by_cases hk0:0<k
  ·obtain⟨j,rfl⟩:∃j,k=j+1:=⟨k-1,by omega⟩;obtain rfl:z=(j:Int):=by have:=hz.out;omega
   have hji:(j:Int)<n:=by omega
   have haw:=HM.out.addr (by omega);subst haw;have hcm:=HM.out.cell j (by omega);have hm:dg M j<1000000000:=HM.out.dig j;obtain⟨m,hmm⟩:=qX (dg M j);rw [hmm] at hcm hm;have hv:v<1000000000:=by
    rw [hI.out];have h1:=(HM.out.dig.drop (j+1)).lt;rw [qaY,HM.out.len] at h1;have h2:1000000000 ^ (n-(j+1))<=1000000000 ^ 1:=qa3 (by decide) (by omega);rw [Nat.pow_one] at h2;exact qag h1 h2
   have hst:m+1000000000*v=mval (M.drop j):=by rw [qcJ M j,show M.getD j 0=m from hmm,hI.out]
   obtain⟨t1,ht1⟩:=qX (v*1000000000:Nat);obtain⟨t2,ht2⟩:=qX (t1+m:Nat);have r1:(v:Int)*1000000000=t1:=by omega
   have r2:=u64_in t1 (by omega);have r3:=u64_in m (by omega);have r4:(t1:Int)+m=t2:=by omega
   have r5:=u64_in t2 (by omega);have Hst:=qH (show t2=mval (M.drop j) by omega);clear hv hst ht1 ht2 hm hmm;go_wp2;go_roundw
   case rel=>exact⟨j,t2,_,by omega,rfl,qH (by omega),rfl,trivial,Hst⟩
   case measure=>simp [intOf]
  ·obtain rfl:k=0:=by omega
   obtain rfl:z = -1:=by have:=hz.out;omega
   have hv:v=x:=by rw [hI.out,<-Hx.out];rfl
   subst hv;go_wp2;go_ret;exact⟨rfl,rfl⟩
theorem qc3 (x:Nat) (hx:x<18446744073709551616) (w:World) :
  Calls Tryz.prog 212 #[.int .u64 (x:Int)] w fun e w'=>∃v,e=.returned v/\Below w.heap.size w w'/\MagAt w' v x:=by
 obtain⟨i0,hi,hz0,hz1,hz2⟩:=info_parts qdm;have Hz:=qH (qA hz0 (qA hz1 hz2));have Hi:=qH hi;have Hx:=qH hx;clear hz0 hz1 hz2 hi hx;go_enter Tryz.func212,Tryz.ntmps212;go_wp2
 go_loopw [0,3] (fun x0 x3 W=>∃(v k:Nat) (V:Value) (S:List Nat),x0=.int .u64 v/\x3=V/\k<=3/\Hid (Dig S)/\Hid (v=0->Nrm S)/\Hid (mval S+1000000000 ^ k*v=x)/\Hid (W.ownsRow w.heap.size 232 1 V k (row32 S))/\Hid (Below w.heap.size w W)) (fun x0 _ _=>(intOf x0).toNat)
 case atStart=>exact⟨x,0,_,[],rfl,rfl,by omega,qH Dig.nil,qH (fun _=>qan rfl),qH (by simp [mval]),qH (World.ownsRow_nil _ _ _ _),qH qB⟩
 case round =>
  obtain⟨v,k,V,S,rfl,rfl,hk,hd,hn,hv,hO,hB⟩:=hrel
  by_cases h0:0<v
  ·have hvx:v<18446744073709551616:=qaF (qaj (Nat.le_mul_of_pos_left v (qfz k)) (by have:=hv.out;omega)) Hx.out;have hk3:k<3:=by
    rcases qaT k 3 with h | h
    ·exact h
    ·obtain rfl:k=3:=by omega
     have h1:=hv.out;have h2:=Hx.out;omega
   obtain⟨q,hq⟩:=qX (v / 1000000000:Nat);obtain⟨s,hs⟩:=qX (v % 1000000000:Nat);have hvi:(0:Int)<v:=by omega
   have r1:=tmodB v s hs;have r2:=u64_in s (by omega);have r3:(s:Int) % 4294967296=s:=by omega
   have r4:=tdivB v q hq;have r5:=u64_in q (by omega);have r6:=u64_in v hvx;have Hst:Hid (mval (S++[s])+1000000000 ^ (k+1)*q=x):=qH (by
    have hl:S.length=k:=by have:=hO.out.1;rw [qcc] at this;omega
    rw [qcK,hl,qaD,qav,Nat.add_assoc,<-qaX,<-hv.out,show s+1000000000*q=v by omega])
   have Hn2:Hid (q=0->Nrm (S++[s])):=qH (fun h=>Nrm.snoc S (by omega));have Hd2:Hid (Dig (S++[s])):=qH (hd.out.snoc (by omega));have Hq:Hid (q<v):=qH (by omega);clear hq hs hvx
   go_wp2_with (first | (at_builtin;refine wpList_append_own _ rfl (.tmp 8) (.tmp 12) 134 rfl w.heap.size 232 i0 (.int .u32 0) 1 4 Tryz.underlying134 Hi.out Hz.out.1 Hz.out.2.1 Hz.out.2.2 rfl (by decide) _ _ _ rfl (hO.out.alloc _) ⟨wr.heap.size,0,none⟩ 1 1 [.int .u32 (s:Int)] rfl rfl (qcL _ _ _) (one_cell _ _) (by unfold maxLen;omega) (by omega) (by have:=hB.out.size;simp only [qab];omega) ?_;intro v' w1 hown1 hgrow1 _;have Hown1:=qH hown1;have Hgrow1:=qH hgrow1;clear hown1 hgrow1) | fail)
   go_roundw
   case rel=>exact⟨q,k+1,_,S++[s],rfl,rfl,by omega,Hd2,Hn2,Hst,qH (by rw [qc5];exact Hown1.out),qH (qch hB.out qN Hgrow1.out (fun j h=>(hO.out.lt j h).1))⟩
   case measure=>have:=Hq.out;simp [intOf];omega
  ·obtain rfl:v=0:=by omega
   have ht:=qmI hO.out hd.out (hn.out rfl);rw [show mval S=x by have:=hv.out;omega] at ht;have Ht:=qH ht;clear ht;go_wp2;go_ret;exact⟨_,rfl,hB.out,Ht.out⟩
theorem qcF (x:Nat) (vm:Value) (w:World) (hm:MagAt w vm x) :
  Calls Tryz.prog 148 #[vm] w fun e w'=>e=.returned (.bool (decide (x=0)))/\w'=w:=by
 obtain⟨am,bm,om,cm,n,M,rfl,Im,rfl⟩:=hm;have h:mval M=0↔n=0:=by rw [<-Im.len];exact Im.nrm.zero
 have Hh:=qH h;clear Im h
 by_cases h0:n=0
 ·rw [qV (Hh.out.2 h0)];subst h0;go_enter Tryz.func148,Tryz.ntmps148;go_wp2;go_ret;exact⟨rfl,rfl⟩
 ·rw [qU (fun h=>h0 (Hh.out.1 h))];have hi:((n:Int) == 0)=false:=by rw [beq_eq_false_iff_ne];omega
  go_enter Tryz.func148,Tryz.ntmps148;go_wp2;go_ret;exact⟨rfl,rfl⟩
theorem qcG (x y K:Nat) (hK:K<=274877906944) (vm vo:Value) (w:World) (hm:MagAt w vm x) (ho:MagAt w vo y) (hx:Fit x K) (hy:Fit y K) :
  Calls Tryz.prog 159 #[vm,vo] w fun e w'=>e=.returned (.int .i64 (cmp3 x y))/\Below w.heap.size w w':=by
 obtain⟨am,bm,om,cm,n,M,rfl,Im,rfl⟩:=hm;obtain⟨ao,bo,oo,co,no,O,rfl,Io,rfl⟩:=ho;have hn:n<=274877906944:=qaj (hx.len Im) hK;have hno:no<=274877906944:=qaj (hy.len Io) hK;have HM:=qH Im;have HO:=qH Io;obtain⟨R,hR⟩:=qX (cmp3 (mval M) (mval O));rw [hR];have HR:=qH hR;clear Im Io hx hy hK hR
 by_cases hne:n=no
 ·subst hne;clear hno;go_enter Tryz.func159,Tryz.ntmps159;go_wp2
  go_loopw [5] (fun x5 W=>∃(k:Nat) (z:Int),k<=n/\x5=.int .i64 z/\Hid (z+1=k)/\Hid (M.drop k=O.drop k)/\Hid (Below w.heap.size w W)) (fun x5 _=>(intOf x5+1).toNat)
  case atStart =>
   exact⟨n,_,qad _,rfl,qH (by omega),qH (by rw [qaG (by rw [HM.out.len];exact qad _),qaG (by rw [HO.out.len];exact qad _)]),qH qB⟩
  case round =>
   obtain⟨k,z,hk,rfl,hz,hI,hB⟩:=hrel
   by_cases hk0:0<k
   ·obtain⟨j,rfl⟩:∃j,k=j+1:=⟨k-1,by omega⟩;obtain rfl:z=(j:Int):=by have:=hz.out;omega
    have hji:(j:Int)<n:=by omega
    have haw:=HM.out.addr (by omega);have hao:=HO.out.addr (by omega);subst haw;subst hao;have hcm:=(HM.out.below hB.out).cell j (by omega);have hco:=(HO.out.below hB.out).cell j (by omega);have hlm:=HM.out.len;have hlo:=HO.out.len;obtain⟨d,hdd⟩:=qX (dg M j);obtain⟨e,hee⟩:=qX (dg O j);rw [hdd] at hcm;rw [hee] at hco;have e1:M[j]'(by omega)=d:=by rw [<-hdd];unfold dg;rw [qaa,qae (by omega)];rfl
    have e2:O[j]'(by omega)=e:=by rw [<-hee];unfold dg;rw [qaa,qae (by omega)];rfl
    have H:=qH (qA hlm (qA hlo (qA hdd hee)));have Hlt:=qH (fun h:d<e=>qft M O j HM.out.dig.mem (by omega) (by omega) (by rw [e1,e2];exact h) hI.out);have Hgt:=qH (fun h:e<d=>qft O M j HO.out.dig.mem (by omega) (by omega) (by rw [e1,e2];exact h) hI.out.symm);have Heq:=qH (fun h:d=e=>(show M.drop j=O.drop j by rw [qbp (show j<M.length by omega),qbp (show j<O.length by omega),e1,e2,h,hI.out]));clear e1 e2 hlm hlo hdd hee
    by_cases hde:d=e
    ·subst hde;go_wp2_with fail
     go_quiet (fail)
     go_wp2;go_roundw
     case rel=>exact⟨j,_,by omega,rfl,qH (by omega),qH (Heq.out trivial),qH (below_drewN hB.out _)⟩
     case measure=>simp [intOf]
    ·have hb:((d:Int) == (e:Int))=false:=by rw [beq_eq_false_iff_ne];omega
     have hnei:¬(d:Int)=(e:Int):=by omega
     have hres:cmp3 (d:Int) (e:Int)=R:=by
      rw [<-HR.out];rcases qaT d e with h | h
      ·have:=Hlt.out h;unfold cmp3;rw [if_pos (by omega),if_pos (by omega)]
      ·have:=Hgt.out (by omega);unfold cmp3;rw [if_neg (by omega),if_neg (by omega),if_neg (by omega),if_neg (by omega)]
     have hc:=fun W=>qlm (d:Int) (e:Int) W
     rw [hres] at hc;have HC:=qH hc;clear hc hres;go_wp2_with fail
     go_quiet (fail)
     go_wp2_with fail;obtain⟨W1,hW1⟩:=qX (wr.drewN nq);have hcm1:W1.cell? ⟨bm,om+j,none⟩=some (.int .u32 (d:Int)):=by rw [<-hW1];exact hcm
     have hco1:W1.cell? ⟨bo,oo+j,none⟩=some (.int .u32 (e:Int)):=by rw [<-hW1];exact hco
     have HB1:Hid (Below w.heap.size w W1):=qH (hW1▸below_drewN hB.out _);rw [hW1];clear hW1
     go_quiet ((go_at_call 219;exact qhB ((HC.out _).mono fun _ _ h=>⟨h.1,h.2.symm⟩)))
     go_wp2;go_ret;exact⟨rfl,below_drewN HB1.out _⟩
   ·obtain rfl:k=0:=by omega
    obtain rfl:z = -1:=by have:=hz.out;omega
    have hmo:M=O:=hI.out;have hR0:R=0:=by rw [<-HR.out,hmo];unfold cmp3;rw [if_neg (by omega),if_pos rfl]
    subst hR0;clear hmo;go_wp2;go_ret;exact⟨rfl,hB.out⟩
 ·have hb:((n:Int) == (no:Int))=false:=by rw [beq_eq_false_iff_ne];omega
  have hnei:¬(n:Int)=(no:Int):=by omega
  have hres:cmp3 (n:Int) (no:Int)=R:=by
   rw [<-HR.out];have nz:∀L:List Nat,Nrm L->L.getLast?≠some 0:=fun L h=>by
    rcases h with h | h
    ·rw [qbu.1 h];simp
    ·intro hl;apply h;rw [List.getLast?_eq_getElem?] at hl;rw [qaa,hl];rfl
   have hlm:=HM.out.len;have hlo:=HO.out.len;rcases qaT n no with h | h
   ·have:=qel M O HM.out.dig.mem (by omega) (nz O HO.out.nrm);unfold cmp3;rw [if_pos (by omega),if_pos (by omega)]
   ·have:=qel O M HO.out.dig.mem (by omega) (nz M HM.out.nrm);unfold cmp3;rw [if_neg (by omega),if_neg (by omega),if_neg (by omega),if_neg (by omega)]
  have hc:=fun W=>qll (n:Int) (no:Int) W
  rw [hres] at hc;have HC:=qH hc;clear hc hres;go_enter Tryz.func159,Tryz.ntmps159;go_wp2_with fail;refine (HC.out _).mono ?_;rintro e w1 ⟨rfl,rfl⟩;go_wp2;go_ret;exact⟨rfl,Below.refl _ _⟩
theorem qf3 (A u C V:List Nat) (n p s cu cs B g:Nat) (av:Option Addr) (bv ov cv:Nat) (w:World) (hp:A.length=p) (hE:Est u V n) (hown:w.ownsRow B 232 1 (.slice (some ⟨g,0,none⟩) s cs) s (row32 (A++u++C))) (hV:IsM w av bv ov cv n V) (hne:bv≠g) (hcu:n+1<=cu) (hs:s<=549755813888) :
  Calls Tryz.prog 214 #[.slice (some ⟨g,p,none⟩) (n+1) cu,.slice av n cv] w fun e w'=>∃(R:List Nat) (q:Nat),e=.returned (.int .u32 (q:Int))/\Reduced u V R q/\w.grownBy w' (some g)/\w'.ownsRow B 232 1 (.slice (some ⟨g,0,none⟩) s cs) s (row32 (A++R++C)):=by
 have hlu:=hE.lu;have hsz:p+(n+1)<=s:=by
  have:=hown.1;rw [qcc,qaf,qaf,hp,hlu] at this;omega
 have hn2:=hE.two;have hnb:n<=549755813888:=by omega
 obtain rfl:=hV.addr (by omega);have HP:=qH hp;have HE:=qH hE;have HO:=qH hown;have HV:=qH hV;have Hne:=qH hne;have HU:Hid (∀(W:World) (R:List Nat) (i:Nat),W.ownsRow B 232 1 (.slice (some ⟨g,0,none⟩) s cs) s (row32 (A++R++C))->i<R.length->R.length=n+1->W.cell? ⟨g,p+i,none⟩=some (.int .u32 ((dg R i:Nat):Int))):=qH fun W R i h hi hl=>by
  rw [<-HP.out];rw [h.cellAt (A.length+i) (by rw [HP.out];omega),qcz _ _ (by rw [qaf,qaf];omega),dg_mid A R C i hi]
 have HS:Hid (∀(W:World) (R:List Nat) (i d:Nat),W.ownsRow B 232 1 (.slice (some ⟨g,0,none⟩) s cs) s (row32 (A++R++C))->i<R.length->(W.setCell ⟨g,p+i,none⟩ (.int .u32 (d:Int))).ownsRow B 232 1 (.slice (some ⟨g,0,none⟩) s cs) s (row32 (A++(R.set i d)++C))/\W.grownBy (W.setCell ⟨g,p+i,none⟩ (.int .u32 (d:Int))) (some g)):=qH fun W R i d h hi=>by
  rw [<-HP.out];refine⟨?_,qeq h _ _⟩;have h1:=qcA h (A.length+i) d rfl
  rwa [set_mid A R C i d hi] at h1
 have HVc:Hid (∀(W:World) (i:Nat),w.grownBy W (some g)->i<n->W.cell? ⟨bv,ov+i,none⟩=some (.int .u32 ((dg V i:Nat):Int))):=qH fun W i h hi=>h.cell (HV.out.cell i hi) (fun e=>Hne.out (qai e))
 have hin1:((n-1:Nat):Int)=(n:Int)-1:=by omega
 have hin2:((n-2:Nat):Int)=(n:Int)-2:=by omega
 have hvc1:=HVc.out w (n-1) (qcT _ _) (by omega);have huc0:=HU.out w u n hown (by omega) hlu;have huc1:=HU.out w u (n-1) hown (by omega) hlu;obtain⟨tp,htp⟩:=qX (dg V (n-1));obtain⟨u0,hu0⟩:=qX (dg u n);obtain⟨u1,hu1⟩:=qX (dg u (n-1));obtain⟨u2,hu2⟩:=qX (dg u (n-2));obtain⟨v2,hv2⟩:=qX (dg V (n-2));have b0:tp<1000000000:=htp▸hE.dv (n-1);have b1:u0<1000000000:=hu0▸hE.du n;have b2:u1<1000000000:=hu1▸hE.du (n-1);have b3:u2<1000000000:=hu2▸hE.du (n-2);have b4:v2<1000000000:=hv2▸hE.dv (n-2);have htop:0<tp:=by have:=hE.top_pos;rw [<-htp];exact this
 rw [htp] at hvc1;rw [hu0] at huc0;rw [hu1] at huc1;obtain⟨a1,ha1⟩:=qX (u0*1000000000:Nat);obtain⟨hd,hhd⟩:=qX (a1+u1:Nat);have hhead:Est.head u n=hd:=by have e1:u.getD n 0=u0:=hu0;have e2:u.getD (n-1) 0=u1:=hu1;unfold Est.head;rw [e1,e2,ha1,hhd]
 have htop2:Est.top V n=tp:=htp;have hfirst:=hE.first
 rw [hhead,htop2] at hfirst;obtain⟨q0,hq0⟩:=qX (hd / tp:Nat);obtain⟨r0,hr0⟩:=qX (hd % tp:Nat);have hr0l:r0<tp:=by rw [<-hr0];exact qbk _ htop
 have hqr:q0*tp+r0=hd:=by rw [<-hq0,<-hr0,qau];exact Nat.div_add_mod _ _
 rw [hq0] at hfirst;have i1:=u64_in u0 (by omega);have i2:(u0:Int)*1000000000=a1:=by omega
 have i3:=u64_in a1 (by omega);have i4:=u64_in u1 (by omega);have i5:(a1:Int)+u1=hd:=by omega
 have i6:=u64_in hd (by omega);have i7:=u64_in tp (by omega);have i8:=tdivN hd tp q0 hq0;have i9:=tmodN hd tp r0 hr0;have i10:=u64_in q0 (by omega);have i11:=u64_in r0 (by omega);have i12:((tp:Int) == 0)=false:=by rw [beq_eq_false_iff_ne];omega
 have i13:¬tp=0:=by omega
 have HQ:=qH (qA hfirst (qA hqr (qA hhead htop2)));have HB0:=qH (qA b0 (qA b1 (qA b2 (qA b3 (qA b4 htop)))));have HN:=qH (qA htp (qA hu0 (qA hu1 (qA hu2 hv2))));have Hr0:=qH hr0l;have Hs:=qH (qA hs hsz);clear hfirst hqr hhead htop2 b0 b1 b2 b3 b4 htop htp hu0 hu1 hu2 hv2 ha1 hhd hq0 hr0 hr0l hE hown hV hne hlu hp hsz;go_enter Tryz.func214,Tryz.ntmps214;go_wp2_with fail
 go_quiet (fail)
 go_wp2_with fail
 go_quiet (fail)
 clear huc0 huc1 hvc1 i1 i2 i3 i4 i5 i6 i8 i9 i10 i11 i12 i13;rename_i hK;refine hK _ _ ?_
 go_step
 go_cut [8,9] (fun x8 x9 W=>∃q r:Nat,x8=.int .u64 q/\x9=.int .u64 r/\Hid (q<1000000000/\mval u / mval V<=q/\q<=mval u / mval V+1)/\Hid (w.grownBy W (some g))/\Hid (W.ownsRow B 232 1 (.slice (some ⟨g,0,none⟩) s cs) s (row32 (A++u++C))))
 case first =>
  go_wp2_with fail
  go_loopw [8,9] (fun x8 x9 W=>∃q r:Nat,x8=.int .u64 q/\x9=.int .u64 r/\r<1000000000/\q<=1000000002/\Hid (mval u / mval V<=q/\q*tp+r=hd)/\Hid (w.grownBy W (some g))/\Hid (W.ownsRow B 232 1 (.slice (some ⟨g,0,none⟩) s cs) s (row32 (A++u++C)))) (fun x8 _ _=>(intOf x8).toNat)
  case atStart=>exact⟨q0,r0,rfl,rfl,by have:=Hr0.out;have:=HB0.out.1;omega,HQ.out.1.2,qH ⟨HQ.out.1.1,HQ.out.2.1⟩,qH (qcu (qcu (qcT _ _) _) _),HO⟩
  case round =>
   obtain⟨q,r,rfl,rfl,hr,hq,hI,hG,hO⟩:=hrel;have hu2c:=HU.out wr u (n-2) hO.out (by rw [HE.out.lu];omega) HE.out.lu;have hv2c:=HVc.out wr (n-2) hG.out (by omega);rw [HN.out.2.2.2.1] at hu2c;rw [HN.out.2.2.2.2] at hv2c;obtain⟨b0,b1,b2,b3,b4,htop⟩:=HB0.out;obtain⟨m1,hm1⟩:=qX (q*v2:Nat);obtain⟨m2,hm2⟩:=qX (r*1000000000:Nat);obtain⟨m3,hm3⟩:=qX (m2+u2:Nat);have hm1l:m1<=1000000002*999999999:=by rw [<-hm1];exact Nat.mul_le_mul hq (by omega)
   have j1:=u64_in q (by omega);have j2:=u64_in v2 (by omega);have j3:(q:Int)*(v2:Int)=m1:=by rw [<-hm1,qbF]
   have j4:=u64_in m1 (by omega);have j5:=u64_in r (by omega);have j6:(r:Int)*1000000000=m2:=by omega
   have j7:=u64_in m2 (by omega);have j8:=u64_in u2 (by omega);have j9:(m2:Int)+u2=m3:=by omega
   have j10:=u64_in m3 (by omega);have j11:=u64_in tp (by omega)
   by_cases ht:1000000000<=q\/m3<m1
   ·have hdn:=HE.out.down (q:=q) (r:=r) (by rw [HQ.out.2.2.1,HQ.out.2.2.2];exact hI.out.2) hI.out.1 (by rw [show u.getD (n-2) 0=u2 from HN.out.2.2.2.1,show V.getD (n-2) 0=v2 from HN.out.2.2.2.2,hm1,hm2,hm3];exact ht);rw [HQ.out.2.2.1,HQ.out.2.2.2] at hdn;obtain⟨hq1,hdn1,hdn2⟩:=hdn;obtain⟨q1,hq1e⟩:=qX (q-1);obtain⟨r1,hr1e⟩:=qX (r+tp);rw [hq1e] at hdn1 hdn2;rw [hr1e] at hdn2;have hj12:q1+1=q:=by omega
    have j12:(q:Int)-1=q1:=by omega
    have j13:=u64_in q1 (by omega);have j14:(r:Int)+tp=r1:=by omega
    have j15:=u64_in r1 (by omega);clear hq1e hr1e
    by_cases hqB:(1000000000:Int)<=q
    ·have hg1:decide ((1000000000:Int)<=q)=true:=qV hqB
     by_cases hbr:(1000000000:Int)<=r1
     ·have hb:=HE.out.broke (q:=q1) (r:=r1) (by rw [HQ.out.2.2.1,HQ.out.2.2.2];exact hdn2) (by omega);have Hres:=qH (qA hb.1 (qA hdn1 hb.2));clear hb hdn1 hdn2 ht hm1 hm2 hm3 hm1l b0 b1 b2 b3 b4 htop hq1 hr hq;go_wp2_with fail
      go_quiet (fail)
      go_wp2;go_meet
      case rel=>exact⟨q1,r1,rfl,rfl,Hres,qH (qcu hG.out _),hO⟩
     ·have Hnx:=qH (qA hdn1 hdn2);have Hb2:=qH (qA hq (qA hq1 (qA hj12 hbr)));have hbrd:decide ((1000000000:Int)<=r1)=false:=qU hbr;clear hbr hdn1 hdn2 ht hm1 hm2 hm3 hm1l b0 b1 b2 b3 b4 htop hq1 hr hq;go_wp2_with fail
      go_quiet (fail)
      go_wp2;go_roundw
      case rel =>
       obtain⟨h1,h2,h3,h4⟩:=Hb2.out;exact⟨q1,r1,rfl,rfl,by omega,by omega,Hnx,qH (qcu hG.out _),hO⟩
      case measure =>
       obtain⟨h1,h2,h3,h4⟩:=Hb2.out;simp only [intOf];omega
    ·have hg1:decide ((1000000000:Int)<=q)=false:=qU hqB;have hlt:(m3:Int)<m1:=by omega
     by_cases hbr:(1000000000:Int)<=r1
     ·have hb:=HE.out.broke (q:=q1) (r:=r1) (by rw [HQ.out.2.2.1,HQ.out.2.2.2];exact hdn2) (by omega);have Hres:=qH (qA hb.1 (qA hdn1 hb.2));clear hb hdn1 hdn2 ht hm1 hm2 hm3 hm1l b0 b1 b2 b3 b4 htop hq1 hr hq;go_wp2_with fail
      go_quiet (fail)
      go_wp2;go_meet
      case rel=>exact⟨q1,r1,rfl,rfl,Hres,qH (qcu hG.out _),hO⟩
     ·have Hnx:=qH (qA hdn1 hdn2);have Hb2:=qH (qA hq (qA hq1 (qA hj12 hbr)));have hbrd:decide ((1000000000:Int)<=r1)=false:=qU hbr;clear hbr hdn1 hdn2 ht hm1 hm2 hm3 hm1l b0 b1 b2 b3 b4 htop hq1 hr hq;go_wp2_with fail
      go_quiet (fail)
      go_wp2;go_roundw
      case rel =>
       obtain⟨h1,h2,h3,h4⟩:=Hb2.out;exact⟨q1,r1,rfl,rfl,by omega,by omega,Hnx,qH (qcu hG.out _),hO⟩
      case measure =>
       obtain⟨h1,h2,h3,h4⟩:=Hb2.out;simp only [intOf];omega
   ·have hqB:¬(1000000000:Int)<=q:=by omega
    have hlt:¬(m3:Int)<m1:=by omega
    have hdn:=HE.out.done (q:=q) (r:=r) (by rw [HQ.out.2.2.1,HQ.out.2.2.2];exact hI.out.2) (by omega) (by rw [show u.getD (n-2) 0=u2 from HN.out.2.2.2.1,show V.getD (n-2) 0=v2 from HN.out.2.2.2.2,hm1,hm2,hm3];omega);have hg1:decide ((1000000000:Int)<=q)=false:=qU hqB;have hg2:decide (m3<m1)=false:=qU (by omega);have Hres:Hid (q<1000000000/\mval u / mval V<=q/\q<=mval u / mval V+1):=qH ⟨by omega,hI.out.1,hdn⟩;clear hdn ht hm1 hm2 hm3 hm1l b0 b1 b2 b3 b4 htop hr hq hqB hlt;go_wp2_with fail
    go_quiet (fail)
    go_wp2;go_meet
    case rel=>exact⟨q,r,rfl,rfl,Hres,qH (qcu hG.out _),hO⟩
 case rest =>
  clear HQ Hr0 i7;obtain⟨q,r,rfl,rfl,hq3,hG,hO⟩:=hcut;go_wp2_with fail
  go_loopw [10,11,77] (fun x10 x11 x77 W=>∃(k c b:Nat) (R:List Nat),k<=n/\x77=.int .i64 k/\x10=.int .u64 c/\x11=.int .i64 b/\Hid (SubInv u V q k R b c)/\Hid (w.grownBy W (some g))/\Hid (W.ownsRow B 232 1 (.slice (some ⟨g,0,none⟩) s cs) s (row32 (A++R++C)))) (fun _ _ x77 _=>n-(intOf x77).toNat)
  case atStart=>exact⟨0,0,0,u,qam _,rfl,rfl,rfl,qH (SubInv.start HE.out.du),hG,hO⟩
  case round =>
   clear hG hO;obtain⟨k,c,b,R,hk,rfl,rfl,rfl,hI,hG,hO⟩:=hrel;have hRl:R.length=n+1:=hI.out.len.trans HE.out.lu
   by_cases hkn:k<n
   ·have hki:(k:Int)<n:=by omega
    have hki2:(k:Int)<(n:Int)+1:=by omega
    have hvc:=HVc.out wr k hG.out hkn;have huc:=HU.out wr R k hO.out (by omega) hRl;have hfr:wr.frozen? ⟨g,p+k,none⟩=false:=hO.out.frozenAt (p+k);have hxe:dg R k=dg u k:=hI.out.rest k qN;rw [hxe] at huc;have hx:dg u k<1000000000:=HE.out.du k;have hd:dg V k<1000000000:=HE.out.dv k;obtain⟨x,hxx⟩:=qX (dg u k);obtain⟨d,hdd⟩:=qX (dg V k);rw [hxx] at huc hx;rw [hdd] at hvc hd;have hb:=hI.out.borrow;have hc:=hI.out.carry;have hql:=hq3.out.1;have ht1l:=qiZ hc hql hd;obtain⟨qd,hqd⟩:=qX (q*d:Nat);rw [hqd] at ht1l;obtain⟨t1,ht1⟩:=qX (c+qd:Nat);rw [ht1] at ht1l;obtain⟨c1,hc1⟩:=qX (t1 / 1000000000:Nat);obtain⟨m,hm⟩:=qX (t1 % 1000000000:Nat);have hml:m<1000000000:=by omega
    have hc1l:c1<1000000000:=by omega
    have e2:c+q*d=1000000000*c1+m:=by rw [hqd,ht1];omega
    have k1:=u64_in q (by omega);have k2:=u64_in d (by omega);have k3:(q:Int)*(d:Int)=qd:=by rw [<-hqd,qbF]
    have k4:=u64_in qd (by omega);have k5:(c:Int)+qd=t1:=by omega
    have k6:=u64_in t1 (by omega);have k7:=tmodB t1 m hm;have k8:=u64_in m (by omega);have k9:=tdivB t1 c1 hc1;have k10:=u64_in c1 (by omega);have k11:=u64_in c (by omega);have H2:=qH (qA hx (qA hb (qA hml (qA hc1l (qA e2 (qA hxx (qA hdd hRl)))))));clear hqd ht1 hc1 hm e2 hxx hdd hxe hc hql ht1l hc1l hd
    by_cases hlt:(x:Int)-b-m<0
    ·obtain⟨s1,hs1⟩:=qX (x+1000000000-b-m:Nat);have k12:(x:Int)-b-m+1000000000=s1:=by omega
     have k13:(s1:Int) % 4294967296=s1:=by omega
     have Hs1:Hid (s1<1000000000/\s1+b+m=x+1000000000*1):=qH (by omega);clear hs1 hRl;go_wp2;go_roundw
     case rel =>
      obtain⟨h1,h2,h3,h4,h5,h6,h7,h8⟩:=H2.out;have hst:=HS.out wr R k s1 hO.out (by omega);exact⟨k+1,c1,1,R.set k s1,hkn,by go_num,rfl,rfl,qH (hI.out.step (by have:=HE.out.lu;omega) Hs1.out.1 qN h4 (by rw [show V.getD k 0=d from h7];exact h5) (by rw [show u.getD k 0=x from h6];exact Hs1.out.2)),qH (qbU hG.out hst.2),qH hst.1⟩
     case measure=>simp [intOf];omega
    ·obtain⟨s1,hs1⟩:=qX (x-b-m:Nat);have k12:(x:Int)-b-m=s1:=by omega
     have k13:(s1:Int) % 4294967296=s1:=by omega
     have Hs1:Hid (s1<1000000000/\s1+b+m=x+1000000000*0):=qH (by omega);clear hs1 hRl hlt;go_wp2;go_roundw
     case rel =>
      obtain⟨h1,h2,h3,h4,h5,h6,h7,h8⟩:=H2.out;have hst:=HS.out wr R k s1 hO.out (by omega);exact⟨k+1,c1,0,R.set k s1,hkn,by go_num,rfl,rfl,qH (hI.out.step (by have:=HE.out.lu;omega) Hs1.out.1 (by omega) h4 (by rw [show V.getD k 0=d from h7];exact h5) (by rw [show u.getD k 0=x from h6];exact Hs1.out.2)),qH (qbU hG.out hst.2),qH hst.1⟩
     case measure=>simp [intOf];omega
   ·obtain rfl:k=n:=by omega
    have huc:=HU.out wr R k hO.out (by omega) hRl;have hfr:wr.frozen? ⟨g,p+k,none⟩=false:=hO.out.frozenAt (p+k);have hxe:dg R k=dg u k:=hI.out.rest k qN;rw [hxe,HN.out.2.1] at huc;have hb:=hI.out.borrow;have hc:=hI.out.carry;have hu0:=HB0.out.2.1;have hql:=hq3.out.1;have hkn1:(k:Int)<(k:Int)+1:=by omega
    have k1:=u64_in c (by omega);have HRl:=qH hRl
    by_cases hlt:(u0:Int)-b<c
    ·have hq1:1<=q:=by
      rcases qaK q with h0 | h0
      ·exfalso;have hv:=hI.out.val;rw [h0,Nat.zero_mul,qbh] at hv;have h1:=(hI.out.dig.take k).lt;rw [qar,qaZ (by omega)] at h1;have:1000000000 ^ k*1<=1000000000 ^ k*(b+c):=qaR _ (by omega);omega
      ·exact h0
     have hlt2:u0<b+c:=by omega
     obtain⟨q1,hqe⟩:=qX (q-1);have k2:(q:Int)-1=q1:=by omega
     have k3:=u64_in q1 (by omega);have k4:(q1:Int) % 4294967296=q1:=by omega
     have H3:=qH (qA hqe hlt2);clear hqe hxe hql hq1 hRl hlt2;go_wp2_with fail
     go_loopw [15,125] (fun x15 x125 W=>∃(j o:Nat) (S:List Nat),j<=k/\x125=.int .i64 j/\x15=.int .u32 o/\Hid (BackInv R V j S o)/\Hid (w.grownBy W (some g))/\Hid (W.ownsRow B 232 1 (.slice (some ⟨g,0,none⟩) s cs) s (row32 (A++S++C)))) (fun _ x125 _=>k-(intOf x125).toNat)
     case atStart=>exact⟨0,0,R,qam _,rfl,rfl,qH (BackInv.start hI.out.dig),hG,hO⟩
     case round =>
      have hG0:=hG;clear hG huc hfr;obtain⟨j,o,S,hj,rfl,rfl,hJ,hG,hO⟩:=hrel;have hSl:S.length=k+1:=hJ.out.len.trans HRl.out
      by_cases hjk:j<k
      ·have hji:(j:Int)<k:=by omega
       have hji2:(j:Int)<(k:Int)+1:=by omega
       have hvc:=HVc.out wr j hG.out hjk;have huc:=HU.out wr S j hO.out (by omega) hSl;have hfr:wr.frozen? ⟨g,p+j,none⟩=false:=hO.out.frozenAt (p+j);have hxe:dg S j=dg R j:=hJ.out.rest j qN;rw [hxe] at huc;have hx:dg R j<1000000000:=hI.out.dig j;have hd:dg V j<1000000000:=HE.out.dv j;obtain⟨x,hxx⟩:=qX (dg R j);obtain⟨d,hdd⟩:=qX (dg V j);rw [hxx] at huc hx;rw [hdd] at hvc hd;have ho:=hJ.out.carry;have H4:=qH (qA hxx (qA hdd hSl));clear hxe hxx hdd hSl
       by_cases hge:(1000000000:Int)<=(x:Int)+d+o
       ·go_wp2;go_roundw
        case rel =>
         obtain⟨h1,h2,h3⟩:=H4.out;have hst:=HS.out wr S j (x+d+o-1000000000) hO.out (by omega);have hcast:(x:Int)+d+o-1000000000=((x+d+o-1000000000:Nat):Int):=by omega
         refine⟨j+1,1,S.set j (x+d+o-1000000000),hjk,by go_num,rfl,qH (hJ.out.step (by have:=HRl.out;omega) (by omega) qN (by have e1:R.getD j 0=x:=h1;have e2:V.getD j 0=d:=h2;omega)),qH ?_,qH ?_⟩
         ·rw [hcast];exact qbU hG.out hst.2
         ·rw [hcast];exact hst.1
        case measure=>simp [intOf];omega
       ·go_wp2;go_roundw
        case rel =>
         obtain⟨h1,h2,h3⟩:=H4.out;have hst:=HS.out wr S j (x+d+o) hO.out (by omega);have hcast:(x:Int)+d+o=((x+d+o:Nat):Int):=by omega
         refine⟨j+1,0,S.set j (x+d+o),hjk,by go_num,rfl,qH (hJ.out.step (by have:=HRl.out;omega) (by omega) (by omega) (by have e1:R.getD j 0=x:=h1;have e2:V.getD j 0=d:=h2;omega)),qH ?_,qH ?_⟩
         ·rw [hcast];exact qbU hG.out hst.2
         ·rw [hcast];exact hst.1
        case measure=>simp [intOf];omega
      ·obtain rfl:j=k:=by omega
       have huc:=HU.out wr S j hO.out (by omega) hSl;have hfr:wr.frozen? ⟨g,p+j,none⟩=false:=hO.out.frozenAt (p+j);have HSl:=qH hSl;clear hSl;go_wp2;go_ret;have hst:=HS.out wr S j 0 hO.out (by have:=HSl.out;omega);refine⟨S.set j 0,q1,rfl,?_,qbU hG.out hst.2,(by first | exact hst.1 | (rw [<-qay];exact hst.1))⟩;have hres:=qgl hI.out hJ.out HE.out.lu HE.out.lv HE.out.dv HE.out.v_pos hq3.out.2.2 (by rw [show u.getD j 0=u0 from HN.out.2.1];exact H3.out.2)
       rwa [H3.out.1] at hres
    ·have k4:(q:Int) % 4294967296=q:=by omega
     have hge:¬u.getD k 0<b+c:=by rw [show u.getD k 0=u0 from HN.out.2.1];omega
     have Hge:=qH hge;clear hge hxe hql hRl;go_wp2;go_ret;have hst:=HS.out wr R k 0 hO.out (by have:=HRl.out;omega);exact⟨R.set k 0,q,rfl,qfB hI.out HE.out.lu HE.out.lv HE.out.dv HE.out.v_pos hq3.out.2.1 Hge.out,qbU hG.out hst.2,(by first | exact hst.1 | (rw [<-qay];exact hst.1))⟩
theorem qe5 (K:Nat) (hK:K<=137438953472) (am:Option Addr) (bm om cm lm:Nat) (M:List Nat) (ao:Option Addr) (bo oo co n:Nat) (O:List Nat) (w:World) (Im:IsM w am bm om cm lm M) (Io:IsM w ao bo oo co n O)
  (hx:Fit (mval M) K) (hy:Fit (mval O) K) (hn2:2<=n) (hle:mval O<=mval M) :
  Calls Tryz.prog 154 #[.slice am lm cm,.slice ao n co] w fun e w'=>∃q r,e=.returned (.tuple #[q,r])/\Below w.heap.size w w'/\MagAt w' q (mval M / mval O)/\MagAt w' r (mval M % mval O):=by
 have hlm:lm<=137438953472:=qaj (hx.len Im) hK;have hnm:n<=lm:=by rw [<-Io.len];exact Io.nrm.len (qaF hle (by have:=Im.dig.lt;rwa [Im.len] at this))
 have hcmp:=fun W hm ho=>qcG (mval M) (mval O) K (by omega) (.slice am lm cm) (.slice ao n co) W hm ho hx hy
 obtain⟨cr,hcr⟩:=qX (cmp3 (mval M) (mval O));have hcr0:¬cr<0:=by rw [<-hcr];unfold cmp3;split <;> (try split) <;> omega
 rw [hcr] at hcmp;have hco1:=hcmp w ⟨am,bm,om,cm,lm,M,rfl,Im,rfl⟩ ⟨ao,bo,oo,co,n,O,rfl,Io,rfl⟩;have HC:=qH hco1;have hao:=Io.addr (by omega);subst hao;have ht:=Io.nrm.resolve_left (by have:=Io.len;omega);rw [Io.len] at ht;obtain⟨t,htt⟩:=qX (dg O (n-1));have ht2:O.getD (n-1) 0=t:=htt;have ht0:0<t:=by omega
 have ht1:t<1000000000:=by rw [<-htt];exact Io.dig (n-1)
 obtain⟨s,hs⟩:=qX (1000000000 / (t+1));obtain⟨hs0,hs1,hs2,hs3⟩:=qf6 ht0 ht1 hs;obtain⟨t1,ht1e⟩:=qX (t+1);rw [ht1e] at hs;have i1:(t:Int)+1=t1:=by omega
 have i2:(t1:Int) % 4294967296=t1:=by omega
 have i3:(1000000000:Int).tdiv t1=s:=tdivN 1000000000 t1 s hs;have i4:(s:Int) % 4294967296=s:=by omega
 have i5:((t1:Int) == 0)=false:=by rw [beq_eq_false_iff_ne];omega
 have i6:¬t1=0:=by omega
 have i7:((n-1:Nat):Int)=(n:Int)-1:=by omega
 have i8:((n:Int) == 1)=false:=by rw [beq_eq_false_iff_ne];omega
 obtain⟨l1,hl1⟩:=qX (lm+1);obtain⟨l0,hl0⟩:=qX (lm-n);obtain⟨l2,hl2⟩:=qX (l0+1);have i9:(lm:Int)+1=l1:=by omega
 have i10:(lm:Int)-n=l0:=by omega
 have i11:(l0:Int)+1=l2:=by omega
 have hmk:=run_make_row' (P:=Tryz.prog) 134 232 (.int .u32 0) 4 Tryz.underlying134 qdm rfl .i64 .i64 l1 (by omega) (by omega);have hmk2:=run_make_row' (P:=Tryz.prog) 134 232 (.int .u32 0) 4 Tryz.underlying134 qdm rfl .i64 .i64 l2 (by omega) (by omega);have Hl:=qH (qA hl1 (qA hl0 (qA hl2 hle)));have HK:=qH hK;have hl1b:l1<=137438953473:=by omega
 have hl2b:l2<=137438953473:=by omega
 have HM:=qH Im;have HO:=qH Io;have Hx:=qH hx;have Hy:=qH hy;have Hs:=qH (qA hs0 (qA hs1 (qA ht2 (qA ht1e hs))));have Hmk:=qH hmk;have Hmk2:=qH hmk2;clear hcmp hcr hco1 ht htt ht2 ht0 ht1 hs hs0 hs1 hs2 hs3 ht1e Im Io hx hy hle hK hmk hmk2 hl1 hl0 hl2;go_enter Tryz.func154,Tryz.ntmps154;go_wp2_with fail;refine HC.out.mono ?_;rintro e w1 ⟨rfl,hb1⟩;have hoc:=(HO.out.below hb1).cell (n-1) (by omega);rw [show dg O (n-1)=t from Hs.out.2.2.1] at hoc;have HB1:=qH hb1;clear hb1;go_wp2_with fail;have htm:=qco (mval O) s K 1 (by have:=HK.out;omega) (.slice (some ⟨bo,oo,none⟩) n co) (.slice (some ⟨w1.heap.size,0,none⟩) 1 1) (w1.alloc (.cells #[.int .u32 (s:Int)] 232)) ⟨_,bo,oo,co,n,O,rfl,(HO.out.below HB1.out).below (qB.alloc qN _),rfl⟩ (qdV w1 _ Hs.out.1 (by have:=Hs.out.2.1;omega)) Hy.out (by unfold Fit;have:=Hs.out.2.1;omega);refine htm.mono ?_;clear htm;rintro e w2 ⟨v,rfl,hb2,hv⟩;obtain⟨av,bv,ov,cv,nv,V,rfl,Iv,hVv⟩:=hv;have hsd:=qe1 HO.out.dig HO.out.len (by omega) HO.out.nrm (by rw [Hs.out.2.2.1,Hs.out.2.2.2.1];exact Hs.out.2.2.2.2) Iv.dig Iv.nrm hVv;have hnv:nv=n:=by rw [<-Iv.len];exact hsd.1
 subst hnv;have hbw:Below w.heap.size w w2:=HB1.out.trans ((qB.alloc qN _:Below w1.heap.size w1 (w1.alloc (.cells #[.int .u32 (s:Int)] 232))).trans (hb2.mono (by simp only [qab];omega)) |>.mono HB1.out.size);have hav:=Iv.addr (by omega);subst hav;have HV:=qH (qA Iv (qA hVv hsd.2));have HBW:=qH hbw;clear Iv hVv hsd hb2 hbw;have hmk:=Hmk.out;go_wp2_with fail;clear hmk;have htm:=qco (mval M) s K 1 (by have:=HK.out;omega) (.slice am lm cm) (.slice (some ⟨w2.heap.size+1,0,none⟩) 1 1) ((w2.alloc (.cells (madeCells #[.int .u32 0] l1) 232)).alloc (.cells #[.int .u32 (s:Int)] 232)) ⟨_,bm,om,cm,lm,M,rfl,((HM.out.below HBW.out).below (qB.alloc qN _)).below (qB.alloc qN _),rfl⟩ (by have:=qdV (w2.alloc (.cells (madeCells #[.int .u32 0] l1) 232)) 232 Hs.out.1 (by have:=Hs.out.2.1;omega);rwa [qab] at this) Hx.out (by unfold Fit;have:=Hs.out.2.1;omega);refine htm.mono ?_;clear htm;rintro e w4 ⟨v4,rfl,hb4,hv4⟩;obtain⟨at4,bt,ot,ct,nt,T,rfl,It,hTv⟩:=hv4;have hrow:w4.heap[w2.heap.size]? = some (.cells (row32 (List.replicate l1 0)).toArray 232 (0,0)):=by
  rw [hb4.block w2.heap.size (by simp only [qab];omega),qL _ _ _ (by simp only [qab];omega)];exact qeN w2 l1 _
 have hbw4:Below w2.heap.size w2 w4:=(((qB.alloc qN _).alloc (by simp only [qab];omega) _).trans (hb4.mono (by simp only [qab];omega)));have hnt:nt<=l1:=by
  rw [<-It.len,<-Hl.out.1];refine It.nrm.len ?_;rw [hTv,qaD];have h1:=HM.out.dig.lt;rw [HM.out.len] at h1;exact Nat.mul_lt_mul'' h1 (by have:=Hs.out.2.1;omega)
 have hTl:=It.len;have htc:∀j v,(row32 T)[j]? = some v->∀ad:Addr,at4=some ad->w4.cell? (ad.add j)=some v:=by
  intro j v hj ad had;have hjl:j<nt:=by
   have:=(List.getElem?_eq_some_iff.1 hj).1;rw [qcc] at this;omega
  have h1:=It.addr (by omega);rw [h1] at had;cases had;rw [qcz T j (by omega)] at hj;rw [<-hj];rw [addr_add];exact It.cell j hjl
 have HT:=qH (qA It (qA hTv (qA hrow (qA hbw4 htc))));clear It hTv hrow hbw4 htc hb4;have hmk:=Hmk2.out
 go_wp2_with (first | (with_reducible refine wpList_copy_splice rfl (.tmp 49) (.tmp 53) 134 134 rfl 232 Tryz.underlying134 (by kernel_rfl) (some ⟨w2.heap.size,0,none⟩) at4 l1 l1 nt ct rfl rfl w2.heap.size 0 (row32 (List.replicate l1 0)) 232 HT.out.2.2.1 (row32 T) (by rw [qcc,hTl];exact (qaZ hnt).symm) ?hp ?hf ?h1 w2.heap.size w2 HT.out.2.2.2.1 qN ?hk) | fail)
 case hp =>
  intro h0;rw [qcc,HT.out.1.len] at h0;have h1:=HT.out.1.addr h0;exact⟨_,h1,fun j v hj=>HT.out.2.2.2.2 j v hj _ h1⟩
 case hf=>rw [qcc,qcc,qaQ,hTl];omega
 case h1=>exact qiT T
 case hk =>
  intro w5 hrow5 hb5;rw [qkf _ _ (by rw [qaQ,hTl];exact hnt)] at hrow5;obtain⟨U0,hU0⟩:=qX (T++(List.replicate l1 0).drop T.length);rw [hU0] at hrow5;have hU0l:U0.length=l1:=by rw [<-hU0,qaf,qaY,qaQ,hTl];omega
  have hU0v:mval U0=mval M*s:=by
   rw [<-hU0,qcw,HT.out.2.1,List.drop_replicate,qd8,Nat.mul_zero,qbh]
  have hU0d:Dig U0:=by
   rw [<-hU0];exact HT.out.1.dig.append ((Dig.zeros l1).drop _)
  have hD:=DivInv.start (w:=U0) (v:=V) hU0d (by
   rw [hU0l,hU0v,HV.out.1.len,<-Hl.out.1];exact qip HM.out.dig HM.out.len HO.out.len (by omega) HO.out.nrm Hs.out.1 hnm HV.out.2.1) (by rw [hU0l,HV.out.1.len];have:=Hl.out.1;omega)
  have hVw:IsM w5 (some ⟨bv,ov,none⟩) bv ov cv nv V:=HV.out.1.below hb5;have hbv:bv<w2.heap.size:=qit HV.out.1 (by omega);have hgs:w2.heap.size<w5.heap.size:=(qG (show w5.heap[w2.heap.size]? = _ from hrow5)).1;have hbw5:Below w.heap.size w w5:=HBW.out.trans (hb5.mono HBW.out.size);have HE0:Hid (0<mval V):=qH (by rw [HV.out.2.1];exact qbP (qbe (fun h=>by have h1:=HO.out.nrm.zero.1 h;have h2:=HO.out.len;omega)) Hs.out.1);have HD:=qH (qA hD (qA hVw (qA hbv (qA hgs (qA hbw5 (qA hrow5 (qA hU0l hU0v)))))));clear hD hVw hbv hgs hbw5 hrow5 hU0l hU0v hU0d hU0 hb5 HT hTl hnt HC i1 i2 i3 i4 i5 i6 i7 i8;go_wp2_with fail
  go_loopw [12] (fun x12 W=>∃(k:Nat) (z:Int) (Q U:List Nat),k<=l2/\x12=.int .i64 z/\Hid (z+1=k)/\Hid (DivInv U0 V k Q U)/\Hid (W.ownsRow w2.heap.size 232 1 (.slice (some ⟨w2.heap.size,0,none⟩) l1 l1) l1 (row32 U))/\Hid (W.ownsRow w2.heap.size 232 1 (.slice (some ⟨w5.heap.size,0,none⟩) l2 l2) l2 (row32 Q))/\Hid (IsM W (some ⟨bv,ov,none⟩) bv ov cv nv V)/\Hid (Below w.heap.size w W)) (fun x12 _=>(intOf x12+1).toNat)
  case atStart =>
   have e1:U0.length-V.length=l2:=by rw [HD.out.2.2.2.2.2.2.1,HV.out.1.len];have:=Hl.out;omega
   refine⟨l2,_,List.replicate l2 0,U0,qad _,rfl,qH (by omega),qH ?_,qH ?_,qH ?_,qH ?_,qH ?_⟩
   ·have:=HD.out.1
    rwa [e1] at this
   ·refine qf4 ?_ HD.out.2.2.2.2.2.2.1 qN (by unfold maxLen;omega);rw [qL _ _ _ HD.out.2.2.2.1];exact HD.out.2.2.2.2.2.1
   ·exact qf4 (qeN w5 l2 _) (by rw [qaQ]) (qao HD.out.2.2.2.1) (by unfold maxLen;omega)
   ·exact HD.out.2.1.below (qB.alloc qN _)
   ·exact HD.out.2.2.2.2.1.trans ((qB.alloc qN _:Below w5.heap.size w5 _).mono HD.out.2.2.2.2.1.size)
  case round =>
   obtain⟨k,z,Q,U,hk,rfl,hz,hI,hOu,hOq,hVw,hB⟩:=hrel
   by_cases hk0:0<k
   ·obtain⟨j,rfl⟩:∃j,k=j+1:=⟨k-1,by omega⟩;obtain rfl:z=(j:Int):=by have:=hz.out;omega
    have hjn:(j:Int)+nv+1<=l1:=by have:=Hl.out;omega
    have hjn2:(j:Int)<=(j:Int)+nv+1:=by omega
    have hj2:(j:Int)<l2:=by omega
    go_wp2_with fail;rw [show j+nv+1-j=nv+1 by omega];have hUl:U.length=l1:=hI.out.lenu.trans HD.out.2.2.2.2.2.2.1;have hVl:V.length=nv:=HV.out.1.len;obtain⟨A,hA⟩:=qX (U.take j);obtain⟨u,hu⟩:=qX ((U.drop j).take (nv+1));obtain⟨C,hC⟩:=qX (U.drop (j+(nv+1)));have hsplit:U=A++u++C:=by
     rw [<-hA,<-hu,<-hC,qay,<-List.drop_drop,List.take_append_drop,List.take_append_drop]
    have hAl:A.length=j:=by rw [<-hA,qar];omega
    have hpart:=hI.out.part (by rw [HD.out.2.2.2.2.2.2.1,hVl];omega);rw [hVl,hu] at hpart;have hE:Est u V nv:=⟨by omega,hpart.2.1,hVl,hpart.2.2,HV.out.1.dig,HV.out.2.2,hpart.1⟩;have hOu2:=hOu.out;rw [hsplit] at hOu2;have hbg:bv≠w2.heap.size:=by have:=HD.out.2.2.1;omega
    have hbq:bv≠w5.heap.size:=by have:=HD.out.2.2.1;have:=HD.out.2.2.2.1;omega
    have hgq:w2.heap.size≠w5.heap.size:=by have:=HD.out.2.2.2.1;omega
    refine (qf3 A u C V nv j l1 (l1-j) l1 w2.heap.size w2.heap.size (some ⟨bv,ov,none⟩) bv ov cv wr hAl hE hOu2 hVw.out hbg (by omega) (by omega)).mono ?_;rintro e w6 ⟨R,x,rfl,hR,hG,hOu3⟩;have hstep:=hI.out.step (R:=R) (x:=x) (by rw [HD.out.2.2.2.2.2.2.1,hVl];omega) HE0.out (by rw [hVl,hu];exact hR);rw [hVl,hA,hC] at hstep;have hOq2:=qgv hOq.out hG (Ne.symm hgq);have hQl:Q.length=l2:=by rw [hI.out.lenq,HD.out.2.2.2.2.2.2.1,hVl];have:=Hl.out;omega
    have hcr:w6.cell? ⟨w5.heap.size,j,none⟩=some (.int .u32 ((dg Q j:Nat):Int)):=(hOq2.cellAt j (by omega)).trans (qcz Q j (by omega));have hfr:w6.frozen? ⟨w5.heap.size,j,none⟩=false:=hOq2.frozenAt j;have hOq3:=qcA hOq2 j x rfl;have hG2:=qeq hOq2 j (.int .u32 (x:Int));have hOu4:=qgv hOu3 hG2 hgq;have hV2:=qgs (qgs hVw.out hG hbg) hG2 hbq;have hB6:Below w.heap.size w w6:=hB.out.grown hG hB.out.size (fun i hi=>by cases hi;exact HBW.out.size);have hB7:Below w.heap.size w (w6.setCell ⟨w5.heap.size,j,none⟩ (.int .u32 (x:Int))):=hB6.setCell (qaj HBW.out.size (qao HD.out.2.2.2.1)) _;have HR:=qH (qA hstep (qA hOu4 (qA hOq3 (qA hV2 hB7))));clear hstep hOu3 hOu4 hOq2 hOq3 hV2 hB6 hB7 hG hG2 hR hQl hpart hE hOu2 hUl hVl hAl hsplit hA hu hC hbg hbq hgq;go_wp2;go_roundw
    case rel=>exact⟨j,_,_,_,by omega,rfl,qH (by omega),qH HR.out.1,qH HR.out.2.1,qH HR.out.2.2.1,qH HR.out.2.2.2.1,qH HR.out.2.2.2.2⟩
    case measure=>simp [intOf]
   ·obtain rfl:k=0:=by omega
    obtain rfl:z = -1:=by have:=hz.out;omega
    have hUl:U.length=l1:=hI.out.lenu.trans HD.out.2.2.2.2.2.2.1;have hVl:V.length=nv:=HV.out.1.len;have hQl:Q.length=l2:=by rw [hI.out.lenq,HD.out.2.2.2.2.2.2.1,hVl];have:=Hl.out;omega
    have hnl:(nv:Int)<=l1:=by have:=Hl.out;omega
    have hval:=hI.out.val;have hsm:=hI.out.small;rw [List.drop_zero,Nat.pow_zero,Nat.mul_one,HD.out.2.2.2.2.2.2.2,HV.out.2.1] at hval;rw [Nat.pow_zero,qbx,HV.out.2.1] at hsm;have hend:=qlu Hs.out.1 hval hsm;have hz0:=hI.out.zero;rw [hVl,qaO] at hz0;have htk:mval (U.take nv)=mval U:=qcp hz0;have ht1:=qcR (some ⟨w2.heap.size,0,none⟩) w2.heap.size 0 l1 nv (U.take nv) wr (by rw [qar];omega) (by omega) (by omega) ((qcn hOu.out hUl).take nv) (hI.out.digu.take nv);rw [htk] at ht1;have HT1:=qH ht1;have HF:=qH (qA hUl (qA hQl (qA hend hsm)));clear ht1 hUl hVl hQl hval hsm hend hz0 htk;go_wp2_with fail;refine HT1.out.mono ?_;rintro e w6 ⟨v6,rfl,rfl,hv6⟩;have hsh:=qdQ (mval U) (nv+1) s (by omega) Hs.out.1 (by have:=Hs.out.2.1;omega) v6 w6 hv6 (by
     refine qag HF.out.2.2.2 (qao ?_);rw [qaD];have h1:=HO.out.dig.lt;rw [HO.out.len] at h1;exact Nat.mul_lt_mul'' h1 (by have:=Hs.out.2.1;omega))
    go_wp2_with fail;refine hsh.mono ?_;rintro e w7 ⟨v7,rfl,hb7,hv7⟩;rw [HF.out.2.2.1.2] at hv7;have hOq7:=qj7 hOq.out hb7;have ht8:=qcR (some ⟨w5.heap.size,0,none⟩) w5.heap.size 0 l2 l2 Q w7 HF.out.2.1 (by omega) qN (qcn hOq7 HF.out.2.1) hI.out.digq;rw [HF.out.2.2.1.1] at ht8;have HT8:=qH ht8;have HV7:=qH (qA hv7 hb7);clear ht8 hOq7 hv7 hb7 hsh;go_wp2_with fail;refine HT8.out.mono ?_;rintro e w8 ⟨v8,rfl,rfl,hv8⟩;have HV8:=qH hv8;clear hv8;go_wp2_with fail
    go_ret2
    exact⟨_,_,rfl,hB.out.trans (HV7.out.2.mono hB.out.size),HV8.out,HV7.out.1⟩
end Go.Proofs.YtplkdeknjghobaaGreatDoor.frac
namespace Go.Proofs.YtplkdeknjghobaaGreatDoor.least
open Go.RowKit
theorem qgy (x y K:Nat) (hK:K<=274877906944) (vm vo:Value) (w:World) (hm:MagAt w vm x) (ho:MagAt w vo y) (hx:Fit x K) (hy:Fit y K) :
  Calls Tryz.prog 229 #[vm,vo] w fun e w'=>∃v,e=.returned v/\Below w.heap.size w w'/\MagAt w' v (x+y):=by
 obtain⟨i0,hi,hz0,hz1,hz2⟩:=info_parts qdm;obtain⟨am,bm,om,cm,n,M,rfl,Im,hmx⟩:=hm;obtain⟨ao,bo,oo,co,no,O,rfl,Io,hoy⟩:=ho;have hn:n<=274877906944:=qaj ((hmx▸hx:Fit (mval M) K).len Im) hK;have hno:no<=274877906944:=qaj ((hoy▸hy:Fit (mval O) K).len Io) hK;have HM:=qH Im;have HO:=qH Io;have Hx:=qH hmx;have Hy:=qH hoy;have Hz:=qH (qA hz0 (qA hz1 hz2));have Hi:=qH hi;clear Im Io hx hy hK hmx hoy hz0 hz1 hz2 hi;go_enter Tryz.func229,Tryz.ntmps229
 go_upto_if 13 with fail
 go_cut [0,1] (fun x0 x1 W=>∃(am:Option Addr) (bm om cm n:Nat) (M:List Nat) (ao:Option Addr) (bo oo co no:Nat) (O:List Nat),x0=.slice am n cm/\x1=.slice ao no co/\W=w/\no<=n/\n<=274877906944/\Hid (IsM w am bm om cm n M)/\Hid (IsM w ao bo oo co no O)/\Hid (mval M+mval O=x+y))
 case first =>
  go_wp2_with fail
  all_goals go_meet
  all_goals first
   | exact⟨am,bm,om,cm,n,M,ao,bo,oo,co,no,O,rfl,rfl,rfl,by omega,by omega,HM,HO,qH (by rw [Hx.out,Hy.out])⟩
   | exact⟨ao,bo,oo,co,no,O,am,bm,om,cm,n,M,rfl,rfl,rfl,by omega,by omega,HO,HM,qH (by rw [Hx.out,Hy.out,Nat.add_comm])⟩
 case rest =>
  clear HM HO Hx Hy hn hno am bm om cm n M ao bo oo co no O;obtain⟨am,bm,om,cm,n,M,ao,bo,oo,co,no,O,rfl,rfl,rfl,hno,hn,HM,HO,Hv⟩:=hcut;obtain⟨w,hw⟩:=qX wc;subst hw
  go_wp2_with (first | (refine wpList_make_own _ rfl _ _ 238 rfl wc.heap.size 232 i0 (.int .u32 0) 1 Tryz.underlying238 Hi.out Hz.out.1 Hz.out.2.1 .i64 .i64 _ (n+1) rfl rfl (by omega) (by rw [Hz.out.2.2];omega) (by unfold maxLen;omega) qN ?_;intro w1 hown1 hgrow1;have Hown1:=qH hown1;have Hgrow1:=qH hgrow1;clear hown1 hgrow1) | fail)
  go_loopw [5,6,22] (fun x5 x6 x22 W=>∃(k b:Nat) (S:List Nat),k<=n/\x5=.slice (some ⟨wc.heap.size,0,none⟩) k (n+1)/\x22=.int .i64 k/\x6=.int .u32 b/\Hid (PlusInv M O k S b)/\Hid (W.ownsRow wc.heap.size 232 1 (.slice (some ⟨wc.heap.size,0,none⟩) k (n+1)) k (row32 S))/\Hid (Below wc.heap.size wc W)) (fun _ _ x22 _=>n-(intOf x22).toNat)
  case atStart=>exact⟨0,0,[],qam _,rfl,rfl,rfl,qH (PlusInv.start M O),Hown1,qH (qB.grown Hgrow1.out qN (fun k h=>by cases h))⟩
  case round =>
   obtain⟨k,b,S,hk,rfl,rfl,rfl,hI,hO,hB⟩:=hrel
   by_cases hkn:k<n
   ·have hki:(k:Int)<n:=by omega
    have haw:=HM.out.addr (by omega);subst haw;have hcm:=(HM.out.below hB.out).cell k hkn;have hd:dg M k<1000000000:=HM.out.dig k;have hb:=hI.out.carry
    by_cases hko:k<no
    ·have hkoi:(k:Int)<no:=by omega
     have hao:=HO.out.addr (by omega);subst hao;have hco:=(HO.out.below hB.out).cell k hko;have he:dg O k<1000000000:=HO.out.dig k;obtain⟨e,hee⟩:=qX (dg O k);obtain⟨d,hdd⟩:=qX (dg M k);rw [hee] at hco he;rw [hdd] at hcm hd;have Hee:=qH hee;have Hdd:=qH hdd;clear hee hdd
     by_cases hlt:(1000000000:Int)<=(d:Int)+b+e
     ·go_wp2_with (first | (at_builtin;refine wpList_append_fits _ rfl (.tmp 44) (.tmp 46) 238 rfl wc.heap.size 232 i0 1 Tryz.underlying238 Hi.out Hz.out.2.1 wc.heap.size k (n+1) _ rfl (hO.out.alloc _) ⟨wr.heap.size,0,none⟩ 1 1 [.int .u32 ((d:Int)+b+e-1000000000)] rfl rfl (qcL _ _ _) (one_cell _ _) (by omega) ?_;intro w1 hown1 hgrow1;have Hown1:=qH hown1;have Hgrow1:=qH hgrow1;clear hown1 hgrow1) | fail)
      go_roundw
      case rel=>exact⟨k+1,1,S++[d+b+e-1000000000],hkn,rfl,by go_num,rfl,qH (hI.out.step (by omega) (by omega) (by have h1:O.getD k 0=e:=Hee.out;have h2:M.getD k 0=d:=Hdd.out;omega)),qH (qdu Hown1.out (by omega)),qH (qch hB.out qN Hgrow1.out (fun j h=>by cases h;exact qad _))⟩
      case measure=>simp [intOf];omega
     ·go_wp2_with (first | (at_builtin;refine wpList_append_fits _ rfl (.tmp 44) (.tmp 46) 238 rfl wc.heap.size 232 i0 1 Tryz.underlying238 Hi.out Hz.out.2.1 wc.heap.size k (n+1) _ rfl (hO.out.alloc _) ⟨wr.heap.size,0,none⟩ 1 1 [.int .u32 ((d:Int)+b+e)] rfl rfl (qcL _ _ _) (one_cell _ _) (by omega) ?_;intro w1 hown1 hgrow1;have Hown1:=qH hown1;have Hgrow1:=qH hgrow1;clear hown1 hgrow1) | fail)
      go_roundw
      case rel=>exact⟨k+1,0,S++[d+b+e],hkn,rfl,by go_num,rfl,qH (hI.out.step (by omega) (by omega) (by have h1:O.getD k 0=e:=Hee.out;have h2:M.getD k 0=d:=Hdd.out;omega)),qH (qdu Hown1.out (by omega)),qH (qch hB.out qN Hgrow1.out (fun j h=>by cases h;exact qad _))⟩
      case measure=>simp [intOf];omega
    ·have hkoi:¬(k:Int)<no:=by omega
     have h0:O.getD k 0=0:=qdl (by rw [HO.out.len];omega);obtain⟨d,hdd⟩:=qX (dg M k);rw [hdd] at hcm hd;have Hee:=qH h0;have Hdd:=qH hdd;clear hdd h0
     by_cases hlt:(1000000000:Int)<=(d:Int)+b
     ·go_wp2_with (first | (at_builtin;refine wpList_append_fits _ rfl (.tmp 44) (.tmp 46) 238 rfl wc.heap.size 232 i0 1 Tryz.underlying238 Hi.out Hz.out.2.1 wc.heap.size k (n+1) _ rfl (hO.out.alloc _) ⟨wr.heap.size,0,none⟩ 1 1 [.int .u32 ((d:Int)+b-1000000000)] rfl rfl (qcL _ _ _) (one_cell _ _) (by omega) ?_;intro w1 hown1 hgrow1;have Hown1:=qH hown1;have Hgrow1:=qH hgrow1;clear hown1 hgrow1) | fail)
      go_roundw
      case rel=>exact⟨k+1,1,S++[d+b-1000000000],hkn,rfl,by go_num,rfl,qH (hI.out.step (by omega) (by omega) (by have h1:O.getD k 0=0:=Hee.out;have h2:M.getD k 0=d:=Hdd.out;omega)),qH (qdu Hown1.out (by omega)),qH (qch hB.out qN Hgrow1.out (fun j h=>by cases h;exact qad _))⟩
      case measure=>simp [intOf];omega
     ·go_wp2_with (first | (at_builtin;refine wpList_append_fits _ rfl (.tmp 44) (.tmp 46) 238 rfl wc.heap.size 232 i0 1 Tryz.underlying238 Hi.out Hz.out.2.1 wc.heap.size k (n+1) _ rfl (hO.out.alloc _) ⟨wr.heap.size,0,none⟩ 1 1 [.int .u32 ((d:Int)+b)] rfl rfl (qcL _ _ _) (one_cell _ _) (by omega) ?_;intro w1 hown1 hgrow1;have Hown1:=qH hown1;have Hgrow1:=qH hgrow1;clear hown1 hgrow1) | fail)
      go_roundw
      case rel=>exact⟨k+1,0,S++[d+b],hkn,rfl,by go_num,rfl,qH (hI.out.step (by omega) (by omega) (by have h1:O.getD k 0=0:=Hee.out;have h2:M.getD k 0=d:=Hdd.out;omega)),qH (qdu Hown1.out (by omega)),qH (qch hB.out qN Hgrow1.out (fun j h=>by cases h;exact qad _))⟩
      case measure=>simp [intOf];omega
   ·obtain rfl:k=n:=by omega
    have hl:S.length=k:=hI.out.len;have hI2:=hI.out;rw [<-HM.out.len] at hI2;have hval:=hI2.done (by rw [HO.out.len,HM.out.len];exact hno);rw [Hv.out,HM.out.len] at hval;have hb:=hI.out.carry;have Hval:=qH hval;clear hl hI2 hval
    by_cases hb0:b=0
    ·subst hb0;go_wp2;go_ret;refine⟨_,rfl,hB.out,some ⟨wc.heap.size,0,none⟩,wc.heap.size,0,k+1,k,S,rfl,⟨hI.out.len,by omega,qcn hO.out hI.out.len,hI.out.dig,?_⟩,?_⟩
     ·refine Nrm.of_ge hI.out.dig ?_;rw [hI.out.len,<-HM.out.len];rcases qaK M.length with h0 | h0
      ·exact qan h0
      ·have:=HM.out.nrm.ge h0;have h2:=Hval.out;have h3:=Hv.out;exact qah (by omega)
     ·have:=Hval.out;omega
    ·obtain rfl:b=1:=by omega
     go_wp2_with (first | (at_builtin;refine wpList_append_fits _ rfl (.tmp 51) (.tmp 53) 238 rfl wc.heap.size 232 i0 1 Tryz.underlying238 Hi.out Hz.out.2.1 wc.heap.size k (k+1) _ rfl (hO.out.alloc _) ⟨wr.heap.size,0,none⟩ 1 1 [.int .u32 1] rfl rfl (qcL _ _ _) (one_cell _ _) (by omega) ?_;intro w1 hown1 hgrow1;have Hown1:=qH hown1;have Hgrow1:=qH hgrow1;clear hown1 hgrow1) | fail)
     go_ret;refine⟨_,rfl,qch hB.out qN Hgrow1.out (fun j h=>by cases h;exact qad _),some ⟨wc.heap.size,0,none⟩,wc.heap.size,0,k+1,k+1,S++[1],rfl,⟨by rw [qaf,hI.out.len];rfl,qad _,qcn (qdu Hown1.out rfl) (by rw [qaf,hI.out.len];rfl),hI.out.dig.snoc (by decide),?_⟩,?_⟩
     ·exact Nrm.snoc _ (by decide)
     ·rw [qcK,hI.out.len];have:=Hval.out;omega
theorem qco (x y K J:Nat) (hK:K+J<=274877906944) (vm vo:Value) (w:World) (hm:MagAt w vm x) (ho:MagAt w vo y) (hx:Fit x K) (hy:Fit y J) :
  Calls Tryz.prog 176 #[vm,vo] w fun e w'=>∃v,e=.returned v/\Below w.heap.size w w'/\MagAt w' v (x*y):=by
 obtain⟨am,bm,om,cm,n,M,rfl,Im,rfl⟩:=hm;obtain⟨ao,bo,oo,co,no,O,rfl,Io,rfl⟩:=ho;have hn:n+no<=274877906944:=qaj (Nat.add_le_add (hx.len Im) (hy.len Io)) hK;obtain⟨s,hs⟩:=qX (n+no);have hsi:(n:Int)+(no:Int)=s:=by omega
 have hmk:=run_make_row' (P:=Tryz.prog) 238 232 (.int .u32 0) 4 Tryz.underlying238 qdm rfl .i64 .i64 s (by omega) (by omega);have HM:=qH Im;have HO:=qH Io;have Hs:=qH hs;have Hsi:=qH hsi;have hs2:s<=274877906944:=by omega
 clear Im Io hx hy hK hs;go_enter Tryz.func176,Tryz.ntmps176;go_wp2
 go_loopw [19] (fun x19 W=>∃(k:Nat) (R:List Nat),k<=n/\x19=.int .i64 k/\Hid (TimesInv M O k 0 R 0)/\Hid (W.ownsRow w.heap.size 232 1 (.slice (some ⟨w.heap.size,0,none⟩) s s) s (row32 R))/\Hid (Below w.heap.size w W)) (fun x19 _=>n-(intOf x19).toNat)
 case atStart =>
  refine⟨0,List.replicate s 0,qam _,rfl,qH ?_,qH (qen w s (by unfold maxLen;omega)),qH (qB.alloc qN _)⟩;have:=TimesInv.start M O
  rwa [HM.out.len,HO.out.len,Hs.out] at this
 case round =>
  obtain⟨k,R,hk,rfl,hI,hO,hB⟩:=hrel;clear hmk hsi
  by_cases hkn:k<n
  ·have hki:(k:Int)<n:=by omega
   have haw:=HM.out.addr (by omega);subst haw;have hcm:=(HM.out.below hB.out).cell k hkn;have hd:dg M k<1000000000:=HM.out.dig k;obtain⟨d,hdd⟩:=qX (dg M k);rw [hdd] at hcm hd;have Hdd:=qH hdd;clear hdd;go_wp2_with fail
   go_loopw [8,26] (fun x8 x26 W=>∃(j c:Nat) (S:List Nat),j<=no/\x26=.int .i64 j/\x8=.int .u64 c/\Hid (TimesInv M O k j S c)/\Hid (W.ownsRow w.heap.size 232 1 (.slice (some ⟨w.heap.size,0,none⟩) s s) s (row32 S))/\Hid (Below w.heap.size w W)) (fun _ x26 _=>no-(intOf x26).toNat)
   case atStart=>exact⟨0,0,R,qam _,rfl,rfl,hI,hO,hB⟩
   case round =>
    clear hI hO hB hcm;obtain⟨j,c,S,hj,rfl,rfl,hI,hO,hB⟩:=hrel
    by_cases hjn:j<no
    ·have hji:(j:Int)<no:=by omega
     have hao:=HO.out.addr (by omega);subst hao;have hco:=(HO.out.below hB.out).cell j hjn;have he:dg O j<1000000000:=HO.out.dig j;obtain⟨e,hee⟩:=qX (dg O j);rw [hee] at hco he;have hlr:S.length=s:=by rw [hI.out.len,HM.out.len,HO.out.len,Hs.out]
     have hcr:wr.cell? ⟨w.heap.size,k+j,none⟩=some (.int .u32 ((dg S (k+j):Nat):Int)):=(hO.out.cellAt (k+j) (by have:=Hs.out;omega)).trans (qcz S (k+j) (by have:=Hs.out;omega));have hfr:wr.frozen? ⟨w.heap.size,k+j,none⟩=false:=hO.out.frozenAt (k+j);have hp:dg S (k+j)<1000000000:=hI.out.dig (k+j);obtain⟨p,hpp⟩:=qX (dg S (k+j));rw [hpp] at hcr hp;have hc:=hI.out.carry;have Hb:=qH (qhg hc hp hd he);obtain⟨q,hq⟩:=qX (d*e:Nat);rw [hq] at Hb;have hqi:(d:Int)*(e:Int)=(q:Int):=by rw [<-hq,qbF]
     obtain⟨r,hr⟩:=qX (p+q:Nat);obtain⟨t,ht⟩:=qX (c+r:Nat);have htl:t<1000000000000000000:=by have:=Hb.out;omega
     obtain⟨c1,hc1⟩:=qX (t / 1000000000:Nat);obtain⟨s1,hs1⟩:=qX (t % 1000000000:Nat);have r1:=u64_in d (by omega);have r2:=u64_in e (by omega);have r3:=u64_in q (by omega);have r4:(p:Int)+q=r:=by omega
     have r5:=u64_in r (by omega);have r6:(c:Int)+r=t:=by omega
     have r7:=u64_in t (by omega);have r8:(t:Int).tdiv 1000000000=c1:=tdivB t c1 hc1;have r9:(t:Int).tmod 1000000000=s1:=tmodB t s1 hs1;have r10:=u64_in c1 (by omega);have r11:(s1:Int) % 4294967296=s1:=by omega
     have r12:=u64_in p (by omega);have Ht:=qH (qA hr (qA ht (qA hc1 hs1)));clear hr ht htl hc1 hs1;have hkj:(k:Int)+j<s:=by have:=Hs.out;omega
     have Hee:=qH hee;have Hpp:=qH hpp;have Hq:=qH hq;have Hc:=qH hc;have Hd:=qH hd;have He:=qH he;have Hp:=qH hp;clear hee hpp hq hlr hc hd he hp;go_wp2;go_roundw
     case rel =>
      obtain⟨hr,ht,hc1,hs1⟩:=Ht.out;exact⟨j+1,c1,S.set (k+j) s1,hjn,by go_num,rfl,qH (hI.out.step (by rw [HM.out.len];exact hkn) (by rw [HO.out.len];exact hjn) (by omega) (by have:=Hb.out;omega) (by rw [show S.getD (k+j) 0=p from Hpp.out,show M.getD k 0=d from Hdd.out,show O.getD j 0=e from Hee.out,Hq.out];omega)),qH (qcA hO.out (k+j) s1 rfl),qH (hB.out.setCell qN _)⟩
     case measure=>simp [intOf];omega
    ·obtain rfl:j=no:=by omega
     have hlr:S.length=s:=by rw [hI.out.len,HM.out.len,HO.out.len,Hs.out]
     have hcr:wr.cell? ⟨w.heap.size,k+j,none⟩=some (.int .u32 ((dg S (k+j):Nat):Int)):=(hO.out.cellAt (k+j) (by have:=Hs.out;omega)).trans (qcz S (k+j) (by have:=Hs.out;omega));have hfr:wr.frozen? ⟨w.heap.size,k+j,none⟩=false:=hO.out.frozenAt (k+j);have hkj:(k:Int)+j<s:=by have:=Hs.out;omega
     have hc:=hI.out.carry;have r1:(c:Int) % 4294967296=c:=by omega
     have Hc:=qH hc;have Hd:=qH hd;clear hlr hc hd;go_wp2;go_roundw
     case rel =>
      have h:=hI.out;rw [<-HO.out.len] at h;have h2:=h.next (by rw [HM.out.len];exact hkn)
      rw [HO.out.len] at h2;exact⟨k+1,S.set (k+j) c,hkn,by go_num,qH h2,qH (qcA hO.out (k+j) c rfl),qH (hB.out.setCell qN _)⟩
     case measure=>simp [intOf];omega
  ·obtain rfl:k=n:=by omega
   have hlr:R.length=s:=by rw [hI.out.len,HM.out.len,HO.out.len,Hs.out]
   have ht:=qcR (some ⟨w.heap.size,0,none⟩) w.heap.size 0 s s R wr hlr (by omega) qN (qcn hO.out hlr) hI.out.dig;have hv:mval R=mval M*mval O:=by
    have h1:=hI.out;rw [<-HM.out.len] at h1;exact h1.done rfl
   rw [hv] at ht;have HT:=qH ht;clear ht hv hlr;go_wp2_with fail;refine HT.out.mono ?_;rintro e w1 ⟨v,rfl,rfl,hv⟩;have Hv:=qH hv;clear hv;go_wp2;go_ret;exact⟨v,rfl,hB.out,Hv.out⟩
theorem qdQ (x K d:Nat) (hK:K<=274877906944) (hd0:0<d) (hd:d<=1000000000) (vm:Value) (w:World) (hm:MagAt w vm x) (hx:Fit x K) :
  Calls Tryz.prog 234 #[vm,.int .u32 (d:Int)] w fun e w'=>∃v,e=.returned (.tuple #[v,.int .u32 ((x % d:Nat):Int)])/\Below w.heap.size w w'/\MagAt w' v (x / d):=by
 obtain⟨am,bm,om,cm,n,M,rfl,Im,rfl⟩:=hm;have hn:n<=274877906944:=qaj (hx.len Im) hK;have hmk:=run_make_row' (P:=Tryz.prog) 238 232 (.int .u32 0) 4 Tryz.underlying238 qdm rfl .i64 .i64 n (by omega) (by omega);have HM:=qH Im;have Hd:=qH (qA hd0 hd);obtain⟨rr,hrr⟩:=qX (mval M % d);have Hrr:=qH hrr;rw [hrr];have h0:((d:Int) == 0)=false:=by rw [beq_eq_false_iff_ne];omega
 have h01:¬d=0:=by omega
 have r0:=u64_in d (by omega);clear Im hx hK hrr hd hd0;go_enter Tryz.func234,Tryz.ntmps234;go_wp2
 go_loopw [7,8] (fun x7 x8 W=>∃(k r:Nat) (z:Int) (R:List Nat),k<=n/\x8=.int .i64 z/\Hid (z+1=k)/\x7=.int .u64 r/\Hid (ShortInv M d k R r)/\Hid (W.ownsRow w.heap.size 232 1 (.slice (some ⟨w.heap.size,0,none⟩) n n) n (row32 R))/\Hid (Below w.heap.size w W)) (fun _ x8 _=>(intOf x8+1).toNat)
 case atStart =>
  refine⟨n,0,_,List.replicate n 0,qad _,rfl,qH (by omega),rfl,qH ?_,qH (qen w n (by unfold maxLen;omega)),qH (qB.alloc qN _)⟩;have:=ShortInv.start M Hd.out.1
  rwa [HM.out.len] at this
 case round =>
  obtain⟨k,r,z,R,hk,rfl,hz,rfl,hI,hO,hB⟩:=hrel;clear hmk
  by_cases hk0:0<k
  ·obtain⟨j,rfl⟩:∃j,k=j+1:=⟨k-1,by omega⟩;obtain rfl:z=(j:Int):=by have:=hz.out;omega
   have hji:(j:Int)<n:=by omega
   have haw:=HM.out.addr (by omega);subst haw;have hcm:=(HM.out.below hB.out).cell j (by omega);have hm:dg M j<1000000000:=HM.out.dig j;obtain⟨m,hmm⟩:=qX (dg M j);rw [hmm] at hcm hm;have hr:=hI.out.rest;have hlr:R.length=n:=hI.out.len.trans HM.out.len;have hcr:wr.cell? ⟨w.heap.size,j,none⟩=some (.int .u32 ((dg R j:Nat):Int)):=(hO.out.cellAt j (by omega)).trans (qcz R j (by omega));have hfr:wr.frozen? ⟨w.heap.size,j,none⟩=false:=hO.out.frozenAt j;have hdd:=Hd.out.2;obtain⟨t1,ht1⟩:=qX (r*1000000000:Nat);obtain⟨t2,ht2⟩:=qX (t1+m:Nat);obtain⟨q,hq⟩:=qX (t2 / d:Nat);obtain⟨s,hs⟩:=qX (t2 % d:Nat);have hstep:=hI.out.step (by rw [HM.out.len];omega) HM.out.dig;have hql:q<1000000000:=by
    have:=hstep.dig j;rw [qcQ (by omega),show M.getD j 0=m from hmm,ht1,ht2,hq] at this;exact this
   rw [show M.getD j 0=m from hmm,ht1,ht2,hq,hs] at hstep;have hsl:s<d:=by rw [<-hs];exact qbk _ Hd.out.1
   have r1:(r:Int)*1000000000=t1:=by omega
   have r2:=u64_in t1 (by omega);have r3:=u64_in m (by omega);have r4:(t1:Int)+m=t2:=by omega
   have r5:=u64_in t2 (by omega);have r6:=tdivN t2 d q hq;have r7:=u64_in q (by omega);have r8:(q:Int) % 4294967296=q:=by omega
   have r9:=tmodN t2 d s hs;have r10:=u64_in s (by omega);have Hst:=qH hstep;clear hstep hql hsl ht1 ht2 hq hs hlr hr hm hdd hmm;go_wp2;go_roundw
   case rel=>exact⟨j,s,_,R.set j q,by omega,rfl,qH (by omega),rfl,Hst,qH (qcA hO.out j q rfl),qH (hB.out.setCell qN _)⟩
   case measure=>simp [intOf]
  ·obtain rfl:k=0:=by omega
   obtain rfl:z = -1:=by have:=hz.out;omega
   have hlr:R.length=n:=hI.out.len.trans HM.out.len;have ht:=qcR (some ⟨w.heap.size,0,none⟩) w.heap.size 0 n n R wr hlr (by omega) qN (qcn hO.out hlr) hI.out.dig;rw [hI.out.done.1] at ht;have hre:r=rr:=by rw [<-Hrr.out];exact hI.out.done.2
   have hrl:=hI.out.rest;have hdd:=Hd.out.2;subst hre;have r1:(r:Int) % 4294967296=r:=by omega
   have HT:=qH ht;clear ht hlr hrl hdd;go_wp2_with fail;refine HT.out.mono ?_;rintro e w1 ⟨v,rfl,rfl,hv⟩;have Hv:=qH hv;clear hv;go_wp2_with fail
   go_ret2
   exact⟨v,rfl,hB.out,Hv.out⟩
theorem qdB (x:Nat) (vm:Value) (w:World) (hm:MagAt w vm x) (hx:Fit x 2) :
  Calls Tryz.prog 268 #[vm] w fun e w'=>e=.returned (.int .u64 (x:Int))/\w'=w:=by
 obtain⟨am,bm,om,cm,n,M,rfl,Im,hmx⟩:=hm;have hn:n<=2:=(hmx▸hx:Fit (mval M) 2).len Im;have hxl:x<1000000000000000000:=hx;have HM:=qH Im;have Hx:=qH hmx;have Hl:=qH hxl;clear Im hx hmx hxl;go_enter Tryz.func268,Tryz.ntmps268;go_wp2
 go_loopw [3,4] (fun x3 x4 W=>∃(k v:Nat) (z:Int),k<=n/\x4=.int .i64 z/\Hid (z+1=k)/\x3=.int .u64 v/\W=w/\Hid (v=mval (M.drop k))) (fun _ x4 _=>(intOf x4+1).toNat)
 case atStart =>
  refine⟨n,0,_,qad _,rfl,qH (by omega),rfl,rfl,qH ?_⟩;rw [qaG (by rw [HM.out.len];exact qad _)];rfl
 case round =>
  obtain⟨k,v,z,hk,rfl,hz,rfl,rfl,hI⟩:=hrel
  by_cases hk0:0<k
  ·obtain⟨j,rfl⟩:∃j,k=j+1:=⟨k-1,by omega⟩;obtain rfl:z=(j:Int):=by have:=hz.out;omega
   have hji:(j:Int)<n:=by omega
   have haw:=HM.out.addr (by omega);subst haw;have hcm:=HM.out.cell j (by omega);have hm:dg M j<1000000000:=HM.out.dig j;obtain⟨m,hmm⟩:=qX (dg M j);rw [hmm] at hcm hm;have hv:v<1000000000:=by
    rw [hI.out];have h1:=(HM.out.dig.drop (j+1)).lt;rw [qaY,HM.out.len] at h1;have h2:1000000000 ^ (n-(j+1))<=1000000000 ^ 1:=qa3 (by decide) (by omega);rw [Nat.pow_one] at h2;exact qag h1 h2
   have hst:m+1000000000*v=mval (M.drop j):=by rw [qcJ M j,show M.getD j 0=m from hmm,hI.out]
   obtain⟨t1,ht1⟩:=qX (v*1000000000:Nat);obtain⟨t2,ht2⟩:=qX (t1+m:Nat);have r1:(v:Int)*1000000000=t1:=by omega
   have r2:=u64_in t1 (by omega);have r3:=u64_in m (by omega);have r4:(t1:Int)+m=t2:=by omega
   have r5:=u64_in t2 (by omega);have Hst:=qH (show t2=mval (M.drop j) by omega);clear hv hst ht1 ht2 hm hmm;go_wp2;go_roundw
   case rel=>exact⟨j,t2,_,by omega,rfl,qH (by omega),rfl,trivial,Hst⟩
   case measure=>simp [intOf]
  ·obtain rfl:k=0:=by omega
   obtain rfl:z = -1:=by have:=hz.out;omega
   have hv:v=x:=by rw [hI.out,<-Hx.out];rfl
   subst hv;go_wp2;go_ret;exact⟨rfl,rfl⟩
theorem qc3 (x:Nat) (hx:x<18446744073709551616) (w:World) :
  Calls Tryz.prog 235 #[.int .u64 (x:Int)] w fun e w'=>∃v,e=.returned v/\Below w.heap.size w w'/\MagAt w' v x:=by
 obtain⟨i0,hi,hz0,hz1,hz2⟩:=info_parts qdm;have Hz:=qH (qA hz0 (qA hz1 hz2));have Hi:=qH hi;have Hx:=qH hx;clear hz0 hz1 hz2 hi hx;go_enter Tryz.func235,Tryz.ntmps235;go_wp2
 go_loopw [0,3] (fun x0 x3 W=>∃(v k:Nat) (V:Value) (S:List Nat),x0=.int .u64 v/\x3=V/\k<=3/\Hid (Dig S)/\Hid (v=0->Nrm S)/\Hid (mval S+1000000000 ^ k*v=x)/\Hid (W.ownsRow w.heap.size 232 1 V k (row32 S))/\Hid (Below w.heap.size w W)) (fun x0 _ _=>(intOf x0).toNat)
 case atStart=>exact⟨x,0,_,[],rfl,rfl,by omega,qH Dig.nil,qH (fun _=>qan rfl),qH (by simp [mval]),qH (World.ownsRow_nil _ _ _ _),qH qB⟩
 case round =>
  obtain⟨v,k,V,S,rfl,rfl,hk,hd,hn,hv,hO,hB⟩:=hrel
  by_cases h0:0<v
  ·have hvx:v<18446744073709551616:=qaF (qaj (Nat.le_mul_of_pos_left v (qfz k)) (by have:=hv.out;omega)) Hx.out;have hk3:k<3:=by
    rcases qaT k 3 with h | h
    ·exact h
    ·obtain rfl:k=3:=by omega
     have h1:=hv.out;have h2:=Hx.out;omega
   obtain⟨q,hq⟩:=qX (v / 1000000000:Nat);obtain⟨s,hs⟩:=qX (v % 1000000000:Nat);have hvi:(0:Int)<v:=by omega
   have r1:=tmodB v s hs;have r2:=u64_in s (by omega);have r3:(s:Int) % 4294967296=s:=by omega
   have r4:=tdivB v q hq;have r5:=u64_in q (by omega);have r6:=u64_in v hvx;have Hst:Hid (mval (S++[s])+1000000000 ^ (k+1)*q=x):=qH (by
    have hl:S.length=k:=by have:=hO.out.1;rw [qcc] at this;omega
    rw [qcK,hl,qaD,qav,Nat.add_assoc,<-qaX,<-hv.out,show s+1000000000*q=v by omega])
   have Hn2:Hid (q=0->Nrm (S++[s])):=qH (fun h=>Nrm.snoc S (by omega));have Hd2:Hid (Dig (S++[s])):=qH (hd.out.snoc (by omega));have Hq:Hid (q<v):=qH (by omega);clear hq hs hvx
   go_wp2_with (first | (at_builtin;refine wpList_append_own _ rfl (.tmp 8) (.tmp 12) 238 rfl w.heap.size 232 i0 (.int .u32 0) 1 4 Tryz.underlying238 Hi.out Hz.out.1 Hz.out.2.1 Hz.out.2.2 rfl (by decide) _ _ _ rfl (hO.out.alloc _) ⟨wr.heap.size,0,none⟩ 1 1 [.int .u32 (s:Int)] rfl rfl (qcL _ _ _) (one_cell _ _) (by unfold maxLen;omega) (by omega) (by have:=hB.out.size;simp only [qab];omega) ?_;intro v' w1 hown1 hgrow1 _;have Hown1:=qH hown1;have Hgrow1:=qH hgrow1;clear hown1 hgrow1) | fail)
   go_roundw
   case rel=>exact⟨q,k+1,_,S++[s],rfl,rfl,by omega,Hd2,Hn2,Hst,qH (by rw [qc5];exact Hown1.out),qH (qch hB.out qN Hgrow1.out (fun j h=>(hO.out.lt j h).1))⟩
   case measure=>have:=Hq.out;simp [intOf];omega
  ·obtain rfl:v=0:=by omega
   have ht:=qmI hO.out hd.out (hn.out rfl);rw [show mval S=x by have:=hv.out;omega] at ht;have Ht:=qH ht;clear ht;go_wp2;go_ret;exact⟨_,rfl,hB.out,Ht.out⟩
theorem qcF (x:Nat) (vm:Value) (w:World) (hm:MagAt w vm x) :
  Calls Tryz.prog 168 #[vm] w fun e w'=>e=.returned (.bool (decide (x=0)))/\w'=w:=by
 obtain⟨am,bm,om,cm,n,M,rfl,Im,rfl⟩:=hm;have h:mval M=0↔n=0:=by rw [<-Im.len];exact Im.nrm.zero
 have Hh:=qH h;clear Im h
 by_cases h0:n=0
 ·rw [qV (Hh.out.2 h0)];subst h0;go_enter Tryz.func168,Tryz.ntmps168;go_wp2;go_ret;exact⟨rfl,rfl⟩
 ·rw [qU (fun h=>h0 (Hh.out.1 h))];have hi:((n:Int) == 0)=false:=by rw [beq_eq_false_iff_ne];omega
  go_enter Tryz.func168,Tryz.ntmps168;go_wp2;go_ret;exact⟨rfl,rfl⟩
theorem qcG (x y K:Nat) (hK:K<=274877906944) (vm vo:Value) (w:World) (hm:MagAt w vm x) (ho:MagAt w vo y) (hx:Fit x K) (hy:Fit y K) :
  Calls Tryz.prog 230 #[vm,vo] w fun e w'=>e=.returned (.int .i64 (cmp3 x y))/\Below w.heap.size w w':=by
 obtain⟨am,bm,om,cm,n,M,rfl,Im,rfl⟩:=hm;obtain⟨ao,bo,oo,co,no,O,rfl,Io,rfl⟩:=ho;have hn:n<=274877906944:=qaj (hx.len Im) hK;have hno:no<=274877906944:=qaj (hy.len Io) hK;have HM:=qH Im;have HO:=qH Io;obtain⟨R,hR⟩:=qX (cmp3 (mval M) (mval O));rw [hR];have HR:=qH hR;clear Im Io hx hy hK hR
 by_cases hne:n=no
 ·subst hne;clear hno;go_enter Tryz.func230,Tryz.ntmps230;go_wp2
  go_loopw [5] (fun x5 W=>∃(k:Nat) (z:Int),k<=n/\x5=.int .i64 z/\Hid (z+1=k)/\Hid (M.drop k=O.drop k)/\Hid (Below w.heap.size w W)) (fun x5 _=>(intOf x5+1).toNat)
  case atStart =>
   exact⟨n,_,qad _,rfl,qH (by omega),qH (by rw [qaG (by rw [HM.out.len];exact qad _),qaG (by rw [HO.out.len];exact qad _)]),qH qB⟩
  case round =>
   obtain⟨k,z,hk,rfl,hz,hI,hB⟩:=hrel
   by_cases hk0:0<k
   ·obtain⟨j,rfl⟩:∃j,k=j+1:=⟨k-1,by omega⟩;obtain rfl:z=(j:Int):=by have:=hz.out;omega
    have hji:(j:Int)<n:=by omega
    have haw:=HM.out.addr (by omega);have hao:=HO.out.addr (by omega);subst haw;subst hao;have hcm:=(HM.out.below hB.out).cell j (by omega);have hco:=(HO.out.below hB.out).cell j (by omega);have hlm:=HM.out.len;have hlo:=HO.out.len;obtain⟨d,hdd⟩:=qX (dg M j);obtain⟨e,hee⟩:=qX (dg O j);rw [hdd] at hcm;rw [hee] at hco;have e1:M[j]'(by omega)=d:=by rw [<-hdd];unfold dg;rw [qaa,qae (by omega)];rfl
    have e2:O[j]'(by omega)=e:=by rw [<-hee];unfold dg;rw [qaa,qae (by omega)];rfl
    have H:=qH (qA hlm (qA hlo (qA hdd hee)));have Hlt:=qH (fun h:d<e=>qft M O j HM.out.dig.mem (by omega) (by omega) (by rw [e1,e2];exact h) hI.out);have Hgt:=qH (fun h:e<d=>qft O M j HO.out.dig.mem (by omega) (by omega) (by rw [e1,e2];exact h) hI.out.symm);have Heq:=qH (fun h:d=e=>(show M.drop j=O.drop j by rw [qbp (show j<M.length by omega),qbp (show j<O.length by omega),e1,e2,h,hI.out]));clear e1 e2 hlm hlo hdd hee
    by_cases hde:d=e
    ·subst hde;go_wp2_with fail
     go_quiet (fail)
     go_wp2;go_roundw
     case rel=>exact⟨j,_,by omega,rfl,qH (by omega),qH (Heq.out trivial),qH (below_drewN hB.out _)⟩
     case measure=>simp [intOf]
    ·have hb:((d:Int) == (e:Int))=false:=by rw [beq_eq_false_iff_ne];omega
     have hnei:¬(d:Int)=(e:Int):=by omega
     have hres:cmp3 (d:Int) (e:Int)=R:=by
      rw [<-HR.out];rcases qaT d e with h | h
      ·have:=Hlt.out h;unfold cmp3;rw [if_pos (by omega),if_pos (by omega)]
      ·have:=Hgt.out (by omega);unfold cmp3;rw [if_neg (by omega),if_neg (by omega),if_neg (by omega),if_neg (by omega)]
     have hc:=fun W=>qlm (d:Int) (e:Int) W
     rw [hres] at hc;have HC:=qH hc;clear hc hres;go_wp2_with fail
     go_quiet (fail)
     go_wp2_with fail;obtain⟨W1,hW1⟩:=qX (wr.drewN nq);have hcm1:W1.cell? ⟨bm,om+j,none⟩=some (.int .u32 (d:Int)):=by rw [<-hW1];exact hcm
     have hco1:W1.cell? ⟨bo,oo+j,none⟩=some (.int .u32 (e:Int)):=by rw [<-hW1];exact hco
     have HB1:Hid (Below w.heap.size w W1):=qH (hW1▸below_drewN hB.out _);rw [hW1];clear hW1
     go_quiet ((go_at_call 219;exact qhB ((HC.out _).mono fun _ _ h=>⟨h.1,h.2.symm⟩)))
     go_wp2;go_ret;exact⟨rfl,below_drewN HB1.out _⟩
   ·obtain rfl:k=0:=by omega
    obtain rfl:z = -1:=by have:=hz.out;omega
    have hmo:M=O:=hI.out;have hR0:R=0:=by rw [<-HR.out,hmo];unfold cmp3;rw [if_neg (by omega),if_pos rfl]
    subst hR0;clear hmo;go_wp2;go_ret;exact⟨rfl,hB.out⟩
 ·have hb:((n:Int) == (no:Int))=false:=by rw [beq_eq_false_iff_ne];omega
  have hnei:¬(n:Int)=(no:Int):=by omega
  have hres:cmp3 (n:Int) (no:Int)=R:=by
   rw [<-HR.out];have nz:∀L:List Nat,Nrm L->L.getLast?≠some 0:=fun L h=>by
    rcases h with h | h
    ·rw [qbu.1 h];simp
    ·intro hl;apply h;rw [List.getLast?_eq_getElem?] at hl;rw [qaa,hl];rfl
   have hlm:=HM.out.len;have hlo:=HO.out.len;rcases qaT n no with h | h
   ·have:=qel M O HM.out.dig.mem (by omega) (nz O HO.out.nrm);unfold cmp3;rw [if_pos (by omega),if_pos (by omega)]
   ·have:=qel O M HO.out.dig.mem (by omega) (nz M HM.out.nrm);unfold cmp3;rw [if_neg (by omega),if_neg (by omega),if_neg (by omega),if_neg (by omega)]
  have hc:=fun W=>qll (n:Int) (no:Int) W
  rw [hres] at hc;have HC:=qH hc;clear hc hres;go_enter Tryz.func230,Tryz.ntmps230;go_wp2_with fail;refine (HC.out _).mono ?_;rintro e w1 ⟨rfl,rfl⟩;go_wp2;go_ret;exact⟨rfl,Below.refl _ _⟩
theorem qf3 (A u C V:List Nat) (n p s cu cs B g:Nat) (av:Option Addr) (bv ov cv:Nat) (w:World) (hp:A.length=p) (hE:Est u V n) (hown:w.ownsRow B 232 1 (.slice (some ⟨g,0,none⟩) s cs) s (row32 (A++u++C))) (hV:IsM w av bv ov cv n V) (hne:bv≠g) (hcu:n+1<=cu) (hs:s<=549755813888) :
  Calls Tryz.prog 236 #[.slice (some ⟨g,p,none⟩) (n+1) cu,.slice av n cv] w fun e w'=>∃(R:List Nat) (q:Nat),e=.returned (.int .u32 (q:Int))/\Reduced u V R q/\w.grownBy w' (some g)/\w'.ownsRow B 232 1 (.slice (some ⟨g,0,none⟩) s cs) s (row32 (A++R++C)):=by
 have hlu:=hE.lu;have hsz:p+(n+1)<=s:=by
  have:=hown.1;rw [qcc,qaf,qaf,hp,hlu] at this;omega
 have hn2:=hE.two;have hnb:n<=549755813888:=by omega
 obtain rfl:=hV.addr (by omega);have HP:=qH hp;have HE:=qH hE;have HO:=qH hown;have HV:=qH hV;have Hne:=qH hne;have HU:Hid (∀(W:World) (R:List Nat) (i:Nat),W.ownsRow B 232 1 (.slice (some ⟨g,0,none⟩) s cs) s (row32 (A++R++C))->i<R.length->R.length=n+1->W.cell? ⟨g,p+i,none⟩=some (.int .u32 ((dg R i:Nat):Int))):=qH fun W R i h hi hl=>by
  rw [<-HP.out];rw [h.cellAt (A.length+i) (by rw [HP.out];omega),qcz _ _ (by rw [qaf,qaf];omega),dg_mid A R C i hi]
 have HS:Hid (∀(W:World) (R:List Nat) (i d:Nat),W.ownsRow B 232 1 (.slice (some ⟨g,0,none⟩) s cs) s (row32 (A++R++C))->i<R.length->(W.setCell ⟨g,p+i,none⟩ (.int .u32 (d:Int))).ownsRow B 232 1 (.slice (some ⟨g,0,none⟩) s cs) s (row32 (A++(R.set i d)++C))/\W.grownBy (W.setCell ⟨g,p+i,none⟩ (.int .u32 (d:Int))) (some g)):=qH fun W R i d h hi=>by
  rw [<-HP.out];refine⟨?_,qeq h _ _⟩;have h1:=qcA h (A.length+i) d rfl
  rwa [set_mid A R C i d hi] at h1
 have HVc:Hid (∀(W:World) (i:Nat),w.grownBy W (some g)->i<n->W.cell? ⟨bv,ov+i,none⟩=some (.int .u32 ((dg V i:Nat):Int))):=qH fun W i h hi=>h.cell (HV.out.cell i hi) (fun e=>Hne.out (qai e))
 have hin1:((n-1:Nat):Int)=(n:Int)-1:=by omega
 have hin2:((n-2:Nat):Int)=(n:Int)-2:=by omega
 have hvc1:=HVc.out w (n-1) (qcT _ _) (by omega);have huc0:=HU.out w u n hown (by omega) hlu;have huc1:=HU.out w u (n-1) hown (by omega) hlu;obtain⟨tp,htp⟩:=qX (dg V (n-1));obtain⟨u0,hu0⟩:=qX (dg u n);obtain⟨u1,hu1⟩:=qX (dg u (n-1));obtain⟨u2,hu2⟩:=qX (dg u (n-2));obtain⟨v2,hv2⟩:=qX (dg V (n-2));have b0:tp<1000000000:=htp▸hE.dv (n-1);have b1:u0<1000000000:=hu0▸hE.du n;have b2:u1<1000000000:=hu1▸hE.du (n-1);have b3:u2<1000000000:=hu2▸hE.du (n-2);have b4:v2<1000000000:=hv2▸hE.dv (n-2);have htop:0<tp:=by have:=hE.top_pos;rw [<-htp];exact this
 rw [htp] at hvc1;rw [hu0] at huc0;rw [hu1] at huc1;obtain⟨a1,ha1⟩:=qX (u0*1000000000:Nat);obtain⟨hd,hhd⟩:=qX (a1+u1:Nat);have hhead:Est.head u n=hd:=by have e1:u.getD n 0=u0:=hu0;have e2:u.getD (n-1) 0=u1:=hu1;unfold Est.head;rw [e1,e2,ha1,hhd]
 have htop2:Est.top V n=tp:=htp;have hfirst:=hE.first
 rw [hhead,htop2] at hfirst;obtain⟨q0,hq0⟩:=qX (hd / tp:Nat);obtain⟨r0,hr0⟩:=qX (hd % tp:Nat);have hr0l:r0<tp:=by rw [<-hr0];exact qbk _ htop
 have hqr:q0*tp+r0=hd:=by rw [<-hq0,<-hr0,qau];exact Nat.div_add_mod _ _
 rw [hq0] at hfirst;have i1:=u64_in u0 (by omega);have i2:(u0:Int)*1000000000=a1:=by omega
 have i3:=u64_in a1 (by omega);have i4:=u64_in u1 (by omega);have i5:(a1:Int)+u1=hd:=by omega
 have i6:=u64_in hd (by omega);have i7:=u64_in tp (by omega);have i8:=tdivN hd tp q0 hq0;have i9:=tmodN hd tp r0 hr0;have i10:=u64_in q0 (by omega);have i11:=u64_in r0 (by omega);have i12:((tp:Int) == 0)=false:=by rw [beq_eq_false_iff_ne];omega
 have i13:¬tp=0:=by omega
 have HQ:=qH (qA hfirst (qA hqr (qA hhead htop2)));have HB0:=qH (qA b0 (qA b1 (qA b2 (qA b3 (qA b4 htop)))));have HN:=qH (qA htp (qA hu0 (qA hu1 (qA hu2 hv2))));have Hr0:=qH hr0l;have Hs:=qH (qA hs hsz);clear hfirst hqr hhead htop2 b0 b1 b2 b3 b4 htop htp hu0 hu1 hu2 hv2 ha1 hhd hq0 hr0 hr0l hE hown hV hne hlu hp hsz;go_enter Tryz.func236,Tryz.ntmps236;go_wp2_with fail
 go_quiet (fail)
 go_wp2_with fail
 go_quiet (fail)
 clear huc0 huc1 hvc1 i1 i2 i3 i4 i5 i6 i8 i9 i10 i11 i12 i13;rename_i hK;refine hK _ _ ?_
 go_step
 go_cut [8,9] (fun x8 x9 W=>∃q r:Nat,x8=.int .u64 q/\x9=.int .u64 r/\Hid (q<1000000000/\mval u / mval V<=q/\q<=mval u / mval V+1)/\Hid (w.grownBy W (some g))/\Hid (W.ownsRow B 232 1 (.slice (some ⟨g,0,none⟩) s cs) s (row32 (A++u++C))))
 case first =>
  go_wp2_with fail
  go_loopw [8,9] (fun x8 x9 W=>∃q r:Nat,x8=.int .u64 q/\x9=.int .u64 r/\r<1000000000/\q<=1000000002/\Hid (mval u / mval V<=q/\q*tp+r=hd)/\Hid (w.grownBy W (some g))/\Hid (W.ownsRow B 232 1 (.slice (some ⟨g,0,none⟩) s cs) s (row32 (A++u++C)))) (fun x8 _ _=>(intOf x8).toNat)
  case atStart=>exact⟨q0,r0,rfl,rfl,by have:=Hr0.out;have:=HB0.out.1;omega,HQ.out.1.2,qH ⟨HQ.out.1.1,HQ.out.2.1⟩,qH (qcu (qcu (qcT _ _) _) _),HO⟩
  case round =>
   obtain⟨q,r,rfl,rfl,hr,hq,hI,hG,hO⟩:=hrel;have hu2c:=HU.out wr u (n-2) hO.out (by rw [HE.out.lu];omega) HE.out.lu;have hv2c:=HVc.out wr (n-2) hG.out (by omega);rw [HN.out.2.2.2.1] at hu2c;rw [HN.out.2.2.2.2] at hv2c;obtain⟨b0,b1,b2,b3,b4,htop⟩:=HB0.out;obtain⟨m1,hm1⟩:=qX (q*v2:Nat);obtain⟨m2,hm2⟩:=qX (r*1000000000:Nat);obtain⟨m3,hm3⟩:=qX (m2+u2:Nat);have hm1l:m1<=1000000002*999999999:=by rw [<-hm1];exact Nat.mul_le_mul hq (by omega)
   have j1:=u64_in q (by omega);have j2:=u64_in v2 (by omega);have j3:(q:Int)*(v2:Int)=m1:=by rw [<-hm1,qbF]
   have j4:=u64_in m1 (by omega);have j5:=u64_in r (by omega);have j6:(r:Int)*1000000000=m2:=by omega
   have j7:=u64_in m2 (by omega);have j8:=u64_in u2 (by omega);have j9:(m2:Int)+u2=m3:=by omega
   have j10:=u64_in m3 (by omega);have j11:=u64_in tp (by omega)
   by_cases ht:1000000000<=q\/m3<m1
   ·have hdn:=HE.out.down (q:=q) (r:=r) (by rw [HQ.out.2.2.1,HQ.out.2.2.2];exact hI.out.2) hI.out.1 (by rw [show u.getD (n-2) 0=u2 from HN.out.2.2.2.1,show V.getD (n-2) 0=v2 from HN.out.2.2.2.2,hm1,hm2,hm3];exact ht);rw [HQ.out.2.2.1,HQ.out.2.2.2] at hdn;obtain⟨hq1,hdn1,hdn2⟩:=hdn;obtain⟨q1,hq1e⟩:=qX (q-1);obtain⟨r1,hr1e⟩:=qX (r+tp);rw [hq1e] at hdn1 hdn2;rw [hr1e] at hdn2;have hj12:q1+1=q:=by omega
    have j12:(q:Int)-1=q1:=by omega
    have j13:=u64_in q1 (by omega);have j14:(r:Int)+tp=r1:=by omega
    have j15:=u64_in r1 (by omega);clear hq1e hr1e
    by_cases hqB:(1000000000:Int)<=q
    ·have hg1:decide ((1000000000:Int)<=q)=true:=qV hqB
     by_cases hbr:(1000000000:Int)<=r1
     ·have hb:=HE.out.broke (q:=q1) (r:=r1) (by rw [HQ.out.2.2.1,HQ.out.2.2.2];exact hdn2) (by omega);have Hres:=qH (qA hb.1 (qA hdn1 hb.2));clear hb hdn1 hdn2 ht hm1 hm2 hm3 hm1l b0 b1 b2 b3 b4 htop hq1 hr hq;go_wp2_with fail
      go_quiet (fail)
      go_wp2;go_meet
      case rel=>exact⟨q1,r1,rfl,rfl,Hres,qH (qcu hG.out _),hO⟩
     ·have Hnx:=qH (qA hdn1 hdn2);have Hb2:=qH (qA hq (qA hq1 (qA hj12 hbr)));have hbrd:decide ((1000000000:Int)<=r1)=false:=qU hbr;clear hbr hdn1 hdn2 ht hm1 hm2 hm3 hm1l b0 b1 b2 b3 b4 htop hq1 hr hq;go_wp2_with fail
      go_quiet (fail)
      go_wp2;go_roundw
      case rel =>
       obtain⟨h1,h2,h3,h4⟩:=Hb2.out;exact⟨q1,r1,rfl,rfl,by omega,by omega,Hnx,qH (qcu hG.out _),hO⟩
      case measure =>
       obtain⟨h1,h2,h3,h4⟩:=Hb2.out;simp only [intOf];omega
    ·have hg1:decide ((1000000000:Int)<=q)=false:=qU hqB;have hlt:(m3:Int)<m1:=by omega
     by_cases hbr:(1000000000:Int)<=r1
     ·have hb:=HE.out.broke (q:=q1) (r:=r1) (by rw [HQ.out.2.2.1,HQ.out.2.2.2];exact hdn2) (by omega);have Hres:=qH (qA hb.1 (qA hdn1 hb.2));clear hb hdn1 hdn2 ht hm1 hm2 hm3 hm1l b0 b1 b2 b3 b4 htop hq1 hr hq;go_wp2_with fail
      go_quiet (fail)
      go_wp2;go_meet
      case rel=>exact⟨q1,r1,rfl,rfl,Hres,qH (qcu hG.out _),hO⟩
     ·have Hnx:=qH (qA hdn1 hdn2);have Hb2:=qH (qA hq (qA hq1 (qA hj12 hbr)));have hbrd:decide ((1000000000:Int)<=r1)=false:=qU hbr;clear hbr hdn1 hdn2 ht hm1 hm2 hm3 hm1l b0 b1 b2 b3 b4 htop hq1 hr hq;go_wp2_with fail
      go_quiet (fail)
      go_wp2;go_roundw
      case rel =>
       obtain⟨h1,h2,h3,h4⟩:=Hb2.out;exact⟨q1,r1,rfl,rfl,by omega,by omega,Hnx,qH (qcu hG.out _),hO⟩
      case measure =>
       obtain⟨h1,h2,h3,h4⟩:=Hb2.out;simp only [intOf];omega
   ·have hqB:¬(1000000000:Int)<=q:=by omega
    have hlt:¬(m3:Int)<m1:=by omega
    have hdn:=HE.out.done (q:=q) (r:=r) (by rw [HQ.out.2.2.1,HQ.out.2.2.2];exact hI.out.2) (by omega) (by rw [show u.getD (n-2) 0=u2 from HN.out.2.2.2.1,show V.getD (n-2) 0=v2 from HN.out.2.2.2.2,hm1,hm2,hm3];omega);have hg1:decide ((1000000000:Int)<=q)=false:=qU hqB;have hg2:decide (m3<m1)=false:=qU (by omega);have Hres:Hid (q<1000000000/\mval u / mval V<=q/\q<=mval u / mval V+1):=qH ⟨by omega,hI.out.1,hdn⟩;clear hdn ht hm1 hm2 hm3 hm1l b0 b1 b2 b3 b4 htop hr hq hqB hlt;go_wp2_with fail
    go_quiet (fail)
    go_wp2;go_meet
    case rel=>exact⟨q,r,rfl,rfl,Hres,qH (qcu hG.out _),hO⟩
 case rest =>
  clear HQ Hr0 i7;obtain⟨q,r,rfl,rfl,hq3,hG,hO⟩:=hcut;go_wp2_with fail
  go_loopw [10,11,77] (fun x10 x11 x77 W=>∃(k c b:Nat) (R:List Nat),k<=n/\x77=.int .i64 k/\x10=.int .u64 c/\x11=.int .i64 b/\Hid (SubInv u V q k R b c)/\Hid (w.grownBy W (some g))/\Hid (W.ownsRow B 232 1 (.slice (some ⟨g,0,none⟩) s cs) s (row32 (A++R++C)))) (fun _ _ x77 _=>n-(intOf x77).toNat)
  case atStart=>exact⟨0,0,0,u,qam _,rfl,rfl,rfl,qH (SubInv.start HE.out.du),hG,hO⟩
  case round =>
   clear hG hO;obtain⟨k,c,b,R,hk,rfl,rfl,rfl,hI,hG,hO⟩:=hrel;have hRl:R.length=n+1:=hI.out.len.trans HE.out.lu
   by_cases hkn:k<n
   ·have hki:(k:Int)<n:=by omega
    have hki2:(k:Int)<(n:Int)+1:=by omega
    have hvc:=HVc.out wr k hG.out hkn;have huc:=HU.out wr R k hO.out (by omega) hRl;have hfr:wr.frozen? ⟨g,p+k,none⟩=false:=hO.out.frozenAt (p+k);have hxe:dg R k=dg u k:=hI.out.rest k qN;rw [hxe] at huc;have hx:dg u k<1000000000:=HE.out.du k;have hd:dg V k<1000000000:=HE.out.dv k;obtain⟨x,hxx⟩:=qX (dg u k);obtain⟨d,hdd⟩:=qX (dg V k);rw [hxx] at huc hx;rw [hdd] at hvc hd;have hb:=hI.out.borrow;have hc:=hI.out.carry;have hql:=hq3.out.1;have ht1l:=qiZ hc hql hd;obtain⟨qd,hqd⟩:=qX (q*d:Nat);rw [hqd] at ht1l;obtain⟨t1,ht1⟩:=qX (c+qd:Nat);rw [ht1] at ht1l;obtain⟨c1,hc1⟩:=qX (t1 / 1000000000:Nat);obtain⟨m,hm⟩:=qX (t1 % 1000000000:Nat);have hml:m<1000000000:=by omega
    have hc1l:c1<1000000000:=by omega
    have e2:c+q*d=1000000000*c1+m:=by rw [hqd,ht1];omega
    have k1:=u64_in q (by omega);have k2:=u64_in d (by omega);have k3:(q:Int)*(d:Int)=qd:=by rw [<-hqd,qbF]
    have k4:=u64_in qd (by omega);have k5:(c:Int)+qd=t1:=by omega
    have k6:=u64_in t1 (by omega);have k7:=tmodB t1 m hm;have k8:=u64_in m (by omega);have k9:=tdivB t1 c1 hc1;have k10:=u64_in c1 (by omega);have k11:=u64_in c (by omega);have H2:=qH (qA hx (qA hb (qA hml (qA hc1l (qA e2 (qA hxx (qA hdd hRl)))))));clear hqd ht1 hc1 hm e2 hxx hdd hxe hc hql ht1l hc1l hd
    by_cases hlt:(x:Int)-b-m<0
    ·obtain⟨s1,hs1⟩:=qX (x+1000000000-b-m:Nat);have k12:(x:Int)-b-m+1000000000=s1:=by omega
     have k13:(s1:Int) % 4294967296=s1:=by omega
     have Hs1:Hid (s1<1000000000/\s1+b+m=x+1000000000*1):=qH (by omega);clear hs1 hRl;go_wp2;go_roundw
     case rel =>
      obtain⟨h1,h2,h3,h4,h5,h6,h7,h8⟩:=H2.out;have hst:=HS.out wr R k s1 hO.out (by omega);exact⟨k+1,c1,1,R.set k s1,hkn,by go_num,rfl,rfl,qH (hI.out.step (by have:=HE.out.lu;omega) Hs1.out.1 qN h4 (by rw [show V.getD k 0=d from h7];exact h5) (by rw [show u.getD k 0=x from h6];exact Hs1.out.2)),qH (qbU hG.out hst.2),qH hst.1⟩
     case measure=>simp [intOf];omega
    ·obtain⟨s1,hs1⟩:=qX (x-b-m:Nat);have k12:(x:Int)-b-m=s1:=by omega
     have k13:(s1:Int) % 4294967296=s1:=by omega
     have Hs1:Hid (s1<1000000000/\s1+b+m=x+1000000000*0):=qH (by omega);clear hs1 hRl hlt;go_wp2;go_roundw
     case rel =>
      obtain⟨h1,h2,h3,h4,h5,h6,h7,h8⟩:=H2.out;have hst:=HS.out wr R k s1 hO.out (by omega);exact⟨k+1,c1,0,R.set k s1,hkn,by go_num,rfl,rfl,qH (hI.out.step (by have:=HE.out.lu;omega) Hs1.out.1 (by omega) h4 (by rw [show V.getD k 0=d from h7];exact h5) (by rw [show u.getD k 0=x from h6];exact Hs1.out.2)),qH (qbU hG.out hst.2),qH hst.1⟩
     case measure=>simp [intOf];omega
   ·obtain rfl:k=n:=by omega
    have huc:=HU.out wr R k hO.out (by omega) hRl;have hfr:wr.frozen? ⟨g,p+k,none⟩=false:=hO.out.frozenAt (p+k);have hxe:dg R k=dg u k:=hI.out.rest k qN;rw [hxe,HN.out.2.1] at huc;have hb:=hI.out.borrow;have hc:=hI.out.carry;have hu0:=HB0.out.2.1;have hql:=hq3.out.1;have hkn1:(k:Int)<(k:Int)+1:=by omega
    have k1:=u64_in c (by omega);have HRl:=qH hRl
    by_cases hlt:(u0:Int)-b<c
    ·have hq1:1<=q:=by
      rcases qaK q with h0 | h0
      ·exfalso;have hv:=hI.out.val;rw [h0,Nat.zero_mul,qbh] at hv;have h1:=(hI.out.dig.take k).lt;rw [qar,qaZ (by omega)] at h1;have:1000000000 ^ k*1<=1000000000 ^ k*(b+c):=qaR _ (by omega);omega
      ·exact h0
     have hlt2:u0<b+c:=by omega
     obtain⟨q1,hqe⟩:=qX (q-1);have k2:(q:Int)-1=q1:=by omega
     have k3:=u64_in q1 (by omega);have k4:(q1:Int) % 4294967296=q1:=by omega
     have H3:=qH (qA hqe hlt2);clear hqe hxe hql hq1 hRl hlt2;go_wp2_with fail
     go_loopw [15,125] (fun x15 x125 W=>∃(j o:Nat) (S:List Nat),j<=k/\x125=.int .i64 j/\x15=.int .u32 o/\Hid (BackInv R V j S o)/\Hid (w.grownBy W (some g))/\Hid (W.ownsRow B 232 1 (.slice (some ⟨g,0,none⟩) s cs) s (row32 (A++S++C)))) (fun _ x125 _=>k-(intOf x125).toNat)
     case atStart=>exact⟨0,0,R,qam _,rfl,rfl,qH (BackInv.start hI.out.dig),hG,hO⟩
     case round =>
      have hG0:=hG;clear hG huc hfr;obtain⟨j,o,S,hj,rfl,rfl,hJ,hG,hO⟩:=hrel;have hSl:S.length=k+1:=hJ.out.len.trans HRl.out
      by_cases hjk:j<k
      ·have hji:(j:Int)<k:=by omega
       have hji2:(j:Int)<(k:Int)+1:=by omega
       have hvc:=HVc.out wr j hG.out hjk;have huc:=HU.out wr S j hO.out (by omega) hSl;have hfr:wr.frozen? ⟨g,p+j,none⟩=false:=hO.out.frozenAt (p+j);have hxe:dg S j=dg R j:=hJ.out.rest j qN;rw [hxe] at huc;have hx:dg R j<1000000000:=hI.out.dig j;have hd:dg V j<1000000000:=HE.out.dv j;obtain⟨x,hxx⟩:=qX (dg R j);obtain⟨d,hdd⟩:=qX (dg V j);rw [hxx] at huc hx;rw [hdd] at hvc hd;have ho:=hJ.out.carry;have H4:=qH (qA hxx (qA hdd hSl));clear hxe hxx hdd hSl
       by_cases hge:(1000000000:Int)<=(x:Int)+d+o
       ·go_wp2;go_roundw
        case rel =>
         obtain⟨h1,h2,h3⟩:=H4.out;have hst:=HS.out wr S j (x+d+o-1000000000) hO.out (by omega);have hcast:(x:Int)+d+o-1000000000=((x+d+o-1000000000:Nat):Int):=by omega
         refine⟨j+1,1,S.set j (x+d+o-1000000000),hjk,by go_num,rfl,qH (hJ.out.step (by have:=HRl.out;omega) (by omega) qN (by have e1:R.getD j 0=x:=h1;have e2:V.getD j 0=d:=h2;omega)),qH ?_,qH ?_⟩
         ·rw [hcast];exact qbU hG.out hst.2
         ·rw [hcast];exact hst.1
        case measure=>simp [intOf];omega
       ·go_wp2;go_roundw
        case rel =>
         obtain⟨h1,h2,h3⟩:=H4.out;have hst:=HS.out wr S j (x+d+o) hO.out (by omega);have hcast:(x:Int)+d+o=((x+d+o:Nat):Int):=by omega
         refine⟨j+1,0,S.set j (x+d+o),hjk,by go_num,rfl,qH (hJ.out.step (by have:=HRl.out;omega) (by omega) (by omega) (by have e1:R.getD j 0=x:=h1;have e2:V.getD j 0=d:=h2;omega)),qH ?_,qH ?_⟩
         ·rw [hcast];exact qbU hG.out hst.2
         ·rw [hcast];exact hst.1
        case measure=>simp [intOf];omega
      ·obtain rfl:j=k:=by omega
       have huc:=HU.out wr S j hO.out (by omega) hSl;have hfr:wr.frozen? ⟨g,p+j,none⟩=false:=hO.out.frozenAt (p+j);have HSl:=qH hSl;clear hSl;go_wp2;go_ret;have hst:=HS.out wr S j 0 hO.out (by have:=HSl.out;omega);refine⟨S.set j 0,q1,rfl,?_,qbU hG.out hst.2,(by first | exact hst.1 | (rw [<-qay];exact hst.1))⟩;have hres:=qgl hI.out hJ.out HE.out.lu HE.out.lv HE.out.dv HE.out.v_pos hq3.out.2.2 (by rw [show u.getD j 0=u0 from HN.out.2.1];exact H3.out.2)
       rwa [H3.out.1] at hres
    ·have k4:(q:Int) % 4294967296=q:=by omega
     have hge:¬u.getD k 0<b+c:=by rw [show u.getD k 0=u0 from HN.out.2.1];omega
     have Hge:=qH hge;clear hge hxe hql hRl;go_wp2;go_ret;have hst:=HS.out wr R k 0 hO.out (by have:=HRl.out;omega);exact⟨R.set k 0,q,rfl,qfB hI.out HE.out.lu HE.out.lv HE.out.dv HE.out.v_pos hq3.out.2.1 Hge.out,qbU hG.out hst.2,(by first | exact hst.1 | (rw [<-qay];exact hst.1))⟩
theorem qe5 (K:Nat) (hK:K<=137438953472) (am:Option Addr) (bm om cm lm:Nat) (M:List Nat) (ao:Option Addr) (bo oo co n:Nat) (O:List Nat) (w:World) (Im:IsM w am bm om cm lm M) (Io:IsM w ao bo oo co n O)
  (hx:Fit (mval M) K) (hy:Fit (mval O) K) (hn2:2<=n) (hle:mval O<=mval M) :
  Calls Tryz.prog 178 #[.slice am lm cm,.slice ao n co] w fun e w'=>∃q r,e=.returned (.tuple #[q,r])/\Below w.heap.size w w'/\MagAt w' q (mval M / mval O)/\MagAt w' r (mval M % mval O):=by
 have hlm:lm<=137438953472:=qaj (hx.len Im) hK;have hnm:n<=lm:=by rw [<-Io.len];exact Io.nrm.len (qaF hle (by have:=Im.dig.lt;rwa [Im.len] at this))
 have hcmp:=fun W hm ho=>qcG (mval M) (mval O) K (by omega) (.slice am lm cm) (.slice ao n co) W hm ho hx hy
 obtain⟨cr,hcr⟩:=qX (cmp3 (mval M) (mval O));have hcr0:¬cr<0:=by rw [<-hcr];unfold cmp3;split <;> (try split) <;> omega
 rw [hcr] at hcmp;have hco1:=hcmp w ⟨am,bm,om,cm,lm,M,rfl,Im,rfl⟩ ⟨ao,bo,oo,co,n,O,rfl,Io,rfl⟩;have HC:=qH hco1;have hao:=Io.addr (by omega);subst hao;have ht:=Io.nrm.resolve_left (by have:=Io.len;omega);rw [Io.len] at ht;obtain⟨t,htt⟩:=qX (dg O (n-1));have ht2:O.getD (n-1) 0=t:=htt;have ht0:0<t:=by omega
 have ht1:t<1000000000:=by rw [<-htt];exact Io.dig (n-1)
 obtain⟨s,hs⟩:=qX (1000000000 / (t+1));obtain⟨hs0,hs1,hs2,hs3⟩:=qf6 ht0 ht1 hs;obtain⟨t1,ht1e⟩:=qX (t+1);rw [ht1e] at hs;have i1:(t:Int)+1=t1:=by omega
 have i2:(t1:Int) % 4294967296=t1:=by omega
 have i3:(1000000000:Int).tdiv t1=s:=tdivN 1000000000 t1 s hs;have i4:(s:Int) % 4294967296=s:=by omega
 have i5:((t1:Int) == 0)=false:=by rw [beq_eq_false_iff_ne];omega
 have i6:¬t1=0:=by omega
 have i7:((n-1:Nat):Int)=(n:Int)-1:=by omega
 have i8:((n:Int) == 1)=false:=by rw [beq_eq_false_iff_ne];omega
 obtain⟨l1,hl1⟩:=qX (lm+1);obtain⟨l0,hl0⟩:=qX (lm-n);obtain⟨l2,hl2⟩:=qX (l0+1);have i9:(lm:Int)+1=l1:=by omega
 have i10:(lm:Int)-n=l0:=by omega
 have i11:(l0:Int)+1=l2:=by omega
 have hmk:=run_make_row' (P:=Tryz.prog) 238 232 (.int .u32 0) 4 Tryz.underlying238 qdm rfl .i64 .i64 l1 (by omega) (by omega);have hmk2:=run_make_row' (P:=Tryz.prog) 238 232 (.int .u32 0) 4 Tryz.underlying238 qdm rfl .i64 .i64 l2 (by omega) (by omega);have Hl:=qH (qA hl1 (qA hl0 (qA hl2 hle)));have HK:=qH hK;have hl1b:l1<=137438953473:=by omega
 have hl2b:l2<=137438953473:=by omega
 have HM:=qH Im;have HO:=qH Io;have Hx:=qH hx;have Hy:=qH hy;have Hs:=qH (qA hs0 (qA hs1 (qA ht2 (qA ht1e hs))));have Hmk:=qH hmk;have Hmk2:=qH hmk2;clear hcmp hcr hco1 ht htt ht2 ht0 ht1 hs hs0 hs1 hs2 hs3 ht1e Im Io hx hy hle hK hmk hmk2 hl1 hl0 hl2;go_enter Tryz.func178,Tryz.ntmps178;go_wp2_with fail;refine HC.out.mono ?_;rintro e w1 ⟨rfl,hb1⟩;have hoc:=(HO.out.below hb1).cell (n-1) (by omega);rw [show dg O (n-1)=t from Hs.out.2.2.1] at hoc;have HB1:=qH hb1;clear hb1;go_wp2_with fail;have htm:=qco (mval O) s K 1 (by have:=HK.out;omega) (.slice (some ⟨bo,oo,none⟩) n co) (.slice (some ⟨w1.heap.size,0,none⟩) 1 1) (w1.alloc (.cells #[.int .u32 (s:Int)] 232)) ⟨_,bo,oo,co,n,O,rfl,(HO.out.below HB1.out).below (qB.alloc qN _),rfl⟩ (qdV w1 _ Hs.out.1 (by have:=Hs.out.2.1;omega)) Hy.out (by unfold Fit;have:=Hs.out.2.1;omega);refine htm.mono ?_;clear htm;rintro e w2 ⟨v,rfl,hb2,hv⟩;obtain⟨av,bv,ov,cv,nv,V,rfl,Iv,hVv⟩:=hv;have hsd:=qe1 HO.out.dig HO.out.len (by omega) HO.out.nrm (by rw [Hs.out.2.2.1,Hs.out.2.2.2.1];exact Hs.out.2.2.2.2) Iv.dig Iv.nrm hVv;have hnv:nv=n:=by rw [<-Iv.len];exact hsd.1
 subst hnv;have hbw:Below w.heap.size w w2:=HB1.out.trans ((qB.alloc qN _:Below w1.heap.size w1 (w1.alloc (.cells #[.int .u32 (s:Int)] 232))).trans (hb2.mono (by simp only [qab];omega)) |>.mono HB1.out.size);have hav:=Iv.addr (by omega);subst hav;have HV:=qH (qA Iv (qA hVv hsd.2));have HBW:=qH hbw;clear Iv hVv hsd hb2 hbw;have hmk:=Hmk.out;go_wp2_with fail;clear hmk;have htm:=qco (mval M) s K 1 (by have:=HK.out;omega) (.slice am lm cm) (.slice (some ⟨w2.heap.size+1,0,none⟩) 1 1) ((w2.alloc (.cells (madeCells #[.int .u32 0] l1) 232)).alloc (.cells #[.int .u32 (s:Int)] 232)) ⟨_,bm,om,cm,lm,M,rfl,((HM.out.below HBW.out).below (qB.alloc qN _)).below (qB.alloc qN _),rfl⟩ (by have:=qdV (w2.alloc (.cells (madeCells #[.int .u32 0] l1) 232)) 232 Hs.out.1 (by have:=Hs.out.2.1;omega);rwa [qab] at this) Hx.out (by unfold Fit;have:=Hs.out.2.1;omega);refine htm.mono ?_;clear htm;rintro e w4 ⟨v4,rfl,hb4,hv4⟩;obtain⟨at4,bt,ot,ct,nt,T,rfl,It,hTv⟩:=hv4;have hrow:w4.heap[w2.heap.size]? = some (.cells (row32 (List.replicate l1 0)).toArray 232 (0,0)):=by
  rw [hb4.block w2.heap.size (by simp only [qab];omega),qL _ _ _ (by simp only [qab];omega)];exact qeN w2 l1 _
 have hbw4:Below w2.heap.size w2 w4:=(((qB.alloc qN _).alloc (by simp only [qab];omega) _).trans (hb4.mono (by simp only [qab];omega)));have hnt:nt<=l1:=by
  rw [<-It.len,<-Hl.out.1];refine It.nrm.len ?_;rw [hTv,qaD];have h1:=HM.out.dig.lt;rw [HM.out.len] at h1;exact Nat.mul_lt_mul'' h1 (by have:=Hs.out.2.1;omega)
 have hTl:=It.len;have htc:∀j v,(row32 T)[j]? = some v->∀ad:Addr,at4=some ad->w4.cell? (ad.add j)=some v:=by
  intro j v hj ad had;have hjl:j<nt:=by
   have:=(List.getElem?_eq_some_iff.1 hj).1;rw [qcc] at this;omega
  have h1:=It.addr (by omega);rw [h1] at had;cases had;rw [qcz T j (by omega)] at hj;rw [<-hj];rw [addr_add];exact It.cell j hjl
 have HT:=qH (qA It (qA hTv (qA hrow (qA hbw4 htc))));clear It hTv hrow hbw4 htc hb4;have hmk:=Hmk2.out
 go_wp2_with (first | (with_reducible refine wpList_copy_splice rfl (.tmp 49) (.tmp 53) 238 238 rfl 232 Tryz.underlying238 (by kernel_rfl) (some ⟨w2.heap.size,0,none⟩) at4 l1 l1 nt ct rfl rfl w2.heap.size 0 (row32 (List.replicate l1 0)) 232 HT.out.2.2.1 (row32 T) (by rw [qcc,hTl];exact (qaZ hnt).symm) ?hp ?hf ?h1 w2.heap.size w2 HT.out.2.2.2.1 qN ?hk) | fail)
 case hp =>
  intro h0;rw [qcc,HT.out.1.len] at h0;have h1:=HT.out.1.addr h0;exact⟨_,h1,fun j v hj=>HT.out.2.2.2.2 j v hj _ h1⟩
 case hf=>rw [qcc,qcc,qaQ,hTl];omega
 case h1=>exact qiT T
 case hk =>
  intro w5 hrow5 hb5;rw [qkf _ _ (by rw [qaQ,hTl];exact hnt)] at hrow5;obtain⟨U0,hU0⟩:=qX (T++(List.replicate l1 0).drop T.length);rw [hU0] at hrow5;have hU0l:U0.length=l1:=by rw [<-hU0,qaf,qaY,qaQ,hTl];omega
  have hU0v:mval U0=mval M*s:=by
   rw [<-hU0,qcw,HT.out.2.1,List.drop_replicate,qd8,Nat.mul_zero,qbh]
  have hU0d:Dig U0:=by
   rw [<-hU0];exact HT.out.1.dig.append ((Dig.zeros l1).drop _)
  have hD:=DivInv.start (w:=U0) (v:=V) hU0d (by
   rw [hU0l,hU0v,HV.out.1.len,<-Hl.out.1];exact qip HM.out.dig HM.out.len HO.out.len (by omega) HO.out.nrm Hs.out.1 hnm HV.out.2.1) (by rw [hU0l,HV.out.1.len];have:=Hl.out.1;omega)
  have hVw:IsM w5 (some ⟨bv,ov,none⟩) bv ov cv nv V:=HV.out.1.below hb5;have hbv:bv<w2.heap.size:=qit HV.out.1 (by omega);have hgs:w2.heap.size<w5.heap.size:=(qG (show w5.heap[w2.heap.size]? = _ from hrow5)).1;have hbw5:Below w.heap.size w w5:=HBW.out.trans (hb5.mono HBW.out.size);have HE0:Hid (0<mval V):=qH (by rw [HV.out.2.1];exact qbP (qbe (fun h=>by have h1:=HO.out.nrm.zero.1 h;have h2:=HO.out.len;omega)) Hs.out.1);have HD:=qH (qA hD (qA hVw (qA hbv (qA hgs (qA hbw5 (qA hrow5 (qA hU0l hU0v)))))));clear hD hVw hbv hgs hbw5 hrow5 hU0l hU0v hU0d hU0 hb5 HT hTl hnt HC i1 i2 i3 i4 i5 i6 i7 i8;go_wp2_with fail
  go_loopw [12] (fun x12 W=>∃(k:Nat) (z:Int) (Q U:List Nat),k<=l2/\x12=.int .i64 z/\Hid (z+1=k)/\Hid (DivInv U0 V k Q U)/\Hid (W.ownsRow w2.heap.size 232 1 (.slice (some ⟨w2.heap.size,0,none⟩) l1 l1) l1 (row32 U))/\Hid (W.ownsRow w2.heap.size 232 1 (.slice (some ⟨w5.heap.size,0,none⟩) l2 l2) l2 (row32 Q))/\Hid (IsM W (some ⟨bv,ov,none⟩) bv ov cv nv V)/\Hid (Below w.heap.size w W)) (fun x12 _=>(intOf x12+1).toNat)
  case atStart =>
   have e1:U0.length-V.length=l2:=by rw [HD.out.2.2.2.2.2.2.1,HV.out.1.len];have:=Hl.out;omega
   refine⟨l2,_,List.replicate l2 0,U0,qad _,rfl,qH (by omega),qH ?_,qH ?_,qH ?_,qH ?_,qH ?_⟩
   ·have:=HD.out.1
    rwa [e1] at this
   ·refine qf4 ?_ HD.out.2.2.2.2.2.2.1 qN (by unfold maxLen;omega);rw [qL _ _ _ HD.out.2.2.2.1];exact HD.out.2.2.2.2.2.1
   ·exact qf4 (qeN w5 l2 _) (by rw [qaQ]) (qao HD.out.2.2.2.1) (by unfold maxLen;omega)
   ·exact HD.out.2.1.below (qB.alloc qN _)
   ·exact HD.out.2.2.2.2.1.trans ((qB.alloc qN _:Below w5.heap.size w5 _).mono HD.out.2.2.2.2.1.size)
  case round =>
   obtain⟨k,z,Q,U,hk,rfl,hz,hI,hOu,hOq,hVw,hB⟩:=hrel
   by_cases hk0:0<k
   ·obtain⟨j,rfl⟩:∃j,k=j+1:=⟨k-1,by omega⟩;obtain rfl:z=(j:Int):=by have:=hz.out;omega
    have hjn:(j:Int)+nv+1<=l1:=by have:=Hl.out;omega
    have hjn2:(j:Int)<=(j:Int)+nv+1:=by omega
    have hj2:(j:Int)<l2:=by omega
    go_wp2_with fail;rw [show j+nv+1-j=nv+1 by omega];have hUl:U.length=l1:=hI.out.lenu.trans HD.out.2.2.2.2.2.2.1;have hVl:V.length=nv:=HV.out.1.len;obtain⟨A,hA⟩:=qX (U.take j);obtain⟨u,hu⟩:=qX ((U.drop j).take (nv+1));obtain⟨C,hC⟩:=qX (U.drop (j+(nv+1)));have hsplit:U=A++u++C:=by
     rw [<-hA,<-hu,<-hC,qay,<-List.drop_drop,List.take_append_drop,List.take_append_drop]
    have hAl:A.length=j:=by rw [<-hA,qar];omega
    have hpart:=hI.out.part (by rw [HD.out.2.2.2.2.2.2.1,hVl];omega);rw [hVl,hu] at hpart;have hE:Est u V nv:=⟨by omega,hpart.2.1,hVl,hpart.2.2,HV.out.1.dig,HV.out.2.2,hpart.1⟩;have hOu2:=hOu.out;rw [hsplit] at hOu2;have hbg:bv≠w2.heap.size:=by have:=HD.out.2.2.1;omega
    have hbq:bv≠w5.heap.size:=by have:=HD.out.2.2.1;have:=HD.out.2.2.2.1;omega
    have hgq:w2.heap.size≠w5.heap.size:=by have:=HD.out.2.2.2.1;omega
    refine (qf3 A u C V nv j l1 (l1-j) l1 w2.heap.size w2.heap.size (some ⟨bv,ov,none⟩) bv ov cv wr hAl hE hOu2 hVw.out hbg (by omega) (by omega)).mono ?_;rintro e w6 ⟨R,x,rfl,hR,hG,hOu3⟩;have hstep:=hI.out.step (R:=R) (x:=x) (by rw [HD.out.2.2.2.2.2.2.1,hVl];omega) HE0.out (by rw [hVl,hu];exact hR);rw [hVl,hA,hC] at hstep;have hOq2:=qgv hOq.out hG (Ne.symm hgq);have hQl:Q.length=l2:=by rw [hI.out.lenq,HD.out.2.2.2.2.2.2.1,hVl];have:=Hl.out;omega
    have hcr:w6.cell? ⟨w5.heap.size,j,none⟩=some (.int .u32 ((dg Q j:Nat):Int)):=(hOq2.cellAt j (by omega)).trans (qcz Q j (by omega));have hfr:w6.frozen? ⟨w5.heap.size,j,none⟩=false:=hOq2.frozenAt j;have hOq3:=qcA hOq2 j x rfl;have hG2:=qeq hOq2 j (.int .u32 (x:Int));have hOu4:=qgv hOu3 hG2 hgq;have hV2:=qgs (qgs hVw.out hG hbg) hG2 hbq;have hB6:Below w.heap.size w w6:=hB.out.grown hG hB.out.size (fun i hi=>by cases hi;exact HBW.out.size);have hB7:Below w.heap.size w (w6.setCell ⟨w5.heap.size,j,none⟩ (.int .u32 (x:Int))):=hB6.setCell (qaj HBW.out.size (qao HD.out.2.2.2.1)) _;have HR:=qH (qA hstep (qA hOu4 (qA hOq3 (qA hV2 hB7))));clear hstep hOu3 hOu4 hOq2 hOq3 hV2 hB6 hB7 hG hG2 hR hQl hpart hE hOu2 hUl hVl hAl hsplit hA hu hC hbg hbq hgq;go_wp2;go_roundw
    case rel=>exact⟨j,_,_,_,by omega,rfl,qH (by omega),qH HR.out.1,qH HR.out.2.1,qH HR.out.2.2.1,qH HR.out.2.2.2.1,qH HR.out.2.2.2.2⟩
    case measure=>simp [intOf]
   ·obtain rfl:k=0:=by omega
    obtain rfl:z = -1:=by have:=hz.out;omega
    have hUl:U.length=l1:=hI.out.lenu.trans HD.out.2.2.2.2.2.2.1;have hVl:V.length=nv:=HV.out.1.len;have hQl:Q.length=l2:=by rw [hI.out.lenq,HD.out.2.2.2.2.2.2.1,hVl];have:=Hl.out;omega
    have hnl:(nv:Int)<=l1:=by have:=Hl.out;omega
    have hval:=hI.out.val;have hsm:=hI.out.small;rw [List.drop_zero,Nat.pow_zero,Nat.mul_one,HD.out.2.2.2.2.2.2.2,HV.out.2.1] at hval;rw [Nat.pow_zero,qbx,HV.out.2.1] at hsm;have hend:=qlu Hs.out.1 hval hsm;have hz0:=hI.out.zero;rw [hVl,qaO] at hz0;have htk:mval (U.take nv)=mval U:=qcp hz0;have ht1:=qcR (some ⟨w2.heap.size,0,none⟩) w2.heap.size 0 l1 nv (U.take nv) wr (by rw [qar];omega) (by omega) (by omega) ((qcn hOu.out hUl).take nv) (hI.out.digu.take nv);rw [htk] at ht1;have HT1:=qH ht1;have HF:=qH (qA hUl (qA hQl (qA hend hsm)));clear ht1 hUl hVl hQl hval hsm hend hz0 htk;go_wp2_with fail;refine HT1.out.mono ?_;rintro e w6 ⟨v6,rfl,rfl,hv6⟩;have hsh:=qdQ (mval U) (nv+1) s (by omega) Hs.out.1 (by have:=Hs.out.2.1;omega) v6 w6 hv6 (by
     refine qag HF.out.2.2.2 (qao ?_);rw [qaD];have h1:=HO.out.dig.lt;rw [HO.out.len] at h1;exact Nat.mul_lt_mul'' h1 (by have:=Hs.out.2.1;omega))
    go_wp2_with fail;refine hsh.mono ?_;rintro e w7 ⟨v7,rfl,hb7,hv7⟩;rw [HF.out.2.2.1.2] at hv7;have hOq7:=qj7 hOq.out hb7;have ht8:=qcR (some ⟨w5.heap.size,0,none⟩) w5.heap.size 0 l2 l2 Q w7 HF.out.2.1 (by omega) qN (qcn hOq7 HF.out.2.1) hI.out.digq;rw [HF.out.2.2.1.1] at ht8;have HT8:=qH ht8;have HV7:=qH (qA hv7 hb7);clear ht8 hOq7 hv7 hb7 hsh;go_wp2_with fail;refine HT8.out.mono ?_;rintro e w8 ⟨v8,rfl,rfl,hv8⟩;have HV8:=qH hv8;clear hv8;go_wp2_with fail
    go_ret2
    exact⟨_,_,rfl,hB.out.trans (HV7.out.2.mono hB.out.size),HV8.out,HV7.out.1⟩
