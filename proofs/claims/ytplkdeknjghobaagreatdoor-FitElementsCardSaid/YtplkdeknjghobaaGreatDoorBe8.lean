import Derived.Deep.OwnRows
import Derived.Test.YtplkdeknjghobaaGreatDoorBe3
set_option maxRecDepth 100000
set_option maxHeartbeats 0
namespace Go.Proofs.YtplkdeknjghobaaGreatDoor.frac
open Go.RowKit
theorem qez (x y K:Nat) (hK:K<=274877906944) (vm vo:Value) (w:World) (hm:MagAt w vm x) (ho:MagAt w vo y) (hx:Fit x K) (hle:y<=x) :
  Calls Tryz.prog 201 #[vm,vo] w fun e w'=>∃v,e=.returned v/\Below w.heap.size w w'/\MagAt w' v (x-y):=by
 obtain⟨am,bm,om,cm,n,M,rfl,Im,rfl⟩:=hm;obtain⟨ao,bo,oo,co,no,O,rfl,Io,rfl⟩:=ho;have hn:n<=274877906944:=qaj (hx.len Im) hK;have hno:no<=n:=by rw [<-Io.len];exact Io.nrm.len (qaF hle (by have:=Im.dig.lt;rwa [Im.len] at this))
 have hmk:=run_make_row' (P:=Tryz.prog) 134 232 (.int .u32 0) 4 Tryz.underlying134 qdm rfl .i64 .i64 n (by omega) (by omega);have HM:=qH Im;have HO:=qH Io;have Hle:=qH hle;have Hx:=qH hx;clear Im Io hle hx hK;go_enter Tryz.func201,Tryz.ntmps201;go_wp2
 go_loopw [6,15] (fun x6 x15 W=>∃(k b:Nat) (R:List Nat),k<=n/\x15=.int .i64 k/\x6=.int .u32 b/\Hid (MinusInv M O k R b)/\Hid (W.ownsRow w.heap.size 232 1 (.slice (some ⟨w.heap.size,0,none⟩) n n) n (row32 R))/\Hid (Below w.heap.size w W)) (fun _ x15 _=>n-(intOf x15).toNat)
 case atStart =>
  refine⟨0,0,List.replicate n 0,qam _,rfl,rfl,qH ?_,qH (qen w n (by unfold maxLen;omega)),qH (qB.alloc qN _)⟩;have:=MinusInv.start M O
  rwa [HM.out.len] at this
 case round =>
  obtain⟨k,b,R,hk,rfl,rfl,hI,hO,hB⟩:=hrel
  by_cases hkn:k<n
  ·have hki:(k:Int)<n:=by omega
   have haw:=HM.out.addr (by omega);subst haw;have hcm:=(HM.out.below hB.out).cell k hkn;have hd:dg M k<1000000000:=HM.out.dig k;have hlr:R.length=n:=hI.out.len.trans HM.out.len;have hcr:wr.cell? ⟨w.heap.size,k,none⟩=some (.int .u32 ((dg R k:Nat):Int)):=(hO.out.cellAt k (by omega)).trans (qcz R k (by omega));have hfr:wr.frozen? ⟨w.heap.size,k,none⟩=false:=hO.out.frozenAt k;have hb:=hI.out.carry;have Hd:=qH hd;clear hlr
   by_cases hko:k<no
   ·have hkoi:(k:Int)<no:=by omega
    have hao:=HO.out.addr (by omega);subst hao;have hco:=(HO.out.below hB.out).cell k hko;have he:dg O k<1000000000:=HO.out.dig k;obtain⟨e,hee⟩:=qX (dg O k);obtain⟨d,hdd⟩:=qX (dg M k);rw [hee] at hco he;rw [hdd] at hcm hd;have Hee:=qH hee;have Hdd:=qH hdd;clear hee hdd Hd
    by_cases hlt:d<b+e
    ·go_wp2;go_roundw
     case rel=>exact⟨k+1,1,R.set k (d+1000000000-(b+e)),hkn,by go_num,rfl,qH (hI.out.step (by rw [HM.out.len];exact hkn) (by omega) (by omega) (by rw [show O.getD k 0=e from Hee.out,show M.getD k 0=d from Hdd.out];omega)),qH (qcA hO.out k _ (by omega)),qH (hB.out.setCell qN _)⟩
     case measure=>simp [intOf];omega
    ·go_wp2;go_roundw
     case rel=>exact⟨k+1,0,R.set k (d-(b+e)),hkn,by go_num,rfl,qH (hI.out.step (by rw [HM.out.len];exact hkn) (by omega) (by omega) (by rw [show O.getD k 0=e from Hee.out,show M.getD k 0=d from Hdd.out];omega)),qH (qcA hO.out k _ (by omega)),qH (hB.out.setCell qN _)⟩
     case measure=>simp [intOf];omega
   ·have hkoi:¬(k:Int)<no:=by omega
    have h0:O.getD k 0=0:=qdl (by rw [HO.out.len];omega);obtain⟨d,hdd⟩:=qX (dg M k);rw [hdd] at hcm hd;have Hee:=qH h0;have Hdd:=qH hdd;clear hdd Hd h0
    by_cases hlt:d<b
    ·go_wp2;go_roundw
     case rel=>exact⟨k+1,1,R.set k (d+1000000000-b),hkn,by go_num,rfl,qH (hI.out.step (by rw [HM.out.len];exact hkn) (by omega) (by omega) (by rw [Hee.out,show M.getD k 0=d from Hdd.out];omega)),qH (qcA hO.out k _ (by omega)),qH (hB.out.setCell qN _)⟩
     case measure=>simp [intOf];omega
    ·go_wp2;go_roundw
     case rel=>exact⟨k+1,0,R.set k (d-b),hkn,by go_num,rfl,qH (hI.out.step (by rw [HM.out.len];exact hkn) (by omega) (by omega) (by rw [Hee.out,show M.getD k 0=d from Hdd.out];omega)),qH (qcA hO.out k _ (by omega)),qH (hB.out.setCell qN _)⟩
     case measure=>simp [intOf];omega
  ·obtain rfl:k=n:=by omega
   have hlr:R.length=k:=hI.out.len.trans HM.out.len;have ht:=qcR (some ⟨w.heap.size,0,none⟩) w.heap.size 0 k k R wr hlr (by omega) qN (qcn hO.out hlr) hI.out.dig;have hv:mval R=mval M-mval O:=by
    have h1:=hI.out;rw [<-HM.out.len] at h1;exact h1.done (by rw [HM.out.len,HO.out.len];exact hno) Hle.out
   rw [hv] at ht;have HT:=qH ht;clear ht hv hlr;go_wp2_with fail;refine HT.out.mono ?_;rintro e w1 ⟨v,rfl,rfl,hv⟩;have Hv:=qH hv;clear hv;go_wp2;go_ret;exact⟨v,rfl,hB.out,Hv.out⟩
end Go.Proofs.YtplkdeknjghobaaGreatDoor.frac
namespace Go.Proofs.YtplkdeknjghobaaGreatDoor.least
open Go.RowKit
theorem qez (x y K:Nat) (hK:K<=274877906944) (vm vo:Value) (w:World) (hm:MagAt w vm x) (ho:MagAt w vo y) (hx:Fit x K) (hle:y<=x) :
  Calls Tryz.prog 231 #[vm,vo] w fun e w'=>∃v,e=.returned v/\Below w.heap.size w w'/\MagAt w' v (x-y):=by
 obtain⟨am,bm,om,cm,n,M,rfl,Im,rfl⟩:=hm;obtain⟨ao,bo,oo,co,no,O,rfl,Io,rfl⟩:=ho;have hn:n<=274877906944:=qaj (hx.len Im) hK;have hno:no<=n:=by rw [<-Io.len];exact Io.nrm.len (qaF hle (by have:=Im.dig.lt;rwa [Im.len] at this))
 have hmk:=run_make_row' (P:=Tryz.prog) 238 232 (.int .u32 0) 4 Tryz.underlying238 qdm rfl .i64 .i64 n (by omega) (by omega);have HM:=qH Im;have HO:=qH Io;have Hle:=qH hle;have Hx:=qH hx;clear Im Io hle hx hK;go_enter Tryz.func231,Tryz.ntmps231;go_wp2
 go_loopw [6,15] (fun x6 x15 W=>∃(k b:Nat) (R:List Nat),k<=n/\x15=.int .i64 k/\x6=.int .u32 b/\Hid (MinusInv M O k R b)/\Hid (W.ownsRow w.heap.size 232 1 (.slice (some ⟨w.heap.size,0,none⟩) n n) n (row32 R))/\Hid (Below w.heap.size w W)) (fun _ x15 _=>n-(intOf x15).toNat)
 case atStart =>
  refine⟨0,0,List.replicate n 0,qam _,rfl,rfl,qH ?_,qH (qen w n (by unfold maxLen;omega)),qH (qB.alloc qN _)⟩;have:=MinusInv.start M O
  rwa [HM.out.len] at this
 case round =>
  obtain⟨k,b,R,hk,rfl,rfl,hI,hO,hB⟩:=hrel
  by_cases hkn:k<n
  ·have hki:(k:Int)<n:=by omega
   have haw:=HM.out.addr (by omega);subst haw;have hcm:=(HM.out.below hB.out).cell k hkn;have hd:dg M k<1000000000:=HM.out.dig k;have hlr:R.length=n:=hI.out.len.trans HM.out.len;have hcr:wr.cell? ⟨w.heap.size,k,none⟩=some (.int .u32 ((dg R k:Nat):Int)):=(hO.out.cellAt k (by omega)).trans (qcz R k (by omega));have hfr:wr.frozen? ⟨w.heap.size,k,none⟩=false:=hO.out.frozenAt k;have hb:=hI.out.carry;have Hd:=qH hd;clear hlr
   by_cases hko:k<no
   ·have hkoi:(k:Int)<no:=by omega
    have hao:=HO.out.addr (by omega);subst hao;have hco:=(HO.out.below hB.out).cell k hko;have he:dg O k<1000000000:=HO.out.dig k;obtain⟨e,hee⟩:=qX (dg O k);obtain⟨d,hdd⟩:=qX (dg M k);rw [hee] at hco he;rw [hdd] at hcm hd;have Hee:=qH hee;have Hdd:=qH hdd;clear hee hdd Hd
    by_cases hlt:d<b+e
    ·go_wp2;go_roundw
     case rel=>exact⟨k+1,1,R.set k (d+1000000000-(b+e)),hkn,by go_num,rfl,qH (hI.out.step (by rw [HM.out.len];exact hkn) (by omega) (by omega) (by rw [show O.getD k 0=e from Hee.out,show M.getD k 0=d from Hdd.out];omega)),qH (qcA hO.out k _ (by omega)),qH (hB.out.setCell qN _)⟩
     case measure=>simp [intOf];omega
    ·go_wp2;go_roundw
     case rel=>exact⟨k+1,0,R.set k (d-(b+e)),hkn,by go_num,rfl,qH (hI.out.step (by rw [HM.out.len];exact hkn) (by omega) (by omega) (by rw [show O.getD k 0=e from Hee.out,show M.getD k 0=d from Hdd.out];omega)),qH (qcA hO.out k _ (by omega)),qH (hB.out.setCell qN _)⟩
     case measure=>simp [intOf];omega
   ·have hkoi:¬(k:Int)<no:=by omega
    have h0:O.getD k 0=0:=qdl (by rw [HO.out.len];omega);obtain⟨d,hdd⟩:=qX (dg M k);rw [hdd] at hcm hd;have Hee:=qH h0;have Hdd:=qH hdd;clear hdd Hd h0
    by_cases hlt:d<b
    ·go_wp2;go_roundw
     case rel=>exact⟨k+1,1,R.set k (d+1000000000-b),hkn,by go_num,rfl,qH (hI.out.step (by rw [HM.out.len];exact hkn) (by omega) (by omega) (by rw [Hee.out,show M.getD k 0=d from Hdd.out];omega)),qH (qcA hO.out k _ (by omega)),qH (hB.out.setCell qN _)⟩
     case measure=>simp [intOf];omega
    ·go_wp2;go_roundw
     case rel=>exact⟨k+1,0,R.set k (d-b),hkn,by go_num,rfl,qH (hI.out.step (by rw [HM.out.len];exact hkn) (by omega) (by omega) (by rw [Hee.out,show M.getD k 0=d from Hdd.out];omega)),qH (qcA hO.out k _ (by omega)),qH (hB.out.setCell qN _)⟩
     case measure=>simp [intOf];omega
  ·obtain rfl:k=n:=by omega
   have hlr:R.length=k:=hI.out.len.trans HM.out.len;have ht:=qcR (some ⟨w.heap.size,0,none⟩) w.heap.size 0 k k R wr hlr (by omega) qN (qcn hO.out hlr) hI.out.dig;have hv:mval R=mval M-mval O:=by
    have h1:=hI.out;rw [<-HM.out.len] at h1;exact h1.done (by rw [HM.out.len,HO.out.len];exact hno) Hle.out
   rw [hv] at ht;have HT:=qH ht;clear ht hv hlr;go_wp2_with fail;refine HT.out.mono ?_;rintro e w1 ⟨v,rfl,rfl,hv⟩;have Hv:=qH hv;clear hv;go_wp2;go_ret;exact⟨v,rfl,hB.out,Hv.out⟩
