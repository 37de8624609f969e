import Derived.Deep.OwnRows
import Derived.Test.YtjalhnlhcdfncaaGreatDoorBo2
set_option maxRecDepth 100000
set_option maxHeartbeats 0
namespace Go.Proofs.YtjalhnlhcdfncaaGreatDoor
open Go.RowKit Go.Proofs.Tryz
theorem qgF (pk:Pk) (x y K:Nat) (hK:K<=274877906944) (vm vo:Value) (w:World) (hm:MagAt w vm x) (ho:MagAt w vo y) (hx:Fit x K) (aa:y<=x) :
  Calls prog (Pk.of pk 185 215) #[vm,vo] w fun e w'=>∃v,e=.returned v/\Below w.heap.size w w'/\MagAt w' v (x-y):=by
 obtain⟨am,bm,om,cm,n,M,rfl,Im,rfl⟩:=hm;obtain⟨ao,bo,oo,co,no,O,rfl,Io,rfl⟩:=ho;have hn:n<=274877906944:=qak (hx.len Im) hK;have av:no<=n:=by rw [<-Io.len];exact Io.nrm.len (qaU aa (by have:=Im.dig.lt;rwa [Im.len] at this))
 have aA:=qA (run_make_row' (P:=prog) 123 201 (.int .u32 0) 4 underlying123 qcX rfl .i64 .i64 n (by omega) (by omega)) (run_make_row' (P:=prog) 213 201 (.int .u32 0) 4 underlying213 qcX rfl .i64 .i64 n (by omega) (by omega));have H:=qH Im;have HO:=qH Io;have ag:=qH aa;have Hx:=qH hx;clear Im Io aa hx hK;have z_trim_mag:=qH (@qea pk);cases pk <;> dsimp only [Pk.of] at * <;> (
 first | go_enter func185,ntmps185 | go_enter func215,ntmps215
 go_wp2
 go_loopw [6,15] (fun x6 x15 W=>∃(k b:Nat) (R:List Nat),k<=n/\x15=.int .i64 k/\x6=.int .u32 b/\Hu (MinusInv M O k R b)/\Hu (W.ownsRow w.heap.size 201 1 (.slice (some ⟨w.heap.size,0,none⟩) n n) n (row32 R))/\Hu (Below w.heap.size w W)) (fun _ x15 _=>n-(intOf x15).toNat)
 case atStart =>
  refine⟨0,0,List.replicate n 0,qaj _,rfl,rfl,qH ?_,qH (qfy w n (by unfold maxLen;omega)),qH (qB.alloc qN _)⟩;have:=MinusInv.start M O
  rwa [H.o.len] at this
 case round =>
  obtain⟨k,b,R,hk,rfl,rfl,V,Y,hB⟩:=hrel
  by_cases E:k<n
  ·have az:(k:Int)<n:=by omega
   have ai:=H.o.addr (by omega);subst ai;have ae:=(H.o.below hB.o).cell k E;have hd:dg M k<1000000000:=H.o.dig k;have U:R.length=n:=V.o.len.trans H.o.len;have ax:wr.cell? ⟨w.heap.size,k,none⟩=some (.int .u32 ((dg R k:Nat):Int)):=(Y.o.cellAt k (by omega)).trans (qdQ R k (by omega));have ay:wr.frozen? ⟨w.heap.size,k,none⟩=false:=Y.o.frozenAt k;have hb:=V.o.carry;have Hd:=qH hd;clear U
   by_cases ak:k<no
   ·have af:(k:Int)<no:=by omega
    have ah:=HO.o.addr (by omega);subst ah;have aj:=(HO.o.below hB.o).cell k ak;have he:dg O k<1000000000:=HO.o.dig k;obtain⟨e,Z⟩:=qX (dg O k);obtain⟨d,F⟩:=qX (dg M k);rw [Z] at aj he;rw [F] at ae hd;have J:=qH Z;have I:=qH F;clear Z F Hd
    by_cases au:d<b+e
    ·go_wp2;go_roundw
     case rel=>exact⟨k+1,1,R.set k (d+1000000000-(b+e)),E,by go_num,rfl,qH (V.o.step (by rw [H.o.len];exact E) (by omega) (by omega) (by rw [show O.getD k 0=e from J.o,show M.getD k 0=d from I.o];omega)),qH (qd0 Y.o k _ (by omega)),qH (hB.o.setCell qN _)⟩
     case measure=>simp [intOf];omega
    ·go_wp2;go_roundw
     case rel=>exact⟨k+1,0,R.set k (d-(b+e)),E,by go_num,rfl,qH (V.o.step (by rw [H.o.len];exact E) (by omega) (by omega) (by rw [show O.getD k 0=e from J.o,show M.getD k 0=d from I.o];omega)),qH (qd0 Y.o k _ (by omega)),qH (hB.o.setCell qN _)⟩
     case measure=>simp [intOf];omega
   ·have af:¬(k:Int)<no:=by omega
    have h0:O.getD k 0=0:=qc4 (by rw [HO.o.len];omega);obtain⟨d,F⟩:=qX (dg M k);rw [F] at ae hd;have J:=qH h0;have I:=qH F;clear F Hd h0
    by_cases au:d<b
    ·go_wp2;go_roundw
     case rel=>exact⟨k+1,1,R.set k (d+1000000000-b),E,by go_num,rfl,qH (V.o.step (by rw [H.o.len];exact E) (by omega) (by omega) (by rw [J.o,show M.getD k 0=d from I.o];omega)),qH (qd0 Y.o k _ (by omega)),qH (hB.o.setCell qN _)⟩
     case measure=>simp [intOf];omega
    ·go_wp2;go_roundw
     case rel=>exact⟨k+1,0,R.set k (d-b),E,by go_num,rfl,qH (V.o.step (by rw [H.o.len];exact E) (by omega) (by omega) (by rw [J.o,show M.getD k 0=d from I.o];omega)),qH (qd0 Y.o k _ (by omega)),qH (hB.o.setCell qN _)⟩
     case measure=>simp [intOf];omega
  ·obtain rfl:k=n:=by omega
   have U:R.length=k:=V.o.len.trans H.o.len;have ht:=z_trim_mag.o (some ⟨w.heap.size,0,none⟩) w.heap.size 0 k k R wr U (by omega) qN (qcP Y.o U) V.o.dig;have hv:mval R=mval M-mval O:=by
    have h1:=V.o;rw [<-H.o.len] at h1;exact h1.done (by rw [H.o.len,HO.o.len];exact av) ag.o
   rw [hv] at ht;have HT:=qH ht;clear ht hv U;go_wp2_with fail;refine HT.o.mono ?_;rintro e w1 ⟨v,rfl,rfl,hv⟩;have Hv:=qH hv;clear hv;go_wp2;go_ret;exact⟨v,rfl,hB.o,Hv.o⟩)
