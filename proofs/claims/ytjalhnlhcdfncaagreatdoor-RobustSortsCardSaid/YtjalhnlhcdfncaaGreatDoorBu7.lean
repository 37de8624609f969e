import Derived.Deep.OwnRows
import Derived.Test.YtjalhnlhcdfncaaGreatDoorBu2
set_option maxRecDepth 100000
set_option maxHeartbeats 0
namespace Go.Proofs.YtjalhnlhcdfncaaGreatDoor
open Go.RowKit Go.Proofs.Tryz
theorem qf7 (pk:Pk) (x y K:Nat) (hK:K<=274877906944) (vm vo:Value) (w:World) (hm:MagAt w vm x) (ho:MagAt w vo y) (hx:Fit x K) (Z:y<=x) :
  Calls prog (Pk.of pk 185 215) #[vm,vo] w fun e w'=>∃v,e=.returned v/\Below w.heap.size w w'/\MagAt w' v (x-y):=by
 obtain⟨am,bm,om,cm,n,M,rfl,Im,rfl⟩:=hm;obtain⟨ao,bo,oo,co,no,O,rfl,Io,rfl⟩:=ho;have hn:n<=274877906944:=qal (hx.len Im) hK;have au:no<=n:=by rw [<-Io.len];exact Io.nrm.len (qaQ Z (by have:=Im.dig.lt;rwa [Im.len] at this))
 have az:=qA (run_make_row' (P:=prog) 123 201 (.int .u32 0) 4 underlying123 qcM rfl .i64 .i64 n (by omega) (by omega)) (run_make_row' (P:=prog) 213 201 (.int .u32 0) 4 underlying213 qcM rfl .i64 .i64 n (by omega) (by omega));have G:=qH Im;have HO:=qH Io;have af:=qH Z;have Hx:=qH hx;clear Im Io Z hx hK;have z_trim_mag:=qH (@qdS pk);cases pk <;> dsimp only [Pk.of] at * <;> (
 first | go_enter func185,ntmps185 | go_enter func215,ntmps215
 go_wp2
 go_loopw [6,15] (fun x6 x15 W=>∃(k b:Nat) (R:List Nat),k<=n/\x15=.int .i64 k/\x6=.int .u32 b/\Hu (MinusInv M O k R b)/\Hu (W.ownsRow w.heap.size 201 1 (.slice (some ⟨w.heap.size,0,none⟩) n n) n (row32 R))/\Hu (Below w.heap.size w W)) (fun _ x15 _=>n-(intOf x15).toNat)
 case atStart =>
  refine⟨0,0,List.replicate n 0,qaj _,rfl,rfl,qH ?_,qH (qe6 w n (by unfold maxLen;omega)),qH (qB.alloc qN _)⟩;have:=MinusInv.start M O
  rwa [G.o.len] at this
 case round =>
  obtain⟨k,b,R,hk,rfl,rfl,U,V,hB⟩:=hrel
  by_cases E:k<n
  ·have ay:(k:Int)<n:=by omega
   have ah:=G.o.addr (by omega);subst ah;have aa:=(G.o.below hB.o).cell k E;have hd:dg M k<1000000000:=G.o.dig k;have J:R.length=n:=U.o.len.trans G.o.len;have av:wr.cell? ⟨w.heap.size,k,none⟩=some (.int .u32 ((dg R k:Nat):Int)):=(V.o.cellAt k (by omega)).trans (qdy R k (by omega));have ax:wr.frozen? ⟨w.heap.size,k,none⟩=false:=V.o.frozenAt k;have hb:=U.o.carry;have Hd:=qH hd;clear J
   by_cases aj:k<no
   ·have ae:(k:Int)<no:=by omega
    have ag:=HO.o.addr (by omega);subst ag;have ai:=(HO.o.below hB.o).cell k aj;have he:dg O k<1000000000:=HO.o.dig k;obtain⟨e,Y⟩:=qX (dg O k);obtain⟨d,F⟩:=qX (dg M k);rw [Y] at ai he;rw [F] at aa hd;have I:=qH Y;have H:=qH F;clear Y F Hd
    by_cases ak:d<b+e
    ·go_wp2;go_roundw
     case rel=>exact⟨k+1,1,R.set k (d+1000000000-(b+e)),E,by go_num,rfl,qH (U.o.step (by rw [G.o.len];exact E) (by omega) (by omega) (by rw [show O.getD k 0=e from I.o,show M.getD k 0=d from H.o];omega)),qH (qdH V.o k _ (by omega)),qH (hB.o.setCell qN _)⟩
     case measure=>simp [intOf];omega
    ·go_wp2;go_roundw
     case rel=>exact⟨k+1,0,R.set k (d-(b+e)),E,by go_num,rfl,qH (U.o.step (by rw [G.o.len];exact E) (by omega) (by omega) (by rw [show O.getD k 0=e from I.o,show M.getD k 0=d from H.o];omega)),qH (qdH V.o k _ (by omega)),qH (hB.o.setCell qN _)⟩
     case measure=>simp [intOf];omega
   ·have ae:¬(k:Int)<no:=by omega
    have h0:O.getD k 0=0:=qdB (by rw [HO.o.len];omega);obtain⟨d,F⟩:=qX (dg M k);rw [F] at aa hd;have I:=qH h0;have H:=qH F;clear F Hd h0
    by_cases ak:d<b
    ·go_wp2;go_roundw
     case rel=>exact⟨k+1,1,R.set k (d+1000000000-b),E,by go_num,rfl,qH (U.o.step (by rw [G.o.len];exact E) (by omega) (by omega) (by rw [I.o,show M.getD k 0=d from H.o];omega)),qH (qdH V.o k _ (by omega)),qH (hB.o.setCell qN _)⟩
     case measure=>simp [intOf];omega
    ·go_wp2;go_roundw
     case rel=>exact⟨k+1,0,R.set k (d-b),E,by go_num,rfl,qH (U.o.step (by rw [G.o.len];exact E) (by omega) (by omega) (by rw [I.o,show M.getD k 0=d from H.o];omega)),qH (qdH V.o k _ (by omega)),qH (hB.o.setCell qN _)⟩
     case measure=>simp [intOf];omega
  ·obtain rfl:k=n:=by omega
   have J:R.length=k:=U.o.len.trans G.o.len;have ht:=z_trim_mag.o (some ⟨w.heap.size,0,none⟩) w.heap.size 0 k k R wr J (by omega) qN (qcQ V.o J) U.o.dig;have hv:mval R=mval M-mval O:=by
    have h1:=U.o;rw [<-G.o.len] at h1;exact h1.done (by rw [G.o.len,HO.o.len];exact au) af.o
   rw [hv] at ht;have HT:=qH ht;clear ht hv J;go_wp2_with fail;refine HT.o.mono ?_;rintro e w1 ⟨v,rfl,rfl,hv⟩;have Hv:=qH hv;clear hv;go_wp2;go_ret;exact⟨v,rfl,hB.o,Hv.o⟩)
