import Derived.Deep.OwnRows
import Derived.Test.YtplkdeknjghobaaGreatDoorBb3
set_option maxRecDepth 100000
set_option maxHeartbeats 0
namespace Go.Proofs.YtplkdeknjghobaaGreatDoor
open Go.RowKit Go.Proofs.Tryz
theorem qga (pk:Pk) (x y K:Nat) (hK:K<=274877906944) (vm vo:Value) (w:World) (hm:MagAt w vm x) (ho:MagAt w vo y) (hx:Fit x K) (ae:y<=x) :
  Calls prog (Pk.of pk 201 231) #[vm,vo] w fun e w'=>∃v,e=.returned v/\Below w.heap.size w w'/\MagAt w' v (x-y):=by
 obtain⟨am,bm,om,cm,n,M,rfl,Im,rfl⟩:=hm;obtain⟨ao,bo,oo,co,no,O,rfl,Io,rfl⟩:=ho;have hn:n<=274877906944:=qaj (hx.len Im) hK;have ax:no<=n:=by rw [<-Io.len];exact Io.nrm.len (qaL ae (by have:=Im.dig.lt;rwa [Im.len] at this))
 have aB:=qA (run_make_row' (P:=prog) 134 232 (.int .u32 0) 4 underlying134 qcG rfl .i64 .i64 n (by omega) (by omega)) (run_make_row' (P:=prog) 238 232 (.int .u32 0) 4 underlying238 qcG rfl .i64 .i64 n (by omega) (by omega));have I:=qH Im;have HO:=qH Io;have ah:=qH ae;have Hx:=qH hx;clear Im Io ae hx hK;have z_trim_mag:=qH (@qdS pk);cases pk <;> dsimp only [Pk.of] at * <;> (
 first | go_enter func201,ntmps201 | go_enter func231,ntmps231
 go_wp2
 go_loopw [6,15] (fun x6 x15 W=>∃(k b:Nat) (R:List Nat),k<=n/\x15=.int .i64 k/\x6=.int .u32 b/\Hu (MinusInv M O k R b)/\Hu (W.ownsRow w.heap.size 232 1 (.slice (some ⟨w.heap.size,0,none⟩) n n) n (row32 R))/\Hu (Below w.heap.size w W)) (fun _ x15 _=>n-(intOf x15).toNat)
 case atStart =>
  refine⟨0,0,List.replicate n 0,qal _,rfl,rfl,qH ?_,qH (qe8 w n (by unfold maxLen;omega)),qH (qB.alloc qN _)⟩;have:=MinusInv.start M O
  rwa [I.o.len] at this
 case round =>
  obtain⟨k,b,R,hk,rfl,rfl,Y,hO,Z⟩:=hrel
  by_cases F:k<n
  ·have aA:(k:Int)<n:=by omega
   have aj:=I.o.addr (by omega);subst aj;have af:=(I.o.below Z.o).cell k F;have hd:dg M k<1000000000:=I.o.dig k;have V:R.length=n:=Y.o.len.trans I.o.len;have ay:wr.cell? ⟨w.heap.size,k,none⟩=some (.int .u32 ((dg R k:Nat):Int)):=(hO.o.cellAt k (by omega)).trans (qdy R k (by omega));have az:wr.frozen? ⟨w.heap.size,k,none⟩=false:=hO.o.frozenAt k;have hb:=Y.o.carry;have Hd:=qH hd;clear V
   by_cases au:k<no
   ·have ag:(k:Int)<no:=by omega
    have ai:=HO.o.addr (by omega);subst ai;have ak:=(HO.o.below Z.o).cell k au;have he:dg O k<1000000000:=HO.o.dig k;obtain⟨e,aa⟩:=qX (dg O k);obtain⟨d,H⟩:=qX (dg M k);rw [aa] at ak he;rw [H] at af hd;have U:=qH aa;have J:=qH H;clear aa H Hd
    by_cases av:d<b+e
    ·go_wp2;go_roundw
     case rel=>exact⟨k+1,1,R.set k (d+1000000000-(b+e)),F,by go_num,rfl,qH (Y.o.step (by rw [I.o.len];exact F) (by omega) (by omega) (by rw [show O.getD k 0=e from U.o,show M.getD k 0=d from J.o];omega)),qH (qdG hO.o k _ (by omega)),qH (Z.o.setCell qN _)⟩
     case measure=>simp [intOf];omega
    ·go_wp2;go_roundw
     case rel=>exact⟨k+1,0,R.set k (d-(b+e)),F,by go_num,rfl,qH (Y.o.step (by rw [I.o.len];exact F) (by omega) (by omega) (by rw [show O.getD k 0=e from U.o,show M.getD k 0=d from J.o];omega)),qH (qdG hO.o k _ (by omega)),qH (Z.o.setCell qN _)⟩
     case measure=>simp [intOf];omega
   ·have ag:¬(k:Int)<no:=by omega
    have h0:O.getD k 0=0:=qdA (by rw [HO.o.len];omega);obtain⟨d,H⟩:=qX (dg M k);rw [H] at af hd;have U:=qH h0;have J:=qH H;clear H Hd h0
    by_cases av:d<b
    ·go_wp2;go_roundw
     case rel=>exact⟨k+1,1,R.set k (d+1000000000-b),F,by go_num,rfl,qH (Y.o.step (by rw [I.o.len];exact F) (by omega) (by omega) (by rw [U.o,show M.getD k 0=d from J.o];omega)),qH (qdG hO.o k _ (by omega)),qH (Z.o.setCell qN _)⟩
     case measure=>simp [intOf];omega
    ·go_wp2;go_roundw
     case rel=>exact⟨k+1,0,R.set k (d-b),F,by go_num,rfl,qH (Y.o.step (by rw [I.o.len];exact F) (by omega) (by omega) (by rw [U.o,show M.getD k 0=d from J.o];omega)),qH (qdG hO.o k _ (by omega)),qH (Z.o.setCell qN _)⟩
     case measure=>simp [intOf];omega
  ·obtain rfl:k=n:=by omega
   have V:R.length=k:=Y.o.len.trans I.o.len;have ht:=z_trim_mag.o (some ⟨w.heap.size,0,none⟩) w.heap.size 0 k k R wr V (by omega) qN (qcO hO.o V) Y.o.dig;have hv:mval R=mval M-mval O:=by
    have h1:=Y.o;rw [<-I.o.len] at h1;exact h1.done (by rw [I.o.len,HO.o.len];exact ax) ah.o
   rw [hv] at ht;have HT:=qH ht;clear ht hv V;go_wp2_with fail;refine HT.o.mono ?_;rintro e w1 ⟨v,rfl,rfl,hv⟩;have Hv:=qH hv;clear hv;go_wp2;go_ret;exact⟨v,rfl,Z.o,Hv.o⟩)
