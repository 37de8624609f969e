import Derived.Deep.DeepCutAuto
import Derived.Test.YtplkdeknjghobaaGreatDoorBb8
set_option maxRecDepth 100000
set_option maxHeartbeats 0
namespace Go.Proofs.YtplkdeknjghobaaGreatDoor
open Go.RowKit Go.Proofs.Tryz
theorem qgK (pk:Pk) (x y K:Nat) (hK:K<=274877906944) (vm vo:Value) (w:World) (hm:MagAt w vm x) (ho:MagAt w vo y) (hx:Fit x K) (hy:Fit y K) :
  Calls prog (Pk.of pk 200 229) #[vm,vo] w fun e w'=>∃v,e=.returned v/\Below w.heap.size w w'/\MagAt w' v (x+y):=by
 obtain⟨i0,hi,ay,az,aA⟩:=info_parts qcG;obtain⟨am,bm,om,cm,n,M,rfl,Im,aj⟩:=hm;obtain⟨ao,bo,oo,co,no,O,rfl,Io,au⟩:=ho;have hn:n<=274877906944:=qaj ((aj▸hx:Fit (mval M) K).len Im) hK;have ak:no<=274877906944:=qaj ((au▸hy:Fit (mval O) K).len Io) hK;have Y:=qH Im;have HO:=qH Io;have Hx:=qH aj;have Hy:=qH au;have Hz:=qH (qA ay (qA az aA));have Hi:=qH hi;clear Im Io hx hy hK aj au ay az aA hi;cases pk <;> dsimp only [Pk.of] at * <;> (
 first | go_enter func200,ntmps200 | go_enter func229,ntmps229
 go_upto_if 13 with fail
 go_cut [0,1] (fun x0 x1 W=>∃(am:Option Addr) (bm om cm n:Nat) (M:List Nat) (ao:Option Addr) (bo oo co no:Nat) (O:List Nat),x0=.slice am n cm/\x1=.slice ao no co/\W=w/\no<=n/\n<=274877906944/\Hu (IsM w am bm om cm n M)/\Hu (IsM w ao bo oo co no O)/\Hu (mval M+mval O=x+y))
 case first =>
  go_wp2_with fail
  all_goals go_meet
  all_goals first
   | exact⟨am,bm,om,cm,n,M,ao,bo,oo,co,no,O,rfl,rfl,rfl,by omega,by omega,Y,HO,qH (by rw [Hx.o,Hy.o])⟩
   | exact⟨ao,bo,oo,co,no,O,am,bm,om,cm,n,M,rfl,rfl,rfl,by omega,by omega,HO,Y,qH (by rw [Hx.o,Hy.o,Nat.add_comm])⟩
 case rest =>
  clear Y HO Hx Hy hn ak am bm om cm n M ao bo oo co no O;obtain⟨am,bm,om,cm,n,M,ao,bo,oo,co,no,O,rfl,rfl,rfl,ak,hn,Y,HO,Hv⟩:=hcut;obtain⟨w,hw⟩:=qX wc;subst hw
  go_wp2_with (first | (refine wpList_make_own _ rfl _ _ _ rfl wc.heap.size 232 i0 (.int .u32 0) 1 (qd1 (by decide)) Hi.o Hz.o.1 Hz.o.2.1 .i64 .i64 _ (n+1) rfl rfl (by omega) (by rw [Hz.o.2.2];omega) (by unfold maxLen;omega) qN ?_;intro w1 H F;have J:=qH H;have I:=qH F;clear H F) | fail)
  go_loopw [5,6,22] (fun x5 x6 x22 W=>∃(k b:Nat) (S:List Nat),k<=n/\x5=.slice (some ⟨wc.heap.size,0,none⟩) k (n+1)/\x22=.int .i64 k/\x6=.int .u32 b/\Hu (PlusInv M O k S b)/\Hu (W.ownsRow wc.heap.size 232 1 (.slice (some ⟨wc.heap.size,0,none⟩) k (n+1)) k (row32 S))/\Hu (Below wc.heap.size wc W)) (fun _ _ x22 _=>n-(intOf x22).toNat)
  case atStart=>exact⟨0,0,[],qal _,rfl,rfl,rfl,qH (PlusInv.start M O),J,qH (qB.grown I.o qN (fun k h=>by cases h))⟩
  case round =>
   obtain⟨k,b,S,hk,rfl,rfl,rfl,U,hO,hB⟩:=hrel
   by_cases af:k<n
   ·have aI:(k:Int)<n:=by omega
    have aC:=Y.o.addr (by omega);subst aC;have av:=(Y.o.below hB.o).cell k af;have hd:dg M k<1000000000:=Y.o.dig k;have hb:=U.o.carry
    by_cases aG:k<no
    ·have ax:(k:Int)<no:=by omega
     have aB:=HO.o.addr (by omega);subst aB;have aF:=(HO.o.below hB.o).cell k aG;have he:dg O k<1000000000:=HO.o.dig k;obtain⟨e,ai⟩:=qX (dg O k);obtain⟨d,V⟩:=qX (dg M k);rw [ai] at aF he;rw [V] at av hd;have aa:=qH ai;have Z:=qH V;clear ai V
     by_cases aH:(1000000000:Int)<=(d:Int)+b+e
     ·go_wp2_with (first | (at_builtin;refine wpList_append_fits _ rfl (.tmp 44) (.tmp 46) _ rfl wc.heap.size 232 i0 1 (qd1 (by decide)) Hi.o Hz.o.2.1 wc.heap.size k (n+1) _ rfl (hO.o.alloc _) ⟨wr.heap.size,0,none⟩ 1 1 [.int .u32 ((d:Int)+b+e-1000000000)] rfl rfl (qdC _ _ _) (one_cell _ _) (by omega) ?_;intro w1 H F;have J:=qH H;have I:=qH F;clear H F) | fail)
      go_roundw
      case rel=>exact⟨k+1,1,S++[d+b+e-1000000000],af,rfl,by go_num,rfl,qH (U.o.step (by omega) (by omega) (by have h1:O.getD k 0=e:=aa.o;have h2:M.getD k 0=d:=Z.o;omega)),qH (qfl J.o (by omega)),qH (qcR hB.o qN I.o (fun j h=>by cases h;exact qae _))⟩
      case measure=>simp [intOf];omega
     ·go_wp2_with (first | (at_builtin;refine wpList_append_fits _ rfl (.tmp 44) (.tmp 46) _ rfl wc.heap.size 232 i0 1 (qd1 (by decide)) Hi.o Hz.o.2.1 wc.heap.size k (n+1) _ rfl (hO.o.alloc _) ⟨wr.heap.size,0,none⟩ 1 1 [.int .u32 ((d:Int)+b+e)] rfl rfl (qdC _ _ _) (one_cell _ _) (by omega) ?_;intro w1 H F;have J:=qH H;have I:=qH F;clear H F) | fail)
      go_roundw
      case rel=>exact⟨k+1,0,S++[d+b+e],af,rfl,by go_num,rfl,qH (U.o.step (by omega) (by omega) (by have h1:O.getD k 0=e:=aa.o;have h2:M.getD k 0=d:=Z.o;omega)),qH (qfl J.o (by omega)),qH (qcR hB.o qN I.o (fun j h=>by cases h;exact qae _))⟩
      case measure=>simp [intOf];omega
    ·have ax:¬(k:Int)<no:=by omega
     have h0:O.getD k 0=0:=qdA (by rw [HO.o.len];omega);obtain⟨d,V⟩:=qX (dg M k);rw [V] at av hd;have aa:=qH h0;have Z:=qH V;clear V h0
     by_cases aH:(1000000000:Int)<=(d:Int)+b
     ·go_wp2_with (first | (at_builtin;refine wpList_append_fits _ rfl (.tmp 44) (.tmp 46) _ rfl wc.heap.size 232 i0 1 (qd1 (by decide)) Hi.o Hz.o.2.1 wc.heap.size k (n+1) _ rfl (hO.o.alloc _) ⟨wr.heap.size,0,none⟩ 1 1 [.int .u32 ((d:Int)+b-1000000000)] rfl rfl (qdC _ _ _) (one_cell _ _) (by omega) ?_;intro w1 H F;have J:=qH H;have I:=qH F;clear H F) | fail)
      go_roundw
      case rel=>exact⟨k+1,1,S++[d+b-1000000000],af,rfl,by go_num,rfl,qH (U.o.step (by omega) (by omega) (by have h1:O.getD k 0=0:=aa.o;have h2:M.getD k 0=d:=Z.o;omega)),qH (qfl J.o (by omega)),qH (qcR hB.o qN I.o (fun j h=>by cases h;exact qae _))⟩
      case measure=>simp [intOf];omega
     ·go_wp2_with (first | (at_builtin;refine wpList_append_fits _ rfl (.tmp 44) (.tmp 46) _ rfl wc.heap.size 232 i0 1 (qd1 (by decide)) Hi.o Hz.o.2.1 wc.heap.size k (n+1) _ rfl (hO.o.alloc _) ⟨wr.heap.size,0,none⟩ 1 1 [.int .u32 ((d:Int)+b)] rfl rfl (qdC _ _ _) (one_cell _ _) (by omega) ?_;intro w1 H F;have J:=qH H;have I:=qH F;clear H F) | fail)
      go_roundw
      case rel=>exact⟨k+1,0,S++[d+b],af,rfl,by go_num,rfl,qH (U.o.step (by omega) (by omega) (by have h1:O.getD k 0=0:=aa.o;have h2:M.getD k 0=d:=Z.o;omega)),qH (qfl J.o (by omega)),qH (qcR hB.o qN I.o (fun j h=>by cases h;exact qae _))⟩
      case measure=>simp [intOf];omega
   ·obtain rfl:k=n:=by omega
    have hl:S.length=k:=U.o.len;have ah:=U.o;rw [<-Y.o.len] at ah;have ag:=ah.done (by rw [HO.o.len,Y.o.len];exact ak);rw [Hv.o,Y.o.len] at ag;have hb:=U.o.carry;have ae:=qH ag;clear hl ah ag
    by_cases aD:b=0
    ·subst aD;go_wp2;go_ret;refine⟨_,rfl,hB.o,some ⟨wc.heap.size,0,none⟩,wc.heap.size,0,k+1,k,S,rfl,⟨U.o.len,by omega,qcO hO.o U.o.len,U.o.dig,?_⟩,?_⟩
     ·refine Nrm.of_ge U.o.dig ?_;rw [U.o.len,<-Y.o.len];rcases qaU M.length with h0 | h0
      ·exact qan h0
      ·have:=Y.o.nrm.ge h0;have h2:=ae.o;have h3:=Hv.o;exact qag (by omega)
     ·have:=ae.o;omega
    ·obtain rfl:b=1:=by omega
     go_wp2_with (first | (at_builtin;refine wpList_append_fits _ rfl (.tmp 51) (.tmp 53) _ rfl wc.heap.size 232 i0 1 (qd1 (by decide)) Hi.o Hz.o.2.1 wc.heap.size k (k+1) _ rfl (hO.o.alloc _) ⟨wr.heap.size,0,none⟩ 1 1 [.int .u32 1] rfl rfl (qdC _ _ _) (one_cell _ _) (by omega) ?_;intro w1 H F;have J:=qH H;have I:=qH F;clear H F) | fail)
     go_ret;refine⟨_,rfl,qcR hB.o qN I.o (fun j h=>by cases h;exact qae _),some ⟨wc.heap.size,0,none⟩,wc.heap.size,0,k+1,k+1,S++[1],rfl,⟨by rw [qaf,U.o.len];rfl,qae _,qcO (qfl J.o rfl) (by rw [qaf,U.o.len];rfl),U.o.dig.snoc (by decide),?_⟩,?_⟩
     ·exact Nrm.snoc _ (by decide)
     ·rw [qcW,U.o.len];have:=ae.o;omega)
theorem qch (pk:Pk) (x y K J:Nat) (hK:K+J<=274877906944) (vm vo:Value) (w:World) (hm:MagAt w vm x) (ho:MagAt w vo y) (hx:Fit x K) (hy:Fit y J) :
  Calls prog (Pk.of pk 155 176) #[vm,vo] w fun e w'=>∃v,e=.returned v/\Below w.heap.size w w'/\MagAt w' v (x*y):=by
 obtain⟨am,bm,om,cm,n,M,rfl,Im,rfl⟩:=hm;obtain⟨ao,bo,oo,co,no,O,rfl,Io,rfl⟩:=ho;have hn:n+no<=274877906944:=qaj (Nat.add_le_add (hx.len Im) (hy.len Io)) hK;obtain⟨s,hs⟩:=qX (n+no);have au:(n:Int)+(no:Int)=s:=by omega
 have aF:=qA (run_make_row' (P:=prog) 134 232 (.int .u32 0) 4 underlying134 qcG rfl .i64 .i64 s (by omega) (by omega)) (run_make_row' (P:=prog) 238 232 (.int .u32 0) 4 underlying238 qcG rfl .i64 .i64 s (by omega) (by omega));have I:=qH Im;have U:=qH Io;have V:=qH hs;have aH:=qH au;have aL:s<=274877906944:=by omega
 clear Im Io hx hy hK hs;have z_trim_mag:=qH (@qdS pk);cases pk <;> dsimp only [Pk.of] at * <;> (
 first | go_enter func155,ntmps155 | go_enter func176,ntmps176
 go_wp2
 go_loopw [19] (fun x19 W=>∃(k:Nat) (R:List Nat),k<=n/\x19=.int .i64 k/\Hu (TimesInv M O k 0 R 0)/\Hu (W.ownsRow w.heap.size 232 1 (.slice (some ⟨w.heap.size,0,none⟩) s s) s (row32 R))/\Hu (Below w.heap.size w W)) (fun x19 _=>n-(intOf x19).toNat)
 case atStart =>
  refine⟨0,List.replicate s 0,qal _,rfl,qH ?_,qH (qe8 w s (by unfold maxLen;omega)),qH (qB.alloc qN _)⟩;have:=TimesInv.start M O
  rwa [I.o.len,U.o.len,V.o] at this
 case round =>
  obtain⟨k,R,hk,rfl,H,Y,hB⟩:=hrel;clear aF au
  by_cases aa:k<n
  ·have aJ:(k:Int)<n:=by omega
   have aA:=I.o.addr (by omega);subst aA;have aj:=(I.o.below hB.o).cell k aa;have hd:dg M k<1000000000:=I.o.dig k;obtain⟨d,af⟩:=qX (dg M k);rw [af] at aj hd;have av:=qH af;clear af;go_wp2_with fail
   go_loopw [8,26] (fun x8 x26 W=>∃(j c:Nat) (S:List Nat),j<=no/\x26=.int .i64 j/\x8=.int .u64 c/\Hu (TimesInv M O k j S c)/\Hu (W.ownsRow w.heap.size 232 1 (.slice (some ⟨w.heap.size,0,none⟩) s s) s (row32 S))/\Hu (Below w.heap.size w W)) (fun _ x26 _=>no-(intOf x26).toNat)
   case atStart=>exact⟨0,0,R,qal _,rfl,rfl,H,Y,hB⟩
   case round =>
    clear H Y hB aj;obtain⟨j,c,S,hj,rfl,rfl,H,Y,hB⟩:=hrel
    by_cases ah:j<no
    ·have aI:(j:Int)<no:=by omega
     have az:=U.o.addr (by omega);subst az;have aB:=(U.o.below hB.o).cell j ah;have he:dg O j<1000000000:=U.o.dig j;obtain⟨e,ag⟩:=qX (dg O j);rw [ag] at aB he;have F:S.length=s:=by rw [H.o.len,I.o.len,U.o.len,V.o]
     have ak:wr.cell? ⟨w.heap.size,k+j,none⟩=some (.int .u32 ((dg S (k+j):Nat):Int)):=(Y.o.cellAt (k+j) (by have:=V.o;omega)).trans (qdy S (k+j) (by have:=V.o;omega));have aC:wr.frozen? ⟨w.heap.size,k+j,none⟩=false:=Y.o.frozenAt (k+j);have hp:dg S (k+j)<1000000000:=H.o.dig (k+j);obtain⟨p,ai⟩:=qX (dg S (k+j));rw [ai] at ak hp;have hc:=H.o.carry;have Hb:=qH (qj1 hc hp hd he);obtain⟨q,hq⟩:=qX (d*e:Nat);rw [hq] at Hb;have aK:(d:Int)*(e:Int)=(q:Int):=by rw [<-hq,Int.natCast_mul]
     obtain⟨r,hr⟩:=qX (p+q:Nat);obtain⟨t,ht⟩:=qX (c+r:Nat);have aG:t<1000000000000000000:=by have:=Hb.o;omega
     obtain⟨c1,Z⟩:=qX (t / 1000000000:Nat);obtain⟨s1,ae⟩:=qX (t % 1000000000:Nat);have r1:=u64_in d (by omega);have r2:=u64_in e (by omega);have r3:=u64_in q (by omega);have r4:(p:Int)+q=r:=by omega
     have r5:=u64_in r (by omega);have r6:(c:Int)+r=t:=by omega
     have r7:=u64_in t (by omega);have r8:(t:Int).tdiv 1000000000=c1:=tdivB t c1 Z;have r9:(t:Int).tmod 1000000000=s1:=tmodB t s1 ae;have aM:=u64_in c1 (by omega);have aN:(s1:Int) % 4294967296=s1:=by omega
     have aO:=u64_in p (by omega);have Ht:=qH (qA hr (qA ht (qA Z ae)));clear hr ht aG Z ae;have aD:(k:Int)+j<s:=by have:=V.o;omega
     have ax:=qH ag;have ay:=qH ai;have Hq:=qH hq;have Hc:=qH hc;have Hd:=qH hd;have He:=qH he;have Hp:=qH hp;clear ag ai hq F hc hd he hp;go_wp2;go_roundw
     case rel =>
      obtain⟨hr,ht,Z,ae⟩:=Ht.o;exact⟨j+1,c1,S.set (k+j) s1,ah,by go_num,rfl,qH (H.o.step (by rw [I.o.len];exact aa) (by rw [U.o.len];exact ah) (by omega) (by have:=Hb.o;omega) (by rw [show S.getD (k+j) 0=p from ay.o,show M.getD k 0=d from av.o,show O.getD j 0=e from ax.o,Hq.o];omega)),qH (qdG Y.o (k+j) s1 rfl),qH (hB.o.setCell qN _)⟩
     case measure=>simp [intOf];omega
    ·obtain rfl:j=no:=by omega
     have F:S.length=s:=by rw [H.o.len,I.o.len,U.o.len,V.o]
     have ak:wr.cell? ⟨w.heap.size,k+j,none⟩=some (.int .u32 ((dg S (k+j):Nat):Int)):=(Y.o.cellAt (k+j) (by have:=V.o;omega)).trans (qdy S (k+j) (by have:=V.o;omega));have aC:wr.frozen? ⟨w.heap.size,k+j,none⟩=false:=Y.o.frozenAt (k+j);have aD:(k:Int)+j<s:=by have:=V.o;omega
     have hc:=H.o.carry;have r1:(c:Int) % 4294967296=c:=by omega
     have Hc:=qH hc;have Hd:=qH hd;clear F hc hd;go_wp2;go_roundw
     case rel =>
      have h:=H.o;rw [<-U.o.len] at h;have h2:=h.next (by rw [I.o.len];exact aa)
      rw [U.o.len] at h2;exact⟨k+1,S.set (k+j) c,aa,by go_num,qH h2,qH (qdG Y.o (k+j) c rfl),qH (hB.o.setCell qN _)⟩
     case measure=>simp [intOf];omega
  ·obtain rfl:k=n:=by omega
   have F:R.length=s:=by rw [H.o.len,I.o.len,U.o.len,V.o]
   have ht:=z_trim_mag.o (some ⟨w.heap.size,0,none⟩) w.heap.size 0 s s R wr F (by omega) qN (qcO Y.o F) H.o.dig;have hv:mval R=mval M*mval O:=by
    have h1:=H.o;rw [<-I.o.len] at h1;exact h1.done rfl
   rw [hv] at ht;have HT:=qH ht;clear ht hv F;go_wp2_with fail;refine HT.o.mono ?_;rintro e w1 ⟨v,rfl,rfl,hv⟩;have Hv:=qH hv;clear hv;go_wp2;go_ret;exact⟨v,rfl,hB.o,Hv.o⟩)
theorem qgb (pk:Pk) (x K d:Nat) (hK:K<=274877906944) (Z:0<d) (hd:d<=1000000000) (vm:Value) (w:World) (hm:MagAt w vm x) (hx:Fit x K) :
  Calls prog (Pk.of pk 213 234) #[vm,.int .u32 (d:Int)] w fun e w'=>∃v,e=.returned (.tuple #[v,.int .u32 ((x % d:Nat):Int)])/\Below w.heap.size w w'/\MagAt w' v (x / d):=by
 obtain⟨am,bm,om,cm,n,M,rfl,Im,rfl⟩:=hm;have hn:n<=274877906944:=qaj (hx.len Im) hK;have ah:=qA (run_make_row' (P:=prog) 134 232 (.int .u32 0) 4 underlying134 qcG rfl .i64 .i64 n (by omega) (by omega)) (run_make_row' (P:=prog) 238 232 (.int .u32 0) 4 underlying238 qcG rfl .i64 .i64 n (by omega) (by omega));have I:=qH Im;have Hd:=qH (qA Z hd);obtain⟨rr,U⟩:=qX (mval M % d);have aa:=qH U;rw [U];have h0:((d:Int) == 0)=false:=by rw [beq_eq_false_iff_ne];omega
 have av:¬d=0:=by omega
 have r0:=u64_in d (by omega);clear Im hx hK U hd Z;have z_trim_mag:=qH (@qdS pk);cases pk <;> dsimp only [Pk.of] at * <;> (
 first | go_enter func213,ntmps213 | go_enter func234,ntmps234
 go_wp2
 go_loopw [7,8] (fun x7 x8 W=>∃(k r:Nat) (z:Int) (R:List Nat),k<=n/\x8=.int .i64 z/\Hu (z+1=k)/\x7=.int .u64 r/\Hu (ShortInv M d k R r)/\Hu (W.ownsRow w.heap.size 232 1 (.slice (some ⟨w.heap.size,0,none⟩) n n) n (row32 R))/\Hu (Below w.heap.size w W)) (fun _ x8 _=>(intOf x8+1).toNat)
 case atStart =>
  refine⟨n,0,_,List.replicate n 0,qae _,rfl,qH (by omega),rfl,qH ?_,qH (qe8 w n (by unfold maxLen;omega)),qH (qB.alloc qN _)⟩;have:=ShortInv.start M Hd.o.1
  rwa [I.o.len] at this
 case round =>
  obtain⟨k,r,z,R,hk,rfl,hz,rfl,J,hO,hB⟩:=hrel;clear ah
  by_cases aA:0<k
  ·obtain⟨j,rfl⟩:∃j,k=j+1:=⟨k-1,by omega⟩;obtain rfl:z=(j:Int):=by have:=hz.o;omega
   have az:(j:Int)<n:=by omega
   have af:=I.o.addr (by omega);subst af;have ag:=(I.o.below hB.o).cell j (by omega);have hm:dg M j<1000000000:=I.o.dig j;obtain⟨m,H⟩:=qX (dg M j);rw [H] at ag hm;have hr:=J.o.rest;have F:R.length=n:=J.o.len.trans I.o.len;have ax:wr.cell? ⟨w.heap.size,j,none⟩=some (.int .u32 ((dg R j:Nat):Int)):=(hO.o.cellAt j (by omega)).trans (qdy R j (by omega));have ay:wr.frozen? ⟨w.heap.size,j,none⟩=false:=hO.o.frozenAt j;have O:=Hd.o.2;obtain⟨t1,V⟩:=qX (r*1000000000:Nat);obtain⟨t2,Y⟩:=qX (t1+m:Nat);obtain⟨q,hq⟩:=qX (t2 / d:Nat);obtain⟨s,hs⟩:=qX (t2 % d:Nat);have hstep:=J.o.step (by rw [I.o.len];omega) I.o.dig;have ai:q<1000000000:=by
    have:=hstep.dig j;rw [qcT (by omega),show M.getD j 0=m from H,V,Y,hq] at this;exact this
   rw [show M.getD j 0=m from H,V,Y,hq,hs] at hstep;have au:s<d:=by rw [<-hs];exact qbD _ Hd.o.1
   have r1:(r:Int)*1000000000=t1:=by omega
   have r2:=u64_in t1 (by omega);have r3:=u64_in m (by omega);have r4:(t1:Int)+m=t2:=by omega
   have r5:=u64_in t2 (by omega);have r6:=tdivN t2 d q hq;have r7:=u64_in q (by omega);have r8:(q:Int) % 4294967296=q:=by omega
   have r9:=tmodN t2 d s hs;have aB:=u64_in s (by omega);have ae:=qH hstep;clear hstep ai au V Y hq hs F hr hm O H;go_wp2;go_roundw
   case rel=>exact⟨j,s,_,R.set j q,by omega,rfl,qH (by omega),rfl,ae,qH (qdG hO.o j q rfl),qH (hB.o.setCell qN _)⟩
   case measure=>simp [intOf]
  ·obtain rfl:k=0:=by omega
   obtain rfl:z = -1:=by have:=hz.o;omega
   have F:R.length=n:=J.o.len.trans I.o.len;have ht:=z_trim_mag.o (some ⟨w.heap.size,0,none⟩) w.heap.size 0 n n R wr F (by omega) qN (qcO hO.o F) J.o.dig;rw [J.o.done.1] at ht;have aj:r=rr:=by rw [<-aa.o];exact J.o.done.2
   have ak:=J.o.rest;have O:=Hd.o.2;subst aj;have r1:(r:Int) % 4294967296=r:=by omega
   have HT:=qH ht;clear ht F ak O;go_wp2_with fail;refine HT.o.mono ?_;rintro e w1 ⟨v,rfl,rfl,hv⟩;have Hv:=qH hv;clear hv;go_wp2_with fail
   go_ret2
   exact⟨v,rfl,hB.o,Hv.o⟩)
theorem qiN (pk:Pk) (x:Nat) (vm:Value) (w:World) (O:MagAt w vm x) (hx:Fit x 2) :
  Calls prog (Pk.of pk 211 268) #[vm] w fun e w'=>e=.returned (.int .u64 (x:Int))/\w'=w:=by
 obtain⟨am,bm,om,cm,n,M,rfl,Y,H⟩:=O;have hn:n<=2:=(H▸hx:Fit (mval M) 2).len Y;have J:x<1000000000000000000:=hx;have I:=qH Y;have Hx:=qH H;have Hl:=qH J;clear Y hx H J;cases pk <;> dsimp only [Pk.of] at * <;> (
 first | go_enter func211,ntmps211 | go_enter func268,ntmps268
 go_wp2
 go_loopw [3,4] (fun x3 x4 W=>∃(k v:Nat) (z:Int),k<=n/\x4=.int .i64 z/\Hu (z+1=k)/\x3=.int .u64 v/\W=w/\Hu (v=mval (M.drop k))) (fun _ x4 _=>(intOf x4+1).toNat)
 case atStart =>
  refine⟨n,0,_,qae _,rfl,qH (by omega),rfl,rfl,qH ?_⟩;rw [qaT (by rw [I.o.len];exact qae _)];rfl
 case round =>
  obtain⟨k,v,z,hk,rfl,hz,rfl,rfl,Z⟩:=hrel
  by_cases aj:0<k
  ·obtain⟨j,rfl⟩:∃j,k=j+1:=⟨k-1,by omega⟩;obtain rfl:z=(j:Int):=by have:=hz.o;omega
   have ai:(j:Int)<n:=by omega
   have aa:=I.o.addr (by omega);subst aa;have ae:=I.o.cell j (by omega);have O:dg M j<1000000000:=I.o.dig j;obtain⟨m,F⟩:=qX (dg M j);rw [F] at ae O;have hv:v<1000000000:=by
    rw [Z.o];have h1:=(I.o.dig.drop (j+1)).lt;rw [qbd,I.o.len] at h1;have h2:1000000000 ^ (n-(j+1))<=1000000000 ^ 1:=qa4 (by decide) (by omega);rw [Nat.pow_one] at h2;exact qai h1 h2
   have af:m+1000000000*v=mval (M.drop j):=by rw [qcV M j,show M.getD j 0=m from F,Z.o]
   obtain⟨U,ag⟩:=qX (v*1000000000:Nat);obtain⟨t2,ah⟩:=qX (U+m:Nat);have r1:(v:Int)*1000000000=U:=by omega
   have r2:=u64_in U (by omega);have r3:=u64_in m (by omega);have r4:(U:Int)+m=t2:=by omega
   have r5:=u64_in t2 (by omega);have V:=qH (show t2=mval (M.drop j) by omega);clear hv af ag ah O F;go_wp2;go_roundw
   case rel=>exact⟨j,t2,_,by omega,rfl,qH (by omega),rfl,trivial,V⟩
   case measure=>simp [intOf]
  ·obtain rfl:k=0:=by omega
   obtain rfl:z = -1:=by have:=hz.o;omega
   have hv:v=x:=by rw [Z.o,<-Hx.o];rfl
   subst hv;go_wp2;go_ret;exact⟨rfl,rfl⟩)
theorem qdB (pk:Pk) (x:Nat) (hx:x<18446744073709551616) (w:World) :
  Calls prog (Pk.of pk 212 235) #[.int .u64 (x:Int)] w fun e w'=>∃v,e=.returned v/\Below w.heap.size w w'/\MagAt w' v x:=by
 obtain⟨i0,hi,U,Y,Z⟩:=info_parts qcG;have Hz:=qH (qA U (qA Y Z));have Hi:=qH hi;have Hx:=qH hx;clear U Y Z hi hx;cases pk <;> dsimp only [Pk.of] at * <;> (
 first | go_enter func212,ntmps212 | go_enter func235,ntmps235
 go_wp2
 go_loopw [0,3] (fun x0 x3 W=>∃(v k:Nat) (V:Value) (S:List Nat),x0=.int .u64 v/\x3=V/\k<=3/\Hu (Dig S)/\Hu (v=0->Nrm S)/\Hu (mval S+1000000000 ^ k*v=x)/\Hu (W.ownsRow w.heap.size 232 1 V k (row32 S))/\Hu (Below w.heap.size w W)) (fun x0 _ _=>(intOf x0).toNat)
 case atStart=>exact⟨x,0,_,[],rfl,rfl,by omega,qH Dig.nil,qH (fun _=>qan rfl),qH (by simp [mval]),qH (World.ownsRow_nil _ _ _ _),qH qB⟩
 case round =>
  obtain⟨v,k,V,S,rfl,rfl,hk,hd,hn,hv,hO,hB⟩:=hrel
  by_cases h0:0<v
  ·have O:v<18446744073709551616:=qaL (qaj (Nat.le_mul_of_pos_left v (qgo k)) (by have:=hv.o;omega)) Hx.o;have ag:k<3:=by
    rcases qaQ k 3 with h | h
    ·exact h
    ·obtain rfl:k=3:=by omega
     have h1:=hv.o;have h2:=Hx.o;omega
   obtain⟨q,hq⟩:=qX (v / 1000000000:Nat);obtain⟨s,hs⟩:=qX (v % 1000000000:Nat);have ah:(0:Int)<v:=by omega
   have r1:=tmodB v s hs;have r2:=u64_in s (by omega);have r3:(s:Int) % 4294967296=s:=by omega
   have r4:=tdivB v q hq;have r5:=u64_in q (by omega);have r6:=u64_in v O;have af:Hu (mval (S++[s])+1000000000 ^ (k+1)*q=x):=qH (by
    have hl:S.length=k:=by have:=hO.o.1;rw [qcx] at this;omega
    rw [qcW,hl,qaB,qaw,Nat.add_assoc,<-qaZ,<-hv.o,show s+1000000000*q=v by omega])
   have ae:Hu (q=0->Nrm (S++[s])):=qH (fun h=>Nrm.snoc S (by omega));have aa:Hu (Dig (S++[s])):=qH (hd.o.snoc (by omega));have Hq:Hu (q<v):=qH (by omega);clear hq hs O
   go_wp2_with (first | (at_builtin;refine wpList_append_own _ rfl (.tmp 8) (.tmp 12) _ rfl w.heap.size 232 i0 (.int .u32 0) 1 4 (qd1 (by decide)) Hi.o Hz.o.1 Hz.o.2.1 Hz.o.2.2 rfl (by decide) _ _ _ rfl (hO.o.alloc _) ⟨wr.heap.size,0,none⟩ 1 1 [.int .u32 (s:Int)] rfl rfl (qdC _ _ _) (one_cell _ _) (by unfold maxLen;omega) (by omega) (by have:=hB.o.size;simp only [qab];omega) ?_;intro v' w1 H F _;have J:=qH H;have I:=qH F;clear H F) | fail)
   go_roundw
   case rel=>exact⟨q,k+1,_,S++[s],rfl,rfl,by omega,aa,ae,af,qH (by rw [qdK];exact J.o),qH (qcR hB.o qN I.o (fun j h=>(hO.o.lt j h).1))⟩
   case measure=>have:=Hq.o;simp [intOf];omega
  ·obtain rfl:v=0:=by omega
   have ht:=own_isM hO.o hd.o (hn.o rfl);rw [show mval S=x by have:=hv.o;omega] at ht;have Ht:=qH ht;clear ht;go_wp2;go_ret;exact⟨_,rfl,hB.o,Ht.o⟩)
theorem qcw (I:Pk) (x:Nat) (O:Value) (w:World) (U:MagAt w O x) :
  Calls prog (Pk.of I 148 168) #[O] w fun e V=>e=.returned (.bool (decide (x=0)))/\V=w:=by
 obtain⟨am,bm,Z,cm,n,M,rfl,F,rfl⟩:=U;have h:mval M=0↔n=0:=by rw [<-F.len];exact F.nrm.zero
 have J:=qH h;clear F h
 by_cases H:n=0
 ·rw [qV (J.o.2 H)];subst H;cases I <;> dsimp only [Pk.of] at * <;> (
  first | go_enter func148,ntmps148 | go_enter func168,ntmps168
  go_wp2;go_ret;exact⟨rfl,rfl⟩)
 ·rw [qU (fun h=>H (J.o.1 h))];have Y:((n:Int) == 0)=false:=by rw [beq_eq_false_iff_ne];omega
  cases I <;> dsimp only [Pk.of] at * <;> (
  first | go_enter func148,ntmps148 | go_enter func168,ntmps168
  go_wp2;go_ret;exact⟨rfl,rfl⟩)
theorem qc6 (pk:Pk) (x y K:Nat) (hK:K<=274877906944) (vm vo:Value) (w:World) (hm:MagAt w vm x) (ho:MagAt w vo y) (hx:Fit x K) (hy:Fit y K) :
  Calls prog (Pk.of pk 159 230) #[vm,vo] w fun e w'=>e=.returned (.int .i64 (cmp3 x y))/\Below w.heap.size w w':=by
 obtain⟨am,bm,om,cm,n,M,rfl,Im,rfl⟩:=hm;obtain⟨ao,bo,oo,co,no,O,rfl,Io,rfl⟩:=ho;have hn:n<=274877906944:=qaj (hx.len Im) hK;have aB:no<=274877906944:=qaj (hy.len Io) hK;have V:=qH Im;have Y:=qH Io;obtain⟨R,hR⟩:=qX (cmp3 (mval M) (mval O));rw [hR];have HR:=qH hR;clear Im Io hx hy hK hR
 by_cases hne:n=no
 ·subst hne;clear aB;cases pk <;> dsimp only [Pk.of] at * <;> (
  first | go_enter func159,ntmps159 | go_enter func230,ntmps230
  go_wp2
  go_loopw [5] (fun x5 W=>∃(k:Nat) (z:Int),k<=n/\x5=.int .i64 z/\Hu (z+1=k)/\Hu (M.drop k=O.drop k)/\Hu (Below w.heap.size w W)) (fun x5 _=>(intOf x5+1).toNat)
  case atStart =>
   exact⟨n,_,qae _,rfl,qH (by omega),qH (by rw [qaT (by rw [V.o.len];exact qae _),qaT (by rw [Y.o.len];exact qae _)]),qH qB⟩
  case round =>
   obtain⟨k,z,hk,rfl,hz,hI,hB⟩:=hrel
   by_cases aG:0<k
   ·obtain⟨j,rfl⟩:∃j,k=j+1:=⟨k-1,by omega⟩;obtain rfl:z=(j:Int):=by have:=hz.o;omega
    have aF:(j:Int)<n:=by omega
    have az:=V.o.addr (by omega);have ay:=Y.o.addr (by omega);subst az;subst ay;have af:=(V.o.below hB.o).cell j (by omega);have ag:=(Y.o.below hB.o).cell j (by omega);have aa:=V.o.len;have ae:=Y.o.len;obtain⟨d,J⟩:=qX (dg M j);obtain⟨e,U⟩:=qX (dg O j);rw [J] at af;rw [U] at ag;have e1:M[j]'(by omega)=d:=by rw [<-J];unfold dg;rw [qaa,qad (by omega)];rfl
    have e2:O[j]'(by omega)=e:=by rw [<-U];unfold dg;rw [qaa,qad (by omega)];rfl
    have H:=qH (qA aa (qA ae (qA J U)));have av:=qH (fun h:d<e=>qiP M O j V.o.dig.mem (by omega) (by omega) (by rw [e1,e2];exact h) hI.o);have au:=qH (fun h:e<d=>qiP O M j Y.o.dig.mem (by omega) (by omega) (by rw [e1,e2];exact h) hI.o.symm);have ak:=qH (fun h:d=e=>(show M.drop j=O.drop j by rw [qby (show j<M.length by omega),qby (show j<O.length by omega),e1,e2,h,hI.o]));clear e1 e2 aa ae J U
    by_cases aA:d=e
    ·subst aA;go_wp2_with fail
     go_quiet (fail)
     go_wp2;go_roundw
     case rel=>exact⟨j,_,by omega,rfl,qH (by omega),qH (ak.o trivial),qH (below_drewN hB.o _)⟩
     case measure=>simp [intOf]
    ·have hb:((d:Int) == (e:Int))=false:=by rw [beq_eq_false_iff_ne];omega
     have ai:¬(d:Int)=(e:Int):=by omega
     have F:cmp3 (d:Int) (e:Int)=R:=by
      rw [<-HR.o];rcases qaQ d e with h | h
      ·have:=av.o h;unfold cmp3;rw [if_pos (by omega),if_pos (by omega)]
      ·have:=au.o (by omega);unfold cmp3;rw [if_neg (by omega),if_neg (by omega),if_neg (by omega),if_neg (by omega)]
     have Z:=fun W=>cmp_u32 (d:Int) (e:Int) W
     rw [F] at Z;have HC:=qH Z;clear Z F;go_wp2_with fail
     go_quiet (fail)
     go_wp2_with fail;obtain⟨W1,I⟩:=qX (wr.drewN nq);have aC:W1.cell? ⟨bm,om+j,none⟩=some (.int .u32 (d:Int)):=by rw [<-I];exact af
     have aD:W1.cell? ⟨bo,oo+j,none⟩=some (.int .u32 (e:Int)):=by rw [<-I];exact ag
     have aj:Hu (Below w.heap.size w W1):=qH (I▸below_drewN hB.o _);rw [I];clear I
     go_quiet ((go_at_call 219;exact qls ((HC.o _).mono fun _ _ h=>⟨h.1,h.2.symm⟩)))
     go_wp2;go_ret;exact⟨rfl,below_drewN aj.o _⟩
   ·obtain rfl:k=0:=by omega
    obtain rfl:z = -1:=by have:=hz.o;omega
    have ah:M=O:=hI.o;have ax:R=0:=by rw [<-HR.o,ah];unfold cmp3;rw [if_neg (by omega),if_pos rfl]
    subst ax;clear ah;go_wp2;go_ret;exact⟨rfl,hB.o⟩)
 ·have hb:((n:Int) == (no:Int))=false:=by rw [beq_eq_false_iff_ne];omega
  have ai:¬(n:Int)=(no:Int):=by omega
  have F:cmp3 (n:Int) (no:Int)=R:=by
   rw [<-HR.o];have nz:∀L:List Nat,Nrm L->L.getLast?≠some 0:=fun L h=>by
    rcases h with h | h
    ·rw [qbI.1 h];simp
    ·intro hl;apply h;rw [List.getLast?_eq_getElem?] at hl;rw [qaa,hl];rfl
   have aa:=V.o.len;have ae:=Y.o.len;rcases qaQ n no with h | h
   ·have:=qgO M O V.o.dig.mem (by omega) (nz O Y.o.nrm);unfold cmp3;rw [if_pos (by omega),if_pos (by omega)]
   ·have:=qgO O M Y.o.dig.mem (by omega) (nz M V.o.nrm);unfold cmp3;rw [if_neg (by omega),if_neg (by omega),if_neg (by omega),if_neg (by omega)]
  have Z:=fun W=>cmp_int (n:Int) (no:Int) W
  rw [F] at Z;have HC:=qH Z;clear Z F;cases pk <;> dsimp only [Pk.of] at * <;> (
  first | go_enter func159,ntmps159 | go_enter func230,ntmps230
  go_wp2_with fail;refine (HC.o _).mono ?_;rintro e w1 ⟨rfl,rfl⟩;go_wp2;go_ret;exact⟨rfl,Below.refl _ _⟩)
theorem qhY (pk:Pk) (A u C V:List Nat) (n p s cu cs B g:Nat) (av:Option Addr) (bv ov cv:Nat) (w:World) (hp:A.length=p) (hE:Est u V n) (aj:w.ownsRow B 232 1 (.slice (some ⟨g,0,none⟩) s cs) s (row32 (A++u++C))) (hV:IsM w av bv ov cv n V) (hne:bv≠g) (dx:n+1<=cu) (hs:s<=549755813888) :
  Calls prog (Pk.of pk 214 236) #[.slice (some ⟨g,p,none⟩) (n+1) cu,.slice av n cv] w fun e w'=>∃(R:List Nat) (q:Nat),e=.returned (.int .u32 (q:Int))/\Reduced u V R q/\w.grownBy w' (some g)/\w'.ownsRow B 232 1 (.slice (some ⟨g,0,none⟩) s cs) s (row32 (A++R++C)):=by
 have aS:=hE.lu;have bS:p+(n+1)<=s:=by
  have:=aj.1;rw [qcx,qaf,qaf,hp,aS] at this;omega
 have dC:=hE.two;have dD:n<=549755813888:=by omega
 obtain rfl:=hV.addr (by omega);have HP:=qH hp;have HE:=qH hE;have HO:=qH aj;have HV:=qH hV;have bX:=qH hne;have HU:Hu (∀(W:World) (R:List Nat) (i:Nat),W.ownsRow B 232 1 (.slice (some ⟨g,0,none⟩) s cs) s (row32 (A++R++C))->i<R.length->R.length=n+1->W.cell? ⟨g,p+i,none⟩=some (.int .u32 ((dg R i:Nat):Int))):=qH fun W R i h hi hl=>by
  rw [<-HP.o];rw [h.cellAt (A.length+i) (by rw [HP.o];omega),qdy _ _ (by rw [qaf,qaf];omega),dg_mid A R C i hi]
 have HS:Hu (∀(W:World) (R:List Nat) (i d:Nat),W.ownsRow B 232 1 (.slice (some ⟨g,0,none⟩) s cs) s (row32 (A++R++C))->i<R.length->(W.setCell ⟨g,p+i,none⟩ (.int .u32 (d:Int))).ownsRow B 232 1 (.slice (some ⟨g,0,none⟩) s cs) s (row32 (A++(R.set i d)++C))/\W.grownBy (W.setCell ⟨g,p+i,none⟩ (.int .u32 (d:Int))) (some g)):=qH fun W R i d h hi=>by
  rw [<-HP.o];refine⟨?_,qg9 h _ _⟩;have h1:=qdG h (A.length+i) d rfl
  rwa [set_mid A R C i d hi] at h1
 have aQ:Hu (∀(W:World) (i:Nat),w.grownBy W (some g)->i<n->W.cell? ⟨bv,ov+i,none⟩=some (.int .u32 ((dg V i:Nat):Int))):=qH fun W i h hi=>h.cell (HV.o.cell i hi) (fun e=>bX.o (qah e))
 have df:((n-1:Nat):Int)=(n:Int)-1:=by omega
 have dh:((n-2:Nat):Int)=(n:Int)-2:=by omega
 have bu:=aQ.o w (n-1) (qc5 _ _) (by omega);have bn:=HU.o w u n aj (by omega) aS;have bq:=HU.o w u (n-1) aj (by omega) aS;obtain⟨tp,aF⟩:=qX (dg V (n-1));obtain⟨u0,aG⟩:=qX (dg u n);obtain⟨u1,aO⟩:=qX (dg u (n-1));obtain⟨u2,bG⟩:=qX (dg u (n-2));obtain⟨v2,bH⟩:=qX (dg V (n-2));have b0:tp<1000000000:=aF▸hE.dv (n-1);have b1:u0<1000000000:=aG▸hE.du n;have b2:u1<1000000000:=aO▸hE.du (n-1);have b3:u2<1000000000:=bG▸hE.du (n-2);have b4:v2<1000000000:=bH▸hE.dv (n-2);have J:0<tp:=by have:=hE.top_pos;rw [<-aF];exact this
 rw [aF] at bu;rw [aG] at bn;rw [aO] at bq;obtain⟨a1,bK⟩:=qX (u0*1000000000:Nat);obtain⟨hd,bO⟩:=qX (a1+u1:Nat);have ay:Est.head u n=hd:=by have e1:u.getD n 0=u0:=aG;have e2:u.getD (n-1) 0=u1:=aO;unfold Est.head;rw [e1,e2,bK,bO]
 have aB:Est.top V n=tp:=aF;have U:=hE.first
 rw [ay,aB] at U;obtain⟨q0,aT⟩:=qX (hd / tp:Nat);obtain⟨r0,aW⟩:=qX (hd % tp:Nat);have bg:r0<tp:=by rw [<-aW];exact qbD _ J
 have bQ:q0*tp+r0=hd:=by rw [<-aT,<-aW,qat];exact Nat.div_add_mod _ _
 rw [aT] at U;have i1:=u64_in u0 (by omega);have i2:(u0:Int)*1000000000=a1:=by omega
 have i3:=u64_in a1 (by omega);have i4:=u64_in u1 (by omega);have i5:(a1:Int)+u1=hd:=by omega
 have i6:=u64_in hd (by omega);have i7:=u64_in tp (by omega);have i8:=tdivN hd tp q0 aT;have i9:=tmodN hd tp r0 aW;have bZ:=u64_in q0 (by omega);have cz:=u64_in r0 (by omega);have cB:((tp:Int) == 0)=false:=by rw [beq_eq_false_iff_ne];omega
 have cK:¬tp=0:=by omega
 have HQ:=qH (qA U (qA bQ (qA ay aB)));have bz:=qH (qA b0 (qA b1 (qA b2 (qA b3 (qA b4 J)))));have HN:=qH (qA aF (qA aG (qA aO (qA bG bH))));have bJ:=qH bg;have Hs:=qH (qA hs bS);clear U bQ ay aB b0 b1 b2 b3 b4 J aF aG aO bG bH bK bO aT aW bg hE aj hV hne aS hp bS;cases pk <;> dsimp only [Pk.of] at * <;> (
 first | go_enter func214,ntmps214 | go_enter func236,ntmps236
 go_wp2_with fail
 go_quiet (fail)
 go_wp2_with fail
 go_quiet (fail)
 clear bn bq bu i1 i2 i3 i4 i5 i6 i8 i9 bZ cz cB cK;rename_i hK;refine hK _ _ ?_
 go_step
 go_cut [8,9] (fun x8 x9 W=>∃q r:Nat,x8=.int .u64 q/\x9=.int .u64 r/\Hu (q<1000000000/\mval u / mval V<=q/\q<=mval u / mval V+1)/\Hu (w.grownBy W (some g))/\Hu (W.ownsRow B 232 1 (.slice (some ⟨g,0,none⟩) s cs) s (row32 (A++u++C))))
 case first =>
  go_wp2_with fail
  go_loopw [8,9] (fun x8 x9 W=>∃q r:Nat,x8=.int .u64 q/\x9=.int .u64 r/\r<1000000000/\q<=1000000002/\Hu (mval u / mval V<=q/\q*tp+r=hd)/\Hu (w.grownBy W (some g))/\Hu (W.ownsRow B 232 1 (.slice (some ⟨g,0,none⟩) s cs) s (row32 (A++u++C)))) (fun x8 _ _=>(intOf x8).toNat)
  case atStart=>exact⟨q0,r0,rfl,rfl,by have:=bJ.o;have:=bz.o.1;omega,HQ.o.1.2,qH ⟨HQ.o.1.1,HQ.o.2.1⟩,qH (qdp (qdp (qc5 _ _) _) _),HO⟩
  case round =>
   obtain⟨q,r,rfl,rfl,hr,hq,hI,Z,O⟩:=hrel;have bT:=HU.o wr u (n-2) O.o (by rw [HE.o.lu];omega) HE.o.lu;have bU:=aQ.o wr (n-2) Z.o (by omega);rw [HN.o.2.2.2.1] at bT;rw [HN.o.2.2.2.2] at bU;obtain⟨b0,b1,b2,b3,b4,J⟩:=bz.o;obtain⟨m1,aa⟩:=qX (q*v2:Nat);obtain⟨m2,az⟩:=qX (r*1000000000:Nat);obtain⟨m3,aA⟩:=qX (m2+u2:Nat);have ai:m1<=1000000002*999999999:=by rw [<-aa];exact Nat.mul_le_mul hq (by omega)
   have j1:=u64_in q (by omega);have j2:=u64_in v2 (by omega);have j3:(q:Int)*(v2:Int)=m1:=by rw [<-aa,Int.natCast_mul]
   have j4:=u64_in m1 (by omega);have j5:=u64_in r (by omega);have j6:(r:Int)*1000000000=m2:=by omega
   have j7:=u64_in m2 (by omega);have j8:=u64_in u2 (by omega);have j9:(m2:Int)+u2=m3:=by omega
   have dE:=u64_in m3 (by omega);have dF:=u64_in tp (by omega)
   by_cases ht:1000000000<=q\/m3<m1
   ·have aJ:=HE.o.down (q:=q) (r:=r) (by rw [HQ.o.2.2.1,HQ.o.2.2.2];exact hI.o.2) hI.o.1 (by rw [show u.getD (n-2) 0=u2 from HN.o.2.2.2.1,show V.getD (n-2) 0=v2 from HN.o.2.2.2.2,aa,az,aA];exact ht);rw [HQ.o.2.2.1,HQ.o.2.2.2] at aJ;obtain⟨ak,I,H⟩:=aJ;obtain⟨q1,bf⟩:=qX (q-1);obtain⟨r1,bi⟩:=qX (r+tp);rw [bf] at I H;rw [bi] at H;have aY:q1+1=q:=by omega
    have dG:(q:Int)-1=q1:=by omega
    have dH:=u64_in q1 (by omega);have dI:(r:Int)+tp=r1:=by omega
    have dJ:=u64_in r1 (by omega);clear bf bi
    by_cases aL:(1000000000:Int)<=q
    ·have bN:decide ((1000000000:Int)<=q)=true:=qV aL
     by_cases au:(1000000000:Int)<=r1
     ·have hb:=HE.o.broke (q:=q1) (r:=r1) (by rw [HQ.o.2.2.1,HQ.o.2.2.2];exact H) (by omega);have ag:=qH (qA hb.1 (qA I hb.2));clear hb I H ht aa az aA ai b0 b1 b2 b3 b4 J ak hr hq;go_wp2_with fail
      go_quiet (fail)
      go_wp2;go_meet
      case rel=>exact⟨q1,r1,rfl,rfl,ag,qH (qdp Z.o _),O⟩
     ·have bA:=qH (qA I H);have aH:=qH (qA hq (qA ak (qA aY au)));have bL:decide ((1000000000:Int)<=r1)=false:=qU au;clear au I H ht aa az aA ai b0 b1 b2 b3 b4 J ak hr hq;go_wp2_with fail
      go_quiet (fail)
      go_wp2;go_roundw
      case rel =>
       obtain⟨h1,h2,h3,h4⟩:=aH.o;exact⟨q1,r1,rfl,rfl,by omega,by omega,bA,qH (qdp Z.o _),O⟩
      case measure =>
       obtain⟨h1,h2,h3,h4⟩:=aH.o;simp only [intOf];omega
    ·have bN:decide ((1000000000:Int)<=q)=false:=qU aL;have aK:(m3:Int)<m1:=by omega
     by_cases au:(1000000000:Int)<=r1
     ·have hb:=HE.o.broke (q:=q1) (r:=r1) (by rw [HQ.o.2.2.1,HQ.o.2.2.2];exact H) (by omega);have ag:=qH (qA hb.1 (qA I hb.2));clear hb I H ht aa az aA ai b0 b1 b2 b3 b4 J ak hr hq;go_wp2_with fail
      go_quiet (fail)
      go_wp2;go_meet
      case rel=>exact⟨q1,r1,rfl,rfl,ag,qH (qdp Z.o _),O⟩
     ·have bA:=qH (qA I H);have aH:=qH (qA hq (qA ak (qA aY au)));have bL:decide ((1000000000:Int)<=r1)=false:=qU au;clear au I H ht aa az aA ai b0 b1 b2 b3 b4 J ak hr hq;go_wp2_with fail
      go_quiet (fail)
      go_wp2;go_roundw
      case rel =>
       obtain⟨h1,h2,h3,h4⟩:=aH.o;exact⟨q1,r1,rfl,rfl,by omega,by omega,bA,qH (qdp Z.o _),O⟩
      case measure =>
       obtain⟨h1,h2,h3,h4⟩:=aH.o;simp only [intOf];omega
   ·have aL:¬(1000000000:Int)<=q:=by omega
    have aK:¬(m3:Int)<m1:=by omega
    have aJ:=HE.o.done (q:=q) (r:=r) (by rw [HQ.o.2.2.1,HQ.o.2.2.2];exact hI.o.2) (by omega) (by rw [show u.getD (n-2) 0=u2 from HN.o.2.2.2.1,show V.getD (n-2) 0=v2 from HN.o.2.2.2.2,aa,az,aA];omega);have bN:decide ((1000000000:Int)<=q)=false:=qU aL;have dz:decide (m3<m1)=false:=qU (by omega);have ag:Hu (q<1000000000/\mval u / mval V<=q/\q<=mval u / mval V+1):=qH ⟨by omega,hI.o.1,aJ⟩;clear aJ ht aa az aA ai b0 b1 b2 b3 b4 J hr hq aL aK;go_wp2_with fail
    go_quiet (fail)
    go_wp2;go_meet
    case rel=>exact⟨q,r,rfl,rfl,ag,qH (qdp Z.o _),O⟩
 case rest =>
  clear HQ bJ i7;obtain⟨q,r,rfl,rfl,aU,Z,O⟩:=hcut;go_wp2_with fail
  go_loopw [10,11,77] (fun x10 x11 x77 W=>∃(k c b:Nat) (R:List Nat),k<=n/\x77=.int .i64 k/\x10=.int .u64 c/\x11=.int .i64 b/\Hu (SubInv u V q k R b c)/\Hu (w.grownBy W (some g))/\Hu (W.ownsRow B 232 1 (.slice (some ⟨g,0,none⟩) s cs) s (row32 (A++R++C)))) (fun _ _ x77 _=>n-(intOf x77).toNat)
  case atStart=>exact⟨0,0,0,u,qal _,rfl,rfl,rfl,qH (SubInv.start HE.o.du),Z,O⟩
  case round =>
   clear Z O;obtain⟨k,c,b,R,hk,rfl,rfl,rfl,hI,Z,O⟩:=hrel;have ah:R.length=n+1:=hI.o.len.trans HE.o.lu
   by_cases bD:k<n
   ·have dB:(k:Int)<n:=by omega
    have dm:(k:Int)<(n:Int)+1:=by omega
    have bI:=aQ.o wr k Z.o bD;have ae:=HU.o wr R k O.o (by omega) ah;have aR:wr.frozen? ⟨g,p+k,none⟩=false:=O.o.frozenAt (p+k);have af:dg R k=dg u k:=hI.o.rest k qN;rw [af] at ae;have hx:dg u k<1000000000:=HE.o.du k;have hd:dg V k<1000000000:=HE.o.dv k;obtain⟨x,aC⟩:=qX (dg u k);obtain⟨d,ax⟩:=qX (dg V k);rw [aC] at ae hx;rw [ax] at bI hd;have hb:=hI.o.borrow;have hc:=hI.o.carry;have aM:=aU.o.1;have aN:=qnJ hc aM hd;obtain⟨qd,aV⟩:=qX (q*d:Nat);rw [aV] at aN;obtain⟨t1,bF⟩:=qX (c+qd:Nat);rw [bF] at aN;obtain⟨c1,bM⟩:=qX (t1 / 1000000000:Nat);obtain⟨m,hm⟩:=qX (t1 % 1000000000:Nat);have bY:m<1000000000:=by omega
    have aX:c1<1000000000:=by omega
    have e2:c+q*d=1000000000*c1+m:=by rw [aV,bF];omega
    have k1:=u64_in q (by omega);have k2:=u64_in d (by omega);have k3:(q:Int)*(d:Int)=qd:=by rw [<-aV,Int.natCast_mul]
    have k4:=u64_in qd (by omega);have k5:(c:Int)+qd=t1:=by omega
    have k6:=u64_in t1 (by omega);have k7:=tmodB t1 m hm;have k8:=u64_in m (by omega);have k9:=tdivB t1 c1 bM;have dK:=u64_in c1 (by omega);have dL:=u64_in c (by omega);have H2:=qH (qA hx (qA hb (qA bY (qA aX (qA e2 (qA aC (qA ax ah)))))));clear aV bF bM hm e2 aC ax af hc aM aN aX hd
    by_cases aK:(x:Int)-b-m<0
    ·obtain⟨s1,bE⟩:=qX (x+1000000000-b-m:Nat);have cO:(x:Int)-b-m+1000000000=s1:=by omega
     have cZ:(s1:Int) % 4294967296=s1:=by omega
     have aI:Hu (s1<1000000000/\s1+b+m=x+1000000000*1):=qH (by omega);clear bE ah;go_wp2;go_roundw
     case rel =>
      obtain⟨h1,h2,h3,h4,h5,h6,h7,h8⟩:=H2.o;have F:=HS.o wr R k s1 O.o (by omega);exact⟨k+1,c1,1,R.set k s1,bD,by go_num,rfl,rfl,qH (hI.o.step (by have:=HE.o.lu;omega) aI.o.1 qN h4 (by rw [show V.getD k 0=d from h7];exact h5) (by rw [show u.getD k 0=x from h6];exact aI.o.2)),qH (qbZ Z.o F.2),qH F.1⟩
     case measure=>simp [intOf];omega
    ·obtain⟨s1,bE⟩:=qX (x-b-m:Nat);have cO:(x:Int)-b-m=s1:=by omega
     have cZ:(s1:Int) % 4294967296=s1:=by omega
     have aI:Hu (s1<1000000000/\s1+b+m=x+1000000000*0):=qH (by omega);clear bE ah aK;go_wp2;go_roundw
     case rel =>
      obtain⟨h1,h2,h3,h4,h5,h6,h7,h8⟩:=H2.o;have F:=HS.o wr R k s1 O.o (by omega);exact⟨k+1,c1,0,R.set k s1,bD,by go_num,rfl,rfl,qH (hI.o.step (by have:=HE.o.lu;omega) aI.o.1 (by omega) h4 (by rw [show V.getD k 0=d from h7];exact h5) (by rw [show u.getD k 0=x from h6];exact aI.o.2)),qH (qbZ Z.o F.2),qH F.1⟩
     case measure=>simp [intOf];omega
   ·obtain rfl:k=n:=by omega
    have ae:=HU.o wr R k O.o (by omega) ah;have aR:wr.frozen? ⟨g,p+k,none⟩=false:=O.o.frozenAt (p+k);have af:dg R k=dg u k:=hI.o.rest k qN;rw [af,HN.o.2.1] at ae;have hb:=hI.o.borrow;have hc:=hI.o.carry;have aG:=bz.o.2.1;have aM:=aU.o.1;have dn:(k:Int)<(k:Int)+1:=by omega
    have k1:=u64_in c (by omega);have aP:=qH ah
    by_cases aK:(u0:Int)-b<c
    ·have ak:1<=q:=by
      rcases qaU q with h0 | h0
      ·exfalso;have hv:=hI.o.val;rw [h0,Nat.zero_mul,qbs] at hv;have h1:=(hI.o.dig.take k).lt;rw [qax,qa9 (by omega)] at h1;have:1000000000 ^ k*1<=1000000000 ^ k*(b+c):=qaC _ (by omega);omega
      ·exact h0
     have aZ:u0<b+c:=by omega
     obtain⟨q1,bP⟩:=qX (q-1);have k2:(q:Int)-1=q1:=by omega
     have k3:=u64_in q1 (by omega);have k4:(q1:Int) % 4294967296=q1:=by omega
     have H3:=qH (qA bP aZ);clear bP af aM ak ah aZ;go_wp2_with fail
     go_loopw [15,125] (fun x15 x125 W=>∃(j o:Nat) (S:List Nat),j<=k/\x125=.int .i64 j/\x15=.int .u32 o/\Hu (BackInv R V j S o)/\Hu (w.grownBy W (some g))/\Hu (W.ownsRow B 232 1 (.slice (some ⟨g,0,none⟩) s cs) s (row32 (A++S++C)))) (fun _ x125 _=>k-(intOf x125).toNat)
     case atStart=>exact⟨0,0,R,qal _,rfl,rfl,qH (BackInv.start hI.o.dig),Z,O⟩
     case round =>
      have dw:=Z;clear Z ae aR;obtain⟨j,o,S,hj,rfl,rfl,hJ,Z,O⟩:=hrel;have aD:S.length=k+1:=hJ.o.len.trans aP.o
      by_cases bC:j<k
      ·have dA:(j:Int)<k:=by omega
       have di:(j:Int)<(k:Int)+1:=by omega
       have bI:=aQ.o wr j Z.o bC;have ae:=HU.o wr S j O.o (by omega) aD;have aR:wr.frozen? ⟨g,p+j,none⟩=false:=O.o.frozenAt (p+j);have af:dg S j=dg R j:=hJ.o.rest j qN;rw [af] at ae;have hx:dg R j<1000000000:=hI.o.dig j;have hd:dg V j<1000000000:=HE.o.dv j;obtain⟨x,aC⟩:=qX (dg R j);obtain⟨d,ax⟩:=qX (dg V j);rw [aC] at ae hx;rw [ax] at bI hd;have ho:=hJ.o.carry;have H4:=qH (qA aC (qA ax aD));clear af aC ax aD
       by_cases bB:(1000000000:Int)<=(x:Int)+d+o
       ·go_wp2;go_roundw
        case rel =>
         obtain⟨h1,h2,h3⟩:=H4.o;have F:=HS.o wr S j (x+d+o-1000000000) O.o (by omega);have Y:(x:Int)+d+o-1000000000=((x+d+o-1000000000:Nat):Int):=by omega
         refine⟨j+1,1,S.set j (x+d+o-1000000000),bC,by go_num,rfl,qH (hJ.o.step (by have:=aP.o;omega) (by omega) qN (by have e1:R.getD j 0=x:=h1;have e2:V.getD j 0=d:=h2;omega)),qH ?_,qH ?_⟩
         ·rw [Y];exact qbZ Z.o F.2
         ·rw [Y];exact F.1
        case measure=>simp [intOf];omega
       ·go_wp2;go_roundw
        case rel =>
         obtain⟨h1,h2,h3⟩:=H4.o;have F:=HS.o wr S j (x+d+o) O.o (by omega);have Y:(x:Int)+d+o=((x+d+o:Nat):Int):=by omega
         refine⟨j+1,0,S.set j (x+d+o),bC,by go_num,rfl,qH (hJ.o.step (by have:=aP.o;omega) (by omega) (by omega) (by have e1:R.getD j 0=x:=h1;have e2:V.getD j 0=d:=h2;omega)),qH ?_,qH ?_⟩
         ·rw [Y];exact qbZ Z.o F.2
         ·rw [Y];exact F.1
        case measure=>simp [intOf];omega
      ·obtain rfl:j=k:=by omega
       have ae:=HU.o wr S j O.o (by omega) aD;have aR:wr.frozen? ⟨g,p+j,none⟩=false:=O.o.frozenAt (p+j);have bV:=qH aD;clear aD;go_wp2;go_ret;have F:=HS.o wr S j 0 O.o (by have:=bV.o;omega);refine⟨S.set j 0,q1,rfl,?_,qbZ Z.o F.2,(by first | exact F.1 | (rw [<-qaI];exact F.1))⟩;have bR:=qi8 hI.o hJ.o HE.o.lu HE.o.lv HE.o.dv HE.o.v_pos aU.o.2.2 (by rw [show u.getD j 0=u0 from HN.o.2.1];exact H3.o.2)
       rwa [H3.o.1] at bR
    ·have k4:(q:Int) % 4294967296=q:=by omega
     have bB:¬u.getD k 0<b+c:=by rw [show u.getD k 0=u0 from HN.o.2.1];omega
     have bW:=qH bB;clear bB af aM ah;go_wp2;go_ret;have F:=HS.o wr R k 0 O.o (by have:=aP.o;omega);exact⟨R.set k 0,q,rfl,qh9 hI.o HE.o.lu HE.o.lv HE.o.dv HE.o.v_pos aU.o.2.1 bW.o,qbZ Z.o F.2,(by first | exact F.1 | (rw [<-qaI];exact F.1))⟩)
theorem qhl (pk:Pk) (K:Nat) (hK:K<=137438953472) (am:Option Addr) (bm om cm lm:Nat) (M:List Nat) (ao:Option Addr) (bo oo co n:Nat) (O:List Nat) (w:World) (Im:IsM w am bm om cm lm M) (Io:IsM w ao bo oo co n O)
  (hx:Fit (mval M) K) (hy:Fit (mval O) K) (dL:2<=n) (bi:mval O<=mval M) :
  Calls prog (Pk.of pk 154 178) #[.slice am lm cm,.slice ao n co] w fun e w'=>∃q r,e=.returned (.tuple #[q,r])/\Below w.heap.size w w'/\MagAt w' q (mval M / mval O)/\MagAt w' r (mval M % mval O):=by
 have dK:lm<=137438953472:=qaj (hx.len Im) hK;have dm:n<=lm:=by rw [<-Io.len];exact Io.nrm.len (qaL bi (by have:=Im.dig.lt;rwa [Im.len] at this))
 have az:=fun W hm ho=>(qc6 pk) (mval M) (mval O) K (by omega) (.slice am lm cm) (.slice ao n co) W hm ho hx hy
 obtain⟨cr,aG⟩:=qX (cmp3 (mval M) (mval O));have dC:¬cr<0:=by rw [<-aG];unfold cmp3;split <;> (try split) <;> omega
 rw [aG] at az;have aP:=az w ⟨am,bm,om,cm,lm,M,rfl,Im,rfl⟩ ⟨ao,bo,oo,co,n,O,rfl,Io,rfl⟩;have HC:=qH aP;have df:=Io.addr (by omega);subst df;have ht:=Io.nrm.resolve_left (by have:=Io.len;omega);rw [Io.len] at ht;obtain⟨t,bz⟩:=qX (dg O (n-1));have bX:O.getD (n-1) 0=t:=bz;have bW:0<t:=by omega
 have ag:t<1000000000:=by rw [<-bz];exact Io.dig (n-1)
 obtain⟨s,hs⟩:=qX (1000000000 / (t+1));obtain⟨bT,bU,dx,dz⟩:=qhH bW ag hs;obtain⟨t1,aB⟩:=qX (t+1);rw [aB] at hs;have i1:(t:Int)+1=t1:=by omega
 have i2:(t1:Int) % 4294967296=t1:=by omega
 have i3:(1000000000:Int).tdiv t1=s:=tdivN 1000000000 t1 s hs;have i4:(s:Int) % 4294967296=s:=by omega
 have i5:((t1:Int) == 0)=false:=by rw [beq_eq_false_iff_ne];omega
 have i6:¬t1=0:=by omega
 have i7:((n-1:Nat):Int)=(n:Int)-1:=by omega
 have i8:((n:Int) == 1)=false:=by rw [beq_eq_false_iff_ne];omega
 obtain⟨l1,bR⟩:=qX (lm+1);obtain⟨l0,bQ⟩:=qX (lm-n);obtain⟨l2,bS⟩:=qX (l0+1);have i9:(lm:Int)+1=l1:=by omega
 have dN:(lm:Int)-n=l0:=by omega
 have dO:(l0:Int)+1=l2:=by omega
 have aA:=qA (run_make_row' (P:=prog) 134 232 (.int .u32 0) 4 underlying134 qcG rfl .i64 .i64 l1 (by omega) (by omega)) (run_make_row' (P:=prog) 238 232 (.int .u32 0) 4 underlying238 qcG rfl .i64 .i64 l1 (by omega) (by omega));have aQ:=qA (run_make_row' (P:=prog) 134 232 (.int .u32 0) 4 underlying134 qcG rfl .i64 .i64 l2 (by omega) (by omega)) (run_make_row' (P:=prog) 238 232 (.int .u32 0) 4 underlying238 qcG rfl .i64 .i64 l2 (by omega) (by omega));have Hl:=qH (qA bR (qA bQ (qA bS bi)));have HK:=qH hK;have dE:l1<=137438953473:=by omega
 have dF:l2<=137438953473:=by omega
 have HM:=qH Im;have HO:=qH Io;have Hx:=qH hx;have Hy:=qH hy;have Hs:=qH (qA bT (qA bU (qA bX (qA aB hs))));have cZ:=qH aA;have bD:=qH aQ;clear az aG aP ht bz bX bW ag hs bT bU dx dz aB Im Io hx hy bi hK aA aQ bR bQ bS;have z_trim_mag:=qH (@qdS pk);have z_times_any:=qH (@qch pk);have z_short_any:=qH (@qgb pk);have z_reduce_any:=qH (@qhY pk);cases pk <;> dsimp only [Pk.of] at * <;> (
 first | go_enter func154,ntmps154 | go_enter func178,ntmps178
 go_wp2_with fail;refine HC.o.mono ?_;rintro e w1 ⟨rfl,aW⟩;have dw:=(HO.o.below aW).cell (n-1) (by omega);rw [show dg O (n-1)=t from Hs.o.2.2.1] at dw;have aS:=qH aW;clear aW;go_wp2_with fail;have aC:=z_times_any.o (mval O) s K 1 (by have:=HK.o;omega) (.slice (some ⟨bo,oo,none⟩) n co) (.slice (some ⟨w1.heap.size,0,none⟩) 1 1) (w1.alloc (.cells #[.int .u32 (s:Int)] 232)) ⟨_,bo,oo,co,n,O,rfl,(HO.o.below aS.o).below (qB.alloc qN _),rfl⟩ (qeD w1 _ Hs.o.1 (by have:=Hs.o.2.1;omega)) Hy.o (by unfold Fit;have:=Hs.o.2.1;omega);refine aC.mono ?_;clear aC;rintro e H ⟨v,rfl,bL,hv⟩;obtain⟨av,bv,ov,cv,Z,V,rfl,Iv,aV⟩:=hv;have bq:=qhn HO.o.dig HO.o.len (by omega) HO.o.nrm (by rw [Hs.o.2.2.1,Hs.o.2.2.2.1];exact Hs.o.2.2.2.2) Iv.dig Iv.nrm aV;have dn:Z=n:=by rw [<-Iv.len];exact bq.1
 subst dn;have bO:Below w.heap.size w H:=aS.o.trans ((qB.alloc qN _:Below w1.heap.size w1 (w1.alloc (.cells #[.int .u32 (s:Int)] 232))).trans (bL.mono (by simp only [qab];omega)) |>.mono aS.o.size);have dh:=Iv.addr (by omega);subst dh;have HV:=qH (qA Iv (qA aV bq.2));have ah:=qH bO;clear Iv aV bq bL bO;have aA:=cZ.o;go_wp2_with fail;clear aA;have aC:=z_times_any.o (mval M) s K 1 (by have:=HK.o;omega) (.slice am lm cm) (.slice (some ⟨H.heap.size+1,0,none⟩) 1 1) ((H.alloc (.cells (madeCells #[.int .u32 0] l1) 232)).alloc (.cells #[.int .u32 (s:Int)] 232)) ⟨_,bm,om,cm,lm,M,rfl,((HM.o.below ah.o).below (qB.alloc qN _)).below (qB.alloc qN _),rfl⟩ (by have:=qeD (H.alloc (.cells (madeCells #[.int .u32 0] l1) 232)) 232 Hs.o.1 (by have:=Hs.o.2.1;omega);rwa [qab] at this) Hx.o (by unfold Fit;have:=Hs.o.2.1;omega);refine aC.mono ?_;clear aC;rintro e w4 ⟨v4,rfl,aX,dA⟩;obtain⟨at4,bt,ot,ct,nt,T,rfl,It,aU⟩:=dA;have aR:w4.heap[H.heap.size]? = some (.cells (row32 (List.replicate l1 0)).toArray 232 (0,0)):=by
  rw [aX.block H.heap.size (by simp only [qab];omega),qL _ _ _ (by simp only [qab];omega)];exact qgl H l1 _
 have aN:Below H.heap.size H w4:=(((qB.alloc qN _).alloc (by simp only [qab];omega) _).trans (aX.mono (by simp only [qab];omega)));have bn:nt<=l1:=by
  rw [<-It.len,<-Hl.o.1];refine It.nrm.len ?_;rw [aU,qaB];have h1:=HM.o.dig.lt;rw [HM.o.len] at h1;exact Nat.mul_lt_mul'' h1 (by have:=Hs.o.2.1;omega)
 have aj:=It.len;have bY:∀j v,(row32 T)[j]? = some v->∀ad:Addr,at4=some ad->w4.cell? (ad.add j)=some v:=by
  intro j v hj ad bK;have di:j<nt:=by
   have:=(List.getElem?_eq_some_iff.1 hj).1;rw [qcx] at this;omega
  have h1:=It.addr (by omega);rw [h1] at bK;cases bK;rw [qdy T j (by omega)] at hj;rw [<-hj];rw [addr_add];exact It.cell j di
 have HT:=qH (qA It (qA aU (qA aR (qA aN bY))));clear It aU aR aN bY aX;have aA:=bD.o
 go_wp2_with (first | (with_reducible refine wpList_copy_splice rfl (.tmp 49) (.tmp 53) _ _ rfl 232 (qd1 (by decide)) (by kernel_rfl) (some ⟨H.heap.size,0,none⟩) at4 l1 l1 nt ct rfl rfl H.heap.size 0 (row32 (List.replicate l1 0)) 232 HT.o.2.2.1 (row32 T) (by rw [qcx,aj];exact (qa9 bn).symm) ?hp ?hf ?h1 H.heap.size H HT.o.2.2.2.1 qN ?hk) | fail)
 case hp =>
  intro h0;rw [qcx,HT.o.1.len] at h0;have h1:=HT.o.1.addr h0;exact⟨_,h1,fun j v hj=>HT.o.2.2.2.2 j v hj _ h1⟩
 case hf=>rw [qcx,qcx,qaO,aj];omega
 case h1=>exact qnu T
 case hk =>
  intro w5 J aY;rw [splice32 _ _ (by rw [qaO,aj];exact bn)] at J;obtain⟨U0,ak⟩:=qX (T++(List.replicate l1 0).drop T.length);rw [ak] at J;have ae:U0.length=l1:=by rw [<-ak,qaf,qbd,qaO,aj];omega
  have au:mval U0=mval M*s:=by
   rw [<-ak,qcz,HT.o.2.1,List.drop_replicate,qeQ,Nat.mul_zero,qbs]
  have aM:Dig U0:=by
   rw [<-ak];exact HT.o.1.dig.append ((Dig.zeros l1).drop _)
  have hD:=DivInv.start (w:=U0) (v:=V) aM (by
   rw [ae,au,HV.o.1.len,<-Hl.o.1];exact ql3 HM.o.dig HM.o.len HO.o.len (by omega) HO.o.nrm Hs.o.1 dm HV.o.2.1) (by rw [ae,HV.o.1.len];have:=Hl.o.1;omega)
  have ay:IsM w5 (some ⟨bv,ov,none⟩) bv ov cv Z V:=HV.o.1.below aY;have bN:bv<H.heap.size:=qmE HV.o.1 (by omega);have bP:H.heap.size<w5.heap.size:=(qG (show w5.heap[H.heap.size]? = _ from J)).1;have aO:Below w.heap.size w w5:=ah.o.trans (aY.mono ah.o.size);have cz:Hu (0<mval V):=qH (by rw [HV.o.2.1];exact qbT (qbe (fun h=>by have h1:=HO.o.nrm.zero.1 h;have h2:=HO.o.len;omega)) Hs.o.1);have Y:=qH (qA hD (qA ay (qA bN (qA bP (qA aO (qA J (qA ae au)))))));clear hD ay bN bP aO J ae au aM ak aY HT aj bn HC i1 i2 i3 i4 i5 i6 i7 i8;go_wp2_with fail
  go_loopw [12] (fun x12 W=>∃(k:Nat) (z:Int) (Q U:List Nat),k<=l2/\x12=.int .i64 z/\Hu (z+1=k)/\Hu (DivInv U0 V k Q U)/\Hu (W.ownsRow H.heap.size 232 1 (.slice (some ⟨H.heap.size,0,none⟩) l1 l1) l1 (row32 U))/\Hu (W.ownsRow H.heap.size 232 1 (.slice (some ⟨w5.heap.size,0,none⟩) l2 l2) l2 (row32 Q))/\Hu (IsM W (some ⟨bv,ov,none⟩) bv ov cv Z V)/\Hu (Below w.heap.size w W)) (fun x12 _=>(intOf x12+1).toNat)
  case atStart =>
   have e1:U0.length-V.length=l2:=by rw [Y.o.2.2.2.2.2.2.1,HV.o.1.len];have:=Hl.o;omega
   refine⟨l2,_,List.replicate l2 0,U0,qae _,rfl,qH (by omega),qH ?_,qH ?_,qH ?_,qH ?_,qH ?_⟩
   ·have:=Y.o.1
    rwa [e1] at this
   ·refine qia ?_ Y.o.2.2.2.2.2.2.1 qN (by unfold maxLen;omega);rw [qL _ _ _ Y.o.2.2.2.1];exact Y.o.2.2.2.2.2.1
   ·exact qia (qgl w5 l2 _) (by rw [qaO]) (qar Y.o.2.2.2.1) (by unfold maxLen;omega)
   ·exact Y.o.2.1.below (qB.alloc qN _)
   ·exact Y.o.2.2.2.2.1.trans ((qB.alloc qN _:Below w5.heap.size w5 _).mono Y.o.2.2.2.2.1.size)
  case round =>
   obtain⟨k,z,Q,U,hk,rfl,hz,hI,bI,bH,ay,hB⟩:=hrel
   by_cases dJ:0<k
   ·obtain⟨j,rfl⟩:∃j,k=j+1:=⟨k-1,by omega⟩;obtain rfl:z=(j:Int):=by have:=hz.o;omega
    have dI:(j:Int)+Z+1<=l1:=by have:=Hl.o;omega
    have dD:(j:Int)<=(j:Int)+Z+1:=by omega
    have dH:(j:Int)<l2:=by omega
    go_wp2_with fail;rw [show j+Z+1-j=Z+1 by omega];have ax:U.length=l1:=hI.o.lenu.trans Y.o.2.2.2.2.2.2.1;have F:V.length=Z:=HV.o.1.len;obtain⟨A,hA⟩:=qX (U.take j);obtain⟨u,hu⟩:=qX ((U.drop j).take (Z+1));obtain⟨C,hC⟩:=qX (U.drop (j+(Z+1)));have af:U=A++u++C:=by
     rw [<-hA,<-hu,<-hC,qaI,<-List.drop_drop,List.take_append_drop,List.take_append_drop]
    have bE:A.length=j:=by rw [<-hA,qax];omega
    have I:=hI.o.part (by rw [Y.o.2.2.2.2.2.2.1,F];omega);rw [F,hu] at I;have hE:Est u V Z:=⟨by omega,I.2.1,F,I.2.2,HV.o.1.dig,HV.o.2.2,I.1⟩;have ai:=bI.o;rw [af] at ai;have bf:bv≠H.heap.size:=by have:=Y.o.2.2.1;omega
    have bM:bv≠w5.heap.size:=by have:=Y.o.2.2.1;have:=Y.o.2.2.2.1;omega
    have bg:H.heap.size≠w5.heap.size:=by have:=Y.o.2.2.2.1;omega
    refine (z_reduce_any.o A u C V Z j l1 (l1-j) l1 H.heap.size H.heap.size (some ⟨bv,ov,none⟩) bv ov cv wr bE hE ai ay.o bf (by omega) (by omega)).mono ?_;rintro e w6 ⟨R,x,rfl,hR,hG,aK⟩;have hstep:=hI.o.step (R:=R) (x:=x) (by rw [Y.o.2.2.2.2.2.2.1,F];omega) cz.o (by rw [F,hu];exact hR);rw [F,hA,hC] at hstep;have aa:=qkA bH.o hG (Ne.symm bg);have aF:Q.length=l2:=by rw [hI.o.lenq,Y.o.2.2.2.2.2.2.1,F];have:=Hl.o;omega
    have aG:w6.cell? ⟨w5.heap.size,j,none⟩=some (.int .u32 ((dg Q j:Nat):Int)):=(aa.cellAt j (by omega)).trans (qdy Q j (by omega));have dG:w6.frozen? ⟨w5.heap.size,j,none⟩=false:=aa.frozenAt j;have aI:=qdG aa j x rfl;have aT:=qg9 aa j (.int .u32 (x:Int));have aL:=qkA aK aT bg;have bJ:=qkp (qkp ay.o hG bf) aT bM;have bF:Below w.heap.size w w6:=hB.o.grown hG hB.o.size (fun i hi=>by cases hi;exact ah.o.size);have bG:Below w.heap.size w (w6.setCell ⟨w5.heap.size,j,none⟩ (.int .u32 (x:Int))):=bF.setCell (qaj ah.o.size (qar Y.o.2.2.2.1)) _;have HR:=qH (qA hstep (qA aL (qA aI (qA bJ bG))));clear hstep aK aL aa aI bJ bF bG hG aT hR aF I hE ai ax F bE af hA hu hC bf bM bg;go_wp2;go_roundw
    case rel=>exact⟨j,_,_,_,by omega,rfl,qH (by omega),qH HR.o.1,qH HR.o.2.1,qH HR.o.2.2.1,qH HR.o.2.2.2.1,qH HR.o.2.2.2.2⟩
    case measure=>simp [intOf]
   ·obtain rfl:k=0:=by omega
    obtain rfl:z = -1:=by have:=hz.o;omega
    have ax:U.length=l1:=hI.o.lenu.trans Y.o.2.2.2.2.2.2.1;have F:V.length=Z:=HV.o.1.len;have aF:Q.length=l2:=by rw [hI.o.lenq,Y.o.2.2.2.2.2.2.1,F];have:=Hl.o;omega
    have dM:(Z:Int)<=l1:=by have:=Hl.o;omega
    have aD:=hI.o.val;have aH:=hI.o.small;rw [List.drop_zero,Nat.pow_zero,qbO,Y.o.2.2.2.2.2.2.2,HV.o.2.1] at aD;rw [Nat.pow_zero,qbu,HV.o.2.1] at aH;have hend:=div_end Hs.o.1 aD aH;have bB:=hI.o.zero;rw [F,qaM] at bB;have bZ:mval (U.take Z)=mval U:=qcy bB;have ag:=z_trim_mag.o (some ⟨H.heap.size,0,none⟩) H.heap.size 0 l1 Z (U.take Z) wr (by rw [qax];omega) (by omega) (by omega) ((qcO bI.o ax).take Z) (hI.o.digu.take Z);rw [bZ] at ag;have cB:=qH ag;have HF:=qH (qA ax (qA aF (qA hend aH)));clear ag ax F aF aD aH hend bB bZ;go_wp2_with fail;refine cB.o.mono ?_;rintro e w6 ⟨v6,rfl,rfl,dB⟩;have bV:=z_short_any.o (mval U) (Z+1) s (by omega) Hs.o.1 (by have:=Hs.o.2.1;omega) v6 w6 dB (by
     refine qai HF.o.2.2.2 (qar ?_);rw [qaB];have h1:=HO.o.dig.lt;rw [HO.o.len] at h1;exact Nat.mul_lt_mul'' h1 (by have:=Hs.o.2.1;omega))
    go_wp2_with fail;refine bV.mono ?_;rintro e w7 ⟨v7,rfl,aZ,bA⟩;rw [HF.o.2.2.1.2] at bA;have aJ:=own_kept bH.o aZ;have bu:=z_trim_mag.o (some ⟨w5.heap.size,0,none⟩) w5.heap.size 0 l2 l2 Q w7 HF.o.2.1 (by omega) qN (qcO aJ HF.o.2.1) hI.o.digq;rw [HF.o.2.2.1.1] at bu;have cK:=qH bu;have bC:=qH (qA bA aZ);clear bu aJ bA aZ bV;go_wp2_with fail;refine cK.o.mono ?_;rintro e w8 ⟨v8,rfl,rfl,cu⟩;have cO:=qH cu;clear cu;go_wp2_with fail
    go_ret2
    exact⟨_,_,rfl,hB.o.trans (bC.o.2.mono hB.o.size),cO.o,bC.o.1⟩)
