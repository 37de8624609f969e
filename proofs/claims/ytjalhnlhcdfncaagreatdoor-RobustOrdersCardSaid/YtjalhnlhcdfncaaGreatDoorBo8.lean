import Derived.Deep.DeepCutAuto
import Derived.Test.YtjalhnlhcdfncaaGreatDoorBo7
set_option maxRecDepth 100000
set_option maxHeartbeats 0
namespace Go.Proofs.YtjalhnlhcdfncaaGreatDoor
open Go.RowKit Go.Proofs.Tryz
theorem qkJ (pk:Pk) (x y K:Nat) (hK:K<=274877906944) (vm vo:Value) (w:World) (hm:MagAt w vm x) (ho:MagAt w vo y) (hx:Fit x K) (hy:Fit y K) :
  Calls prog (Pk.of pk 184 213) #[vm,vo] w fun e w'=>∃v,e=.returned v/\Below w.heap.size w w'/\MagAt w' v (x+y):=by
 obtain⟨i0,hi,ax,ay,az⟩:=info_parts qcX;obtain⟨am,bm,om,cm,n,M,rfl,Im,ai⟩:=hm;obtain⟨ao,bo,oo,co,no,O,rfl,Io,ak⟩:=ho;have hn:n<=274877906944:=qak ((ai▸hx:Fit (mval M) K).len Im) hK;have aj:no<=274877906944:=qak ((ak▸hy:Fit (mval O) K).len Io) hK;have V:=qH Im;have HO:=qH Io;have Hx:=qH ai;have Hy:=qH ak;have Hz:=qH (qA ax (qA ay az));have Hi:=qH hi;clear Im Io hx hy hK ai ak ax ay az hi;cases pk <;> dsimp only [Pk.of] at * <;> (
 first | go_enter func184,ntmps184 | go_enter func213,ntmps213
 go_upto_if 13 with fail
 go_cut [0,1] (fun x0 x1 W=>∃(am:Option Addr) (bm om cm n:Nat) (M:List Nat) (ao:Option Addr) (bo oo co no:Nat) (O:List Nat),x0=.slice am n cm/\x1=.slice ao no co/\W=w/\no<=n/\n<=274877906944/\Hu (IsM w am bm om cm n M)/\Hu (IsM w ao bo oo co no O)/\Hu (mval M+mval O=x+y))
 case first =>
  go_wp2_with fail
  all_goals go_meet
  all_goals first
   | exact⟨am,bm,om,cm,n,M,ao,bo,oo,co,no,O,rfl,rfl,rfl,by omega,by omega,V,HO,qH (by rw [Hx.o,Hy.o])⟩
   | exact⟨ao,bo,oo,co,no,O,am,bm,om,cm,n,M,rfl,rfl,rfl,by omega,by omega,HO,V,qH (by rw [Hx.o,Hy.o,Nat.add_comm])⟩
 case rest =>
  clear V HO Hx Hy hn aj am bm om cm n M ao bo oo co no O;obtain⟨am,bm,om,cm,n,M,ao,bo,oo,co,no,O,rfl,rfl,rfl,aj,hn,V,HO,Hv⟩:=hcut;obtain⟨w,hw⟩:=qX wc;subst hw
  go_wp2_with (first | (refine wpList_make_own _ rfl _ _ _ rfl wc.heap.size 201 i0 (.int .u32 0) 1 (qej (by decide)) Hi.o Hz.o.1 Hz.o.2.1 .i64 .i64 _ (n+1) rfl rfl (by omega) (by rw [Hz.o.2.2];omega) (by unfold maxLen;omega) qN ?_;intro w1 F E;have I:=qH F;have H:=qH E;clear F E) | fail)
  go_loopw [5,6,22] (fun x5 x6 x22 W=>∃(k b:Nat) (S:List Nat),k<=n/\x5=.slice (some ⟨wc.heap.size,0,none⟩) k (n+1)/\x22=.int .i64 k/\x6=.int .u32 b/\Hu (PlusInv M O k S b)/\Hu (W.ownsRow wc.heap.size 201 1 (.slice (some ⟨wc.heap.size,0,none⟩) k (n+1)) k (row32 S))/\Hu (Below wc.heap.size wc W)) (fun _ _ x22 _=>n-(intOf x22).toNat)
  case atStart=>exact⟨0,0,[],qaj _,rfl,rfl,rfl,qH (PlusInv.start M O),I,qH (qB.grown H.o qN (fun k h=>by cases h))⟩
  case round =>
   obtain⟨k,b,S,hk,rfl,rfl,rfl,J,hO,hB⟩:=hrel
   by_cases ae:k<n
   ·have aH:(k:Int)<n:=by omega
    have aB:=V.o.addr (by omega);subst aB;have au:=(V.o.below hB.o).cell k ae;have hd:dg M k<1000000000:=V.o.dig k;have hb:=J.o.carry
    by_cases aF:k<no
    ·have av:(k:Int)<no:=by omega
     have aA:=HO.o.addr (by omega);subst aA;have aD:=(HO.o.below hB.o).cell k aF;have he:dg O k<1000000000:=HO.o.dig k;obtain⟨e,ah⟩:=qX (dg O k);obtain⟨d,U⟩:=qX (dg M k);rw [ah] at aD he;rw [U] at au hd;have Z:=qH ah;have Y:=qH U;clear ah U
     by_cases aG:(1000000000:Int)<=(d:Int)+b+e
     ·go_wp2_with (first | (at_builtin;refine wpList_append_fits _ rfl (.tmp 44) (.tmp 46) _ rfl wc.heap.size 201 i0 1 (qej (by decide)) Hi.o Hz.o.2.1 wc.heap.size k (n+1) _ rfl (hO.o.alloc _) ⟨wr.heap.size,0,none⟩ 1 1 [.int .u32 ((d:Int)+b+e-1000000000)] rfl rfl (qdT _ _ _) (one_cell _ _) (by omega) ?_;intro w1 F E;have I:=qH F;have H:=qH E;clear F E) | fail)
      go_roundw
      case rel=>exact⟨k+1,1,S++[d+b+e-1000000000],ae,rfl,by go_num,rfl,qH (J.o.step (by omega) (by omega) (by have h1:O.getD k 0=e:=Z.o;have h2:M.getD k 0=d:=Y.o;omega)),qH (qfW I.o (by omega)),qH (qc2 hB.o qN H.o (fun j h=>by cases h;exact qad _))⟩
      case measure=>simp [intOf];omega
     ·go_wp2_with (first | (at_builtin;refine wpList_append_fits _ rfl (.tmp 44) (.tmp 46) _ rfl wc.heap.size 201 i0 1 (qej (by decide)) Hi.o Hz.o.2.1 wc.heap.size k (n+1) _ rfl (hO.o.alloc _) ⟨wr.heap.size,0,none⟩ 1 1 [.int .u32 ((d:Int)+b+e)] rfl rfl (qdT _ _ _) (one_cell _ _) (by omega) ?_;intro w1 F E;have I:=qH F;have H:=qH E;clear F E) | fail)
      go_roundw
      case rel=>exact⟨k+1,0,S++[d+b+e],ae,rfl,by go_num,rfl,qH (J.o.step (by omega) (by omega) (by have h1:O.getD k 0=e:=Z.o;have h2:M.getD k 0=d:=Y.o;omega)),qH (qfW I.o (by omega)),qH (qc2 hB.o qN H.o (fun j h=>by cases h;exact qad _))⟩
      case measure=>simp [intOf];omega
    ·have av:¬(k:Int)<no:=by omega
     have h0:O.getD k 0=0:=qc4 (by rw [HO.o.len];omega);obtain⟨d,U⟩:=qX (dg M k);rw [U] at au hd;have Z:=qH h0;have Y:=qH U;clear U h0
     by_cases aG:(1000000000:Int)<=(d:Int)+b
     ·go_wp2_with (first | (at_builtin;refine wpList_append_fits _ rfl (.tmp 44) (.tmp 46) _ rfl wc.heap.size 201 i0 1 (qej (by decide)) Hi.o Hz.o.2.1 wc.heap.size k (n+1) _ rfl (hO.o.alloc _) ⟨wr.heap.size,0,none⟩ 1 1 [.int .u32 ((d:Int)+b-1000000000)] rfl rfl (qdT _ _ _) (one_cell _ _) (by omega) ?_;intro w1 F E;have I:=qH F;have H:=qH E;clear F E) | fail)
      go_roundw
      case rel=>exact⟨k+1,1,S++[d+b-1000000000],ae,rfl,by go_num,rfl,qH (J.o.step (by omega) (by omega) (by have h1:O.getD k 0=0:=Z.o;have h2:M.getD k 0=d:=Y.o;omega)),qH (qfW I.o (by omega)),qH (qc2 hB.o qN H.o (fun j h=>by cases h;exact qad _))⟩
      case measure=>simp [intOf];omega
     ·go_wp2_with (first | (at_builtin;refine wpList_append_fits _ rfl (.tmp 44) (.tmp 46) _ rfl wc.heap.size 201 i0 1 (qej (by decide)) Hi.o Hz.o.2.1 wc.heap.size k (n+1) _ rfl (hO.o.alloc _) ⟨wr.heap.size,0,none⟩ 1 1 [.int .u32 ((d:Int)+b)] rfl rfl (qdT _ _ _) (one_cell _ _) (by omega) ?_;intro w1 F E;have I:=qH F;have H:=qH E;clear F E) | fail)
      go_roundw
      case rel=>exact⟨k+1,0,S++[d+b],ae,rfl,by go_num,rfl,qH (J.o.step (by omega) (by omega) (by have h1:O.getD k 0=0:=Z.o;have h2:M.getD k 0=d:=Y.o;omega)),qH (qfW I.o (by omega)),qH (qc2 hB.o qN H.o (fun j h=>by cases h;exact qad _))⟩
      case measure=>simp [intOf];omega
   ·obtain rfl:k=n:=by omega
    have hl:S.length=k:=J.o.len;have ag:=J.o;rw [<-V.o.len] at ag;have af:=ag.done (by rw [HO.o.len,V.o.len];exact aj);rw [Hv.o,V.o.len] at af;have hb:=J.o.carry;have aa:=qH af;clear hl ag af
    by_cases aC:b=0
    ·subst aC;go_wp2;go_ret;refine⟨_,rfl,hB.o,some ⟨wc.heap.size,0,none⟩,wc.heap.size,0,k+1,k,S,rfl,⟨J.o.len,by omega,qcP hO.o J.o.len,J.o.dig,?_⟩,?_⟩
     ·refine Nrm.of_ge J.o.dig ?_;rw [J.o.len,<-V.o.len];rcases qaN M.length with h0 | h0
      ·exact qaw h0
      ·have:=V.o.nrm.ge h0;have h2:=aa.o;have h3:=Hv.o;exact qam (by omega)
     ·have:=aa.o;omega
    ·obtain rfl:b=1:=by omega
     go_wp2_with (first | (at_builtin;refine wpList_append_fits _ rfl (.tmp 51) (.tmp 53) _ rfl wc.heap.size 201 i0 1 (qej (by decide)) Hi.o Hz.o.2.1 wc.heap.size k (k+1) _ rfl (hO.o.alloc _) ⟨wr.heap.size,0,none⟩ 1 1 [.int .u32 1] rfl rfl (qdT _ _ _) (one_cell _ _) (by omega) ?_;intro w1 F E;have I:=qH F;have H:=qH E;clear F E) | fail)
     go_ret;refine⟨_,rfl,qc2 hB.o qN H.o (fun j h=>by cases h;exact qad _),some ⟨wc.heap.size,0,none⟩,wc.heap.size,0,k+1,k+1,S++[1],rfl,⟨by rw [qaf,J.o.len];rfl,qad _,qcP (qfW I.o rfl) (by rw [qaf,J.o.len];rfl),J.o.dig.snoc (by decide),?_⟩,?_⟩
     ·exact Nrm.snoc _ (by decide)
     ·rw [qc1,J.o.len];have:=aa.o;omega)
theorem qcz (pk:Pk) (x y K J:Nat) (hK:K+J<=274877906944) (vm vo:Value) (w:World) (hm:MagAt w vm x) (ho:MagAt w vo y) (hx:Fit x K) (hy:Fit y J) :
  Calls prog (Pk.of pk 183 157) #[vm,vo] w fun e w'=>∃v,e=.returned v/\Below w.heap.size w w'/\MagAt w' v (x*y):=by
 obtain⟨am,bm,om,cm,n,M,rfl,Im,rfl⟩:=hm;obtain⟨ao,bo,oo,co,no,O,rfl,Io,rfl⟩:=ho;have hn:n+no<=274877906944:=qak (Nat.add_le_add (hx.len Im) (hy.len Io)) hK;obtain⟨s,hs⟩:=qX (n+no);have ak:(n:Int)+(no:Int)=s:=by omega
 have aD:=qA (run_make_row' (P:=prog) 123 201 (.int .u32 0) 4 underlying123 qcX rfl .i64 .i64 s (by omega) (by omega)) (run_make_row' (P:=prog) 213 201 (.int .u32 0) 4 underlying213 qcX rfl .i64 .i64 s (by omega) (by omega));have H:=qH Im;have I:=qH Io;have U:=qH hs;have aG:=qH ak;have aK:s<=274877906944:=by omega
 clear Im Io hx hy hK hs;have z_trim_mag:=qH (@qea pk);cases pk <;> dsimp only [Pk.of] at * <;> (
 first | go_enter func183,ntmps183 | go_enter func157,ntmps157
 go_wp2
 go_loopw [19] (fun x19 W=>∃(k:Nat) (R:List Nat),k<=n/\x19=.int .i64 k/\Hu (TimesInv M O k 0 R 0)/\Hu (W.ownsRow w.heap.size 201 1 (.slice (some ⟨w.heap.size,0,none⟩) s s) s (row32 R))/\Hu (Below w.heap.size w W)) (fun x19 _=>n-(intOf x19).toNat)
 case atStart =>
  refine⟨0,List.replicate s 0,qaj _,rfl,qH ?_,qH (qfy w s (by unfold maxLen;omega)),qH (qB.alloc qN _)⟩;have:=TimesInv.start M O
  rwa [H.o.len,I.o.len,U.o] at this
 case round =>
  obtain⟨k,R,hk,rfl,F,V,hB⟩:=hrel;clear aD ak
  by_cases Z:k<n
  ·have aI:(k:Int)<n:=by omega
   have az:=H.o.addr (by omega);subst az;have ai:=(H.o.below hB.o).cell k Z;have hd:dg M k<1000000000:=H.o.dig k;obtain⟨d,ae⟩:=qX (dg M k);rw [ae] at ai hd;have au:=qH ae;clear ae;go_wp2_with fail
   go_loopw [8,26] (fun x8 x26 W=>∃(j c:Nat) (S:List Nat),j<=no/\x26=.int .i64 j/\x8=.int .u64 c/\Hu (TimesInv M O k j S c)/\Hu (W.ownsRow w.heap.size 201 1 (.slice (some ⟨w.heap.size,0,none⟩) s s) s (row32 S))/\Hu (Below w.heap.size w W)) (fun _ x26 _=>no-(intOf x26).toNat)
   case atStart=>exact⟨0,0,R,qaj _,rfl,rfl,F,V,hB⟩
   case round =>
    clear F V hB ai;obtain⟨j,c,S,hj,rfl,rfl,F,V,hB⟩:=hrel
    by_cases ag:j<no
    ·have aH:(j:Int)<no:=by omega
     have ay:=I.o.addr (by omega);subst ay;have aA:=(I.o.below hB.o).cell j ag;have he:dg O j<1000000000:=I.o.dig j;obtain⟨e,af⟩:=qX (dg O j);rw [af] at aA he;have E:S.length=s:=by rw [F.o.len,H.o.len,I.o.len,U.o]
     have aj:wr.cell? ⟨w.heap.size,k+j,none⟩=some (.int .u32 ((dg S (k+j):Nat):Int)):=(V.o.cellAt (k+j) (by have:=U.o;omega)).trans (qdQ S (k+j) (by have:=U.o;omega));have aB:wr.frozen? ⟨w.heap.size,k+j,none⟩=false:=V.o.frozenAt (k+j);have hp:dg S (k+j)<1000000000:=F.o.dig (k+j);obtain⟨p,ah⟩:=qX (dg S (k+j));rw [ah] at aj hp;have hc:=F.o.carry;have Hb:=qH (qfD hc hp hd he);obtain⟨q,hq⟩:=qX (d*e:Nat);rw [hq] at Hb;have aJ:(d:Int)*(e:Int)=(q:Int):=by rw [<-hq,Int.natCast_mul]
     obtain⟨r,hr⟩:=qX (p+q:Nat);obtain⟨t,ht⟩:=qX (c+r:Nat);have aF:t<1000000000000000000:=by have:=Hb.o;omega
     obtain⟨c1,Y⟩:=qX (t / 1000000000:Nat);obtain⟨s1,aa⟩:=qX (t % 1000000000:Nat);have r1:=u64_in d (by omega);have r2:=u64_in e (by omega);have r3:=u64_in q (by omega);have r4:(p:Int)+q=r:=by omega
     have r5:=u64_in r (by omega);have r6:(c:Int)+r=t:=by omega
     have r7:=u64_in t (by omega);have r8:(t:Int).tdiv 1000000000=c1:=tdivB t c1 Y;have r9:(t:Int).tmod 1000000000=s1:=tmodB t s1 aa;have aL:=u64_in c1 (by omega);have aM:(s1:Int) % 4294967296=s1:=by omega
     have aN:=u64_in p (by omega);have Ht:=qH (qA hr (qA ht (qA Y aa)));clear hr ht aF Y aa;have aC:(k:Int)+j<s:=by have:=U.o;omega
     have av:=qH af;have ax:=qH ah;have Hq:=qH hq;have Hc:=qH hc;have Hd:=qH hd;have He:=qH he;have Hp:=qH hp;clear af ah hq E hc hd he hp;go_wp2;go_roundw
     case rel =>
      obtain⟨hr,ht,Y,aa⟩:=Ht.o;exact⟨j+1,c1,S.set (k+j) s1,ag,by go_num,rfl,qH (F.o.step (by rw [H.o.len];exact Z) (by rw [I.o.len];exact ag) (by omega) (by have:=Hb.o;omega) (by rw [show S.getD (k+j) 0=p from ax.o,show M.getD k 0=d from au.o,show O.getD j 0=e from av.o,Hq.o];omega)),qH (qd0 V.o (k+j) s1 rfl),qH (hB.o.setCell qN _)⟩
     case measure=>simp [intOf];omega
    ·obtain rfl:j=no:=by omega
     have E:S.length=s:=by rw [F.o.len,H.o.len,I.o.len,U.o]
     have aj:wr.cell? ⟨w.heap.size,k+j,none⟩=some (.int .u32 ((dg S (k+j):Nat):Int)):=(V.o.cellAt (k+j) (by have:=U.o;omega)).trans (qdQ S (k+j) (by have:=U.o;omega));have aB:wr.frozen? ⟨w.heap.size,k+j,none⟩=false:=V.o.frozenAt (k+j);have aC:(k:Int)+j<s:=by have:=U.o;omega
     have hc:=F.o.carry;have r1:(c:Int) % 4294967296=c:=by omega
     have Hc:=qH hc;have Hd:=qH hd;clear E hc hd;go_wp2;go_roundw
     case rel =>
      have h:=F.o;rw [<-I.o.len] at h;have h2:=h.next (by rw [H.o.len];exact Z)
      rw [I.o.len] at h2;exact⟨k+1,S.set (k+j) c,Z,by go_num,qH h2,qH (qd0 V.o (k+j) c rfl),qH (hB.o.setCell qN _)⟩
     case measure=>simp [intOf];omega
  ·obtain rfl:k=n:=by omega
   have E:R.length=s:=by rw [F.o.len,H.o.len,I.o.len,U.o]
   have ht:=z_trim_mag.o (some ⟨w.heap.size,0,none⟩) w.heap.size 0 s s R wr E (by omega) qN (qcP V.o E) F.o.dig;have hv:mval R=mval M*mval O:=by
    have h1:=F.o;rw [<-H.o.len] at h1;exact h1.done rfl
   rw [hv] at ht;have HT:=qH ht;clear ht hv E;go_wp2_with fail;refine HT.o.mono ?_;rintro e w1 ⟨v,rfl,rfl,hv⟩;have Hv:=qH hv;clear hv;go_wp2;go_ret;exact⟨v,rfl,hB.o,Hv.o⟩)
theorem qgG (pk:Pk) (x K d:Nat) (hK:K<=274877906944) (Y:0<d) (hd:d<=1000000000) (vm:Value) (w:World) (hm:MagAt w vm x) (hx:Fit x K) :
  Calls prog (Pk.of pk 243 218) #[vm,.int .u32 (d:Int)] w fun e w'=>∃v,e=.returned (.tuple #[v,.int .u32 ((x % d:Nat):Int)])/\Below w.heap.size w w'/\MagAt w' v (x / d):=by
 obtain⟨am,bm,om,cm,n,M,rfl,Im,rfl⟩:=hm;have hn:n<=274877906944:=qak (hx.len Im) hK;have ah:=qA (run_make_row' (P:=prog) 123 201 (.int .u32 0) 4 underlying123 qcX rfl .i64 .i64 n (by omega) (by omega)) (run_make_row' (P:=prog) 213 201 (.int .u32 0) 4 underlying213 qcX rfl .i64 .i64 n (by omega) (by omega));have H:=qH Im;have Hd:=qH (qA Y hd);obtain⟨rr,O⟩:=qX (mval M % d);have aa:=qH O;rw [O];have h0:((d:Int) == 0)=false:=by rw [beq_eq_false_iff_ne];omega
 have av:¬d=0:=by omega
 have r0:=u64_in d (by omega);clear Im hx hK O hd Y;have z_trim_mag:=qH (@qea pk);cases pk <;> dsimp only [Pk.of] at * <;> (
 first | go_enter func243,ntmps243 | go_enter func218,ntmps218
 go_wp2
 go_loopw [7,8] (fun x7 x8 W=>∃(k r:Nat) (z:Int) (R:List Nat),k<=n/\x8=.int .i64 z/\Hu (z+1=k)/\x7=.int .u64 r/\Hu (ShortInv M d k R r)/\Hu (W.ownsRow w.heap.size 201 1 (.slice (some ⟨w.heap.size,0,none⟩) n n) n (row32 R))/\Hu (Below w.heap.size w W)) (fun _ x8 _=>(intOf x8+1).toNat)
 case atStart =>
  refine⟨n,0,_,List.replicate n 0,qad _,rfl,qH (by omega),rfl,qH ?_,qH (qfy w n (by unfold maxLen;omega)),qH (qB.alloc qN _)⟩;have:=ShortInv.start M Hd.o.1
  rwa [H.o.len] at this
 case round =>
  obtain⟨k,r,z,R,hk,rfl,hz,rfl,I,Z,hB⟩:=hrel;clear ah
  by_cases aA:0<k
  ·obtain⟨j,rfl⟩:∃j,k=j+1:=⟨k-1,by omega⟩;obtain rfl:z=(j:Int):=by have:=hz.o;omega
   have az:(j:Int)<n:=by omega
   have af:=H.o.addr (by omega);subst af;have ag:=(H.o.below hB.o).cell j (by omega);have hm:dg M j<1000000000:=H.o.dig j;obtain⟨m,F⟩:=qX (dg M j);rw [F] at ag hm;have hr:=I.o.rest;have E:R.length=n:=I.o.len.trans H.o.len;have ax:wr.cell? ⟨w.heap.size,j,none⟩=some (.int .u32 ((dg R j:Nat):Int)):=(Z.o.cellAt j (by omega)).trans (qdQ R j (by omega));have ay:wr.frozen? ⟨w.heap.size,j,none⟩=false:=Z.o.frozenAt j;have J:=Hd.o.2;obtain⟨t1,U⟩:=qX (r*1000000000:Nat);obtain⟨t2,V⟩:=qX (t1+m:Nat);obtain⟨q,hq⟩:=qX (t2 / d:Nat);obtain⟨s,hs⟩:=qX (t2 % d:Nat);have hstep:=I.o.step (by rw [H.o.len];omega) H.o.dig;have ai:q<1000000000:=by
    have:=hstep.dig j;rw [qc8 (by omega),show M.getD j 0=m from F,U,V,hq] at this;exact this
   rw [show M.getD j 0=m from F,U,V,hq,hs] at hstep;have au:s<d:=by rw [<-hs];exact qbS _ Hd.o.1
   have r1:(r:Int)*1000000000=t1:=by omega
   have r2:=u64_in t1 (by omega);have r3:=u64_in m (by omega);have r4:(t1:Int)+m=t2:=by omega
   have r5:=u64_in t2 (by omega);have r6:=tdivN t2 d q hq;have r7:=u64_in q (by omega);have r8:(q:Int) % 4294967296=q:=by omega
   have r9:=tmodN t2 d s hs;have aB:=u64_in s (by omega);have ae:=qH hstep;clear hstep ai au U V hq hs E hr hm J F;go_wp2;go_roundw
   case rel=>exact⟨j,s,_,R.set j q,by omega,rfl,qH (by omega),rfl,ae,qH (qd0 Z.o j q rfl),qH (hB.o.setCell qN _)⟩
   case measure=>simp [intOf]
  ·obtain rfl:k=0:=by omega
   obtain rfl:z = -1:=by have:=hz.o;omega
   have E:R.length=n:=I.o.len.trans H.o.len;have ht:=z_trim_mag.o (some ⟨w.heap.size,0,none⟩) w.heap.size 0 n n R wr E (by omega) qN (qcP Z.o E) I.o.dig;rw [I.o.done.1] at ht;have aj:r=rr:=by rw [<-aa.o];exact I.o.done.2
   have ak:=I.o.rest;have J:=Hd.o.2;subst aj;have r1:(r:Int) % 4294967296=r:=by omega
   have HT:=qH ht;clear ht E ak J;go_wp2_with fail;refine HT.o.mono ?_;rintro e w1 ⟨v,rfl,rfl,hv⟩;have Hv:=qH hv;clear hv;go_wp2_with fail
   go_ret2
   exact⟨v,rfl,hB.o,Hv.o⟩)
theorem qjA (pk:Pk) (x:Nat) (vm:Value) (w:World) (J:MagAt w vm x) (hx:Fit x 2) :
  Calls prog (Pk.of pk 224 249) #[vm] w fun e w'=>e=.returned (.int .u64 (x:Int))/\w'=w:=by
 obtain⟨am,bm,om,cm,n,M,rfl,V,F⟩:=J;have hn:n<=2:=(F▸hx:Fit (mval M) 2).len V;have I:x<1000000000000000000:=hx;have H:=qH V;have Hx:=qH F;have Hl:=qH I;clear V hx F I;cases pk <;> dsimp only [Pk.of] at * <;> (
 first | go_enter func224,ntmps224 | go_enter func249,ntmps249
 go_wp2
 go_loopw [3,4] (fun x3 x4 W=>∃(k v:Nat) (z:Int),k<=n/\x4=.int .i64 z/\Hu (z+1=k)/\x3=.int .u64 v/\W=w/\Hu (v=mval (M.drop k))) (fun _ x4 _=>(intOf x4+1).toNat)
 case atStart =>
  refine⟨n,0,_,qad _,rfl,qH (by omega),rfl,rfl,qH ?_⟩;rw [qaM (by rw [H.o.len];exact qad _)];rfl
 case round =>
  obtain⟨k,v,z,hk,rfl,hz,rfl,rfl,Y⟩:=hrel
  by_cases ai:0<k
  ·obtain⟨j,rfl⟩:∃j,k=j+1:=⟨k-1,by omega⟩;obtain rfl:z=(j:Int):=by have:=hz.o;omega
   have ah:(j:Int)<n:=by omega
   have Z:=H.o.addr (by omega);subst Z;have aa:=H.o.cell j (by omega);have J:dg M j<1000000000:=H.o.dig j;obtain⟨m,E⟩:=qX (dg M j);rw [E] at aa J;have hv:v<1000000000:=by
    rw [Y.o];have h1:=(H.o.dig.drop (j+1)).lt;rw [qaY,H.o.len] at h1;have h2:1000000000 ^ (n-(j+1))<=1000000000 ^ 1:=qaO (by decide) (by omega);rw [Nat.pow_one] at h2;exact qai h1 h2
   have ae:m+1000000000*v=mval (M.drop j):=by rw [qcS M j,show M.getD j 0=m from E,Y.o]
   obtain⟨O,af⟩:=qX (v*1000000000:Nat);obtain⟨t2,ag⟩:=qX (O+m:Nat);have r1:(v:Int)*1000000000=O:=by omega
   have r2:=u64_in O (by omega);have r3:=u64_in m (by omega);have r4:(O:Int)+m=t2:=by omega
   have r5:=u64_in t2 (by omega);have U:=qH (show t2=mval (M.drop j) by omega);clear hv ae af ag J E;go_wp2;go_roundw
   case rel=>exact⟨j,t2,_,by omega,rfl,qH (by omega),rfl,trivial,U⟩
   case measure=>simp [intOf]
  ·obtain rfl:k=0:=by omega
   obtain rfl:z = -1:=by have:=hz.o;omega
   have hv:v=x:=by rw [Y.o,<-Hx.o];rfl
   subst hv;go_wp2;go_ret;exact⟨rfl,rfl⟩)
theorem qeJ (pk:Pk) (x:Nat) (hx:x<18446744073709551616) (w:World) :
  Calls prog (Pk.of pk 225 219) #[.int .u64 (x:Int)] w fun e w'=>∃v,e=.returned v/\Below w.heap.size w w'/\MagAt w' v x:=by
 obtain⟨i0,hi,O,U,Y⟩:=info_parts qcX;have Hz:=qH (qA O (qA U Y));have Hi:=qH hi;have Hx:=qH hx;clear O U Y hi hx;cases pk <;> dsimp only [Pk.of] at * <;> (
 first | go_enter func225,ntmps225 | go_enter func219,ntmps219
 go_wp2
 go_loopw [0,3] (fun x0 x3 W=>∃(v k:Nat) (V:Value) (S:List Nat),x0=.int .u64 v/\x3=V/\k<=3/\Hu (Dig S)/\Hu (v=0->Nrm S)/\Hu (mval S+1000000000 ^ k*v=x)/\Hu (W.ownsRow w.heap.size 201 1 V k (row32 S))/\Hu (Below w.heap.size w W)) (fun x0 _ _=>(intOf x0).toNat)
 case atStart=>exact⟨x,0,_,[],rfl,rfl,by omega,qH Dig.nil,qH (fun _=>qaw rfl),qH (by simp [mval]),qH (World.ownsRow_nil _ _ _ _),qH qB⟩
 case round =>
  obtain⟨v,k,V,S,rfl,rfl,hk,hd,hn,hv,Z,hB⟩:=hrel
  by_cases h0:0<v
  ·have J:v<18446744073709551616:=qaU (qak (Nat.le_mul_of_pos_left v (qgY k)) (by have:=hv.o;omega)) Hx.o;have ag:k<3:=by
    rcases qaB k 3 with h | h
    ·exact h
    ·obtain rfl:k=3:=by omega
     have h1:=hv.o;have h2:=Hx.o;omega
   obtain⟨q,hq⟩:=qX (v / 1000000000:Nat);obtain⟨s,hs⟩:=qX (v % 1000000000:Nat);have ah:(0:Int)<v:=by omega
   have r1:=tmodB v s hs;have r2:=u64_in s (by omega);have r3:(s:Int) % 4294967296=s:=by omega
   have r4:=tdivB v q hq;have r5:=u64_in q (by omega);have r6:=u64_in v J;have af:Hu (mval (S++[s])+1000000000 ^ (k+1)*q=x):=qH (by
    have hl:S.length=k:=by have:=Z.o.1;rw [qcN] at this;omega
    rw [qc1,hl,qaF,qay,Nat.add_assoc,<-qa7,<-hv.o,show s+1000000000*q=v by omega])
   have ae:Hu (q=0->Nrm (S++[s])):=qH (fun h=>Nrm.snoc S (by omega));have aa:Hu (Dig (S++[s])):=qH (hd.o.snoc (by omega));have Hq:Hu (q<v):=qH (by omega);clear hq hs J
   go_wp2_with (first | (at_builtin;refine wpList_append_own _ rfl (.tmp 8) (.tmp 12) _ rfl w.heap.size 201 i0 (.int .u32 0) 1 4 (qej (by decide)) Hi.o Hz.o.1 Hz.o.2.1 Hz.o.2.2 rfl (by decide) _ _ _ rfl (Z.o.alloc _) ⟨wr.heap.size,0,none⟩ 1 1 [.int .u32 (s:Int)] rfl rfl (qdT _ _ _) (one_cell _ _) (by unfold maxLen;omega) (by omega) (by have:=hB.o.size;simp only [qab];omega) ?_;intro v' w1 F E _;have I:=qH F;have H:=qH E;clear F E) | fail)
   go_roundw
   case rel=>exact⟨q,k+1,_,S++[s],rfl,rfl,by omega,aa,ae,af,qH (by rw [qd3];exact I.o),qH (qc2 hB.o qN H.o (fun j h=>(Z.o.lt j h).1))⟩
   case measure=>have:=Hq.o;simp [intOf];omega
  ·obtain rfl:v=0:=by omega
   have ht:=qkO Z.o hd.o (hn.o rfl);rw [show mval S=x by have:=hv.o;omega] at ht;have Ht:=qH ht;clear ht;go_wp2;go_ret;exact⟨_,rfl,hB.o,Ht.o⟩)
theorem qcV (H:Pk) (x:Nat) (J:Value) (w:World) (O:MagAt w J x) :
  Calls prog (Pk.of H 121 149) #[J] w fun e w'=>e=.returned (.bool (decide (x=0)))/\w'=w:=by
 obtain⟨am,bm,V,cm,n,M,rfl,E,rfl⟩:=O;have h:mval M=0↔n=0:=by rw [<-E.len];exact E.nrm.zero
 have I:=qH h;clear E h
 by_cases F:n=0
 ·rw [qV (I.o.2 F)];subst F;cases H <;> dsimp only [Pk.of] at * <;> (
  first | go_enter func121,ntmps121 | go_enter func149,ntmps149
  go_wp2;go_ret;exact⟨rfl,rfl⟩)
 ·rw [qU (fun h=>F (I.o.1 h))];have U:((n:Int) == 0)=false:=by rw [beq_eq_false_iff_ne];omega
  cases H <;> dsimp only [Pk.of] at * <;> (
  first | go_enter func121,ntmps121 | go_enter func149,ntmps149
  go_wp2;go_ret;exact⟨rfl,rfl⟩)
theorem qdg (pk:Pk) (x y K:Nat) (hK:K<=274877906944) (vm vo:Value) (w:World) (hm:MagAt w vm x) (ho:MagAt w vo y) (hx:Fit x K) (hy:Fit y K) :
  Calls prog (Pk.of pk 163 214) #[vm,vo] w fun e w'=>e=.returned (.int .i64 (cmp3 x y))/\Below w.heap.size w w':=by
 obtain⟨am,bm,om,cm,n,M,rfl,Im,rfl⟩:=hm;obtain⟨ao,bo,oo,co,no,O,rfl,Io,rfl⟩:=ho;have hn:n<=274877906944:=qak (hx.len Im) hK;have aA:no<=274877906944:=qak (hy.len Io) hK;have U:=qH Im;have V:=qH Io;obtain⟨R,hR⟩:=qX (cmp3 (mval M) (mval O));rw [hR];have HR:=qH hR;clear Im Io hx hy hK hR
 by_cases hne:n=no
 ·subst hne;clear aA;cases pk <;> dsimp only [Pk.of] at * <;> (
  first | go_enter func163,ntmps163 | go_enter func214,ntmps214
  go_wp2
  go_loopw [5] (fun x5 W=>∃(k:Nat) (z:Int),k<=n/\x5=.int .i64 z/\Hu (z+1=k)/\Hu (M.drop k=O.drop k)/\Hu (Below w.heap.size w W)) (fun x5 _=>(intOf x5+1).toNat)
  case atStart =>
   exact⟨n,_,qad _,rfl,qH (by omega),qH (by rw [qaM (by rw [U.o.len];exact qad _),qaM (by rw [V.o.len];exact qad _)]),qH qB⟩
  case round =>
   obtain⟨k,z,hk,rfl,hz,hI,hB⟩:=hrel
   by_cases aF:0<k
   ·obtain⟨j,rfl⟩:∃j,k=j+1:=⟨k-1,by omega⟩;obtain rfl:z=(j:Int):=by have:=hz.o;omega
    have aD:(j:Int)<n:=by omega
    have ay:=U.o.addr (by omega);have ax:=V.o.addr (by omega);subst ay;subst ax;have ae:=(U.o.below hB.o).cell j (by omega);have af:=(V.o.below hB.o).cell j (by omega);have Z:=U.o.len;have aa:=V.o.len;obtain⟨d,I⟩:=qX (dg M j);obtain⟨e,J⟩:=qX (dg O j);rw [I] at ae;rw [J] at af;have e1:M[j]'(by omega)=d:=by rw [<-I];unfold dg;rw [qaa,qac (by omega)];rfl
    have e2:O[j]'(by omega)=e:=by rw [<-J];unfold dg;rw [qaa,qac (by omega)];rfl
    have H:=qH (qA Z (qA aa (qA I J)));have au:=qH (fun h:d<e=>qeU M O j U.o.dig.mem (by omega) (by omega) (by rw [e1,e2];exact h) hI.o);have ak:=qH (fun h:e<d=>qeU O M j V.o.dig.mem (by omega) (by omega) (by rw [e1,e2];exact h) hI.o.symm);have aj:=qH (fun h:d=e=>(show M.drop j=O.drop j by rw [qbg (show j<M.length by omega),qbg (show j<O.length by omega),e1,e2,h,hI.o]));clear e1 e2 Z aa I J
    by_cases az:d=e
    ·subst az;go_wp2_with fail
     go_quiet (fail)
     go_wp2;go_roundw
     case rel=>exact⟨j,_,by omega,rfl,qH (by omega),qH (aj.o trivial),qH (below_drewN hB.o _)⟩
     case measure=>simp [intOf]
    ·have hb:((d:Int) == (e:Int))=false:=by rw [beq_eq_false_iff_ne];omega
     have ah:¬(d:Int)=(e:Int):=by omega
     have E:cmp3 (d:Int) (e:Int)=R:=by
      rw [<-HR.o];rcases qaB d e with h | h
      ·have:=au.o h;unfold cmp3;rw [if_pos (by omega),if_pos (by omega)]
      ·have:=ak.o (by omega);unfold cmp3;rw [if_neg (by omega),if_neg (by omega),if_neg (by omega),if_neg (by omega)]
     have Y:=fun W=>cmp_u32 (d:Int) (e:Int) W
     rw [E] at Y;have HC:=qH Y;clear Y E;go_wp2_with fail
     go_quiet (fail)
     go_wp2_with fail;obtain⟨W1,F⟩:=qX (wr.drewN nq);have aB:W1.cell? ⟨bm,om+j,none⟩=some (.int .u32 (d:Int)):=by rw [<-F];exact ae
     have aC:W1.cell? ⟨bo,oo+j,none⟩=some (.int .u32 (e:Int)):=by rw [<-F];exact af
     have ai:Hu (Below w.heap.size w W1):=qH (F▸below_drewN hB.o _);rw [F];clear F
     go_quiet ((go_at_call 227;exact qmz ((HC.o _).mono fun _ _ h=>⟨h.1,h.2.symm⟩)))
     go_wp2;go_ret;exact⟨rfl,below_drewN ai.o _⟩
   ·obtain rfl:k=0:=by omega
    obtain rfl:z = -1:=by have:=hz.o;omega
    have ag:M=O:=hI.o;have av:R=0:=by rw [<-HR.o,ag];unfold cmp3;rw [if_neg (by omega),if_pos rfl]
    subst av;clear ag;go_wp2;go_ret;exact⟨rfl,hB.o⟩)
 ·have hb:((n:Int) == (no:Int))=false:=by rw [beq_eq_false_iff_ne];omega
  have ah:¬(n:Int)=(no:Int):=by omega
  have E:cmp3 (n:Int) (no:Int)=R:=by
   rw [<-HR.o];have nz:∀L:List Nat,Nrm L->L.getLast?≠some 0:=fun L h=>by
    rcases h with h | h
    ·rw [qbk.1 h];simp
    ·intro hl;apply h;rw [List.getLast?_eq_getElem?] at hl;rw [qaa,hl];rfl
   have Z:=U.o.len;have aa:=V.o.len;rcases qaB n no with h | h
   ·have:=qhv M O U.o.dig.mem (by omega) (nz O V.o.nrm);unfold cmp3;rw [if_pos (by omega),if_pos (by omega)]
   ·have:=qhv O M V.o.dig.mem (by omega) (nz M U.o.nrm);unfold cmp3;rw [if_neg (by omega),if_neg (by omega),if_neg (by omega),if_neg (by omega)]
  have Y:=fun W=>cmp_int (n:Int) (no:Int) W
  rw [E] at Y;have HC:=qH Y;clear Y E;cases pk <;> dsimp only [Pk.of] at * <;> (
  first | go_enter func163,ntmps163 | go_enter func214,ntmps214
  go_wp2_with fail;refine (HC.o _).mono ?_;rintro e w1 ⟨rfl,rfl⟩;go_wp2;go_ret;exact⟨rfl,Below.refl _ _⟩)
theorem qiJ (pk:Pk) (A u C V:List Nat) (n p s cu cs B g:Nat) (av:Option Addr) (bv ov cv:Nat) (w:World) (hp:A.length=p) (hE:Est u V n) (aj:w.ownsRow B 201 1 (.slice (some ⟨g,0,none⟩) s cs) s (row32 (A++u++C))) (hV:IsM w av bv ov cv n V) (hne:bv≠g) (dx:n+1<=cu) (hs:s<=549755813888) :
  Calls prog (Pk.of pk 244 220) #[.slice (some ⟨g,p,none⟩) (n+1) cu,.slice av n cv] w fun e w'=>∃(R:List Nat) (q:Nat),e=.returned (.int .u32 (q:Int))/\Reduced u V R q/\w.grownBy w' (some g)/\w'.ownsRow B 201 1 (.slice (some ⟨g,0,none⟩) s cs) s (row32 (A++R++C)):=by
 have aS:=hE.lu;have bS:p+(n+1)<=s:=by
  have:=aj.1;rw [qcN,qaf,qaf,hp,aS] at this;omega
 have dC:=hE.two;have dD:n<=549755813888:=by omega
 obtain rfl:=hV.addr (by omega);have HP:=qH hp;have Z:=qH hE;have HO:=qH aj;have HV:=qH hV;have bX:=qH hne;have HU:Hu (∀(W:World) (R:List Nat) (i:Nat),W.ownsRow B 201 1 (.slice (some ⟨g,0,none⟩) s cs) s (row32 (A++R++C))->i<R.length->R.length=n+1->W.cell? ⟨g,p+i,none⟩=some (.int .u32 ((dg R i:Nat):Int))):=qH fun W R i h hi hl=>by
  rw [<-HP.o];rw [h.cellAt (A.length+i) (by rw [HP.o];omega),qdQ _ _ (by rw [qaf,qaf];omega),dg_mid A R C i hi]
 have HS:Hu (∀(W:World) (R:List Nat) (i d:Nat),W.ownsRow B 201 1 (.slice (some ⟨g,0,none⟩) s cs) s (row32 (A++R++C))->i<R.length->(W.setCell ⟨g,p+i,none⟩ (.int .u32 (d:Int))).ownsRow B 201 1 (.slice (some ⟨g,0,none⟩) s cs) s (row32 (A++(R.set i d)++C))/\W.grownBy (W.setCell ⟨g,p+i,none⟩ (.int .u32 (d:Int))) (some g)):=qH fun W R i d h hi=>by
  rw [<-HP.o];refine⟨?_,qhO h _ _⟩;have h1:=qd0 h (A.length+i) d rfl
  rwa [set_mid A R C i d hi] at h1
 have aQ:Hu (∀(W:World) (i:Nat),w.grownBy W (some g)->i<n->W.cell? ⟨bv,ov+i,none⟩=some (.int .u32 ((dg V i:Nat):Int))):=qH fun W i h hi=>h.cell (HV.o.cell i hi) (fun e=>bX.o (qag e))
 have df:((n-1:Nat):Int)=(n:Int)-1:=by omega
 have dh:((n-2:Nat):Int)=(n:Int)-2:=by omega
 have bu:=aQ.o w (n-1) (qcw _ _) (by omega);have bn:=HU.o w u n aj (by omega) aS;have bq:=HU.o w u (n-1) aj (by omega) aS;obtain⟨tp,aF⟩:=qX (dg V (n-1));obtain⟨u0,aG⟩:=qX (dg u n);obtain⟨u1,aO⟩:=qX (dg u (n-1));obtain⟨u2,bG⟩:=qX (dg u (n-2));obtain⟨v2,bH⟩:=qX (dg V (n-2));have b0:tp<1000000000:=aF▸hE.dv (n-1);have b1:u0<1000000000:=aG▸hE.du n;have b2:u1<1000000000:=aO▸hE.du (n-1);have b3:u2<1000000000:=bG▸hE.du (n-2);have b4:v2<1000000000:=bH▸hE.dv (n-2);have I:0<tp:=by have:=hE.top_pos;rw [<-aF];exact this
 rw [aF] at bu;rw [aG] at bn;rw [aO] at bq;obtain⟨a1,bK⟩:=qX (u0*1000000000:Nat);obtain⟨hd,bO⟩:=qX (a1+u1:Nat);have ay:Est.head u n=hd:=by have e1:u.getD n 0=u0:=aG;have e2:u.getD (n-1) 0=u1:=aO;unfold Est.head;rw [e1,e2,bK,bO]
 have aB:Est.top V n=tp:=aF;have O:=hE.first
 rw [ay,aB] at O;obtain⟨q0,aT⟩:=qX (hd / tp:Nat);obtain⟨r0,aW⟩:=qX (hd % tp:Nat);have bg:r0<tp:=by rw [<-aW];exact qbS _ I
 have bQ:q0*tp+r0=hd:=by rw [<-aT,<-aW,qav];exact Nat.div_add_mod _ _
 rw [aT] at O;have i1:=u64_in u0 (by omega);have i2:(u0:Int)*1000000000=a1:=by omega
 have i3:=u64_in a1 (by omega);have i4:=u64_in u1 (by omega);have i5:(a1:Int)+u1=hd:=by omega
 have i6:=u64_in hd (by omega);have i7:=u64_in tp (by omega);have i8:=tdivN hd tp q0 aT;have i9:=tmodN hd tp r0 aW;have bZ:=u64_in q0 (by omega);have cz:=u64_in r0 (by omega);have cB:((tp:Int) == 0)=false:=by rw [beq_eq_false_iff_ne];omega
 have cK:¬tp=0:=by omega
 have HQ:=qH (qA O (qA bQ (qA ay aB)));have bz:=qH (qA b0 (qA b1 (qA b2 (qA b3 (qA b4 I)))));have HN:=qH (qA aF (qA aG (qA aO (qA bG bH))));have bJ:=qH bg;have Hs:=qH (qA hs bS);clear O bQ ay aB b0 b1 b2 b3 b4 I aF aG aO bG bH bK bO aT aW bg hE aj hV hne aS hp bS;cases pk <;> dsimp only [Pk.of] at * <;> (
 first | go_enter func244,ntmps244 | go_enter func220,ntmps220
 go_wp2_with fail
 go_quiet (fail)
 go_wp2_with fail
 go_quiet (fail)
 clear bn bq bu i1 i2 i3 i4 i5 i6 i8 i9 bZ cz cB cK;rename_i hK;refine hK _ _ ?_
 go_step
 go_cut [8,9] (fun x8 x9 W=>∃q r:Nat,x8=.int .u64 q/\x9=.int .u64 r/\Hu (q<1000000000/\mval u / mval V<=q/\q<=mval u / mval V+1)/\Hu (w.grownBy W (some g))/\Hu (W.ownsRow B 201 1 (.slice (some ⟨g,0,none⟩) s cs) s (row32 (A++u++C))))
 case first =>
  go_wp2_with fail
  go_loopw [8,9] (fun x8 x9 W=>∃q r:Nat,x8=.int .u64 q/\x9=.int .u64 r/\r<1000000000/\q<=1000000002/\Hu (mval u / mval V<=q/\q*tp+r=hd)/\Hu (w.grownBy W (some g))/\Hu (W.ownsRow B 201 1 (.slice (some ⟨g,0,none⟩) s cs) s (row32 (A++u++C)))) (fun x8 _ _=>(intOf x8).toNat)
  case atStart=>exact⟨q0,r0,rfl,rfl,by have:=bJ.o;have:=bz.o.1;omega,HQ.o.1.2,qH ⟨HQ.o.1.1,HQ.o.2.1⟩,qH (qdG (qdG (qcw _ _) _) _),HO⟩
  case round =>
   obtain⟨q,r,rfl,rfl,hr,hq,hI,Y,J⟩:=hrel;have bT:=HU.o wr u (n-2) J.o (by rw [Z.o.lu];omega) Z.o.lu;have bU:=aQ.o wr (n-2) Y.o (by omega);rw [HN.o.2.2.2.1] at bT;rw [HN.o.2.2.2.2] at bU;obtain⟨b0,b1,b2,b3,b4,I⟩:=bz.o;obtain⟨m1,aa⟩:=qX (q*v2:Nat);obtain⟨m2,az⟩:=qX (r*1000000000:Nat);obtain⟨m3,aA⟩:=qX (m2+u2:Nat);have ai:m1<=1000000002*999999999:=by rw [<-aa];exact Nat.mul_le_mul hq (by omega)
   have j1:=u64_in q (by omega);have j2:=u64_in v2 (by omega);have j3:(q:Int)*(v2:Int)=m1:=by rw [<-aa,Int.natCast_mul]
   have j4:=u64_in m1 (by omega);have j5:=u64_in r (by omega);have j6:(r:Int)*1000000000=m2:=by omega
   have j7:=u64_in m2 (by omega);have j8:=u64_in u2 (by omega);have j9:(m2:Int)+u2=m3:=by omega
   have dE:=u64_in m3 (by omega);have dF:=u64_in tp (by omega)
   by_cases ht:1000000000<=q\/m3<m1
   ·have aJ:=Z.o.down (q:=q) (r:=r) (by rw [HQ.o.2.2.1,HQ.o.2.2.2];exact hI.o.2) hI.o.1 (by rw [show u.getD (n-2) 0=u2 from HN.o.2.2.2.1,show V.getD (n-2) 0=v2 from HN.o.2.2.2.2,aa,az,aA];exact ht);rw [HQ.o.2.2.1,HQ.o.2.2.2] at aJ;obtain⟨ak,H,F⟩:=aJ;obtain⟨q1,bf⟩:=qX (q-1);obtain⟨r1,bi⟩:=qX (r+tp);rw [bf] at H F;rw [bi] at F;have aY:q1+1=q:=by omega
    have dG:(q:Int)-1=q1:=by omega
    have dH:=u64_in q1 (by omega);have dI:(r:Int)+tp=r1:=by omega
    have dJ:=u64_in r1 (by omega);clear bf bi
    by_cases aL:(1000000000:Int)<=q
    ·have bN:decide ((1000000000:Int)<=q)=true:=qV aL
     by_cases au:(1000000000:Int)<=r1
     ·have hb:=Z.o.broke (q:=q1) (r:=r1) (by rw [HQ.o.2.2.1,HQ.o.2.2.2];exact F) (by omega);have ag:=qH (qA hb.1 (qA H hb.2));clear hb H F ht aa az aA ai b0 b1 b2 b3 b4 I ak hr hq;go_wp2_with fail
      go_quiet (fail)
      go_wp2;go_meet
      case rel=>exact⟨q1,r1,rfl,rfl,ag,qH (qdG Y.o _),J⟩
     ·have bA:=qH (qA H F);have aH:=qH (qA hq (qA ak (qA aY au)));have bL:decide ((1000000000:Int)<=r1)=false:=qU au;clear au H F ht aa az aA ai b0 b1 b2 b3 b4 I ak hr hq;go_wp2_with fail
      go_quiet (fail)
      go_wp2;go_roundw
      case rel =>
       obtain⟨h1,h2,h3,h4⟩:=aH.o;exact⟨q1,r1,rfl,rfl,by omega,by omega,bA,qH (qdG Y.o _),J⟩
      case measure =>
       obtain⟨h1,h2,h3,h4⟩:=aH.o;simp only [intOf];omega
    ·have bN:decide ((1000000000:Int)<=q)=false:=qU aL;have aK:(m3:Int)<m1:=by omega
     by_cases au:(1000000000:Int)<=r1
     ·have hb:=Z.o.broke (q:=q1) (r:=r1) (by rw [HQ.o.2.2.1,HQ.o.2.2.2];exact F) (by omega);have ag:=qH (qA hb.1 (qA H hb.2));clear hb H F ht aa az aA ai b0 b1 b2 b3 b4 I ak hr hq;go_wp2_with fail
      go_quiet (fail)
      go_wp2;go_meet
      case rel=>exact⟨q1,r1,rfl,rfl,ag,qH (qdG Y.o _),J⟩
     ·have bA:=qH (qA H F);have aH:=qH (qA hq (qA ak (qA aY au)));have bL:decide ((1000000000:Int)<=r1)=false:=qU au;clear au H F ht aa az aA ai b0 b1 b2 b3 b4 I ak hr hq;go_wp2_with fail
      go_quiet (fail)
      go_wp2;go_roundw
      case rel =>
       obtain⟨h1,h2,h3,h4⟩:=aH.o;exact⟨q1,r1,rfl,rfl,by omega,by omega,bA,qH (qdG Y.o _),J⟩
      case measure =>
       obtain⟨h1,h2,h3,h4⟩:=aH.o;simp only [intOf];omega
   ·have aL:¬(1000000000:Int)<=q:=by omega
    have aK:¬(m3:Int)<m1:=by omega
    have aJ:=Z.o.done (q:=q) (r:=r) (by rw [HQ.o.2.2.1,HQ.o.2.2.2];exact hI.o.2) (by omega) (by rw [show u.getD (n-2) 0=u2 from HN.o.2.2.2.1,show V.getD (n-2) 0=v2 from HN.o.2.2.2.2,aa,az,aA];omega);have bN:decide ((1000000000:Int)<=q)=false:=qU aL;have dz:decide (m3<m1)=false:=qU (by omega);have ag:Hu (q<1000000000/\mval u / mval V<=q/\q<=mval u / mval V+1):=qH ⟨by omega,hI.o.1,aJ⟩;clear aJ ht aa az aA ai b0 b1 b2 b3 b4 I hr hq aL aK;go_wp2_with fail
    go_quiet (fail)
    go_wp2;go_meet
    case rel=>exact⟨q,r,rfl,rfl,ag,qH (qdG Y.o _),J⟩
 case rest =>
  clear HQ bJ i7;obtain⟨q,r,rfl,rfl,aU,Y,J⟩:=hcut;go_wp2_with fail
  go_loopw [10,11,77] (fun x10 x11 x77 W=>∃(k c b:Nat) (R:List Nat),k<=n/\x77=.int .i64 k/\x10=.int .u64 c/\x11=.int .i64 b/\Hu (SubInv u V q k R b c)/\Hu (w.grownBy W (some g))/\Hu (W.ownsRow B 201 1 (.slice (some ⟨g,0,none⟩) s cs) s (row32 (A++R++C)))) (fun _ _ x77 _=>n-(intOf x77).toNat)
  case atStart=>exact⟨0,0,0,u,qaj _,rfl,rfl,rfl,qH (SubInv.start Z.o.du),Y,J⟩
  case round =>
   clear Y J;obtain⟨k,c,b,R,hk,rfl,rfl,rfl,hI,Y,J⟩:=hrel;have ah:R.length=n+1:=hI.o.len.trans Z.o.lu
   by_cases bD:k<n
   ·have dB:(k:Int)<n:=by omega
    have dm:(k:Int)<(n:Int)+1:=by omega
    have bI:=aQ.o wr k Y.o bD;have ae:=HU.o wr R k J.o (by omega) ah;have aR:wr.frozen? ⟨g,p+k,none⟩=false:=J.o.frozenAt (p+k);have af:dg R k=dg u k:=hI.o.rest k qN;rw [af] at ae;have hx:dg u k<1000000000:=Z.o.du k;have hd:dg V k<1000000000:=Z.o.dv k;obtain⟨x,aC⟩:=qX (dg u k);obtain⟨d,ax⟩:=qX (dg V k);rw [aC] at ae hx;rw [ax] at bI hd;have hb:=hI.o.borrow;have hc:=hI.o.carry;have aM:=aU.o.1;have aN:=qo4 hc aM hd;obtain⟨qd,aV⟩:=qX (q*d:Nat);rw [aV] at aN;obtain⟨t1,bF⟩:=qX (c+qd:Nat);rw [bF] at aN;obtain⟨c1,bM⟩:=qX (t1 / 1000000000:Nat);obtain⟨m,hm⟩:=qX (t1 % 1000000000:Nat);have bY:m<1000000000:=by omega
    have aX:c1<1000000000:=by omega
    have e2:c+q*d=1000000000*c1+m:=by rw [aV,bF];omega
    have k1:=u64_in q (by omega);have k2:=u64_in d (by omega);have k3:(q:Int)*(d:Int)=qd:=by rw [<-aV,Int.natCast_mul]
    have k4:=u64_in qd (by omega);have k5:(c:Int)+qd=t1:=by omega
    have k6:=u64_in t1 (by omega);have k7:=tmodB t1 m hm;have k8:=u64_in m (by omega);have k9:=tdivB t1 c1 bM;have dK:=u64_in c1 (by omega);have dL:=u64_in c (by omega);have H2:=qH (qA hx (qA hb (qA bY (qA aX (qA e2 (qA aC (qA ax ah)))))));clear aV bF bM hm e2 aC ax af hc aM aN aX hd
    by_cases aK:(x:Int)-b-m<0
    ·obtain⟨s1,bE⟩:=qX (x+1000000000-b-m:Nat);have cO:(x:Int)-b-m+1000000000=s1:=by omega
     have cZ:(s1:Int) % 4294967296=s1:=by omega
     have aI:Hu (s1<1000000000/\s1+b+m=x+1000000000*1):=qH (by omega);clear bE ah;go_wp2;go_roundw
     case rel =>
      obtain⟨h1,h2,h3,h4,h5,h6,h7,h8⟩:=H2.o;have E:=HS.o wr R k s1 J.o (by omega);exact⟨k+1,c1,1,R.set k s1,bD,by go_num,rfl,rfl,qH (hI.o.step (by have:=Z.o.lu;omega) aI.o.1 qN h4 (by rw [show V.getD k 0=d from h7];exact h5) (by rw [show u.getD k 0=x from h6];exact aI.o.2)),qH (qb5 Y.o E.2),qH E.1⟩
     case measure=>simp [intOf];omega
    ·obtain⟨s1,bE⟩:=qX (x-b-m:Nat);have cO:(x:Int)-b-m=s1:=by omega
     have cZ:(s1:Int) % 4294967296=s1:=by omega
     have aI:Hu (s1<1000000000/\s1+b+m=x+1000000000*0):=qH (by omega);clear bE ah aK;go_wp2;go_roundw
     case rel =>
      obtain⟨h1,h2,h3,h4,h5,h6,h7,h8⟩:=H2.o;have E:=HS.o wr R k s1 J.o (by omega);exact⟨k+1,c1,0,R.set k s1,bD,by go_num,rfl,rfl,qH (hI.o.step (by have:=Z.o.lu;omega) aI.o.1 (by omega) h4 (by rw [show V.getD k 0=d from h7];exact h5) (by rw [show u.getD k 0=x from h6];exact aI.o.2)),qH (qb5 Y.o E.2),qH E.1⟩
     case measure=>simp [intOf];omega
   ·obtain rfl:k=n:=by omega
    have ae:=HU.o wr R k J.o (by omega) ah;have aR:wr.frozen? ⟨g,p+k,none⟩=false:=J.o.frozenAt (p+k);have af:dg R k=dg u k:=hI.o.rest k qN;rw [af,HN.o.2.1] at ae;have hb:=hI.o.borrow;have hc:=hI.o.carry;have aG:=bz.o.2.1;have aM:=aU.o.1;have dn:(k:Int)<(k:Int)+1:=by omega
    have k1:=u64_in c (by omega);have aP:=qH ah
    by_cases aK:(u0:Int)-b<c
    ·have ak:1<=q:=by
      rcases qaN q with h0 | h0
      ·exfalso;have hv:=hI.o.val;rw [h0,Nat.zero_mul,qbt] at hv;have h1:=(hI.o.dig.take k).lt;rw [qao,qaS (by omega)] at h1;have:1000000000 ^ k*1<=1000000000 ^ k*(b+c):=qaK _ (by omega);omega
      ·exact h0
     have aZ:u0<b+c:=by omega
     obtain⟨q1,bP⟩:=qX (q-1);have k2:(q:Int)-1=q1:=by omega
     have k3:=u64_in q1 (by omega);have k4:(q1:Int) % 4294967296=q1:=by omega
     have H3:=qH (qA bP aZ);clear bP af aM ak ah aZ;go_wp2_with fail
     go_loopw [15,125] (fun x15 x125 W=>∃(j o:Nat) (S:List Nat),j<=k/\x125=.int .i64 j/\x15=.int .u32 o/\Hu (BackInv R V j S o)/\Hu (w.grownBy W (some g))/\Hu (W.ownsRow B 201 1 (.slice (some ⟨g,0,none⟩) s cs) s (row32 (A++S++C)))) (fun _ x125 _=>k-(intOf x125).toNat)
     case atStart=>exact⟨0,0,R,qaj _,rfl,rfl,qH (BackInv.start hI.o.dig),Y,J⟩
     case round =>
      have dw:=Y;clear Y ae aR;obtain⟨j,o,S,hj,rfl,rfl,hJ,Y,J⟩:=hrel;have aD:S.length=k+1:=hJ.o.len.trans aP.o
      by_cases bC:j<k
      ·have dA:(j:Int)<k:=by omega
       have di:(j:Int)<(k:Int)+1:=by omega
       have bI:=aQ.o wr j Y.o bC;have ae:=HU.o wr S j J.o (by omega) aD;have aR:wr.frozen? ⟨g,p+j,none⟩=false:=J.o.frozenAt (p+j);have af:dg S j=dg R j:=hJ.o.rest j qN;rw [af] at ae;have hx:dg R j<1000000000:=hI.o.dig j;have hd:dg V j<1000000000:=Z.o.dv j;obtain⟨x,aC⟩:=qX (dg R j);obtain⟨d,ax⟩:=qX (dg V j);rw [aC] at ae hx;rw [ax] at bI hd;have ho:=hJ.o.carry;have H4:=qH (qA aC (qA ax aD));clear af aC ax aD
       by_cases bB:(1000000000:Int)<=(x:Int)+d+o
       ·go_wp2;go_roundw
        case rel =>
         obtain⟨h1,h2,h3⟩:=H4.o;have E:=HS.o wr S j (x+d+o-1000000000) J.o (by omega);have U:(x:Int)+d+o-1000000000=((x+d+o-1000000000:Nat):Int):=by omega
         refine⟨j+1,1,S.set j (x+d+o-1000000000),bC,by go_num,rfl,qH (hJ.o.step (by have:=aP.o;omega) (by omega) qN (by have e1:R.getD j 0=x:=h1;have e2:V.getD j 0=d:=h2;omega)),qH ?_,qH ?_⟩
         ·rw [U];exact qb5 Y.o E.2
         ·rw [U];exact E.1
        case measure=>simp [intOf];omega
       ·go_wp2;go_roundw
        case rel =>
         obtain⟨h1,h2,h3⟩:=H4.o;have E:=HS.o wr S j (x+d+o) J.o (by omega);have U:(x:Int)+d+o=((x+d+o:Nat):Int):=by omega
         refine⟨j+1,0,S.set j (x+d+o),bC,by go_num,rfl,qH (hJ.o.step (by have:=aP.o;omega) (by omega) (by omega) (by have e1:R.getD j 0=x:=h1;have e2:V.getD j 0=d:=h2;omega)),qH ?_,qH ?_⟩
         ·rw [U];exact qb5 Y.o E.2
         ·rw [U];exact E.1
        case measure=>simp [intOf];omega
      ·obtain rfl:j=k:=by omega
       have ae:=HU.o wr S j J.o (by omega) aD;have aR:wr.frozen? ⟨g,p+j,none⟩=false:=J.o.frozenAt (p+j);have bV:=qH aD;clear aD;go_wp2;go_ret;have E:=HS.o wr S j 0 J.o (by have:=bV.o;omega);refine⟨S.set j 0,q1,rfl,?_,qb5 Y.o E.2,(by first | exact E.1 | (rw [<-qaG];exact E.1))⟩;have bR:=qjT hI.o hJ.o Z.o.lu Z.o.lv Z.o.dv Z.o.v_pos aU.o.2.2 (by rw [show u.getD j 0=u0 from HN.o.2.1];exact H3.o.2)
       rwa [H3.o.1] at bR
    ·have k4:(q:Int) % 4294967296=q:=by omega
     have bB:¬u.getD k 0<b+c:=by rw [show u.getD k 0=u0 from HN.o.2.1];omega
     have bW:=qH bB;clear bB af aM ah;go_wp2;go_ret;have E:=HS.o wr R k 0 J.o (by have:=aP.o;omega);exact⟨R.set k 0,q,rfl,qiT hI.o Z.o.lu Z.o.lv Z.o.dv Z.o.v_pos aU.o.2.1 bW.o,qb5 Y.o E.2,(by first | exact E.1 | (rw [<-qaG];exact E.1))⟩)
theorem qhY (pk:Pk) (K:Nat) (hK:K<=137438953472) (am:Option Addr) (bm om cm lm:Nat) (M:List Nat) (ao:Option Addr) (bo oo co n:Nat) (O:List Nat) (w:World) (Im:IsM w am bm om cm lm M) (Io:IsM w ao bo oo co n O)
  (hx:Fit (mval M) K) (hy:Fit (mval O) K) (dL:2<=n) (bi:mval O<=mval M) :
  Calls prog (Pk.of pk 195 159) #[.slice am lm cm,.slice ao n co] w fun e w'=>∃q r,e=.returned (.tuple #[q,r])/\Below w.heap.size w w'/\MagAt w' q (mval M / mval O)/\MagAt w' r (mval M % mval O):=by
 have dK:lm<=137438953472:=qak (hx.len Im) hK;have dm:n<=lm:=by rw [<-Io.len];exact Io.nrm.len (qaU bi (by have:=Im.dig.lt;rwa [Im.len] at this))
 have az:=fun W hm ho=>(qdg pk) (mval M) (mval O) K (by omega) (.slice am lm cm) (.slice ao n co) W hm ho hx hy
 obtain⟨cr,aG⟩:=qX (cmp3 (mval M) (mval O));have dC:¬cr<0:=by rw [<-aG];unfold cmp3;split <;> (try split) <;> omega
 rw [aG] at az;have aP:=az w ⟨am,bm,om,cm,lm,M,rfl,Im,rfl⟩ ⟨ao,bo,oo,co,n,O,rfl,Io,rfl⟩;have HC:=qH aP;have df:=Io.addr (by omega);subst df;have ht:=Io.nrm.resolve_left (by have:=Io.len;omega);rw [Io.len] at ht;obtain⟨t,bz⟩:=qX (dg O (n-1));have bX:O.getD (n-1) 0=t:=bz;have bW:0<t:=by omega
 have ag:t<1000000000:=by rw [<-bz];exact Io.dig (n-1)
 obtain⟨s,hs⟩:=qX (1000000000 / (t+1));obtain⟨bT,bU,dx,dz⟩:=qiq bW ag hs;obtain⟨t1,aB⟩:=qX (t+1);rw [aB] at hs;have i1:(t:Int)+1=t1:=by omega
 have i2:(t1:Int) % 4294967296=t1:=by omega
 have i3:(1000000000:Int).tdiv t1=s:=tdivN 1000000000 t1 s hs;have i4:(s:Int) % 4294967296=s:=by omega
 have i5:((t1:Int) == 0)=false:=by rw [beq_eq_false_iff_ne];omega
 have i6:¬t1=0:=by omega
 have i7:((n-1:Nat):Int)=(n:Int)-1:=by omega
 have i8:((n:Int) == 1)=false:=by rw [beq_eq_false_iff_ne];omega
 obtain⟨l1,bR⟩:=qX (lm+1);obtain⟨l0,bQ⟩:=qX (lm-n);obtain⟨l2,bS⟩:=qX (l0+1);have i9:(lm:Int)+1=l1:=by omega
 have dN:(lm:Int)-n=l0:=by omega
 have dO:(l0:Int)+1=l2:=by omega
 have aA:=qA (run_make_row' (P:=prog) 123 201 (.int .u32 0) 4 underlying123 qcX rfl .i64 .i64 l1 (by omega) (by omega)) (run_make_row' (P:=prog) 213 201 (.int .u32 0) 4 underlying213 qcX rfl .i64 .i64 l1 (by omega) (by omega));have aQ:=qA (run_make_row' (P:=prog) 123 201 (.int .u32 0) 4 underlying123 qcX rfl .i64 .i64 l2 (by omega) (by omega)) (run_make_row' (P:=prog) 213 201 (.int .u32 0) 4 underlying213 qcX rfl .i64 .i64 l2 (by omega) (by omega));have Hl:=qH (qA bR (qA bQ (qA bS bi)));have HK:=qH hK;have dE:l1<=137438953473:=by omega
 have dF:l2<=137438953473:=by omega
 have HM:=qH Im;have HO:=qH Io;have Hx:=qH hx;have Hy:=qH hy;have Z:=qH (qA bT (qA bU (qA bX (qA aB hs))));have cZ:=qH aA;have bD:=qH aQ;clear az aG aP ht bz bX bW ag hs bT bU dx dz aB Im Io hx hy bi hK aA aQ bR bQ bS;have z_trim_mag:=qH (@qea pk);have z_times_any:=qH (@qcz pk);have z_short_any:=qH (@qgG pk);have z_reduce_any:=qH (@qiJ pk);cases pk <;> dsimp only [Pk.of] at * <;> (
 first | go_enter func195,ntmps195 | go_enter func159,ntmps159
 go_wp2_with fail;refine HC.o.mono ?_;rintro e w1 ⟨rfl,aW⟩;have dw:=(HO.o.below aW).cell (n-1) (by omega);rw [show dg O (n-1)=t from Z.o.2.2.1] at dw;have aS:=qH aW;clear aW;go_wp2_with fail;have aC:=z_times_any.o (mval O) s K 1 (by have:=HK.o;omega) (.slice (some ⟨bo,oo,none⟩) n co) (.slice (some ⟨w1.heap.size,0,none⟩) 1 1) (w1.alloc (.cells #[.int .u32 (s:Int)] 201)) ⟨_,bo,oo,co,n,O,rfl,(HO.o.below aS.o).below (qB.alloc qN _),rfl⟩ (qgp w1 _ Z.o.1 (by have:=Z.o.2.1;omega)) Hy.o (by unfold Fit;have:=Z.o.2.1;omega);refine aC.mono ?_;clear aC;rintro e F ⟨v,rfl,bL,hv⟩;obtain⟨av,bv,ov,cv,Y,V,rfl,Iv,aV⟩:=hv;have bq:=qh0 HO.o.dig HO.o.len (by omega) HO.o.nrm (by rw [Z.o.2.2.1,Z.o.2.2.2.1];exact Z.o.2.2.2.2) Iv.dig Iv.nrm aV;have dn:Y=n:=by rw [<-Iv.len];exact bq.1
 subst dn;have bO:Below w.heap.size w F:=aS.o.trans ((qB.alloc qN _:Below w1.heap.size w1 (w1.alloc (.cells #[.int .u32 (s:Int)] 201))).trans (bL.mono (by simp only [qab];omega)) |>.mono aS.o.size);have dh:=Iv.addr (by omega);subst dh;have HV:=qH (qA Iv (qA aV bq.2));have ah:=qH bO;clear Iv aV bq bL bO;have aA:=cZ.o;go_wp2_with fail;clear aA;have aC:=z_times_any.o (mval M) s K 1 (by have:=HK.o;omega) (.slice am lm cm) (.slice (some ⟨F.heap.size+1,0,none⟩) 1 1) ((F.alloc (.cells (madeCells #[.int .u32 0] l1) 201)).alloc (.cells #[.int .u32 (s:Int)] 201)) ⟨_,bm,om,cm,lm,M,rfl,((HM.o.below ah.o).below (qB.alloc qN _)).below (qB.alloc qN _),rfl⟩ (by have:=qgp (F.alloc (.cells (madeCells #[.int .u32 0] l1) 201)) 201 Z.o.1 (by have:=Z.o.2.1;omega);rwa [qab] at this) Hx.o (by unfold Fit;have:=Z.o.2.1;omega);refine aC.mono ?_;clear aC;rintro e w4 ⟨v4,rfl,aX,dA⟩;obtain⟨at4,bt,ot,ct,nt,T,rfl,It,aU⟩:=dA;have aR:w4.heap[F.heap.size]? = some (.cells (row32 (List.replicate l1 0)).toArray 201 (0,0)):=by
  rw [aX.block F.heap.size (by simp only [qab];omega),qL _ _ _ (by simp only [qab];omega)];exact qgV F l1 _
 have aN:Below F.heap.size F w4:=(((qB.alloc qN _).alloc (by simp only [qab];omega) _).trans (aX.mono (by simp only [qab];omega)));have bn:nt<=l1:=by
  rw [<-It.len,<-Hl.o.1];refine It.nrm.len ?_;rw [aU,qaF];have h1:=HM.o.dig.lt;rw [HM.o.len] at h1;exact Nat.mul_lt_mul'' h1 (by have:=Z.o.2.1;omega)
 have aj:=It.len;have bY:∀j v,(row32 T)[j]? = some v->∀ad:Addr,at4=some ad->w4.cell? (ad.add j)=some v:=by
  intro j v hj ad bK;have di:j<nt:=by
   have:=(qbI.1 hj).1;rw [qcN] at this;omega
  have h1:=It.addr (by omega);rw [h1] at bK;cases bK;rw [qdQ T j (by omega)] at hj;rw [<-hj];rw [addr_add];exact It.cell j di
 have HT:=qH (qA It (qA aU (qA aR (qA aN bY))));clear It aU aR aN bY aX;have aA:=bD.o
 go_wp2_with (first | (with_reducible refine wpList_copy_splice rfl (.tmp 49) (.tmp 53) _ _ rfl 201 (qej (by decide)) (by kernel_rfl) (some ⟨F.heap.size,0,none⟩) at4 l1 l1 nt ct rfl rfl F.heap.size 0 (row32 (List.replicate l1 0)) 201 HT.o.2.2.1 (row32 T) (by rw [qcN,aj];exact (qaS bn).symm) ?hp ?hf ?h1 F.heap.size F HT.o.2.2.2.1 qN ?hk) | fail)
 case hp =>
  intro h0;rw [qcN,HT.o.1.len] at h0;have h1:=HT.o.1.addr h0;exact⟨_,h1,fun j v hj=>HT.o.2.2.2.2 j v hj _ h1⟩
 case hf=>rw [qcN,qcN,qaZ,aj];omega
 case h1=>exact qoI T
 case hk =>
  intro w5 I aY;rw [splice32 _ _ (by rw [qaZ,aj];exact bn)] at I;obtain⟨U0,ak⟩:=qX (T++(List.replicate l1 0).drop T.length);rw [ak] at I;have ae:U0.length=l1:=by rw [<-ak,qaf,qaY,qaZ,aj];omega
  have au:mval U0=mval M*s:=by
   rw [<-ak,qcE,HT.o.2.1,List.drop_replicate,qff,Nat.mul_zero,qbt]
  have aM:Dig U0:=by
   rw [<-ak];exact HT.o.1.dig.append ((Dig.zeros l1).drop _)
  have hD:=DivInv.start (w:=U0) (v:=V) aM (by
   rw [ae,au,HV.o.1.len,<-Hl.o.1];exact qnp HM.o.dig HM.o.len HO.o.len (by omega) HO.o.nrm Z.o.1 dm HV.o.2.1) (by rw [ae,HV.o.1.len];have:=Hl.o.1;omega)
  have ay:IsM w5 (some ⟨bv,ov,none⟩) bv ov cv Y V:=HV.o.1.below aY;have bN:bv<F.heap.size:=qnS HV.o.1 (by omega);have bP:F.heap.size<w5.heap.size:=(qG (show w5.heap[F.heap.size]? = _ from I)).1;have aO:Below w.heap.size w w5:=ah.o.trans (aY.mono ah.o.size);have cz:Hu (0<mval V):=qH (by rw [HV.o.2.1];exact qb3 (qbm (fun h=>by have h1:=HO.o.nrm.zero.1 h;have h2:=HO.o.len;omega)) Z.o.1);have J:=qH (qA hD (qA ay (qA bN (qA bP (qA aO (qA I (qA ae au)))))));clear hD ay bN bP aO I ae au aM ak aY HT aj bn HC i1 i2 i3 i4 i5 i6 i7 i8;go_wp2_with fail
  go_loopw [12] (fun x12 W=>∃(k:Nat) (z:Int) (Q U:List Nat),k<=l2/\x12=.int .i64 z/\Hu (z+1=k)/\Hu (DivInv U0 V k Q U)/\Hu (W.ownsRow F.heap.size 201 1 (.slice (some ⟨F.heap.size,0,none⟩) l1 l1) l1 (row32 U))/\Hu (W.ownsRow F.heap.size 201 1 (.slice (some ⟨w5.heap.size,0,none⟩) l2 l2) l2 (row32 Q))/\Hu (IsM W (some ⟨bv,ov,none⟩) bv ov cv Y V)/\Hu (Below w.heap.size w W)) (fun x12 _=>(intOf x12+1).toNat)
  case atStart =>
   have e1:U0.length-V.length=l2:=by rw [J.o.2.2.2.2.2.2.1,HV.o.1.len];have:=Hl.o;omega
   refine⟨l2,_,List.replicate l2 0,U0,qad _,rfl,qH (by omega),qH ?_,qH ?_,qH ?_,qH ?_,qH ?_⟩
   ·have:=J.o.1
    rwa [e1] at this
   ·refine qiU ?_ J.o.2.2.2.2.2.2.1 qN (by unfold maxLen;omega);rw [qL _ _ _ J.o.2.2.2.1];exact J.o.2.2.2.2.2.1
   ·exact qiU (qgV w5 l2 _) (by rw [qaZ]) (qan J.o.2.2.2.1) (by unfold maxLen;omega)
   ·exact J.o.2.1.below (qB.alloc qN _)
   ·exact J.o.2.2.2.2.1.trans ((qB.alloc qN _:Below w5.heap.size w5 _).mono J.o.2.2.2.2.1.size)
  case round =>
   obtain⟨k,z,Q,U,hk,rfl,hz,hI,bI,bH,ay,hB⟩:=hrel
   by_cases dJ:0<k
   ·obtain⟨j,rfl⟩:∃j,k=j+1:=⟨k-1,by omega⟩;obtain rfl:z=(j:Int):=by have:=hz.o;omega
    have dI:(j:Int)+Y+1<=l1:=by have:=Hl.o;omega
    have dD:(j:Int)<=(j:Int)+Y+1:=by omega
    have dH:(j:Int)<l2:=by omega
    go_wp2_with fail;rw [show j+Y+1-j=Y+1 by omega];have ax:U.length=l1:=hI.o.lenu.trans J.o.2.2.2.2.2.2.1;have E:V.length=Y:=HV.o.1.len;obtain⟨A,hA⟩:=qX (U.take j);obtain⟨u,hu⟩:=qX ((U.drop j).take (Y+1));obtain⟨C,hC⟩:=qX (U.drop (j+(Y+1)));have af:U=A++u++C:=by
     rw [<-hA,<-hu,<-hC,qaG,<-List.drop_drop,qbL,qbL]
    have bE:A.length=j:=by rw [<-hA,qao];omega
    have H:=hI.o.part (by rw [J.o.2.2.2.2.2.2.1,E];omega);rw [E,hu] at H;have hE:Est u V Y:=⟨by omega,H.2.1,E,H.2.2,HV.o.1.dig,HV.o.2.2,H.1⟩;have ai:=bI.o;rw [af] at ai;have bf:bv≠F.heap.size:=by have:=J.o.2.2.1;omega
    have bM:bv≠w5.heap.size:=by have:=J.o.2.2.1;have:=J.o.2.2.2.1;omega
    have bg:F.heap.size≠w5.heap.size:=by have:=J.o.2.2.2.1;omega
    refine (z_reduce_any.o A u C V Y j l1 (l1-j) l1 F.heap.size F.heap.size (some ⟨bv,ov,none⟩) bv ov cv wr bE hE ai ay.o bf (by omega) (by omega)).mono ?_;rintro e w6 ⟨R,x,rfl,hR,hG,aK⟩;have hstep:=hI.o.step (R:=R) (x:=x) (by rw [J.o.2.2.2.2.2.2.1,E];omega) cz.o (by rw [E,hu];exact hR);rw [E,hA,hC] at hstep;have aa:=qlC bH.o hG (Ne.symm bg);have aF:Q.length=l2:=by rw [hI.o.lenq,J.o.2.2.2.2.2.2.1,E];have:=Hl.o;omega
    have aG:w6.cell? ⟨w5.heap.size,j,none⟩=some (.int .u32 ((dg Q j:Nat):Int)):=(aa.cellAt j (by omega)).trans (qdQ Q j (by omega));have dG:w6.frozen? ⟨w5.heap.size,j,none⟩=false:=aa.frozenAt j;have aI:=qd0 aa j x rfl;have aT:=qhO aa j (.int .u32 (x:Int));have aL:=qlC aK aT bg;have bJ:=qln (qln ay.o hG bf) aT bM;have bF:Below w.heap.size w w6:=hB.o.grown hG hB.o.size (fun i hi=>by cases hi;exact ah.o.size);have bG:Below w.heap.size w (w6.setCell ⟨w5.heap.size,j,none⟩ (.int .u32 (x:Int))):=bF.setCell (qak ah.o.size (qan J.o.2.2.2.1)) _;have HR:=qH (qA hstep (qA aL (qA aI (qA bJ bG))));clear hstep aK aL aa aI bJ bF bG hG aT hR aF H hE ai ax E bE af hA hu hC bf bM bg;go_wp2;go_roundw
    case rel=>exact⟨j,_,_,_,by omega,rfl,qH (by omega),qH HR.o.1,qH HR.o.2.1,qH HR.o.2.2.1,qH HR.o.2.2.2.1,qH HR.o.2.2.2.2⟩
    case measure=>simp [intOf]
   ·obtain rfl:k=0:=by omega
    obtain rfl:z = -1:=by have:=hz.o;omega
    have ax:U.length=l1:=hI.o.lenu.trans J.o.2.2.2.2.2.2.1;have E:V.length=Y:=HV.o.1.len;have aF:Q.length=l2:=by rw [hI.o.lenq,J.o.2.2.2.2.2.2.1,E];have:=Hl.o;omega
    have dM:(Y:Int)<=l1:=by have:=Hl.o;omega
    have aD:=hI.o.val;have aH:=hI.o.small;rw [List.drop_zero,Nat.pow_zero,qbV,J.o.2.2.2.2.2.2.2,HV.o.2.1] at aD;rw [Nat.pow_zero,qbD,HV.o.2.1] at aH;have hend:=div_end Z.o.1 aD aH;have bB:=hI.o.zero;rw [E,qaT] at bB;have bZ:mval (U.take Y)=mval U:=qcH bB;have ag:=z_trim_mag.o (some ⟨F.heap.size,0,none⟩) F.heap.size 0 l1 Y (U.take Y) wr (by rw [qao];omega) (by omega) (by omega) ((qcP bI.o ax).take Y) (hI.o.digu.take Y);rw [bZ] at ag;have cB:=qH ag;have HF:=qH (qA ax (qA aF (qA hend aH)));clear ag ax E aF aD aH hend bB bZ;go_wp2_with fail;refine cB.o.mono ?_;rintro e w6 ⟨v6,rfl,rfl,dB⟩;have bV:=z_short_any.o (mval U) (Y+1) s (by omega) Z.o.1 (by have:=Z.o.2.1;omega) v6 w6 dB (by
     refine qai HF.o.2.2.2 (qan ?_);rw [qaF];have h1:=HO.o.dig.lt;rw [HO.o.len] at h1;exact Nat.mul_lt_mul'' h1 (by have:=Z.o.2.1;omega))
    go_wp2_with fail;refine bV.mono ?_;rintro e w7 ⟨v7,rfl,aZ,bA⟩;rw [HF.o.2.2.1.2] at bA;have aJ:=own_kept bH.o aZ;have bu:=z_trim_mag.o (some ⟨w5.heap.size,0,none⟩) w5.heap.size 0 l2 l2 Q w7 HF.o.2.1 (by omega) qN (qcP aJ HF.o.2.1) hI.o.digq;rw [HF.o.2.2.1.1] at bu;have cK:=qH bu;have bC:=qH (qA bA aZ);clear bu aJ bA aZ bV;go_wp2_with fail;refine cK.o.mono ?_;rintro e w8 ⟨v8,rfl,rfl,cu⟩;have cO:=qH cu;clear cu;go_wp2_with fail
    go_ret2
    exact⟨_,_,rfl,hB.o.trans (bC.o.2.mono hB.o.size),cO.o,bC.o.1⟩)
