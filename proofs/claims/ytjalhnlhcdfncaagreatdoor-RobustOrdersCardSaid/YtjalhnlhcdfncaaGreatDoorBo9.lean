import Derived.Deep.LoopGhost
import Derived.Test.YtjalhnlhcdfncaaGreatDoorBo8
set_option maxRecDepth 100000
set_option maxHeartbeats 0
namespace Go.Proofs.YtjalhnlhcdfncaaGreatDoor
open Go.RowKit Go.Proofs.Tryz
theorem qcf (U:Pk) (x y K:Nat) (hK:K<=137438953472) (vm vo:Value) (w:World) (hm:MagAt w vm x) (ho:MagAt w vo y) (hx:Fit x K) (hy:Fit y K) (h0:0<y) :
  Calls prog (Pk.of U 195 159) #[vm,vo] w fun e w'=>∃q r,e=.returned (.tuple #[q,r])/\Below w.heap.size w w'/\MagAt w' q (x / y)/\MagAt w' r (x % y):=by
 by_cases J:x<y
 ·have E:=(qdg U) x y K (by omega) vm vo w hm ho hx hy;rw [show cmp3 (x:Int) (y:Int) = -1 by unfold cmp3;rw [if_pos (by omega)]] at E;obtain⟨am,bm,om,cm,n,M,rfl,Im,rfl⟩:=hm;obtain⟨ao,bo,oo,co,no,O,rfl,H,rfl⟩:=ho;rw [Nat.div_eq_of_lt J,Nat.mod_eq_of_lt J];have HC:=qH E;have HM:=qH Im;clear E Im H hx hy h0 J hK;cases U <;> dsimp only [Pk.of] at * <;> (
  first | go_enter func195,ntmps195 | go_enter func159,ntmps159
  go_wp2_with fail;refine HC.o.mono ?_;rintro e w1 ⟨rfl,F⟩;have V:=qH F;clear F;go_wp2_with fail
  go_ret2
  exact⟨_,_,rfl,V.o,MagAt.nil _,_,bm,om,cm,n,M,rfl,HM.o.below V.o,rfl⟩)
 ·obtain⟨am,bm,om,cm,n,M,rfl,Im,rfl⟩:=hm;obtain⟨ao,bo,oo,co,no,O,rfl,H,rfl⟩:=ho
  by_cases aj:2<=no
  ·exact (qhY U) K hK am bm om cm n M ao bo oo co no O w Im H hx hy aj (by omega)
  ·have ak:no≠0:=fun e=>by
    have:=H.nrm.zero.2 (by rw [H.len];exact e);omega
   obtain rfl:no=1:=by omega
   have E:=(qdg U) (mval M) (mval O) K (by omega) (.slice am n cm) (.slice ao 1 co) w ⟨_,bm,om,cm,n,M,rfl,Im,rfl⟩ ⟨_,bo,oo,co,1,O,rfl,H,rfl⟩ hx hy;obtain⟨cr,aa⟩:=qX (cmp3 (mval M) (mval O));have aC:¬cr<0:=by rw [<-aa];unfold cmp3;split <;> (try split) <;> omega
   rw [aa] at E;have az:=H.addr (by omega);subst az;obtain⟨d,hd⟩:=qX (dg O 0);have aA:d<1000000000:=by rw [<-hd];exact H.dig 0
   have au:mval O=d:=by
    have:=qb8 O 0;rw [qah (by rw [H.len];omega)] at this;rw [show O.getD 0 0=d from hd] at this
    simpa [mval] using this
   rw [au] at h0 ⊢;have ah:Hu (mval M % d<18446744073709551616):=qH (by
    have:=qbS (mval M) h0;omega)
   obtain⟨r,hr⟩:=qX (mval M % d);have aB:r<d:=by rw [<-hr];exact qbS _ h0
   have ae:=fun (W:World) (hW:MagAt W (.slice am n cm) (mval M))=>(qgG U) (mval M) K d (by omega) h0 (by omega) (.slice am n cm) W hW hx
   rw [hr] at ae;have ai:=fun (W:World)=>(qeJ U) r (by omega) W
   have i1:=u64_in r (by omega);rw [hr];have I:=fun (W:World) (hW:Below w.heap.size w W)=>(H.below hW).cell 0 (by omega)
   simp only [qbt,hd] at I;have HC:=qH E;have HM:=qH Im;have HS:=qH ae;have HF:=qH ai;have ay:=qH I;clear E aa Im H hx hy h0 J hK aj ak hd aA au ah hr aB ae ai I;cases U <;> dsimp only [Pk.of] at * <;> (
   first | go_enter func195,ntmps195 | go_enter func159,ntmps159
   go_wp2_with fail;refine HC.o.mono ?_;rintro e w1 ⟨rfl,F⟩;have I:=ay.o w1 F;have V:=qH F;clear F;go_wp2_with fail;refine (HS.o w1 ⟨_,bm,om,cm,n,M,rfl,HM.o.below V.o,rfl⟩).mono ?_;rintro e w2 ⟨v2,rfl,af,av⟩;have Y:=qH (qA af av);clear af av I;go_wp2_with fail;refine (HF.o w2).mono ?_;rintro e w3 ⟨v3,rfl,ag,ax⟩;have Z:=qH (qA ag ax);clear ag ax;go_wp2_with fail
   go_ret2
   exact⟨_,_,rfl,(V.o.trans (Y.o.1.mono V.o.size)).trans (Z.o.1.mono (qak V.o.size Y.o.1.size)),Y.o.2.below Z.o.1,Z.o.2⟩)
theorem qdb (pk:Pk) (x y K:Nat) (hK:K<=137438953472) (vm vo:Value) (w:World) (hm:MagAt w vm x) (ho:MagAt w vo y) (hx:Fit x K) (hy:Fit y K) :
  Calls prog (Pk.of pk 162 217) #[vm,vo] w fun e w'=>∃v,e=.returned v/\Below w.heap.size w w'/\MagAt w' v (x.gcd y):=by
 obtain⟨G,hG⟩:=qX (x.gcd y);rw [hG];have HM:=qH hm;have H:=qH ho;have HG:=qH hG;have Hf:=qH (qA hx (qA hy hK));clear hm ho hx hy hG hK;have z_small_any:=qH (@qjA pk);have z_fromSmall_any:=qH (@qeJ pk);have z_zero_any:=qH (@qcV pk);have z_divide_any:=qH (@qcf pk);cases pk <;> dsimp only [Pk.of] at * <;> (
 first | go_enter func162,ntmps162 | go_enter func217,ntmps217
 go_wp2
 go_loopg [0,1] y (fun b x0 x1 W=>∃a:Nat,Hu (MagAt W x0 a)/\Hu (MagAt W x1 b)/\Hu (Fit a K/\Fit b K/\a.gcd b=G)/\Hu (Below w.heap.size w W))
 case atStart=>exact⟨x,HM,H,qH ⟨Hf.o.1,Hf.o.2.1,HG.o⟩,qH qB⟩
 case round =>
  obtain⟨a,ha,hb,J,hB⟩:=hrel;have hz:=z_zero_any.o gk u1 wr hb.o
  by_cases F:gk=0
  ·rw [qV F] at hz;subst F;have Hz:=qH hz;have ai:MagAt wr u0 G:=by have h:=J.o.2.2;rw [Nat.gcd_zero_right] at h;rw [<-h];exact ha.o
   have HA:=qH ai;clear hz ai;go_wp2_with fail;refine Hz.o.mono ?_;rintro e w1 ⟨rfl,rfl⟩;go_wp2;go_ret;exact⟨_,rfl,hB.o,HA.o⟩
  ·rw [qU F] at hz;have Hz:=qH hz;have Y:=qH F;clear hz F;have hA:=ha.o;have ax:=hb.o;obtain⟨am,bm,om,cm,n,M,rfl,Im,ag⟩:=hA;obtain⟨ao,bo,oo,co,no,O,rfl,Io,ah⟩:=ax;have HM:=qH (qA Im ag);have H:=qH (qA Io ah);clear Im Io ag ah
   by_cases ae:n<=2/\no<=2
   ·obtain⟨hn,ak⟩:=ae;have aB:(n:Int)<=2:=by omega
    have az:(no:Int)<=2:=by omega
    have fa:Fit a 2:=by
     have h:=HM.o.1.dig.lt;rw [HM.o.2,HM.o.1.len] at h;exact Fit.mono h hn
    have fb:Fit gk 2:=by
     have h:=H.o.1.dig.lt;rw [H.o.2,H.o.1.len] at h;exact Fit.mono h ak
    have s1:=z_small_any.o a _ wr ha.o fa;have s2:=z_small_any.o gk _ wr hb.o fb;have S1:=qH s1;have S2:=qH s2;have V:=qH (qA (show a<1000000000000000000 from fa) (show gk<1000000000000000000 from fb));clear s1 s2 fa fb hn ak;go_wp2_with fail;refine Hz.o.mono ?_;rintro e w1 ⟨rfl,rfl⟩;go_wp2_with fail;refine S1.o.mono ?_;rintro e w1 ⟨rfl,rfl⟩;go_wp2_with fail;refine S2.o.mono ?_;rintro e w1 ⟨rfl,rfl⟩;go_wp2_with fail
    go_loopw [5,6] (fun x5 x6 W=>∃p q:Nat,x5=.int .u64 p/\x6=.int .u64 q/\Hu (p<1000000000000000000/\q<1000000000000000000/\p.gcd q=G)/\Hu (Below w.heap.size w W)) (fun _ x6 _=>(intOf x6).toNat)
    case atStart=>exact⟨a,gk,rfl,rfl,qH ⟨V.o.1,V.o.2,J.o.2.2⟩,hB⟩
    case round =>
     clear ha hb hB HM H S1 S2 Hz;obtain⟨p,q,rfl,rfl,U,hB⟩:=hrel;have hp:=U.o.1;have hq:=U.o.2.1
     by_cases ay:q=0
     ·subst ay;have af:p=G:=by have h:=U.o.2.2;rwa [Nat.gcd_zero_right] at h
      have aa:=fun (W:World)=>z_fromSmall_any.o p (by omega) W
      rw [af] at aa;subst af;have HF:=qH aa;clear aa hp hq;go_wp2_with fail;refine (HF.o _).mono ?_;rintro e w2 ⟨v,rfl,E,hv⟩;have I:=qH (qA E hv);clear E hv;go_wp2;go_ret;exact⟨_,rfl,hB.o.trans (I.o.1.mono hB.o.size),I.o.2⟩
     ·have aD:(0:Int)<q:=by omega
      have aC:((q:Int) == 0)=false:=by rw [beq_eq_false_iff_ne];omega
      obtain⟨s,hs⟩:=qX (p % q);have au:s<q:=by rw [<-hs];exact qbS _ (by omega)
      have i1:=tmodN p q s hs;have i2:=u64_in s (by omega);have Hn:Hu (q<1000000000000000000/\s<1000000000000000000/\q.gcd s=G):=qH ⟨hq,by omega,by
       rw [<-U.o.2.2,<-hs,Nat.gcd_comm q,<-Nat.gcd_rec,Nat.gcd_comm]⟩
      have av:=qH au;clear hs au hp hq;go_wp2_with fail
      go_quiet (fail)
      go_wp2;go_roundw
      case rel=>exact⟨q,s,rfl,rfl,Hn,qH (below_drewN hB.o _)⟩
      case measure=>have:=av.o;simp [intOf];omega
   ·have aj:=z_divide_any.o a gk K Hf.o.2.2 _ _ wr ha.o hb.o J.o.1 J.o.2.1 (by have:=Y.o;omega);have HD:=qH aj;clear aj;have Z:(¬(n:Int)<=2)\/((n:Int)<=2/\¬(no:Int)<=2):=by omega
    have aA:=qH ae;clear ae;rcases Z with h1 | ⟨h1,h2⟩
    ·go_wp2_with fail;refine Hz.o.mono ?_;rintro e w1 ⟨rfl,rfl⟩;go_wp2_with fail;refine HD.o.mono ?_;rintro e w2 ⟨q,r,rfl,E,hq,hr⟩;have I:=qH (qA E hr);clear E hr hq;go_wp2_with fail
     go_roundg (a % gk)
     case measure=>exact qbS _ (by have:=Y.o;omega)
     case rel=>exact⟨gk,qH (MagAt.below ⟨_,bo,oo,co,no,O,rfl,H.o.1,H.o.2⟩ I.o.1),qH I.o.2,qH ⟨J.o.2.1,J.o.1.le (Nat.mod_le _ _),by rw [<-J.o.2.2,Nat.gcd_comm gk,<-Nat.gcd_rec,Nat.gcd_comm]⟩,qH (hB.o.trans (I.o.1.mono hB.o.size))⟩
    ·go_wp2_with fail;refine Hz.o.mono ?_;rintro e w1 ⟨rfl,rfl⟩;go_wp2_with fail;refine HD.o.mono ?_;rintro e w2 ⟨q,r,rfl,E,hq,hr⟩;have I:=qH (qA E hr);clear E hr hq;go_wp2_with fail
     go_roundg (a % gk)
     case measure=>exact qbS _ (by have:=Y.o;omega)
     case rel=>exact⟨gk,qH (MagAt.below ⟨_,bo,oo,co,no,O,rfl,H.o.1,H.o.2⟩ I.o.1),qH I.o.2,qH ⟨J.o.2.1,J.o.1.le (Nat.mod_le _ _),by rw [<-J.o.2.2,Nat.gcd_comm gk,<-Nat.gcd_rec,Nat.gcd_comm]⟩,qH (hB.o.trans (I.o.1.mono hB.o.size))⟩)
