import Derived.Deep.LoopGhost
import Derived.Test.YtplkdeknjghobaaGreatDoorBe9
set_option maxRecDepth 100000
set_option maxHeartbeats 0
namespace Go.Proofs.YtplkdeknjghobaaGreatDoor.frac
open Go.RowKit
theorem qb7 (x y K:Nat) (hK:K<=137438953472) (vm vo:Value) (w:World) (hm:MagAt w vm x) (ho:MagAt w vo y) (hx:Fit x K) (hy:Fit y K) (h0:0<y) :
  Calls Tryz.prog 154 #[vm,vo] w fun e w'=>∃q r,e=.returned (.tuple #[q,r])/\Below w.heap.size w w'/\MagAt w' q (x / y)/\MagAt w' r (x % y):=by
 by_cases hlt:x<y
 ·have hcmp:=qcG x y K (by omega) vm vo w hm ho hx hy;rw [show cmp3 (x:Int) (y:Int) = -1 by unfold cmp3;rw [if_pos (by omega)]] at hcmp;obtain⟨am,bm,om,cm,n,M,rfl,Im,rfl⟩:=hm;obtain⟨ao,bo,oo,co,no,O,rfl,Io,rfl⟩:=ho;rw [Nat.div_eq_of_lt hlt,Nat.mod_eq_of_lt hlt];have HC:=qH hcmp;have HM:=qH Im;clear hcmp Im Io hx hy h0 hlt hK;go_enter Tryz.func154,Tryz.ntmps154;go_wp2_with fail;refine HC.out.mono ?_;rintro e w1 ⟨rfl,hb1⟩;have HB:=qH hb1;clear hb1;go_wp2_with fail
  go_ret2
  exact⟨_,_,rfl,HB.out,MagAt.nil _,_,bm,om,cm,n,M,rfl,HM.out.below HB.out,rfl⟩
 ·obtain⟨am,bm,om,cm,n,M,rfl,Im,rfl⟩:=hm;obtain⟨ao,bo,oo,co,no,O,rfl,Io,rfl⟩:=ho
  by_cases hn2:2<=no
  ·exact qe5 K hK am bm om cm n M ao bo oo co no O w Im Io hx hy hn2 (by omega)
  ·have hno0:no≠0:=fun e=>by
    have:=Io.nrm.zero.2 (by rw [Io.len];exact e);omega
   obtain rfl:no=1:=by omega
   have hcmp:=qcG (mval M) (mval O) K (by omega) (.slice am n cm) (.slice ao 1 co) w ⟨_,bm,om,cm,n,M,rfl,Im,rfl⟩ ⟨_,bo,oo,co,1,O,rfl,Io,rfl⟩ hx hy;obtain⟨cr,hcr⟩:=qX (cmp3 (mval M) (mval O));have hcr0:¬cr<0:=by rw [<-hcr];unfold cmp3;split <;> (try split) <;> omega
   rw [hcr] at hcmp;have hao:=Io.addr (by omega);subst hao;obtain⟨d,hd⟩:=qX (dg O 0);have hdl:d<1000000000:=by rw [<-hd];exact Io.dig 0
   have hov:mval O=d:=by
    have:=qbV O 0;rw [qak (by rw [Io.len];omega)] at this;rw [show O.getD 0 0=d from hd] at this
    simpa [mval] using this
   rw [hov] at h0 ⊢;have hdiv:Hid (mval M % d<18446744073709551616):=qH (by
    have:=qbk (mval M) h0;omega)
   obtain⟨r,hr⟩:=qX (mval M % d);have hrl:r<d:=by rw [<-hr];exact qbk _ h0
   have hsh:=fun (W:World) (hW:MagAt W (.slice am n cm) (mval M))=>qdQ (mval M) K d (by omega) h0 (by omega) (.slice am n cm) W hW hx
   rw [hr] at hsh;have hfs:=fun (W:World)=>qc3 r (by omega) W
   have i1:=u64_in r (by omega);rw [hr];have hoc:=fun (W:World) (hW:Below w.heap.size w W)=>(Io.below hW).cell 0 (by omega)
   simp only [qbh,hd] at hoc;have HC:=qH hcmp;have HM:=qH Im;have HS:=qH hsh;have HF:=qH hfs;have HOc:=qH hoc;clear hcmp hcr Im Io hx hy h0 hlt hK hn2 hno0 hd hdl hov hdiv hr hrl hsh hfs hoc;go_enter Tryz.func154,Tryz.ntmps154;go_wp2_with fail;refine HC.out.mono ?_;rintro e w1 ⟨rfl,hb1⟩;have hoc:=HOc.out w1 hb1;have HB:=qH hb1;clear hb1;go_wp2_with fail;refine (HS.out w1 ⟨_,bm,om,cm,n,M,rfl,HM.out.below HB.out,rfl⟩).mono ?_;rintro e w2 ⟨v2,rfl,hb2,hv2⟩;have HB2:=qH (qA hb2 hv2);clear hb2 hv2 hoc;go_wp2_with fail;refine (HF.out w2).mono ?_;rintro e w3 ⟨v3,rfl,hb3,hv3⟩;have HB3:=qH (qA hb3 hv3);clear hb3 hv3;go_wp2_with fail
   go_ret2
   exact⟨_,_,rfl,(HB.out.trans (HB2.out.1.mono HB.out.size)).trans (HB3.out.1.mono (qaj HB.out.size HB2.out.1.size)),HB2.out.2.below HB3.out.1,HB3.out.2⟩
theorem qdU (x y K:Nat) (hK:K<=137438953472) (vm vo:Value) (w:World) (hm:MagAt w vm x) (ho:MagAt w vo y) (hx:Fit x K) (hy:Fit y K) :
  Calls Tryz.prog 153 #[vm,vo] w fun e w'=>∃v,e=.returned v/\Below w.heap.size w w'/\MagAt w' v (x.gcd y):=by
 obtain⟨G,hG⟩:=qX (x.gcd y);rw [hG];have HM:=qH hm;have HO:=qH ho;have HG:=qH hG;have Hf:=qH (qA hx (qA hy hK));clear hm ho hx hy hG hK;go_enter Tryz.func153,Tryz.ntmps153;go_wp2
 go_loopg [0,1] y (fun b x0 x1 W=>∃a:Nat,Hid (MagAt W x0 a)/\Hid (MagAt W x1 b)/\Hid (Fit a K/\Fit b K/\a.gcd b=G)/\Hid (Below w.heap.size w W))
 case atStart=>exact⟨x,HM,HO,qH ⟨Hf.out.1,Hf.out.2.1,HG.out⟩,qH qB⟩
 case round =>
  obtain⟨a,ha,hb,hF,hB⟩:=hrel;have hz:=qcF gk u1 wr hb.out
  by_cases hg0:gk=0
  ·rw [qV hg0] at hz;subst hg0;have Hz:=qH hz;have ha2:MagAt wr u0 G:=by have h:=hF.out.2.2;rw [Nat.gcd_zero_right] at h;rw [<-h];exact ha.out
   have HA:=qH ha2;clear hz ha2;go_wp2_with fail;refine Hz.out.mono ?_;rintro e w1 ⟨rfl,rfl⟩;go_wp2;go_ret;exact⟨_,rfl,hB.out,HA.out⟩
  ·rw [qU hg0] at hz;have Hz:=qH hz;have Hg0:=qH hg0;clear hz hg0;have hA:=ha.out;have hBb:=hb.out;obtain⟨am,bm,om,cm,n,M,rfl,Im,hMa⟩:=hA;obtain⟨ao,bo,oo,co,no,O,rfl,Io,hOb⟩:=hBb;have HM:=qH (qA Im hMa);have HO:=qH (qA Io hOb);clear Im Io hMa hOb
   by_cases hsm:n<=2/\no<=2
   ·obtain⟨hn,hno⟩:=hsm;have hni:(n:Int)<=2:=by omega
    have hnoi:(no:Int)<=2:=by omega
    have fa:Fit a 2:=by
     have h:=HM.out.1.dig.lt;rw [HM.out.2,HM.out.1.len] at h;exact Fit.mono h hn
    have fb:Fit gk 2:=by
     have h:=HO.out.1.dig.lt;rw [HO.out.2,HO.out.1.len] at h;exact Fit.mono h hno
    have s1:=qdB a _ wr ha.out fa;have s2:=qdB gk _ wr hb.out fb;have S1:=qH s1;have S2:=qH s2;have Hfab:=qH (qA (show a<1000000000000000000 from fa) (show gk<1000000000000000000 from fb));clear s1 s2 fa fb hn hno;go_wp2_with fail;refine Hz.out.mono ?_;rintro e w1 ⟨rfl,rfl⟩;go_wp2_with fail;refine S1.out.mono ?_;rintro e w1 ⟨rfl,rfl⟩;go_wp2_with fail;refine S2.out.mono ?_;rintro e w1 ⟨rfl,rfl⟩;go_wp2_with fail
    go_loopw [5,6] (fun x5 x6 W=>∃p q:Nat,x5=.int .u64 p/\x6=.int .u64 q/\Hid (p<1000000000000000000/\q<1000000000000000000/\p.gcd q=G)/\Hid (Below w.heap.size w W)) (fun _ x6 _=>(intOf x6).toNat)
    case atStart=>exact⟨a,gk,rfl,rfl,qH ⟨Hfab.out.1,Hfab.out.2,hF.out.2.2⟩,hB⟩
    case round =>
     clear ha hb hB HM HO S1 S2 Hz;obtain⟨p,q,rfl,rfl,hpq,hB⟩:=hrel;have hp:=hpq.out.1;have hq:=hpq.out.2.1
     by_cases hq0:q=0
     ·subst hq0;have hG0:p=G:=by have h:=hpq.out.2.2;rwa [Nat.gcd_zero_right] at h
      have hfs:=fun (W:World)=>qc3 p (by omega) W
      rw [hG0] at hfs;subst hG0;have HF:=qH hfs;clear hfs hp hq;go_wp2_with fail;refine (HF.out _).mono ?_;rintro e w2 ⟨v,rfl,hb2,hv⟩;have HV:=qH (qA hb2 hv);clear hb2 hv;go_wp2;go_ret;exact⟨_,rfl,hB.out.trans (HV.out.1.mono hB.out.size),HV.out.2⟩
     ·have hqi:(0:Int)<q:=by omega
      have hq1:((q:Int) == 0)=false:=by rw [beq_eq_false_iff_ne];omega
      obtain⟨s,hs⟩:=qX (p % q);have hsl:s<q:=by rw [<-hs];exact qbk _ (by omega)
      have i1:=tmodN p q s hs;have i2:=u64_in s (by omega);have Hn:Hid (q<1000000000000000000/\s<1000000000000000000/\q.gcd s=G):=qH ⟨hq,by omega,by
       rw [<-hpq.out.2.2,<-hs,qbO q,<-Nat.gcd_rec,qbO]⟩
      have Hsl:=qH hsl;clear hs hsl hp hq;go_wp2_with fail
      go_quiet (fail)
      go_wp2;go_roundw
      case rel=>exact⟨q,s,rfl,rfl,Hn,qH (below_drewN hB.out _)⟩
      case measure=>have:=Hsl.out;simp [intOf];omega
   ·have hdv:=qb7 a gk K Hf.out.2.2 _ _ wr ha.out hb.out hF.out.1 hF.out.2.1 (by have:=Hg0.out;omega);have HD:=qH hdv;clear hdv;have hcase:(¬(n:Int)<=2)\/((n:Int)<=2/\¬(no:Int)<=2):=by omega
    have Hsm:=qH hsm;clear hsm;rcases hcase with h1 | ⟨h1,h2⟩
    ·go_wp2_with fail;refine Hz.out.mono ?_;rintro e w1 ⟨rfl,rfl⟩;go_wp2_with fail;refine HD.out.mono ?_;rintro e w2 ⟨q,r,rfl,hb2,hq,hr⟩;have HV:=qH (qA hb2 hr);clear hb2 hr hq;go_wp2_with fail
     go_roundg (a % gk)
     case measure=>exact qbk _ (by have:=Hg0.out;omega)
     case rel=>exact⟨gk,qH (MagAt.below ⟨_,bo,oo,co,no,O,rfl,HO.out.1,HO.out.2⟩ HV.out.1),qH HV.out.2,qH ⟨hF.out.2.1,hF.out.1.le (Nat.mod_le _ _),by rw [<-hF.out.2.2,qbO gk,<-Nat.gcd_rec,qbO]⟩,qH (hB.out.trans (HV.out.1.mono hB.out.size))⟩
    ·go_wp2_with fail;refine Hz.out.mono ?_;rintro e w1 ⟨rfl,rfl⟩;go_wp2_with fail;refine HD.out.mono ?_;rintro e w2 ⟨q,r,rfl,hb2,hq,hr⟩;have HV:=qH (qA hb2 hr);clear hb2 hr hq;go_wp2_with fail
     go_roundg (a % gk)
     case measure=>exact qbk _ (by have:=Hg0.out;omega)
     case rel=>exact⟨gk,qH (MagAt.below ⟨_,bo,oo,co,no,O,rfl,HO.out.1,HO.out.2⟩ HV.out.1),qH HV.out.2,qH ⟨hF.out.2.1,hF.out.1.le (Nat.mod_le _ _),by rw [<-hF.out.2.2,qbO gk,<-Nat.gcd_rec,qbO]⟩,qH (hB.out.trans (HV.out.1.mono hB.out.size))⟩
end Go.Proofs.YtplkdeknjghobaaGreatDoor.frac
namespace Go.Proofs.YtplkdeknjghobaaGreatDoor.least
open Go.RowKit
theorem qb7 (x y K:Nat) (hK:K<=137438953472) (vm vo:Value) (w:World) (hm:MagAt w vm x) (ho:MagAt w vo y) (hx:Fit x K) (hy:Fit y K) (h0:0<y) :
  Calls Tryz.prog 178 #[vm,vo] w fun e w'=>∃q r,e=.returned (.tuple #[q,r])/\Below w.heap.size w w'/\MagAt w' q (x / y)/\MagAt w' r (x % y):=by
 by_cases hlt:x<y
 ·have hcmp:=qcG x y K (by omega) vm vo w hm ho hx hy;rw [show cmp3 (x:Int) (y:Int) = -1 by unfold cmp3;rw [if_pos (by omega)]] at hcmp;obtain⟨am,bm,om,cm,n,M,rfl,Im,rfl⟩:=hm;obtain⟨ao,bo,oo,co,no,O,rfl,Io,rfl⟩:=ho;rw [Nat.div_eq_of_lt hlt,Nat.mod_eq_of_lt hlt];have HC:=qH hcmp;have HM:=qH Im;clear hcmp Im Io hx hy h0 hlt hK;go_enter Tryz.func178,Tryz.ntmps178;go_wp2_with fail;refine HC.out.mono ?_;rintro e w1 ⟨rfl,hb1⟩;have HB:=qH hb1;clear hb1;go_wp2_with fail
  go_ret2
  exact⟨_,_,rfl,HB.out,MagAt.nil _,_,bm,om,cm,n,M,rfl,HM.out.below HB.out,rfl⟩
 ·obtain⟨am,bm,om,cm,n,M,rfl,Im,rfl⟩:=hm;obtain⟨ao,bo,oo,co,no,O,rfl,Io,rfl⟩:=ho
  by_cases hn2:2<=no
  ·exact qe5 K hK am bm om cm n M ao bo oo co no O w Im Io hx hy hn2 (by omega)
  ·have hno0:no≠0:=fun e=>by
    have:=Io.nrm.zero.2 (by rw [Io.len];exact e);omega
   obtain rfl:no=1:=by omega
   have hcmp:=qcG (mval M) (mval O) K (by omega) (.slice am n cm) (.slice ao 1 co) w ⟨_,bm,om,cm,n,M,rfl,Im,rfl⟩ ⟨_,bo,oo,co,1,O,rfl,Io,rfl⟩ hx hy;obtain⟨cr,hcr⟩:=qX (cmp3 (mval M) (mval O));have hcr0:¬cr<0:=by rw [<-hcr];unfold cmp3;split <;> (try split) <;> omega
   rw [hcr] at hcmp;have hao:=Io.addr (by omega);subst hao;obtain⟨d,hd⟩:=qX (dg O 0);have hdl:d<1000000000:=by rw [<-hd];exact Io.dig 0
   have hov:mval O=d:=by
    have:=qbV O 0;rw [qak (by rw [Io.len];omega)] at this;rw [show O.getD 0 0=d from hd] at this
    simpa [mval] using this
   rw [hov] at h0 ⊢;have hdiv:Hid (mval M % d<18446744073709551616):=qH (by
    have:=qbk (mval M) h0;omega)
   obtain⟨r,hr⟩:=qX (mval M % d);have hrl:r<d:=by rw [<-hr];exact qbk _ h0
   have hsh:=fun (W:World) (hW:MagAt W (.slice am n cm) (mval M))=>qdQ (mval M) K d (by omega) h0 (by omega) (.slice am n cm) W hW hx
   rw [hr] at hsh;have hfs:=fun (W:World)=>qc3 r (by omega) W
   have i1:=u64_in r (by omega);rw [hr];have hoc:=fun (W:World) (hW:Below w.heap.size w W)=>(Io.below hW).cell 0 (by omega)
   simp only [qbh,hd] at hoc;have HC:=qH hcmp;have HM:=qH Im;have HS:=qH hsh;have HF:=qH hfs;have HOc:=qH hoc;clear hcmp hcr Im Io hx hy h0 hlt hK hn2 hno0 hd hdl hov hdiv hr hrl hsh hfs hoc;go_enter Tryz.func178,Tryz.ntmps178;go_wp2_with fail;refine HC.out.mono ?_;rintro e w1 ⟨rfl,hb1⟩;have hoc:=HOc.out w1 hb1;have HB:=qH hb1;clear hb1;go_wp2_with fail;refine (HS.out w1 ⟨_,bm,om,cm,n,M,rfl,HM.out.below HB.out,rfl⟩).mono ?_;rintro e w2 ⟨v2,rfl,hb2,hv2⟩;have HB2:=qH (qA hb2 hv2);clear hb2 hv2 hoc;go_wp2_with fail;refine (HF.out w2).mono ?_;rintro e w3 ⟨v3,rfl,hb3,hv3⟩;have HB3:=qH (qA hb3 hv3);clear hb3 hv3;go_wp2_with fail
   go_ret2
   exact⟨_,_,rfl,(HB.out.trans (HB2.out.1.mono HB.out.size)).trans (HB3.out.1.mono (qaj HB.out.size HB2.out.1.size)),HB2.out.2.below HB3.out.1,HB3.out.2⟩
theorem qdU (x y K:Nat) (hK:K<=137438953472) (vm vo:Value) (w:World) (hm:MagAt w vm x) (ho:MagAt w vo y) (hx:Fit x K) (hy:Fit y K) :
  Calls Tryz.prog 233 #[vm,vo] w fun e w'=>∃v,e=.returned v/\Below w.heap.size w w'/\MagAt w' v (x.gcd y):=by
 obtain⟨G,hG⟩:=qX (x.gcd y);rw [hG];have HM:=qH hm;have HO:=qH ho;have HG:=qH hG;have Hf:=qH (qA hx (qA hy hK));clear hm ho hx hy hG hK;go_enter Tryz.func233,Tryz.ntmps233;go_wp2
 go_loopg [0,1] y (fun b x0 x1 W=>∃a:Nat,Hid (MagAt W x0 a)/\Hid (MagAt W x1 b)/\Hid (Fit a K/\Fit b K/\a.gcd b=G)/\Hid (Below w.heap.size w W))
 case atStart=>exact⟨x,HM,HO,qH ⟨Hf.out.1,Hf.out.2.1,HG.out⟩,qH qB⟩
 case round =>
  obtain⟨a,ha,hb,hF,hB⟩:=hrel;have hz:=qcF gk u1 wr hb.out
  by_cases hg0:gk=0
  ·rw [qV hg0] at hz;subst hg0;have Hz:=qH hz;have ha2:MagAt wr u0 G:=by have h:=hF.out.2.2;rw [Nat.gcd_zero_right] at h;rw [<-h];exact ha.out
   have HA:=qH ha2;clear hz ha2;go_wp2_with fail;refine Hz.out.mono ?_;rintro e w1 ⟨rfl,rfl⟩;go_wp2;go_ret;exact⟨_,rfl,hB.out,HA.out⟩
  ·rw [qU hg0] at hz;have Hz:=qH hz;have Hg0:=qH hg0;clear hz hg0;have hA:=ha.out;have hBb:=hb.out;obtain⟨am,bm,om,cm,n,M,rfl,Im,hMa⟩:=hA;obtain⟨ao,bo,oo,co,no,O,rfl,Io,hOb⟩:=hBb;have HM:=qH (qA Im hMa);have HO:=qH (qA Io hOb);clear Im Io hMa hOb
   by_cases hsm:n<=2/\no<=2
   ·obtain⟨hn,hno⟩:=hsm;have hni:(n:Int)<=2:=by omega
    have hnoi:(no:Int)<=2:=by omega
    have fa:Fit a 2:=by
     have h:=HM.out.1.dig.lt;rw [HM.out.2,HM.out.1.len] at h;exact Fit.mono h hn
    have fb:Fit gk 2:=by
     have h:=HO.out.1.dig.lt;rw [HO.out.2,HO.out.1.len] at h;exact Fit.mono h hno
    have s1:=qdB a _ wr ha.out fa;have s2:=qdB gk _ wr hb.out fb;have S1:=qH s1;have S2:=qH s2;have Hfab:=qH (qA (show a<1000000000000000000 from fa) (show gk<1000000000000000000 from fb));clear s1 s2 fa fb hn hno;go_wp2_with fail;refine Hz.out.mono ?_;rintro e w1 ⟨rfl,rfl⟩;go_wp2_with fail;refine S1.out.mono ?_;rintro e w1 ⟨rfl,rfl⟩;go_wp2_with fail;refine S2.out.mono ?_;rintro e w1 ⟨rfl,rfl⟩;go_wp2_with fail
    go_loopw [5,6] (fun x5 x6 W=>∃p q:Nat,x5=.int .u64 p/\x6=.int .u64 q/\Hid (p<1000000000000000000/\q<1000000000000000000/\p.gcd q=G)/\Hid (Below w.heap.size w W)) (fun _ x6 _=>(intOf x6).toNat)
    case atStart=>exact⟨a,gk,rfl,rfl,qH ⟨Hfab.out.1,Hfab.out.2,hF.out.2.2⟩,hB⟩
    case round =>
     clear ha hb hB HM HO S1 S2 Hz;obtain⟨p,q,rfl,rfl,hpq,hB⟩:=hrel;have hp:=hpq.out.1;have hq:=hpq.out.2.1
     by_cases hq0:q=0
     ·subst hq0;have hG0:p=G:=by have h:=hpq.out.2.2;rwa [Nat.gcd_zero_right] at h
      have hfs:=fun (W:World)=>qc3 p (by omega) W
      rw [hG0] at hfs;subst hG0;have HF:=qH hfs;clear hfs hp hq;go_wp2_with fail;refine (HF.out _).mono ?_;rintro e w2 ⟨v,rfl,hb2,hv⟩;have HV:=qH (qA hb2 hv);clear hb2 hv;go_wp2;go_ret;exact⟨_,rfl,hB.out.trans (HV.out.1.mono hB.out.size),HV.out.2⟩
     ·have hqi:(0:Int)<q:=by omega
      have hq1:((q:Int) == 0)=false:=by rw [beq_eq_false_iff_ne];omega
      obtain⟨s,hs⟩:=qX (p % q);have hsl:s<q:=by rw [<-hs];exact qbk _ (by omega)
      have i1:=tmodN p q s hs;have i2:=u64_in s (by omega);have Hn:Hid (q<1000000000000000000/\s<1000000000000000000/\q.gcd s=G):=qH ⟨hq,by omega,by
       rw [<-hpq.out.2.2,<-hs,qbO q,<-Nat.gcd_rec,qbO]⟩
      have Hsl:=qH hsl;clear hs hsl hp hq;go_wp2_with fail
      go_quiet (fail)
      go_wp2;go_roundw
      case rel=>exact⟨q,s,rfl,rfl,Hn,qH (below_drewN hB.out _)⟩
      case measure=>have:=Hsl.out;simp [intOf];omega
   ·have hdv:=qb7 a gk K Hf.out.2.2 _ _ wr ha.out hb.out hF.out.1 hF.out.2.1 (by have:=Hg0.out;omega);have HD:=qH hdv;clear hdv;have hcase:(¬(n:Int)<=2)\/((n:Int)<=2/\¬(no:Int)<=2):=by omega
    have Hsm:=qH hsm;clear hsm;rcases hcase with h1 | ⟨h1,h2⟩
    ·go_wp2_with fail;refine Hz.out.mono ?_;rintro e w1 ⟨rfl,rfl⟩;go_wp2_with fail;refine HD.out.mono ?_;rintro e w2 ⟨q,r,rfl,hb2,hq,hr⟩;have HV:=qH (qA hb2 hr);clear hb2 hr hq;go_wp2_with fail
     go_roundg (a % gk)
     case measure=>exact qbk _ (by have:=Hg0.out;omega)
     case rel=>exact⟨gk,qH (MagAt.below ⟨_,bo,oo,co,no,O,rfl,HO.out.1,HO.out.2⟩ HV.out.1),qH HV.out.2,qH ⟨hF.out.2.1,hF.out.1.le (Nat.mod_le _ _),by rw [<-hF.out.2.2,qbO gk,<-Nat.gcd_rec,qbO]⟩,qH (hB.out.trans (HV.out.1.mono hB.out.size))⟩
    ·go_wp2_with fail;refine Hz.out.mono ?_;rintro e w1 ⟨rfl,rfl⟩;go_wp2_with fail;refine HD.out.mono ?_;rintro e w2 ⟨q,r,rfl,hb2,hq,hr⟩;have HV:=qH (qA hb2 hr);clear hb2 hr hq;go_wp2_with fail
     go_roundg (a % gk)
     case measure=>exact qbk _ (by have:=Hg0.out;omega)
     case rel=>exact⟨gk,qH (MagAt.below ⟨_,bo,oo,co,no,O,rfl,HO.out.1,HO.out.2⟩ HV.out.1),qH HV.out.2,qH ⟨hF.out.2.1,hF.out.1.le (Nat.mod_le _ _),by rw [<-hF.out.2.2,qbO gk,<-Nat.gcd_rec,qbO]⟩,qH (hB.out.trans (HV.out.1.mono hB.out.size))⟩
