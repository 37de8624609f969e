import Derived.Test.YtplkdeknjghobaaGreatDoorBe5
import Derived.Test.YtplkdeknjghobaaGreatDoorBe6
set_option maxRecDepth 100000
set_option maxHeartbeats 0
namespace Go.Proofs.YtplkdeknjghobaaGreatDoor
open Go.RowKit
theorem qd9 {P:Prop} (h:¬P):false=true↔P:=⟨fun e=>absurd e (by decide),fun x=>absurd x h⟩
theorem qjF {P:Prop} (h:P):true=true↔P:=⟨fun _=>h,fun _=>rfl⟩
theorem not_nums {L:List UInt8} {k:Nat} (h:k<L.length) (hc:¬(48<=L[k].toNat/\L[k].toNat<=57)):¬Nums L:=fun hn=>hc (hn _ (List.getElem_mem h))
theorem qmB {L:List UInt8} {k:Nat} (h:k<L.length) (hk:Nums (L.take k)) (hc:48<=L[k].toNat/\L[k].toNat<=57):Nums (L.take (k+1)):=by
 rw [qd4 L k h];intro c hcm;rcases qaN.1 hcm with h1 | h1
 ·exact hk c h1
 ·rw [qap.1 h1];exact hc
def ReadsAs (w:World) (s:List UInt8) (e:Ending) (w':World):Prop:=∃v ok,e=.returned (.tuple #[v,.bool ok])/\(ok=true↔Valid s)/\(∃a n c b,v=.agg #[.slice a n c,.bool b])/\Below w.heap.size w w'
theorem qnn (s:ByteArray) (w:World) :
  Calls Tryz.prog 206 #[.string s] w fun e w'=>ReadsAs w s.data.toList e w':=by
 have hc:=fun W=>Tryz.strings_CutPrefix s ⟨#[45]⟩ W
 obtain⟨t,ht⟩:=qX ((⟨(Lib.trimPrefix s.data.toList (ByteArray.mk #[45]).data.toList).toArray⟩:ByteArray):ByteArray);have htl:t.data.toList=body s.data.toList:=by rw [<-ht];rfl
 obtain⟨b,hb⟩:=qX (Lib.hasPrefix s.data.toList (ByteArray.mk #[45]).data.toList);have hbs:signd s.data.toList=b:=hb;rw [ht,hb] at hc;obtain⟨L,hL⟩:=qX (body s.data.toList);obtain⟨n,hn⟩:=qX t.size;have hLn:L.length=n:=by rw [<-hL,<-htl,<-hn];rfl
 have hat:∀k (h:k<t.size) (h':k<L.length),t[k]=L[k]:=fun k h h'=>by subst hL;simp only [<-htl];rfl
 have hV:Valid s.data.toList↔(Nums L/\0<L.length/\L.length<=600/\(L.head? = some 48->L.length=1/\b=false)):=by
  subst hL;subst hbs;exact⟨fun h=>⟨h.nums,h.pos,h.le,h.lead⟩,fun h=>⟨h.1,h.2.1,h.2.2.1,h.2.2.2⟩⟩
 have hg:=fun (h1:Nums L) (h2:0<L.length) (h3:L.length<=600) W=>whole.qd3 t (by rw [htl,hL];exact h1) (by rw [hn,<-hLn];exact h2) (by rw [hn,<-hLn];omega) W
 have HC:=qH hc;have HV:=qH hV;have HG:=qH hg;have Hat:=qH hat;have HL:=qH (qA hLn hn);clear hc hV hg hbs hb htl ht hL hat;have HA:Hid (∀cs,Below w.heap.size w (w.alloc (.cells cs 286))):=qH fun cs=>qB.alloc qN _
 have hzr:(w.alloc (.cells #[.slice none 0 0,.bool false] 286)).heap[w.heap.size]? = some (.cells #[.slice none 0 0,.bool false] 286 (0,0)):=qM _ _ _ rfl;have HZ:=qH hzr;clear hzr
 by_cases hlen:n=0\/600<n
 ·have hno:¬Valid s.data.toList:=fun h=>by have:=HV.out.1 h;omega
  have HN:=qH hno;clear hno
  by_cases hn0:n=0
  ·subst hn0;go_enter Tryz.func206,Tryz.ntmps206;go_wp2_with fail;refine (HC.out _).mono ?_;rintro e w1 ⟨rfl,rfl⟩;go_wp2_with fail;refine qR (v:=.tuple #[.agg #[.slice none 0 0,.bool false],.bool false]) (rB_ rfl w.heap.size HZ.out Tryz.underlying286 2) rfl ⟨_,_,rfl,qd9 HN.out,⟨_,_,_,_,rfl⟩,HA.out _⟩
  ·have h6:(600:Int)<n:=by omega
   have hn1:((n:Int) == 0)=false:=by rw [beq_eq_false_iff_ne];omega
   go_enter Tryz.func206,Tryz.ntmps206;go_wp2_with fail;refine (HC.out _).mono ?_;rintro e w1 ⟨rfl,rfl⟩;go_wp2_with fail;refine qR (v:=.tuple #[.agg #[.slice none 0 0,.bool false],.bool false]) (rB_ rfl w.heap.size HZ.out Tryz.underlying286 2) rfl ⟨_,_,rfl,qd9 HN.out,⟨_,_,_,_,rfl⟩,HA.out _⟩
 ·have h6:¬(600:Int)<n:=by omega
  have h0:(0:Int)<n:=by omega
  have hn1:((n:Int) == 0)=false:=by rw [beq_eq_false_iff_ne];omega
  have hn6:n<=600:=by omega
  have hlen2:=qH hlen;clear hlen;go_enter Tryz.func206,Tryz.ntmps206;go_wp2_with fail;refine (HC.out _).mono ?_;rintro e w1 ⟨rfl,rfl⟩;go_wp2_with fail
  go_loopw [23] (fun x23 W=>∃k:Nat,k<=n/\x23=.int .i64 k/\W=w.alloc (.cells #[.slice none 0 0,.bool false] 286)/\Hid (Nums (L.take k))) (fun x23 _=>n-(intOf x23).toNat)
  case atStart=>exact⟨0,qam _,rfl,rfl,qH (fun c hc=>by simp at hc)⟩
  case round =>
   obtain⟨k,hk,rfl,rfl,hI⟩:=hrel
   by_cases hkn:k<n
   ·have hki:(k:Int)<n:=by omega
    have hLk:k<L.length:=by rw [HL.out.1];exact hkn
    have hsz:k<t.size:=by rw [HL.out.2];exact hkn
    have hai:=Hat.out k hsz hLk;obtain⟨c,hcc⟩:=qX (L[k].toNat);have hsc:(t[k]'hsz).toNat=c:=by rw [hai,hcc]
    by_cases hgood:48<=c/\c<=57
    ·have hnx:=qmB hLk hI.out (by rw [hcc];exact hgood);have g1:¬(c:Int)<48:=by omega
     have g2:¬(57:Int)<c:=by omega
     have HX:=qH hnx;clear hnx hcc hai hgood;go_wp2;go_roundw
     case rel=>exact⟨k+1,hkn,by go_num,trivial,HX⟩
     case measure=>simp [intOf];omega
    ·have hno:¬Valid s.data.toList:=fun h=>not_nums hLk (by rw [hcc];exact hgood) (HV.out.1 h).1
     have HN:=qH hno;have Hg:=qH hgood;clear hno hcc hai hgood
     by_cases g1:(c:Int)<48
     ·go_wp2_with fail;refine qR (v:=.tuple #[.agg #[.slice none 0 0,.bool false],.bool false]) (rB_ rfl w.heap.size HZ.out Tryz.underlying286 2) rfl ⟨_,_,rfl,qd9 HN.out,⟨_,_,_,_,rfl⟩,HA.out _⟩
     ·have g2:(57:Int)<c:=by have:=Hg.out;omega
      go_wp2_with fail;refine qR (v:=.tuple #[.agg #[.slice none 0 0,.bool false],.bool false]) (rB_ rfl w.heap.size HZ.out Tryz.underlying286 2) rfl ⟨_,_,rfl,qd9 HN.out,⟨_,_,_,_,rfl⟩,HA.out _⟩
   ·obtain rfl:k=n:=by omega
    have hnum:Nums L:=by have h:=hI.out;rwa [qak (by rw [HL.out.1];exact qad _)] at h
    have hL0:0<L.length:=by rw [HL.out.1];omega
    have hsz:0<t.size:=by rw [HL.out.2];omega
    have hai:=Hat.out 0 hsz hL0;obtain⟨c,hcc⟩:=qX (L[0].toNat);have hsc:(t[0]'hsz).toNat=c:=by rw [hai,hcc]
    have hhead:L.head? = some 48↔c=48:=by
     rw [List.head?_eq_getElem?,qae hL0,<-hcc];exact⟨fun e=>by rw [qai e];rfl,fun e=>congrArg some (qib e)⟩
    have Hh:=qH hhead;have Hn:=qH hnum;clear hhead hnum hcc hai;have hgg:=HG.out Hn.out hL0 (by rw [HL.out.1];exact hn6);have HGG:=qH hgg;clear hgg
    by_cases hc48:c=48
    ·subst hc48
     by_cases hbad:b=true\/1<k
     ·have hno:¬Valid s.data.toList:=fun h=>by
       have h1:=(HV.out.1 h).2.2.2 (Hh.out.2 rfl);rcases hbad with h2 | h2
       ·rw [h2] at h1;exact absurd h1.2 (by decide)
       ·rw [HL.out.1] at h1;omega
      have HN:=qH hno;clear hno;cases b with
      | true =>
       go_wp2_with fail;refine qR (v:=.tuple #[.agg #[.slice none 0 0,.bool false],.bool false]) (rB_ rfl w.heap.size HZ.out Tryz.underlying286 2) rfl ⟨_,_,rfl,qd9 HN.out,⟨_,_,_,_,rfl⟩,HA.out _⟩
      | false =>
       have h1k:(1:Int)<k:=by
        rcases hbad with h | h
        ·cases h
        ·omega
       clear hbad;go_wp2_with fail;refine qR (v:=.tuple #[.agg #[.slice none 0 0,.bool false],.bool false]) (rB_ rfl w.heap.size HZ.out Tryz.underlying286 2) rfl ⟨_,_,rfl,qd9 HN.out,⟨_,_,_,_,rfl⟩,HA.out _⟩
     ·have hb:b=false:=by
       cases b with
       | true=>exact absurd (qan rfl) hbad
       | false=>rfl
      have hk1:¬(1:Int)<k:=by omega
      subst hb;have hyes:Valid s.data.toList:=HV.out.2 ⟨Hn.out,hL0,by rw [HL.out.1];exact hn6,fun _=>⟨by rw [HL.out.1];omega,rfl⟩⟩;have HY:=qH hyes;clear hyes hbad;go_wp2_with fail;refine (HGG.out _).mono ?_;rintro e w2 ⟨v,rfl,hb2,hv⟩;have hrow9:=(hb2.block w.heap.size (by simp)).trans HZ.out;have hbw9:Below w.heap.size w w2:=(HA.out _).trans (hb2.mono (HA.out _).size);obtain⟨am,bm,om,cm,nm,M,rfl,_,_⟩:=hv;have HR:=qH (qA hrow9 (qS hbw9 qN #[.slice am nm cm,.bool false]));clear hrow9 hbw9 hb2
      go_wp2_with ((with_reducible refine wpList_store_row rfl 286 _ _ rfl w.heap.size #[.slice am nm cm,.bool false] ?_ ?_ 286 _ HR.out.1 2 ?_ ?_ ?_ ?_ ?_);(next=>rfl);(next=>rfl);(next=>kernel_rfl);(next=>rfl);(next=>rfl);(next=>rfl))
      refine qR (v:=.tuple #[.agg #[.slice am nm cm,.bool false],.bool true]) (rB_ rfl w.heap.size (qT _ _ _ _ _ _ HR.out.1) Tryz.underlying286 2) rfl ⟨_,_,rfl,qjF HY.out,⟨_,_,_,_,rfl⟩,HR.out.2⟩
    ·have hcb:((c:Int) == 48)=false:=by rw [beq_eq_false_iff_ne];omega
     have hyes:Valid s.data.toList:=HV.out.2 ⟨Hn.out,hL0,by rw [HL.out.1];exact hn6,fun h=>absurd (Hh.out.1 h) hc48⟩;have HY:=qH hyes;clear hyes;go_wp2_with fail;refine (HGG.out _).mono ?_;rintro e w2 ⟨v,rfl,hb2,hv⟩;have hrow9:=(hb2.block w.heap.size (by simp)).trans HZ.out;have hbw9:Below w.heap.size w w2:=(HA.out _).trans (hb2.mono (HA.out _).size);obtain⟨am,bm,om,cm,nm,M,rfl,_,_⟩:=hv;have HR:=qH (qA hrow9 (qS hbw9 qN #[.slice am nm cm,.bool b]));clear hrow9 hbw9 hb2
     go_wp2_with ((with_reducible refine wpList_store_row rfl 286 _ _ rfl w.heap.size #[.slice am nm cm,.bool b] ?_ ?_ 286 _ HR.out.1 2 ?_ ?_ ?_ ?_ ?_);(next=>rfl);(next=>rfl);(next=>kernel_rfl);(next=>rfl);(next=>rfl);(next=>rfl))
     refine qR (v:=.tuple #[.agg #[.slice am nm cm,.bool b],.bool true]) (rB_ rfl w.heap.size (qT _ _ _ _ _ _ HR.out.1) Tryz.underlying286 2) rfl ⟨_,_,rfl,qjF HY.out,⟨_,_,_,_,rfl⟩,HR.out.2⟩
def qfb (w:World) (P:Prop) (err:Int) (e:Ending) (w':World):Prop:=∃c:Int,e=.returned (.int .i64 c)/\(c=0/\P\/c=err/\¬P)/\Below w.heap.size w w'
theorem qeT (s:ByteArray) (w:World) :
  Calls Tryz.prog 146 #[.string s] w fun e w'=>qfb w (Valid s.data.toList) 10 e w':=by
 have HR:=qH (qnn s w);go_enter Tryz.func146,Tryz.ntmps146;go_wp2_with fail;refine HR.out.mono ?_;rintro e w1 ⟨v,ok,rfl,hok,⟨a,n,c,b,rfl⟩,hb⟩;have HB:=qH (hb.alloc hb.size (.cells #[.slice a n c,.bool b] 286));have HK:=qH hok;clear hb hok;cases ok with
 | true =>
  go_wp2;go_ret;exact⟨0,rfl,qan ⟨rfl,by simpa using HK.out⟩,HB.out⟩
 | false =>
  go_wp2;go_ret;exact⟨10,rfl,qah ⟨rfl,by simpa using HK.out⟩,HB.out⟩
theorem qiQ {z N:Int} {d D:Nat} (hd:d≠0) (hc:z.natAbs.Coprime d) (hD:D≠0) (h:z*D=N*d) {q:Rat} (hq:q=mkRat N D):q.num=z/\q.den=d:=by
 have e:q=(⟨z,d,hd,hc⟩:Rat):=by
  rw [hq,Rat.mk_eq_mkRat];exact ((Rat.mkRat_eq_iff hd hD).2 h).symm
 rw [e];exact⟨rfl,rfl⟩
theorem rat_mul {p q:Rat} {z:Int} {d:Nat} (hd:d≠0) (hc:z.natAbs.Coprime d) (h:z*(p.den*q.den:Nat)=p.num*q.num*d):(p*q).num=z/\(p*q).den=d :=
 qiQ hd hc (Nat.mul_ne_zero p.den_nz q.den_nz) h (Rat.mul_def' p q)
theorem rat_add {p q:Rat} {z:Int} {d:Nat} (hd:d≠0) (hc:z.natAbs.Coprime d) (h:z*(p.den*q.den:Nat)=(p.num*q.den+q.num*p.den)*d):(p+q).num=z/\(p+q).den=d :=
 qiQ hd hc (Nat.mul_ne_zero p.den_nz q.den_nz) h (Rat.add_def' p q)
theorem mul_low {x X y Y:Nat} (h1:x.Coprime X) (h2:y.Coprime Y) (hX:0<X) (hY:0<Y) :
  (x / x.gcd Y*(y / y.gcd X)).Coprime (X / y.gcd X*(Y / x.gcd Y))/\x / x.gcd Y*(y / y.gcd X)*(X*Y)=x*y*(X / y.gcd X*(Y / x.gcd Y)):=by
 have hg:0<x.gcd Y:=qa8 _ hY;have hh:0<y.gcd X:=qa8 _ hX;obtain⟨a,ha⟩:=qbJ x Y;obtain⟨d,hd⟩:=qaU x Y;obtain⟨c,hc⟩:=qbJ y X;obtain⟨b,hb⟩:=qaU y X;have ea:x / x.gcd Y=a:=by (conv=>lhs;lhs;rw [ha]);exact qaW _ hg
 have ed:Y / x.gcd Y=d:=by (conv=>lhs;lhs;rw [hd]);exact qaW _ hg
 have ec:y / y.gcd X=c:=by (conv=>lhs;lhs;rw [hc]);exact qaW _ hh
 have eb:X / y.gcd X=b:=by (conv=>lhs;lhs;rw [hb]);exact qaW _ hh
 have cad:a.Coprime d:=by have:=Nat.coprime_div_gcd_div_gcd hg;rwa [ea,ed] at this
 have ccb:c.Coprime b:=by have:=Nat.coprime_div_gcd_div_gcd hh;rwa [ec,eb] at this
 have cab:a.Coprime b:=Nat.Coprime.coprime_dvd_left ⟨_,by rw [qau];exact ha⟩ (Nat.Coprime.coprime_dvd_right ⟨_,by rw [qau];exact hb⟩ h1);have ccd:c.Coprime d:=Nat.Coprime.coprime_dvd_left ⟨_,by rw [qau];exact hc⟩ (Nat.Coprime.coprime_dvd_right ⟨_,by rw [qau];exact hd⟩ h2);rw [ea,eb,ec,ed];refine⟨Nat.Coprime.mul_left (Nat.Coprime.mul_right cab cad) (Nat.Coprime.mul_right ccb ccd),?_⟩;generalize x.gcd Y=g at *;generalize y.gcd X=h at *;subst ha hb;rw [hc,hd];simp only [qau,qbv]
theorem qlo {x y:Int} {l r X:Nat} (hx:x.natAbs.Coprime X) (hr:r∣X) (hlr:l.Coprime r):(x*l+y*r).natAbs.Coprime r:=by
 unfold Nat.Coprime;have hd1:=qbJ (x*l+y*r).natAbs r;have hd2:=qaU (x*l+y*r).natAbs r;generalize (x*l+y*r).natAbs.gcd r=d at *;have h1:(d:Int)∣x*l+y*r:=Int.ofNat_dvd_left.2 hd1;have h2:(d:Int)∣y*r:=Int.dvd_mul_of_dvd_right (Int.natCast_dvd_natCast.2 hd2);have h3:(d:Int)∣x*l:=(Int.dvd_add_left h2).1 h1;have h4:d∣x.natAbs*l:=by have:=Int.ofNat_dvd_left.1 h3;rwa [qaE,qal] at this
 have h5:d.Coprime l:=Nat.Coprime.coprime_dvd_left hd2 hlr.symm;have h6:d∣x.natAbs:=h5.dvd_of_dvd_mul_right h4;exact Nat.eq_one_of_dvd_one (by rw [<-hx];exact Nat.dvd_gcd h6 (Nat.dvd_trans hd2 hr))
theorem add_low {x y:Int} {X Y:Nat} (h1:x.natAbs.Coprime X) (h2:y.natAbs.Coprime Y) (hX:0<X) (T:Int) (hT:T=x*(Y / X.gcd Y:Nat)+y*(X / X.gcd Y:Nat)) :
  (T.natAbs / T.natAbs.gcd (X.gcd Y)).Coprime (X / X.gcd Y*(Y / T.natAbs.gcd (X.gcd Y))) /\
   T.tdiv (T.natAbs.gcd (X.gcd Y):Nat)*(X*Y:Nat)=(x*Y+y*X)*(X / X.gcd Y*(Y / T.natAbs.gcd (X.gcd Y)):Nat):=by
 have hg:0<X.gcd Y:=Nat.gcd_pos_of_pos_left _ hX;have hh:0<T.natAbs.gcd (X.gcd Y):=qa8 _ hg;obtain⟨r,hr⟩:=qbJ X Y;obtain⟨l,hl⟩:=qaU X Y;have er:X / X.gcd Y=r:=by (conv=>lhs;lhs;rw [hr]);exact qaW _ hg
 have el:Y / X.gcd Y=l:=by (conv=>lhs;lhs;rw [hl]);exact qaW _ hg
 have clr:r.Coprime l:=by have:=Nat.coprime_div_gcd_div_gcd hg;rwa [er,el] at this
 rw [er,el] at hT;have cTr:T.natAbs.Coprime r:=by rw [hT];exact qlo h1 ⟨_,by rw [qau];exact hr⟩ clr.symm
 have cTl:T.natAbs.Coprime l:=by rw [hT,Int.add_comm];exact qlo h2 ⟨_,by rw [qau];exact hl⟩ clr
 obtain⟨n,hn⟩:=qbJ T.natAbs (X.gcd Y);obtain⟨k,hk⟩:=qaU T.natAbs (X.gcd Y);have en:T.natAbs / T.natAbs.gcd (X.gcd Y)=n:=by (conv=>lhs;lhs;rw [hn]);exact qaW _ hh
 have ek:X.gcd Y / T.natAbs.gcd (X.gcd Y)=k:=by (conv=>lhs;lhs;rw [hk]);exact qaW _ hh
 have cnk:n.Coprime k:=by have:=Nat.coprime_div_gcd_div_gcd hh;rwa [en,ek] at this
 have hnT:n∣T.natAbs:=⟨_,by rw [qau];exact hn⟩;have eY:Y / T.natAbs.gcd (X.gcd Y)=k*l:=by
  conv=>lhs;lhs;rw [hl,hk]
  rw [qav];exact qaW _ hh
 rw [en,er,eY];refine⟨Nat.Coprime.mul_right (Nat.Coprime.coprime_dvd_left hnT cTr) (Nat.Coprime.mul_right cnk (Nat.Coprime.coprime_dvd_left hnT cTl)),?_⟩;have eT:T=T.tdiv (T.natAbs.gcd (X.gcd Y):Nat)*(T.natAbs.gcd (X.gcd Y):Nat):=by
  refine (Int.tdiv_mul_cancel (Int.ofNat_dvd_left.2 (qbJ _ _))).symm
 have hsum:x*Y+y*X=(X.gcd Y:Int)*T:=by
  conv=>lhs;rw [hl,hr]
  rw [hT];push_cast;grind
 generalize T.tdiv (T.natAbs.gcd (X.gcd Y):Nat)=t at *;generalize T.natAbs.gcd (X.gcd Y)=h at *;rw [hsum,eT];generalize X.gcd Y=g at *;subst hk hr hl
 push_cast
 grind
