import Derived.Test.YtplkdeknjghobaaGreatDoorBb5
import Derived.Test.YtplkdeknjghobaaGreatDoorBb6
set_option maxRecDepth 100000
set_option maxHeartbeats 0
namespace Go.Proofs.YtplkdeknjghobaaGreatDoor
open Go.RowKit Go.Proofs.Tryz
theorem qeb {P:Prop} (h:¬P):false=true↔P:=⟨fun e=>absurd e (by decide),fun x=>absurd x h⟩
theorem qj5 {P:Prop} (h:P):true=true↔P:=⟨fun _=>h,fun _=>rfl⟩
theorem not_nums {L:List UInt8} {k:Nat} (h:k<L.length) (F:¬(48<=L[k].toNat/\L[k].toNat<=57)):¬Nums L:=fun H=>F (H _ (List.getElem_mem h))
theorem qne {L:List UInt8} {k:Nat} (h:k<L.length) (I:Nums (L.take k)) (H:48<=L[k].toNat/\L[k].toNat<=57):Nums (L.take (k+1)):=by
 rw [qd8 L k h];intro c F;rcases qaK.1 F with h1 | h1
 ·exact I c h1
 ·rw [qap.1 h1];exact H
def ReadsAs (w:World) (s:List UInt8) (e:Ending) (F:World):Prop:=∃v ok,e=.returned (.tuple #[v,.bool ok])/\(ok=true↔Valid s)/\(∃a n c b,v=.agg #[.slice a n c,.bool b])/\Below w.heap.size w F
theorem qn6 (s:ByteArray) (w:World) :
  Calls prog 206 #[.string s] w fun e w'=>ReadsAs w s.data.toList e w':=by
 have hc:=fun W=>Tryz.strings_CutPrefix s ⟨#[45]⟩ W
 obtain⟨t,ht⟩:=qX ((⟨(Lib.trimPrefix s.data.toList (ByteArray.mk #[45]).data.toList).toArray⟩:ByteArray):ByteArray);have ag:t.data.toList=body s.data.toList:=by rw [<-ht];rfl
 obtain⟨b,hb⟩:=qX (Lib.hasPrefix s.data.toList (ByteArray.mk #[45]).data.toList);have aB:signd s.data.toList=b:=hb;rw [ht,hb] at hc;obtain⟨L,hL⟩:=qX (body s.data.toList);obtain⟨n,hn⟩:=qX t.size;have au:L.length=n:=by rw [<-hL,<-ag,<-hn];rfl
 have aA:∀k (h:k<t.size) (h':k<L.length),t[k]=L[k]:=fun k h h'=>by subst hL;simp only [<-ag];rfl
 have hV:Valid s.data.toList↔(Nums L/\0<L.length/\L.length<=600/\(L.head? = some 48->L.length=1/\b=false)):=by
  subst hL;subst aB;exact⟨fun h=>⟨h.nums,h.pos,h.le,h.lead⟩,fun h=>⟨h.1,h.2.1,h.2.2.1,h.2.2.2⟩⟩
 have hg:=fun (h1:Nums L) (h2:0<L.length) (h3:L.length<=600) W=>whole.qk6 t (by rw [ag,hL];exact h1) (by rw [hn,<-au];exact h2) (by rw [hn,<-au];omega) W
 have HC:=qH hc;have HV:=qH hV;have HG:=qH hg;have az:=qH aA;have HL:=qH (qA au hn);clear hc hV hg aB hb ag ht hL aA;have HA:Hu (∀cs,Below w.heap.size w (w.alloc (.cells cs 286))):=qH fun cs=>qB.alloc qN _
 have aF:(w.alloc (.cells #[.slice none 0 0,.bool false] 286)).heap[w.heap.size]? = some (.cells #[.slice none 0 0,.bool false] 286 (0,0)):=qM _ _ _ rfl;have HZ:=qH aF;clear aF
 by_cases ai:n=0\/600<n
 ·have U:¬Valid s.data.toList:=fun h=>by have:=HV.o.1 h;omega
  have HN:=qH U;clear U
  by_cases aH:n=0
  ·subst aH;go_enter func206,ntmps206;go_wp2_with fail;refine (HC.o _).mono ?_;rintro e w1 ⟨rfl,rfl⟩;go_wp2_with fail;refine qR (v:=.tuple #[.agg #[.slice none 0 0,.bool false],.bool false]) (rB_ rfl w.heap.size HZ.o underlying286 2) rfl ⟨_,_,rfl,qeb HN.o,⟨_,_,_,_,rfl⟩,HA.o _⟩
  ·have h6:(600:Int)<n:=by omega
   have aI:((n:Int) == 0)=false:=by rw [beq_eq_false_iff_ne];omega
   go_enter func206,ntmps206;go_wp2_with fail;refine (HC.o _).mono ?_;rintro e w1 ⟨rfl,rfl⟩;go_wp2_with fail;refine qR (v:=.tuple #[.agg #[.slice none 0 0,.bool false],.bool false]) (rB_ rfl w.heap.size HZ.o underlying286 2) rfl ⟨_,_,rfl,qeb HN.o,⟨_,_,_,_,rfl⟩,HA.o _⟩
 ·have h6:¬(600:Int)<n:=by omega
  have h0:(0:Int)<n:=by omega
  have aI:((n:Int) == 0)=false:=by rw [beq_eq_false_iff_ne];omega
  have ax:n<=600:=by omega
  have aG:=qH ai;clear ai;go_enter func206,ntmps206;go_wp2_with fail;refine (HC.o _).mono ?_;rintro e w1 ⟨rfl,rfl⟩;go_wp2_with fail
  go_loopw [23] (fun x23 W=>∃k:Nat,k<=n/\x23=.int .i64 k/\W=w.alloc (.cells #[.slice none 0 0,.bool false] 286)/\Hu (Nums (L.take k))) (fun x23 _=>n-(intOf x23).toNat)
  case atStart=>exact⟨0,qal _,rfl,rfl,qH (fun c hc=>by simp at hc)⟩
  case round =>
   obtain⟨k,hk,rfl,rfl,hI⟩:=hrel
   by_cases av:k<n
   ·have aN:(k:Int)<n:=by omega
    have ak:k<L.length:=by rw [HL.o.1];exact av
    have af:k<t.size:=by rw [HL.o.2];exact av
    have Z:=az.o k af ak;obtain⟨c,I⟩:=qX (L[k].toNat);have aJ:(t[k]'af).toNat=c:=by rw [Z,I]
    by_cases F:48<=c/\c<=57
    ·have aD:=qne ak hI.o (by rw [I];exact F);have g1:¬(c:Int)<48:=by omega
     have g2:¬(57:Int)<c:=by omega
     have HX:=qH aD;clear aD I Z F;go_wp2;go_roundw
     case rel=>exact⟨k+1,av,by go_num,trivial,HX⟩
     case measure=>simp [intOf];omega
    ·have U:¬Valid s.data.toList:=fun h=>not_nums ak (by rw [I];exact F) (HV.o.1 h).1
     have HN:=qH U;have Hg:=qH F;clear U I Z F
     by_cases g1:(c:Int)<48
     ·go_wp2_with fail;refine qR (v:=.tuple #[.agg #[.slice none 0 0,.bool false],.bool false]) (rB_ rfl w.heap.size HZ.o underlying286 2) rfl ⟨_,_,rfl,qeb HN.o,⟨_,_,_,_,rfl⟩,HA.o _⟩
     ·have g2:(57:Int)<c:=by have:=Hg.o;omega
      go_wp2_with fail;refine qR (v:=.tuple #[.agg #[.slice none 0 0,.bool false],.bool false]) (rB_ rfl w.heap.size HZ.o underlying286 2) rfl ⟨_,_,rfl,qeb HN.o,⟨_,_,_,_,rfl⟩,HA.o _⟩
   ·obtain rfl:k=n:=by omega
    have aj:Nums L:=by have h:=hI.o;rwa [qak (by rw [HL.o.1];exact qae _)] at h
    have aa:0<L.length:=by rw [HL.o.1];omega
    have af:0<t.size:=by rw [HL.o.2];omega
    have Z:=az.o 0 af aa;obtain⟨c,I⟩:=qX (L[0].toNat);have aJ:(t[0]'af).toNat=c:=by rw [Z,I]
    have ae:L.head? = some 48↔c=48:=by
     rw [List.head?_eq_getElem?,qad aa,<-I];exact⟨fun e=>by rw [qah e];rfl,fun e=>congrArg some (qif e)⟩
    have Hh:=qH ae;have Hn:=qH aj;clear ae aj I Z;have aC:=HG.o Hn.o aa (by rw [HL.o.1];exact ax);have ay:=qH aC;clear aC
    by_cases ah:c=48
    ·subst ah
     by_cases J:b=true\/1<k
     ·have U:¬Valid s.data.toList:=fun h=>by
       have h1:=(HV.o.1 h).2.2.2 (Hh.o.2 rfl);rcases J with h2 | h2
       ·rw [h2] at h1;exact absurd h1.2 (by decide)
       ·rw [HL.o.1] at h1;omega
      have HN:=qH U;clear U;cases b with
      | true =>
       go_wp2_with fail;refine qR (v:=.tuple #[.agg #[.slice none 0 0,.bool false],.bool false]) (rB_ rfl w.heap.size HZ.o underlying286 2) rfl ⟨_,_,rfl,qeb HN.o,⟨_,_,_,_,rfl⟩,HA.o _⟩
      | false =>
       have aK:(1:Int)<k:=by
        rcases J with h | h
        ·cases h
        ·omega
       clear J;go_wp2_with fail;refine qR (v:=.tuple #[.agg #[.slice none 0 0,.bool false],.bool false]) (rB_ rfl w.heap.size HZ.o underlying286 2) rfl ⟨_,_,rfl,qeb HN.o,⟨_,_,_,_,rfl⟩,HA.o _⟩
     ·have hb:b=false:=by
       cases b with
       | true=>exact absurd (qan rfl) J
       | false=>rfl
      have aM:¬(1:Int)<k:=by omega
      subst hb;have V:Valid s.data.toList:=HV.o.2 ⟨Hn.o,aa,by rw [HL.o.1];exact ax,fun _=>⟨by rw [HL.o.1];omega,rfl⟩⟩;have HY:=qH V;clear V J;go_wp2_with fail;refine (ay.o _).mono ?_;rintro e w2 ⟨v,rfl,Y,hv⟩;have H:=(Y.block w.heap.size (by simp)).trans HZ.o;have O:Below w.heap.size w w2:=(HA.o _).trans (Y.mono (HA.o _).size);obtain⟨am,bm,om,cm,nm,M,rfl,_,_⟩:=hv;have HR:=qH (qA H (qS O qN #[.slice am nm cm,.bool false]));clear H O Y
      go_wp2_with ((with_reducible refine wpList_store_row rfl 286 _ _ rfl w.heap.size #[.slice am nm cm,.bool false] ?_ ?_ 286 _ HR.o.1 2 ?_ ?_ ?_ ?_ ?_);(next=>rfl);(next=>rfl);(next=>kernel_rfl);(next=>rfl);(next=>rfl);(next=>rfl))
      refine qR (v:=.tuple #[.agg #[.slice am nm cm,.bool false],.bool true]) (rB_ rfl w.heap.size (qT _ _ _ _ _ _ HR.o.1) underlying286 2) rfl ⟨_,_,rfl,qj5 HY.o,⟨_,_,_,_,rfl⟩,HR.o.2⟩
    ·have aL:((c:Int) == 48)=false:=by rw [beq_eq_false_iff_ne];omega
     have V:Valid s.data.toList:=HV.o.2 ⟨Hn.o,aa,by rw [HL.o.1];exact ax,fun h=>absurd (Hh.o.1 h) ah⟩;have HY:=qH V;clear V;go_wp2_with fail;refine (ay.o _).mono ?_;rintro e w2 ⟨v,rfl,Y,hv⟩;have H:=(Y.block w.heap.size (by simp)).trans HZ.o;have O:Below w.heap.size w w2:=(HA.o _).trans (Y.mono (HA.o _).size);obtain⟨am,bm,om,cm,nm,M,rfl,_,_⟩:=hv;have HR:=qH (qA H (qS O qN #[.slice am nm cm,.bool b]));clear H O Y
     go_wp2_with ((with_reducible refine wpList_store_row rfl 286 _ _ rfl w.heap.size #[.slice am nm cm,.bool b] ?_ ?_ 286 _ HR.o.1 2 ?_ ?_ ?_ ?_ ?_);(next=>rfl);(next=>rfl);(next=>kernel_rfl);(next=>rfl);(next=>rfl);(next=>rfl))
     refine qR (v:=.tuple #[.agg #[.slice am nm cm,.bool b],.bool true]) (rB_ rfl w.heap.size (qT _ _ _ _ _ _ HR.o.1) underlying286 2) rfl ⟨_,_,rfl,qj5 HY.o,⟨_,_,_,_,rfl⟩,HR.o.2⟩
def qfd (w:World) (P:Prop) (F:Int) (e:Ending) (H:World):Prop:=∃c:Int,e=.returned (.int .i64 c)/\(c=0/\P\/c=F/\¬P)/\Below w.heap.size w H
theorem qeX (s:ByteArray) (w:World) :
  Calls prog 146 #[.string s] w fun e U=>qfd w (Valid s.data.toList) 10 e U:=by
 have O:=qH (qn6 s w);go_enter func146,ntmps146;go_wp2_with fail;refine O.o.mono ?_;rintro e V ⟨v,ok,rfl,F,⟨a,n,c,b,rfl⟩,H⟩;have I:=qH (H.alloc H.size (.cells #[.slice a n c,.bool b] 286));have J:=qH F;clear H F;cases ok with
 | true =>
  go_wp2;go_ret;exact⟨0,rfl,qan ⟨rfl,by simpa using J.o⟩,I.o⟩
 | false =>
  go_wp2;go_ret;exact⟨10,rfl,qag ⟨rfl,by simpa using J.o⟩,I.o⟩
theorem qi5 {z N:Int} {d D:Nat} (F:d≠0) (I:z.natAbs.Coprime d) (H:D≠0) (h:z*D=N*d) {q:Rat} (J:q=mkRat N D):q.num=z/\q.den=d:=by
 have e:q=(⟨z,d,F,I⟩:Rat):=by
  rw [J,Rat.mk_eq_mkRat];exact ((Rat.mkRat_eq_iff F H).2 h).symm
 rw [e];exact⟨rfl,rfl⟩
theorem rat_mul {p q:Rat} {z:Int} {d:Nat} (H:d≠0) (F:z.natAbs.Coprime d) (h:z*(p.den*q.den:Nat)=p.num*q.num*d):(p*q).num=z/\(p*q).den=d :=
 qi5 H F (qbo p.den_nz q.den_nz) h (Rat.mul_def' p q)
theorem rat_add {p q:Rat} {z:Int} {d:Nat} (H:d≠0) (F:z.natAbs.Coprime d) (h:z*(p.den*q.den:Nat)=(p.num*q.den+q.num*p.den)*d):(p+q).num=z/\(p+q).den=d :=
 qi5 H F (qbo p.den_nz q.den_nz) h (Rat.add_def' p q)
theorem mul_low {x X y Y:Nat} (h1:x.Coprime X) (h2:y.Coprime Y) (hX:0<X) (hY:0<Y) :
  (x / x.gcd Y*(y / y.gcd X)).Coprime (X / y.gcd X*(Y / x.gcd Y))/\x / x.gcd Y*(y / y.gcd X)*(X*Y)=x*y*(X / y.gcd X*(Y / x.gcd Y)):=by
 have hg:0<x.gcd Y:=qba _ hY;have hh:0<y.gcd X:=qba _ hX;obtain⟨a,O⟩:=qbN x Y;obtain⟨d,Z⟩:=qaW x Y;obtain⟨c,V⟩:=qbN y X;obtain⟨b,U⟩:=qaW y X;have ea:x / x.gcd Y=a:=by (conv=>lhs;lhs;rw [O]);exact qaY _ hg
 have ed:Y / x.gcd Y=d:=by (conv=>lhs;lhs;rw [Z]);exact qaY _ hg
 have ec:y / y.gcd X=c:=by (conv=>lhs;lhs;rw [V]);exact qaY _ hh
 have eb:X / y.gcd X=b:=by (conv=>lhs;lhs;rw [U]);exact qaY _ hh
 have H:a.Coprime d:=by have:=Nat.coprime_div_gcd_div_gcd hg;rwa [ea,ed] at this
 have I:c.Coprime b:=by have:=Nat.coprime_div_gcd_div_gcd hh;rwa [ec,eb] at this
 have F:a.Coprime b:=Nat.Coprime.coprime_dvd_left ⟨_,by rw [qat];exact O⟩ (Nat.Coprime.coprime_dvd_right ⟨_,by rw [qat];exact U⟩ h1);have J:c.Coprime d:=Nat.Coprime.coprime_dvd_left ⟨_,by rw [qat];exact V⟩ (Nat.Coprime.coprime_dvd_right ⟨_,by rw [qat];exact Z⟩ h2);rw [ea,eb,ec,ed];refine⟨Nat.Coprime.mul_left (Nat.Coprime.mul_right F H) (Nat.Coprime.mul_right I J),?_⟩;generalize x.gcd Y=g at *;generalize y.gcd X=h at *;subst O U;rw [V,Z];simp only [qat,qbr]
theorem qlW {x y:Int} {l r X:Nat} (hx:x.natAbs.Coprime X) (hr:r∣X) (I:l.Coprime r):(x*l+y*r).natAbs.Coprime r:=by
 unfold Nat.Coprime;have H:=qbN (x*l+y*r).natAbs r;have F:=qaW (x*l+y*r).natAbs r;generalize (x*l+y*r).natAbs.gcd r=d at *;have J:(d:Int)∣x*l+y*r:=Int.ofNat_dvd_left.2 H;have O:(d:Int)∣y*r:=Int.dvd_mul_of_dvd_right (Int.natCast_dvd_natCast.2 F);have U:(d:Int)∣x*l:=(Int.dvd_add_left O).1 J;have V:d∣x.natAbs*l:=by have:=Int.ofNat_dvd_left.1 U;rwa [qaF,qam] at this
 have Y:d.Coprime l:=Nat.Coprime.coprime_dvd_left F I.symm;have Z:d∣x.natAbs:=Y.dvd_of_dvd_mul_right V;exact Nat.eq_one_of_dvd_one (by rw [<-hx];exact Nat.dvd_gcd Z (Nat.dvd_trans F hr))
theorem add_low {x y:Int} {X Y:Nat} (h1:x.natAbs.Coprime X) (h2:y.natAbs.Coprime Y) (hX:0<X) (T:Int) (hT:T=x*(Y / X.gcd Y:Nat)+y*(X / X.gcd Y:Nat)) :
  (T.natAbs / T.natAbs.gcd (X.gcd Y)).Coprime (X / X.gcd Y*(Y / T.natAbs.gcd (X.gcd Y))) /\
   T.tdiv (T.natAbs.gcd (X.gcd Y):Nat)*(X*Y:Nat)=(x*Y+y*X)*(X / X.gcd Y*(Y / T.natAbs.gcd (X.gcd Y)):Nat):=by
 have hg:0<X.gcd Y:=Nat.gcd_pos_of_pos_left _ hX;have O:0<T.natAbs.gcd (X.gcd Y):=qba _ hg;obtain⟨r,U⟩:=qbN X Y;obtain⟨l,H⟩:=qaW X Y;have er:X / X.gcd Y=r:=by (conv=>lhs;lhs;rw [U]);exact qaY _ hg
 have el:Y / X.gcd Y=l:=by (conv=>lhs;lhs;rw [H]);exact qaY _ hg
 have F:r.Coprime l:=by have:=Nat.coprime_div_gcd_div_gcd hg;rwa [er,el] at this
 rw [er,el] at hT;have Z:T.natAbs.Coprime r:=by rw [hT];exact qlW h1 ⟨_,by rw [qat];exact U⟩ F.symm
 have V:T.natAbs.Coprime l:=by rw [hT,Int.add_comm];exact qlW h2 ⟨_,by rw [qat];exact H⟩ F
 obtain⟨n,hn⟩:=qbN T.natAbs (X.gcd Y);obtain⟨k,hk⟩:=qaW T.natAbs (X.gcd Y);have en:T.natAbs / T.natAbs.gcd (X.gcd Y)=n:=by (conv=>lhs;lhs;rw [hn]);exact qaY _ O
 have ek:X.gcd Y / T.natAbs.gcd (X.gcd Y)=k:=by (conv=>lhs;lhs;rw [hk]);exact qaY _ O
 have aa:n.Coprime k:=by have:=Nat.coprime_div_gcd_div_gcd O;rwa [en,ek] at this
 have I:n∣T.natAbs:=⟨_,by rw [qat];exact hn⟩;have eY:Y / T.natAbs.gcd (X.gcd Y)=k*l:=by
  conv=>lhs;lhs;rw [H,hk]
  rw [qaw];exact qaY _ O
 rw [en,er,eY];refine⟨Nat.Coprime.mul_right (Nat.Coprime.coprime_dvd_left I Z) (Nat.Coprime.mul_right aa (Nat.Coprime.coprime_dvd_left I V)),?_⟩;have eT:T=T.tdiv (T.natAbs.gcd (X.gcd Y):Nat)*(T.natAbs.gcd (X.gcd Y):Nat):=by
  refine (Int.tdiv_mul_cancel (Int.ofNat_dvd_left.2 (qbN _ _))).symm
 have J:x*Y+y*X=(X.gcd Y:Int)*T:=by
  conv=>lhs;rw [H,U]
  rw [hT];push_cast;grind
 generalize T.tdiv (T.natAbs.gcd (X.gcd Y):Nat)=t at *;generalize T.natAbs.gcd (X.gcd Y)=h at *;rw [J,eT];generalize X.gcd Y=g at *;subst hk U H
 push_cast
 grind
