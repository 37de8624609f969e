import Derived.Test.YtjalhnlhcdfncaaGreatDoorBg5
import Derived.Test.YtjalhnlhcdfncaaGreatDoorBg6
set_option maxRecDepth 100000
set_option maxHeartbeats 0
namespace Go.Proofs.YtjalhnlhcdfncaaGreatDoor
open Go.RowKit Go.Proofs.Tryz
theorem qe6 {P:Prop} (h:¬P):false=true↔P:=⟨fun e=>absurd e (by decide),fun x=>absurd x h⟩
theorem qji {P:Prop} (h:P):true=true↔P:=⟨fun _=>h,fun _=>rfl⟩
theorem not_nums {L:List UInt8} {k:Nat} (h:k<L.length) (E:¬(48<=L[k].toNat/\L[k].toNat<=57)):¬Nums L:=fun F=>E (F _ (qbB h))
theorem qlV {L:List UInt8} {k:Nat} (h:k<L.length) (G:Nums (L.take k)) (F:48<=L[k].toNat/\L[k].toNat<=57):Nums (L.take (k+1)):=by
 rw [qdF L k h];intro c E;rcases qaI.1 E with h1 | h1
 ·exact G c h1
 ·rw [qao.1 h1];exact F
def ReadsAs (w:World) (s:List UInt8) (e:Ending) (E:World):Prop:=∃v ok,e=.returned (.tuple #[v,.bool ok])/\(ok=true↔Valid s)/\(∃a n c b,v=.agg #[.slice a n c,.bool b])/\Below w.heap.size w E
theorem qmz (s:ByteArray) (w:World) :
  Calls prog 192 #[.string s] w fun e w'=>ReadsAs w s.data.toList e w':=by
 have hc:=fun W=>Tryz.strings_CutPrefix s ⟨#[45]⟩ W
 obtain⟨t,ht⟩:=qX ((⟨(Lib.trimPrefix s.data.toList (ByteArray.mk #[45]).data.toList).toArray⟩:ByteArray):ByteArray);have ae:t.data.toList=body s.data.toList:=by rw [<-ht];rfl
 obtain⟨b,hb⟩:=qX (Lib.hasPrefix s.data.toList (ByteArray.mk #[45]).data.toList);have az:signd s.data.toList=b:=hb;rw [ht,hb] at hc;obtain⟨L,hL⟩:=qX (body s.data.toList);obtain⟨n,hn⟩:=qX t.size;have aj:L.length=n:=by rw [<-hL,<-ae,<-hn];rfl
 have ay:∀k (h:k<t.size) (h':k<L.length),t[k]=L[k]:=fun k h h'=>by subst hL;simp only [<-ae];rfl
 have hV:Valid s.data.toList↔(Nums L/\0<L.length/\L.length<=600/\(L.head? = some 48->L.length=1/\b=false)):=by
  subst hL;subst az;exact⟨fun h=>⟨h.nums,h.pos,h.le,h.lead⟩,fun h=>⟨h.1,h.2.1,h.2.2.1,h.2.2.2⟩⟩
 have hg:=fun (h1:Nums L) (h2:0<L.length) (h3:L.length<=600) W=>whole.qj8 t (by rw [ae,hL];exact h1) (by rw [hn,<-aj];exact h2) (by rw [hn,<-aj];omega) W
 have HC:=qH hc;have HV:=qH hV;have HG:=qH hg;have ax:=qH ay;have HL:=qH (qA aj hn);clear hc hV hg az hb ae ht hL ay;have HA:Hu (∀cs,Below w.heap.size w (w.alloc (.cells cs 267))):=qH fun cs=>qB.alloc qN _
 have aC:(w.alloc (.cells #[.slice none 0 0,.bool false] 267)).heap[w.heap.size]? = some (.cells #[.slice none 0 0,.bool false] 267 (0,0)):=qM _ _ _ rfl;have HZ:=qH aC;clear aC
 by_cases ag:n=0\/600<n
 ·have J:¬Valid s.data.toList:=fun h=>by have:=HV.o.1 h;omega
  have HN:=qH J;clear J
  by_cases aF:n=0
  ·subst aF;go_enter func192,ntmps192;go_wp2_with fail;refine (HC.o _).mono ?_;rintro e w1 ⟨rfl,rfl⟩;go_wp2_with fail;refine qR (v:=.tuple #[.agg #[.slice none 0 0,.bool false],.bool false]) (rB_ rfl w.heap.size HZ.o underlying267 2) rfl ⟨_,_,rfl,qe6 HN.o,⟨_,_,_,_,rfl⟩,HA.o _⟩
  ·have h6:(600:Int)<n:=by omega
   have aG:((n:Int) == 0)=false:=by rw [beq_eq_false_iff_ne];omega
   go_enter func192,ntmps192;go_wp2_with fail;refine (HC.o _).mono ?_;rintro e w1 ⟨rfl,rfl⟩;go_wp2_with fail;refine qR (v:=.tuple #[.agg #[.slice none 0 0,.bool false],.bool false]) (rB_ rfl w.heap.size HZ.o underlying267 2) rfl ⟨_,_,rfl,qe6 HN.o,⟨_,_,_,_,rfl⟩,HA.o _⟩
 ·have h6:¬(600:Int)<n:=by omega
  have h0:(0:Int)<n:=by omega
  have aG:((n:Int) == 0)=false:=by rw [beq_eq_false_iff_ne];omega
  have au:n<=600:=by omega
  have aD:=qH ag;clear ag;go_enter func192,ntmps192;go_wp2_with fail;refine (HC.o _).mono ?_;rintro e w1 ⟨rfl,rfl⟩;go_wp2_with fail
  go_loopw [23] (fun x23 W=>∃k:Nat,k<=n/\x23=.int .i64 k/\W=w.alloc (.cells #[.slice none 0 0,.bool false] 267)/\Hu (Nums (L.take k))) (fun x23 _=>n-(intOf x23).toNat)
  case atStart=>exact⟨0,qan _,rfl,rfl,qH (fun c hc=>by simp at hc)⟩
  case round =>
   obtain⟨k,hk,rfl,rfl,hI⟩:=hrel
   by_cases ak:k<n
   ·have aL:(k:Int)<n:=by omega
    have ai:k<L.length:=by rw [HL.o.1];exact ak
    have aa:k<t.size:=by rw [HL.o.2];exact ak
    have V:=ax.o k aa ai;obtain⟨c,G⟩:=qX (L[k].toNat);have aH:(t[k]'aa).toNat=c:=by rw [V,G]
    by_cases E:48<=c/\c<=57
    ·have aB:=qlV ai hI.o (by rw [G];exact E);have g1:¬(c:Int)<48:=by omega
     have g2:¬(57:Int)<c:=by omega
     have HX:=qH aB;clear aB G V E;go_wp2;go_roundw
     case rel=>exact⟨k+1,ak,by go_num,trivial,HX⟩
     case measure=>simp [intOf];omega
    ·have J:¬Valid s.data.toList:=fun h=>not_nums ai (by rw [G];exact E) (HV.o.1 h).1
     have HN:=qH J;have Hg:=qH E;clear J G V E
     by_cases g1:(c:Int)<48
     ·go_wp2_with fail;refine qR (v:=.tuple #[.agg #[.slice none 0 0,.bool false],.bool false]) (rB_ rfl w.heap.size HZ.o underlying267 2) rfl ⟨_,_,rfl,qe6 HN.o,⟨_,_,_,_,rfl⟩,HA.o _⟩
     ·have g2:(57:Int)<c:=by have:=Hg.o;omega
      go_wp2_with fail;refine qR (v:=.tuple #[.agg #[.slice none 0 0,.bool false],.bool false]) (rB_ rfl w.heap.size HZ.o underlying267 2) rfl ⟨_,_,rfl,qe6 HN.o,⟨_,_,_,_,rfl⟩,HA.o _⟩
   ·obtain rfl:k=n:=by omega
    have ah:Nums L:=by have h:=hI.o;rwa [qal (by rw [HL.o.1];exact qaf _)] at h
    have Y:0<L.length:=by rw [HL.o.1];omega
    have aa:0<t.size:=by rw [HL.o.2];omega
    have V:=ax.o 0 aa Y;obtain⟨c,G⟩:=qX (L[0].toNat);have aH:(t[0]'aa).toNat=c:=by rw [V,G]
    have Z:L.head? = some 48↔c=48:=by
     rw [List.head?_eq_getElem?,qad Y,<-G];exact⟨fun e=>by rw [qag e];rfl,fun e=>congrArg some (qjW e)⟩
    have Hh:=qH Z;have Hn:=qH ah;clear Z ah G V;have aA:=HG.o Hn.o Y (by rw [HL.o.1];exact au);have av:=qH aA;clear aA
    by_cases af:c=48
    ·subst af
     by_cases H:b=true\/1<k
     ·have J:¬Valid s.data.toList:=fun h=>by
       have h1:=(HV.o.1 h).2.2.2 (Hh.o.2 rfl);rcases H with h2 | h2
       ·rw [h2] at h1;exact absurd h1.2 (by decide)
       ·rw [HL.o.1] at h1;omega
      have HN:=qH J;clear J;cases b with
      | true =>
       go_wp2_with fail;refine qR (v:=.tuple #[.agg #[.slice none 0 0,.bool false],.bool false]) (rB_ rfl w.heap.size HZ.o underlying267 2) rfl ⟨_,_,rfl,qe6 HN.o,⟨_,_,_,_,rfl⟩,HA.o _⟩
      | false =>
       have aI:(1:Int)<k:=by
        rcases H with h | h
        ·cases h
        ·omega
       clear H;go_wp2_with fail;refine qR (v:=.tuple #[.agg #[.slice none 0 0,.bool false],.bool false]) (rB_ rfl w.heap.size HZ.o underlying267 2) rfl ⟨_,_,rfl,qe6 HN.o,⟨_,_,_,_,rfl⟩,HA.o _⟩
     ·have hb:b=false:=by
       cases b with
       | true=>exact absurd (qav rfl) H
       | false=>rfl
      have aK:¬(1:Int)<k:=by omega
      subst hb;have O:Valid s.data.toList:=HV.o.2 ⟨Hn.o,Y,by rw [HL.o.1];exact au,fun _=>⟨by rw [HL.o.1];omega,rfl⟩⟩;have HY:=qH O;clear O H;go_wp2_with fail;refine (av.o _).mono ?_;rintro e w2 ⟨v,rfl,U,hv⟩;have F:=(U.block w.heap.size (by simp)).trans HZ.o;have I:Below w.heap.size w w2:=(HA.o _).trans (U.mono (HA.o _).size);obtain⟨am,bm,om,cm,nm,M,rfl,_,_⟩:=hv;have HR:=qH (qA F (qS I qN #[.slice am nm cm,.bool false]));clear F I U
      go_wp2_with ((with_reducible refine wpList_store_row rfl 267 _ _ rfl w.heap.size #[.slice am nm cm,.bool false] ?_ ?_ 267 _ HR.o.1 2 ?_ ?_ ?_ ?_ ?_);(next=>rfl);(next=>rfl);(next=>kernel_rfl);(next=>rfl);(next=>rfl);(next=>rfl))
      refine qR (v:=.tuple #[.agg #[.slice am nm cm,.bool false],.bool true]) (rB_ rfl w.heap.size (qT _ _ _ _ _ _ HR.o.1) underlying267 2) rfl ⟨_,_,rfl,qji HY.o,⟨_,_,_,_,rfl⟩,HR.o.2⟩
    ·have aJ:((c:Int) == 48)=false:=by rw [beq_eq_false_iff_ne];omega
     have O:Valid s.data.toList:=HV.o.2 ⟨Hn.o,Y,by rw [HL.o.1];exact au,fun h=>absurd (Hh.o.1 h) af⟩;have HY:=qH O;clear O;go_wp2_with fail;refine (av.o _).mono ?_;rintro e w2 ⟨v,rfl,U,hv⟩;have F:=(U.block w.heap.size (by simp)).trans HZ.o;have I:Below w.heap.size w w2:=(HA.o _).trans (U.mono (HA.o _).size);obtain⟨am,bm,om,cm,nm,M,rfl,_,_⟩:=hv;have HR:=qH (qA F (qS I qN #[.slice am nm cm,.bool b]));clear F I U
     go_wp2_with ((with_reducible refine wpList_store_row rfl 267 _ _ rfl w.heap.size #[.slice am nm cm,.bool b] ?_ ?_ 267 _ HR.o.1 2 ?_ ?_ ?_ ?_ ?_);(next=>rfl);(next=>rfl);(next=>kernel_rfl);(next=>rfl);(next=>rfl);(next=>rfl))
     refine qR (v:=.tuple #[.agg #[.slice am nm cm,.bool b],.bool true]) (rB_ rfl w.heap.size (qT _ _ _ _ _ _ HR.o.1) underlying267 2) rfl ⟨_,_,rfl,qji HY.o,⟨_,_,_,_,rfl⟩,HR.o.2⟩
def qeH (w:World) (P:Prop) (E:Int) (e:Ending) (F:World):Prop:=∃c:Int,e=.returned (.int .i64 c)/\(c=0/\P\/c=E/\¬P)/\Below w.heap.size w F
theorem qfo (s:ByteArray) (w:World) :
  Calls prog 119 #[.string s] w fun e J=>qeH w (Valid s.data.toList) 10 e J:=by
 have I:=qH (qmz s w);go_enter func119,ntmps119;go_wp2_with fail;refine I.o.mono ?_;rintro e O ⟨v,ok,rfl,E,⟨a,n,c,b,rfl⟩,F⟩;have G:=qH (F.alloc F.size (.cells #[.slice a n c,.bool b] 267));have H:=qH E;clear F E;cases ok with
 | true =>
  go_wp2;go_ret;exact⟨0,rfl,qav ⟨rfl,by simpa using H.o⟩,G.o⟩
 | false =>
  go_wp2;go_ret;exact⟨10,rfl,qaj ⟨rfl,by simpa using H.o⟩,G.o⟩
theorem qin {z N:Int} {d D:Nat} (E:d≠0) (G:z.natAbs.Coprime d) (F:D≠0) (h:z*D=N*d) {q:Rat} (H:q=mkRat N D):q.num=z/\q.den=d:=by
 have e:q=(⟨z,d,E,G⟩:Rat):=by
  rw [H,Rat.mk_eq_mkRat];exact ((Rat.mkRat_eq_iff E F).2 h).symm
 rw [e];exact⟨rfl,rfl⟩
theorem rat_mul {p q:Rat} {z:Int} {d:Nat} (F:d≠0) (E:z.natAbs.Coprime d) (h:z*(p.den*q.den:Nat)=p.num*q.num*d):(p*q).num=z/\(p*q).den=d :=
 qin F E (Nat.mul_ne_zero p.den_nz q.den_nz) h (Rat.mul_def' p q)
theorem rat_add {p q:Rat} {z:Int} {d:Nat} (F:d≠0) (E:z.natAbs.Coprime d) (h:z*(p.den*q.den:Nat)=(p.num*q.den+q.num*p.den)*d):(p+q).num=z/\(p+q).den=d :=
 qin F E (Nat.mul_ne_zero p.den_nz q.den_nz) h (Rat.add_def' p q)
theorem mul_low {x X y Y:Nat} (h1:x.Coprime X) (h2:y.Coprime Y) (hX:0<X) (hY:0<Y) :
  (x / x.gcd Y*(y / y.gcd X)).Coprime (X / y.gcd X*(Y / x.gcd Y))/\x / x.gcd Y*(y / y.gcd X)*(X*Y)=x*y*(X / y.gcd X*(Y / x.gcd Y)):=by
 have hg:0<x.gcd Y:=qa2 _ hY;have V:0<y.gcd X:=qa2 _ hX;obtain⟨a,I⟩:=qbJ x Y;obtain⟨d,U⟩:=qaR x Y;obtain⟨c,O⟩:=qbJ y X;obtain⟨b,J⟩:=qaR y X;have Z:x / x.gcd Y=a:=by (conv=>lhs;lhs;rw [I]);exact qaP _ hg
 have ed:Y / x.gcd Y=d:=by (conv=>lhs;lhs;rw [U]);exact qaP _ hg
 have ec:y / y.gcd X=c:=by (conv=>lhs;lhs;rw [O]);exact qaP _ V
 have eb:X / y.gcd X=b:=by (conv=>lhs;lhs;rw [J]);exact qaP _ V
 have F:a.Coprime d:=by have:=Nat.coprime_div_gcd_div_gcd hg;rwa [Z,ed] at this
 have G:c.Coprime b:=by have:=Nat.coprime_div_gcd_div_gcd V;rwa [ec,eb] at this
 have E:a.Coprime b:=Nat.Coprime.coprime_dvd_left ⟨_,by rw [qaF];exact I⟩ (Nat.Coprime.coprime_dvd_right ⟨_,by rw [qaF];exact J⟩ h1);have H:c.Coprime d:=Nat.Coprime.coprime_dvd_left ⟨_,by rw [qaF];exact O⟩ (Nat.Coprime.coprime_dvd_right ⟨_,by rw [qaF];exact U⟩ h2);rw [Z,eb,ec,ed];refine⟨Nat.Coprime.mul_left (Nat.Coprime.mul_right E F) (Nat.Coprime.mul_right G H),?_⟩;generalize x.gcd Y=g at *;generalize y.gcd X=h at *;subst I J;rw [O,U];simp only [qaF,qbv]
theorem qkU {x y:Int} {l r X:Nat} (Z:x.natAbs.Coprime X) (Y:r∣X) (G:l.Coprime r):(x*l+y*r).natAbs.Coprime r:=by
 unfold Nat.Coprime;have F:=qbJ (x*l+y*r).natAbs r;have E:=qaR (x*l+y*r).natAbs r;generalize (x*l+y*r).natAbs.gcd r=d at *;have H:(d:Int)∣x*l+y*r:=Int.ofNat_dvd_left.2 F;have I:(d:Int)∣y*r:=Int.dvd_mul_of_dvd_right (Int.natCast_dvd_natCast.2 E);have J:(d:Int)∣x*l:=(Int.dvd_add_left I).1 H;have O:d∣x.natAbs*l:=by have:=Int.ofNat_dvd_left.1 J;rwa [qaB,qaq] at this
 have U:d.Coprime l:=Nat.Coprime.coprime_dvd_left E G.symm;have V:d∣x.natAbs:=U.dvd_of_dvd_mul_right O;exact Nat.eq_one_of_dvd_one (by rw [<-Z];exact Nat.dvd_gcd V (Nat.dvd_trans E Y))
theorem add_low {x y:Int} {X Y:Nat} (h1:x.natAbs.Coprime X) (h2:y.natAbs.Coprime Y) (hX:0<X) (T:Int) (hT:T=x*(Y / X.gcd Y:Nat)+y*(X / X.gcd Y:Nat)) :
  (T.natAbs / T.natAbs.gcd (X.gcd Y)).Coprime (X / X.gcd Y*(Y / T.natAbs.gcd (X.gcd Y))) /\
   T.tdiv (T.natAbs.gcd (X.gcd Y):Nat)*(X*Y:Nat)=(x*Y+y*X)*(X / X.gcd Y*(Y / T.natAbs.gcd (X.gcd Y)):Nat):=by
 have hg:0<X.gcd Y:=Nat.gcd_pos_of_pos_left _ hX;have I:0<T.natAbs.gcd (X.gcd Y):=qa2 _ hg;obtain⟨r,J⟩:=qbJ X Y;obtain⟨l,F⟩:=qaR X Y;have Z:X / X.gcd Y=r:=by (conv=>lhs;lhs;rw [J]);exact qaP _ hg
 have el:Y / X.gcd Y=l:=by (conv=>lhs;lhs;rw [F]);exact qaP _ hg
 have E:r.Coprime l:=by have:=Nat.coprime_div_gcd_div_gcd hg;rwa [Z,el] at this
 rw [Z,el] at hT;have U:T.natAbs.Coprime r:=by rw [hT];exact qkU h1 ⟨_,by rw [qaF];exact J⟩ E.symm
 have O:T.natAbs.Coprime l:=by rw [hT,Int.add_comm];exact qkU h2 ⟨_,by rw [qaF];exact F⟩ E
 obtain⟨n,hn⟩:=qbJ T.natAbs (X.gcd Y);obtain⟨k,hk⟩:=qaR T.natAbs (X.gcd Y);have en:T.natAbs / T.natAbs.gcd (X.gcd Y)=n:=by (conv=>lhs;lhs;rw [hn]);exact qaP _ I
 have ek:X.gcd Y / T.natAbs.gcd (X.gcd Y)=k:=by (conv=>lhs;lhs;rw [hk]);exact qaP _ I
 have V:n.Coprime k:=by have:=Nat.coprime_div_gcd_div_gcd I;rwa [en,ek] at this
 have G:n∣T.natAbs:=⟨_,by rw [qaF];exact hn⟩;have eY:Y / T.natAbs.gcd (X.gcd Y)=k*l:=by
  conv=>lhs;lhs;rw [F,hk]
  rw [qaJ];exact qaP _ I
 rw [en,Z,eY];refine⟨Nat.Coprime.mul_right (Nat.Coprime.coprime_dvd_left G U) (Nat.Coprime.mul_right V (Nat.Coprime.coprime_dvd_left G O)),?_⟩;have eT:T=T.tdiv (T.natAbs.gcd (X.gcd Y):Nat)*(T.natAbs.gcd (X.gcd Y):Nat):=by
  refine (Int.tdiv_mul_cancel (Int.ofNat_dvd_left.2 (qbJ _ _))).symm
 have H:x*Y+y*X=(X.gcd Y:Int)*T:=by
  conv=>lhs;rw [F,J]
  rw [hT];push_cast;grind
 generalize T.tdiv (T.natAbs.gcd (X.gcd Y):Nat)=t at *;generalize T.natAbs.gcd (X.gcd Y)=h at *;rw [H,eT];generalize X.gcd Y=g at *;subst hk J F
 push_cast
 grind
