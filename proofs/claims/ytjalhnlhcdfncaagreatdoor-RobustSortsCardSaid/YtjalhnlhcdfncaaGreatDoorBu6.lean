import Derived.Test.YtjalhnlhcdfncaaGreatDoorBu4
import Derived.Test.YtjalhnlhcdfncaaGreatDoorBu5
set_option maxRecDepth 100000
set_option maxHeartbeats 0
namespace Go.Proofs.YtjalhnlhcdfncaaGreatDoor
open Go.RowKit Go.Proofs.Tryz
theorem qfz {P:Prop} (h:¬P):false=true↔P:=⟨fun e=>absurd e (by decide),fun x=>absurd x h⟩
theorem qj8 {P:Prop} (h:P):true=true↔P:=⟨fun _=>h,fun _=>rfl⟩
theorem not_nums {L:List UInt8} {k:Nat} (h:k<L.length) (E:¬(48<=L[k].toNat/\L[k].toNat<=57)):¬Nums L:=fun F=>E (F _ (qbM h))
theorem qne {L:List UInt8} {k:Nat} (h:k<L.length) (G:Nums (L.take k)) (F:48<=L[k].toNat/\L[k].toNat<=57):Nums (L.take (k+1)):=by
 rw [qd3 L k h];intro c E;rcases qaI.1 E with h1 | h1
 ·exact G c h1
 ·rw [qan.1 h1];exact F
def ReadsAs (w:World) (s:List UInt8) (e:Ending) (E:World):Prop:=∃v ok,e=.returned (.tuple #[v,.bool ok])/\(ok=true↔Valid s)/\(∃a n c b,v=.agg #[.slice a n c,.bool b])/\Below w.heap.size w E
theorem qn3 (s:ByteArray) (w:World) :
  Calls prog 192 #[.string s] w fun e w'=>ReadsAs w s.data.toList e w':=by
 have hc:=fun W=>Tryz.strings_CutPrefix s ⟨#[45]⟩ W
 obtain⟨t,ht⟩:=qX ((⟨(Lib.trimPrefix s.data.toList (ByteArray.mk #[45]).data.toList).toArray⟩:ByteArray):ByteArray);have ae:t.data.toList=body s.data.toList:=by rw [<-ht];rfl
 obtain⟨b,hb⟩:=qX (Lib.hasPrefix s.data.toList (ByteArray.mk #[45]).data.toList);have az:signd s.data.toList=b:=hb;rw [ht,hb] at hc;obtain⟨L,hL⟩:=qX (body s.data.toList);obtain⟨n,hn⟩:=qX t.size;have aj:L.length=n:=by rw [<-hL,<-ae,<-hn];rfl
 have ay:∀k (h:k<t.size) (h':k<L.length),t[k]=L[k]:=fun k h h'=>by subst hL;simp only [<-ae];rfl
 have hV:Valid s.data.toList↔(Nums L/\0<L.length/\L.length<=600/\(L.head? = some 48->L.length=1/\b=false)):=by
  subst hL;subst az;exact⟨fun h=>⟨h.nums,h.pos,h.le,h.lead⟩,fun h=>⟨h.1,h.2.1,h.2.2.1,h.2.2.2⟩⟩
 have hg:=fun (h1:Nums L) (h2:0<L.length) (h3:L.length<=600) W=>whole.qk3 t (by rw [ae,hL];exact h1) (by rw [hn,<-aj];exact h2) (by rw [hn,<-aj];omega) W
 have HC:=qH hc;have HV:=qH hV;have HG:=qH hg;have ax:=qH ay;have HL:=qH (qA aj hn);clear hc hV hg az hb ae ht hL ay;have HA:Hu (∀cs,Below w.heap.size w (w.alloc (.cells cs 267))):=qH fun cs=>qB.alloc qN _
 have aC:(w.alloc (.cells #[.slice none 0 0,.bool false] 267)).heap[w.heap.size]? = some (.cells #[.slice none 0 0,.bool false] 267 (0,0)):=qM _ _ _ rfl;have HZ:=qH aC;clear aC
 by_cases ag:n=0\/600<n
 ·have J:¬Valid s.data.toList:=fun h=>by have:=HV.o.1 h;omega
  have HN:=qH J;clear J
  by_cases aF:n=0
  ·subst aF;go_enter func192,ntmps192;go_wp2_with fail;refine (HC.o _).mono ?_;rintro e w1 ⟨rfl,rfl⟩;go_wp2_with fail;refine qR (v:=.tuple #[.agg #[.slice none 0 0,.bool false],.bool false]) (rB_ rfl w.heap.size HZ.o underlying267 2) rfl ⟨_,_,rfl,qfz HN.o,⟨_,_,_,_,rfl⟩,HA.o _⟩
  ·have h6:(600:Int)<n:=by omega
   have aG:((n:Int) == 0)=false:=by rw [beq_eq_false_iff_ne];omega
   go_enter func192,ntmps192;go_wp2_with fail;refine (HC.o _).mono ?_;rintro e w1 ⟨rfl,rfl⟩;go_wp2_with fail;refine qR (v:=.tuple #[.agg #[.slice none 0 0,.bool false],.bool false]) (rB_ rfl w.heap.size HZ.o underlying267 2) rfl ⟨_,_,rfl,qfz HN.o,⟨_,_,_,_,rfl⟩,HA.o _⟩
 ·have h6:¬(600:Int)<n:=by omega
  have h0:(0:Int)<n:=by omega
  have aG:((n:Int) == 0)=false:=by rw [beq_eq_false_iff_ne];omega
  have au:n<=600:=by omega
  have aD:=qH ag;clear ag;go_enter func192,ntmps192;go_wp2_with fail;refine (HC.o _).mono ?_;rintro e w1 ⟨rfl,rfl⟩;go_wp2_with fail
  go_loopw [23] (fun x23 W=>∃k:Nat,k<=n/\x23=.int .i64 k/\W=w.alloc (.cells #[.slice none 0 0,.bool false] 267)/\Hu (Nums (L.take k))) (fun x23 _=>n-(intOf x23).toNat)
  case atStart=>exact⟨0,qaj _,rfl,rfl,qH (fun c hc=>by simp at hc)⟩
  case round =>
   obtain⟨k,hk,rfl,rfl,hI⟩:=hrel
   by_cases ak:k<n
   ·have aL:(k:Int)<n:=by omega
    have ai:k<L.length:=by rw [HL.o.1];exact ak
    have aa:k<t.size:=by rw [HL.o.2];exact ak
    have V:=ax.o k aa ai;obtain⟨c,G⟩:=qX (L[k].toNat);have aH:(t[k]'aa).toNat=c:=by rw [V,G]
    by_cases E:48<=c/\c<=57
    ·have aB:=qne ai hI.o (by rw [G];exact E);have g1:¬(c:Int)<48:=by omega
     have g2:¬(57:Int)<c:=by omega
     have HX:=qH aB;clear aB G V E;go_wp2;go_roundw
     case rel=>exact⟨k+1,ak,by go_num,trivial,HX⟩
     case measure=>simp [intOf];omega
    ·have J:¬Valid s.data.toList:=fun h=>not_nums ai (by rw [G];exact E) (HV.o.1 h).1
     have HN:=qH J;have Hg:=qH E;clear J G V E
     by_cases g1:(c:Int)<48
     ·go_wp2_with fail;refine qR (v:=.tuple #[.agg #[.slice none 0 0,.bool false],.bool false]) (rB_ rfl w.heap.size HZ.o underlying267 2) rfl ⟨_,_,rfl,qfz HN.o,⟨_,_,_,_,rfl⟩,HA.o _⟩
     ·have g2:(57:Int)<c:=by have:=Hg.o;omega
      go_wp2_with fail;refine qR (v:=.tuple #[.agg #[.slice none 0 0,.bool false],.bool false]) (rB_ rfl w.heap.size HZ.o underlying267 2) rfl ⟨_,_,rfl,qfz HN.o,⟨_,_,_,_,rfl⟩,HA.o _⟩
   ·obtain rfl:k=n:=by omega
    have ah:Nums L:=by have h:=hI.o;rwa [qah (by rw [HL.o.1];exact qae _)] at h
    have Y:0<L.length:=by rw [HL.o.1];omega
    have aa:0<t.size:=by rw [HL.o.2];omega
    have V:=ax.o 0 aa Y;obtain⟨c,G⟩:=qX (L[0].toNat);have aH:(t[0]'aa).toNat=c:=by rw [V,G]
    have Z:L.head? = some 48↔c=48:=by
     rw [List.head?_eq_getElem?,qad Y,<-G];exact⟨fun e=>by rw [qag e];rfl,fun e=>congrArg some (qid e)⟩
    have Hh:=qH Z;have Hn:=qH ah;clear Z ah G V;have aA:=HG.o Hn.o Y (by rw [HL.o.1];exact au);have av:=qH aA;clear aA
    by_cases af:c=48
    ·subst af
     by_cases H:b=true\/1<k
     ·have J:¬Valid s.data.toList:=fun h=>by
       have h1:=(HV.o.1 h).2.2.2 (Hh.o.2 rfl);rcases H with h2 | h2
       ·rw [h2] at h1;exact absurd h1.2 (by decide)
       ·rw [HL.o.1] at h1;omega
      have HN:=qH J;clear J;cases b with
      | true =>
       go_wp2_with fail;refine qR (v:=.tuple #[.agg #[.slice none 0 0,.bool false],.bool false]) (rB_ rfl w.heap.size HZ.o underlying267 2) rfl ⟨_,_,rfl,qfz HN.o,⟨_,_,_,_,rfl⟩,HA.o _⟩
      | false =>
       have aI:(1:Int)<k:=by
        rcases H with h | h
        ·cases h
        ·omega
       clear H;go_wp2_with fail;refine qR (v:=.tuple #[.agg #[.slice none 0 0,.bool false],.bool false]) (rB_ rfl w.heap.size HZ.o underlying267 2) rfl ⟨_,_,rfl,qfz HN.o,⟨_,_,_,_,rfl⟩,HA.o _⟩
     ·have hb:b=false:=by
       cases b with
       | true=>exact absurd (qax rfl) H
       | false=>rfl
      have aK:¬(1:Int)<k:=by omega
      subst hb;have O:Valid s.data.toList:=HV.o.2 ⟨Hn.o,Y,by rw [HL.o.1];exact au,fun _=>⟨by rw [HL.o.1];omega,rfl⟩⟩;have HY:=qH O;clear O H;go_wp2_with fail;refine (av.o _).mono ?_;rintro e w2 ⟨v,rfl,U,hv⟩;have F:=(U.block w.heap.size (by simp)).trans HZ.o;have I:Below w.heap.size w w2:=(HA.o _).trans (U.mono (HA.o _).size);obtain⟨am,bm,om,cm,nm,M,rfl,_,_⟩:=hv;have HR:=qH (qA F (qS I qN #[.slice am nm cm,.bool false]));clear F I U
      go_wp2_with ((with_reducible refine wpList_store_row rfl 267 _ _ rfl w.heap.size #[.slice am nm cm,.bool false] ?_ ?_ 267 _ HR.o.1 2 ?_ ?_ ?_ ?_ ?_);(next=>rfl);(next=>rfl);(next=>kernel_rfl);(next=>rfl);(next=>rfl);(next=>rfl))
      refine qR (v:=.tuple #[.agg #[.slice am nm cm,.bool false],.bool true]) (rB_ rfl w.heap.size (qT _ _ _ _ _ _ HR.o.1) underlying267 2) rfl ⟨_,_,rfl,qj8 HY.o,⟨_,_,_,_,rfl⟩,HR.o.2⟩
    ·have aJ:((c:Int) == 48)=false:=by rw [beq_eq_false_iff_ne];omega
     have O:Valid s.data.toList:=HV.o.2 ⟨Hn.o,Y,by rw [HL.o.1];exact au,fun h=>absurd (Hh.o.1 h) af⟩;have HY:=qH O;clear O;go_wp2_with fail;refine (av.o _).mono ?_;rintro e w2 ⟨v,rfl,U,hv⟩;have F:=(U.block w.heap.size (by simp)).trans HZ.o;have I:Below w.heap.size w w2:=(HA.o _).trans (U.mono (HA.o _).size);obtain⟨am,bm,om,cm,nm,M,rfl,_,_⟩:=hv;have HR:=qH (qA F (qS I qN #[.slice am nm cm,.bool b]));clear F I U
     go_wp2_with ((with_reducible refine wpList_store_row rfl 267 _ _ rfl w.heap.size #[.slice am nm cm,.bool b] ?_ ?_ 267 _ HR.o.1 2 ?_ ?_ ?_ ?_ ?_);(next=>rfl);(next=>rfl);(next=>kernel_rfl);(next=>rfl);(next=>rfl);(next=>rfl))
     refine qR (v:=.tuple #[.agg #[.slice am nm cm,.bool b],.bool true]) (rB_ rfl w.heap.size (qT _ _ _ _ _ _ HR.o.1) underlying267 2) rfl ⟨_,_,rfl,qj8 HY.o,⟨_,_,_,_,rfl⟩,HR.o.2⟩
def qfb (w:World) (P:Prop) (E:Int) (e:Ending) (F:World):Prop:=∃c:Int,e=.returned (.int .i64 c)/\(c=0/\P\/c=E/\¬P)/\Below w.heap.size w F
theorem qfY (s:ByteArray) (w:World) :
  Calls prog 119 #[.string s] w fun e J=>qfb w (Valid s.data.toList) 10 e J:=by
 have I:=qH (qn3 s w);go_enter func119,ntmps119;go_wp2_with fail;refine I.o.mono ?_;rintro e O ⟨v,ok,rfl,E,⟨a,n,c,b,rfl⟩,F⟩;have G:=qH (F.alloc F.size (.cells #[.slice a n c,.bool b] 267));have H:=qH E;clear F E;cases ok with
 | true =>
  go_wp2;go_ret;exact⟨0,rfl,qax ⟨rfl,by simpa using H.o⟩,G.o⟩
 | false =>
  go_wp2;go_ret;exact⟨10,rfl,qam ⟨rfl,by simpa using H.o⟩,G.o⟩
theorem qi5 {z N:Int} {d D:Nat} (E:d≠0) (G:z.natAbs.Coprime d) (F:D≠0) (h:z*D=N*d) {q:Rat} (H:q=mkRat N D):q.num=z/\q.den=d:=by
 have e:q=(⟨z,d,E,G⟩:Rat):=by
  rw [H,Rat.mk_eq_mkRat];exact ((Rat.mkRat_eq_iff E F).2 h).symm
 rw [e];exact⟨rfl,rfl⟩
theorem rat_mul {p q:Rat} {z:Int} {d:Nat} (F:d≠0) (E:z.natAbs.Coprime d) (h:z*(p.den*q.den:Nat)=p.num*q.num*d):(p*q).num=z/\(p*q).den=d :=
 qi5 F E (qbU p.den_nz q.den_nz) h (Rat.mul_def' p q)
theorem rat_add {p q:Rat} {z:Int} {d:Nat} (F:d≠0) (E:z.natAbs.Coprime d) (h:z*(p.den*q.den:Nat)=(p.num*q.den+q.num*p.den)*d):(p+q).num=z/\(p+q).den=d :=
 qi5 F E (qbU p.den_nz q.den_nz) h (Rat.add_def' p q)
theorem mul_low {x X y Y:Nat} (h1:x.Coprime X) (h2:y.Coprime Y) (hX:0<X) (hY:0<Y) :
  (x / x.gcd Y*(y / y.gcd X)).Coprime (X / y.gcd X*(Y / x.gcd Y))/\x / x.gcd Y*(y / y.gcd X)*(X*Y)=x*y*(X / y.gcd X*(Y / x.gcd Y)):=by
 have hg:0<x.gcd Y:=qba _ hY;have V:0<y.gcd X:=qba _ hX;obtain⟨a,I⟩:=qbN x Y;obtain⟨d,U⟩:=qaZ x Y;obtain⟨c,O⟩:=qbN y X;obtain⟨b,J⟩:=qaZ y X;have Z:x / x.gcd Y=a:=by (conv=>lhs;lhs;rw [I]);exact qa2 _ hg
 have ed:Y / x.gcd Y=d:=by (conv=>lhs;lhs;rw [U]);exact qa2 _ hg
 have ec:y / y.gcd X=c:=by (conv=>lhs;lhs;rw [O]);exact qa2 _ V
 have eb:X / y.gcd X=b:=by (conv=>lhs;lhs;rw [J]);exact qa2 _ V
 have F:a.Coprime d:=by have:=Nat.coprime_div_gcd_div_gcd hg;rwa [Z,ed] at this
 have G:c.Coprime b:=by have:=Nat.coprime_div_gcd_div_gcd V;rwa [ec,eb] at this
 have E:a.Coprime b:=Nat.Coprime.coprime_dvd_left ⟨_,by rw [qat];exact I⟩ (Nat.Coprime.coprime_dvd_right ⟨_,by rw [qat];exact J⟩ h1);have H:c.Coprime d:=Nat.Coprime.coprime_dvd_left ⟨_,by rw [qat];exact O⟩ (Nat.Coprime.coprime_dvd_right ⟨_,by rw [qat];exact U⟩ h2);rw [Z,eb,ec,ed];refine⟨Nat.Coprime.mul_left (Nat.Coprime.mul_right E F) (Nat.Coprime.mul_right G H),?_⟩;generalize x.gcd Y=g at *;generalize y.gcd X=h at *;subst I J;rw [O,U];simp only [qat,qbt]
theorem ql4 {x y:Int} {l r X:Nat} (hx:x.natAbs.Coprime X) (hr:r∣X) (G:l.Coprime r):(x*l+y*r).natAbs.Coprime r:=by
 unfold Nat.Coprime;have F:=qbN (x*l+y*r).natAbs r;have E:=qaZ (x*l+y*r).natAbs r;generalize (x*l+y*r).natAbs.gcd r=d at *;have H:(d:Int)∣x*l+y*r:=Int.ofNat_dvd_left.2 F;have I:(d:Int)∣y*r:=Int.dvd_mul_of_dvd_right (Int.natCast_dvd_natCast.2 E);have J:(d:Int)∣x*l:=(Int.dvd_add_left I).1 H;have O:d∣x.natAbs*l:=by have:=Int.ofNat_dvd_left.1 J;rwa [qaK,qar] at this
 have U:d.Coprime l:=Nat.Coprime.coprime_dvd_left E G.symm;have V:d∣x.natAbs:=U.dvd_of_dvd_mul_right O;exact Nat.eq_one_of_dvd_one (by rw [<-hx];exact Nat.dvd_gcd V (Nat.dvd_trans E hr))
theorem add_low {x y:Int} {X Y:Nat} (h1:x.natAbs.Coprime X) (h2:y.natAbs.Coprime Y) (hX:0<X) (T:Int) (hT:T=x*(Y / X.gcd Y:Nat)+y*(X / X.gcd Y:Nat)) :
  (T.natAbs / T.natAbs.gcd (X.gcd Y)).Coprime (X / X.gcd Y*(Y / T.natAbs.gcd (X.gcd Y))) /\
   T.tdiv (T.natAbs.gcd (X.gcd Y):Nat)*(X*Y:Nat)=(x*Y+y*X)*(X / X.gcd Y*(Y / T.natAbs.gcd (X.gcd Y)):Nat):=by
 have hg:0<X.gcd Y:=Nat.gcd_pos_of_pos_left _ hX;have I:0<T.natAbs.gcd (X.gcd Y):=qba _ hg;obtain⟨r,hr⟩:=qbN X Y;obtain⟨l,F⟩:=qaZ X Y;have V:X / X.gcd Y=r:=by (conv=>lhs;lhs;rw [hr]);exact qa2 _ hg
 have el:Y / X.gcd Y=l:=by (conv=>lhs;lhs;rw [F]);exact qa2 _ hg
 have E:r.Coprime l:=by have:=Nat.coprime_div_gcd_div_gcd hg;rwa [V,el] at this
 rw [V,el] at hT;have O:T.natAbs.Coprime r:=by rw [hT];exact ql4 h1 ⟨_,by rw [qat];exact hr⟩ E.symm
 have J:T.natAbs.Coprime l:=by rw [hT,Int.add_comm];exact ql4 h2 ⟨_,by rw [qat];exact F⟩ E
 obtain⟨n,hn⟩:=qbN T.natAbs (X.gcd Y);obtain⟨k,Z⟩:=qaZ T.natAbs (X.gcd Y);have en:T.natAbs / T.natAbs.gcd (X.gcd Y)=n:=by (conv=>lhs;lhs;rw [hn]);exact qa2 _ I
 have ek:X.gcd Y / T.natAbs.gcd (X.gcd Y)=k:=by (conv=>lhs;lhs;rw [Z]);exact qa2 _ I
 have U:n.Coprime k:=by have:=Nat.coprime_div_gcd_div_gcd I;rwa [en,ek] at this
 have G:n∣T.natAbs:=⟨_,by rw [qat];exact hn⟩;have eY:Y / T.natAbs.gcd (X.gcd Y)=k*l:=by
  conv=>lhs;lhs;rw [F,Z]
  rw [qaw];exact qa2 _ I
 rw [en,V,eY];refine⟨Nat.Coprime.mul_right (Nat.Coprime.coprime_dvd_left G O) (Nat.Coprime.mul_right U (Nat.Coprime.coprime_dvd_left G J)),?_⟩;have eT:T=T.tdiv (T.natAbs.gcd (X.gcd Y):Nat)*(T.natAbs.gcd (X.gcd Y):Nat):=by
  refine (Int.tdiv_mul_cancel (Int.ofNat_dvd_left.2 (qbN _ _))).symm
 have H:x*Y+y*X=(X.gcd Y:Int)*T:=by
  conv=>lhs;rw [F,hr]
  rw [hT];push_cast;grind
 generalize T.tdiv (T.natAbs.gcd (X.gcd Y):Nat)=t at *;generalize T.natAbs.gcd (X.gcd Y)=h at *;rw [H,eT];generalize X.gcd Y=g at *;subst Z hr F
 push_cast
 grind
def sumN:Nat->(Nat->Int)->Int
 | 0,_=>0
 | n+1,f=>sumN n f+f n
theorem qci {n:Nat} {f g:Nat->Int} (h:∀i,i<n->f i=g i):sumN n f=sumN n g:=by
 induction n with
 | zero=>rfl
 | succ n ih=>simp only [sumN];rw [ih fun i E=>h i (by omega),h n (by omega)]
theorem qia (n:Nat) (f g:Nat->Int):sumN n (fun i=>f i+g i)=sumN n f+sumN n g:=by
 induction n with
 | zero=>rfl
 | succ n ih=>simp only [sumN,ih];omega
theorem qfK (n:Nat) (c:Int) (f:Nat->Int):sumN n (fun i=>c*f i)=c*sumN n f:=by
 induction n with
 | zero=>simp [sumN]
 | succ n ih=>simp only [sumN,ih,Int.mul_add]
theorem qg8 (n:Nat) (f:Nat->Int) (h:∀i,i<n->f i=0):sumN n f=0:=by
 induction n with
 | zero=>rfl
 | succ n ih=>simp only [sumN];rw [ih fun i E=>h i (by omega),h n (by omega)];rfl
theorem qkQ (n:Nat) (f:Nat->Int):sumN n (fun i=>- f i) = - sumN n f:=by
 induction n with
 | zero=>rfl
 | succ n ih=>simp only [sumN,ih];omega
theorem qjg (n m:Nat) (f:Nat->Nat->Int):sumN n (fun i=>sumN m (fun j=>f i j))=sumN m (fun j=>sumN n (fun i=>f i j)):=by
 induction n with
 | zero =>
  simp only [sumN];exact (qg8 m _ fun _ _=>rfl).symm
 | succ n ih=>simp only [sumN,ih];rw [<-qia]
theorem qnK (n:Nat) (f:Nat->Nat->Int) (h:∀i j,i<n->j<n->f i j = - f j i):sumN n (fun i=>sumN n (fun j=>f i j))=0:=by
 have G:sumN n (fun i=>sumN n (fun j=>f i j))=sumN n (fun i=>sumN n (fun j=>- f j i)):=qci fun i E=>qci fun j F=>h i j E F
 have H:sumN n (fun i=>sumN n (fun j=>- f j i)) = - sumN n (fun i=>sumN n (fun j=>f j i)):=by
  rw [<-qkQ];exact qci fun i _=>qkQ n _
 have I:=qjg n n f;omega
def skip (k c:Nat):Nat:=if c<k then c else c+1
theorem qdY {k c n:Nat} (E:c<n):skip k c<n+1:=by unfold skip;split <;> omega
theorem skip_ne (k c:Nat):skip k c≠k:=by unfold skip;split <;> omega
theorem qnL (n k:Nat) (I:k<n+1) (f:Nat->Int):sumN n (fun c=>f (skip k c))+f k=sumN (n+1) f:=by
 induction n with
 | zero =>
  obtain rfl:k=0:=by omega
  simp [sumN]
 | succ n ih =>
  by_cases F:k=n+1
  ·subst F;simp only [sumN];have G:sumN n (fun c=>f (skip (n+1) c))=sumN n f:=qci fun i H=>by unfold skip;rw [if_pos (by omega)]
   have E:f (skip (n+1) n)=f n:=by unfold skip;rw [if_pos (by omega)]
   rw [G,E]
  ·have:=ih (by omega);simp only [sumN] at this ⊢;have E:f (skip k n)=f (n+1):=by unfold skip;rw [if_neg (by omega)]
   rw [E];omega
def sg (j:Nat):Int:=if j % 2=0 then 1 else -1
def det:Nat->(Nat->Nat->Int)->Int
 | 0,_=>1
 | n+1,M=>sumN (n+1) fun j=>sg j*M 0 j*det n fun r c=>M (r+1) (skip j c)
theorem qep:∀(n:Nat) (M N:Nat->Nat->Int),(∀r c,r<n->c<n->M r c=N r c)->det n M=det n N
 | 0,_,_,_=>rfl
 | n+1,M,N,h=>by
  simp only [det];refine qci fun j F=>?_
  rw [h 0 j (by omega) F,qep n _ _ fun r c hr E=>h (r+1) (skip j c) (by omega) (qdY E)]
theorem qee:∀(n:Nat) (M N K:Nat->Nat->Int) (k:Nat),k<n->(∀c,c<n->K k c=M k c+N k c)->(∀r c,r<n->c<n->r≠k->K r c=M r c/\K r c=N r c)->det n K=det n M+det n N
 | 0,_,_,_,_,h,_,_=>absurd h (by omega)
 | n+1,M,N,K,0,_,G,ho=>by
  simp only [det];rw [<-qia];refine qci fun j F=>?_
  have I:det n (fun r c=>K (r+1) (skip j c))=det n (fun r c=>M (r+1) (skip j c)):=qep n _ _ fun r c hr E=>(ho (r+1) (skip j c) (by omega) (qdY E) (by omega)).1
  have J:det n (fun r c=>K (r+1) (skip j c))=det n (fun r c=>N (r+1) (skip j c)):=qep n _ _ fun r c hr E=>(ho (r+1) (skip j c) (by omega) (qdY E) (by omega)).2
  rw [<-J,<-I,G j F,Int.mul_add,Int.add_mul]
 | n+1,M,N,K,k+1,h,G,ho=>by
  simp only [det];rw [<-qia];refine qci fun j F=>?_
  have e:=qee n (fun r c=>M (r+1) (skip j c)) (fun r c=>N (r+1) (skip j c)) (fun r c=>K (r+1) (skip j c)) k (by omega) (fun c E=>G (skip j c) (qdY E)) (fun r c hr E O=>ho (r+1) (skip j c) (by omega) (qdY E) (by omega));have H:=ho 0 j (by omega) F (by omega);rw [e,Int.mul_add];rw [<-H.1];have:K 0 j=N 0 j:=H.2;rw [this]
theorem qef:∀(n:Nat) (M K:Nat->Nat->Int) (k:Nat) (a:Int),k<n->(∀c,c<n->K k c=a*M k c)->(∀r c,r<n->c<n->r≠k->K r c=M r c)->det n K=a*det n M
 | 0,_,_,_,_,h,_,_=>absurd h (by omega)
 | n+1,M,K,0,a,_,G,ho=>by
  simp only [det];rw [<-qfK];refine qci fun j F=>?_
  rw [qep n _ _ fun r c hr E=>ho (r+1) (skip j c) (by omega) (qdY E) (by omega),G j F];rw [<-qbD,<-qbD,qbm (sg j) a,qbD a (sg j)]
 | n+1,M,K,k+1,a,h,G,ho=>by
  simp only [det];rw [<-qfK];refine qci fun j F=>?_
  have e:=qef n (fun r c=>M (r+1) (skip j c)) (fun r c=>K (r+1) (skip j c)) k a (by omega) (fun c E=>G (skip j c) (qdY E)) (fun r c hr E H=>ho (r+1) (skip j c) (by omega) (qdY E) (by omega));rw [e,ho 0 j (by omega) F (by omega),<-qbD,<-qbD,qbm (sg j*M 0 j) a,qbD]
def cof (j k:Nat):Nat:=if k<j then k else k-1
theorem cof_skip (j c:Nat):cof j (skip j c)=c:=by unfold cof skip;(repeat' split) <;> omega
theorem qlF (j k x:Nat) (h:j≠k):skip j (skip (cof j k) x)=skip k (skip (cof k j) x):=by
 unfold cof skip
 by_cases F:k<j
 ·have E:¬j<k:=by omega
  simp only [F,E,if_true,if_false]
  (repeat' split) <;> omega
 ·have E:j<k:=by omega
  simp only [F,E,if_true,if_false]
  (repeat' split) <;> omega
theorem sg_cof (j k:Nat) (h:j≠k):sg j*sg (cof j k) = - (sg k*sg (cof k j)):=by
 unfold sg cof
 by_cases F:k<j
 ·have E:¬j<k:=by omega
  simp only [F,E,if_true,if_false]
  (repeat' split) <;> first | omega | (exfalso;omega)
 ·have E:j<k:=by omega
  simp only [F,E,if_true,if_false]
  (repeat' split) <;> first | omega | (exfalso;omega)
def two (n:Nat) (M:Nat->Nat->Int) (j k:Nat):Int:=if j=k then 0 else sg j*sg (cof j k)*(M 0 j*M 1 k)*det n fun r x=>M (r+2) (skip j (skip (cof j k) x))
theorem det_two (n:Nat) (M:Nat->Nat->Int):det (n+2) M=sumN (n+2) fun j=>sumN (n+2) fun k=>two n M j k:=by
 show sumN (n+2) (fun j=>sg j*M 0 j*det (n+1) fun r c=>M (r+1) (skip j c))=_
 refine qci fun j F=>?_
 rw [<-qnL (n+1) j F];have E:two n M j j=0:=by unfold two;rw [if_pos rfl]
 rw [E,Int.add_zero]
 show sg j*M 0 j*sumN (n+1) (fun c=>sg c*M 1 (skip j c)*det n fun r x=>M (r+2) (skip j (skip c x)))=_
 rw [<-qfK];refine qci fun c G=>?_
 unfold two;rw [if_neg (Ne.symm (skip_ne j c)),cof_skip];simp only [qbD,qbm,Int.mul_left_comm]
theorem qkU (n:Nat) (M:Nat->Nat->Int) (h:∀c,c<n+2->M 0 c=M 1 c):det (n+2) M=0:=by
 rw [det_two];refine qnK (n+2) _ fun j k F G=>?_
 unfold two
 by_cases E:j=k
 ·rw [if_pos E,if_pos E.symm];rfl
 ·rw [if_neg E,if_neg (Ne.symm E),sg_cof j k E];have e:(fun r x=>M (r+2) (skip j (skip (cof j k) x)))=fun r x=>M (r+2) (skip k (skip (cof k j) x)):=by
   funext r x;rw [qlF j k x E]
  rw [e,h j F,<-h k G,qbm (M 1 j) (M 0 k),qbI,qbI]
theorem qeg:∀(n:Nat) (M:Nat->Nat->Int) (k:Nat),k+1<n->(∀c,c<n->M k c=M (k+1) c)->det n M=0
 | 0,_,_,h,_=>absurd h (by omega)
 | 1,_,_,h,_=>absurd h (by omega)
 | n+2,M,0,_,h=>qkU n M h
 | n+2,M,k+1,G,h=>by
  show sumN (n+2) (fun j=>sg j*M 0 j*det (n+1) fun r c=>M (r+1) (skip j c))=0
  refine qg8 _ _ fun j F=>?_
  rw [qeg (n+1) (fun r c=>M (r+1) (skip j c)) k (by omega) fun c E=>h (skip j c) (qdY E),qbK]
def R2 (M:Nat->Nat->Int) (k:Nat) (x y:Nat->Int):Nat->Nat->Int:=fun r c=>if r=k then x c else if r=k+1 then y c else M r c
theorem R2_left (n:Nat) (M:Nat->Nat->Int) (k:Nat) (F:k+1<n) (x E y:Nat->Int):det n (R2 M k (fun c=>x c+E c) y)=det n (R2 M k x y)+det n (R2 M k E y) :=
 qee n _ _ _ k (by omega) (fun c _=>by simp [R2]) fun r c _ _ hr=>by simp [R2,hr]
theorem qkc (n:Nat) (M:Nat->Nat->Int) (k:Nat) (F:k+1<n) (x y E:Nat->Int):det n (R2 M k x (fun c=>y c+E c))=det n (R2 M k x y)+det n (R2 M k x E) :=
 qee n _ _ _ (k+1) (by omega) (fun c _=>by simp [R2]) fun r c _ _ hr=>by simp [R2,hr]
theorem qjs (n:Nat) (M:Nat->Nat->Int) (k:Nat) (E:k+1<n) (x:Nat->Int):det n (R2 M k x x)=0 :=
 qeg n _ k E fun c _=>by simp [R2]
theorem R2_swap (n:Nat) (M:Nat->Nat->Int) (k:Nat) (E:k+1<n) (x y:Nat->Int):det n (R2 M k x y) = - det n (R2 M k y x):=by
 have h:=qjs n M k E fun c=>x c+y c
 rw [R2_left n M k E,qkc n M k E,qkc n M k E,qjs n M k E,qjs n M k E] at h;omega
theorem R2_self (M:Nat->Nat->Int) (k:Nat):R2 M k (M k) (M (k+1))=M:=by
 funext r c
 unfold R2;split
 ·rename_i h;rw [h]
 ·split
  ·rename_i h;rw [h]
  ·rfl
theorem qge (n:Nat):∀(d:Nat) (M:Nat->Nat->Int) (i:Nat),i+d+1<n->(∀c,c<n->M i c=M (i+d+1) c)->det n M=0
 | 0,M,i,E,h=>qeg n M i E h
 | d+1,M,i,E,h=>by
  have F:=R2_swap n M (i+d+1) (by omega) (M (i+d+1)) (M (i+d+1+1));rw [R2_self] at F;rw [F,qge n d (R2 M (i+d+1) (M (i+d+1+1)) (M (i+d+1))) i (by omega) (fun c H=>by
   have:¬i=i+d+1:=by omega
   have G:¬i=i+d+1+1:=by omega
   simp only [R2,this,G,if_false,if_true];exact h c H)]
  rfl
theorem qjy (n:Nat) (M K:Nat->Nat->Int) (i s:Nat) (a:Int) (H:i<n) (Y:s<n) (G:i≠s) (U:∀c,c<n->K i c=M i c+a*M s c) (V:∀r c,r<n->c<n->r≠i->K r c=M r c):det n K=det n M:=by
 have I:=qee n M (fun r c=>if r=i then a*M s c else M r c) K i H (fun c F=>by simp [U c F]) fun r c hr F E=>by
  rw [V r c hr F E];simp [E]
 have J:=qef n (fun r c=>if r=i then M s c else M r c) (fun r c=>if r=i then a*M s c else M r c) i a H (fun c _=>by simp) fun r c _ _ E=>by simp [E]
 have O:det n (fun r c=>if r=i then M s c else M r c)=0:=by
  rcases Nat.lt_or_gt_of_ne G with h | h
  ·obtain⟨d,rfl⟩:∃d,s=i+d+1:=⟨s-i-1,by omega⟩;refine qge n d _ i (by omega) fun c _=>?_
   have:¬i+d+1=i:=by omega
   simp [this]
  ·obtain⟨d,rfl⟩:∃d,i=s+d+1:=⟨i-s-1,by omega⟩;refine qge n d _ s (by omega) fun c _=>?_
   have:¬s=s+d+1:=by omega
   simp [this]
 rw [I,J,O,qbK,Int.add_zero]
theorem qd9 (n:Nat) (f:Nat->Int):sumN (n+1) f=f 0+sumN n fun i=>f (i+1):=by
 induction n with
 | zero=>simp [sumN]
 | succ n ih =>
  have:sumN (n+1+1) f=sumN (n+1) f+f (n+1):=rfl;rw [this,ih];simp only [sumN];omega
theorem qnA (j:Nat):sg (j+1) = - sg j:=by
 unfold sg
 (repeat' split) <;> first | omega | (exfalso;omega)
theorem qdT (r:Nat):skip 0 r=r+1:=by unfold skip;rw [if_neg (by omega)]
theorem qe2 (j:Nat):skip (j+1) 0=0:=by unfold skip;rw [if_pos (by omega)]
theorem qe1 (j c:Nat):skip (j+1) (c+1)=skip j c+1:=by unfold skip;(repeat' split) <;> omega
theorem qjA:∀(n:Nat) (M:Nat->Nat->Int),det (n+1) M=sumN (n+1) fun i=>sg i*M i 0*det n fun r c=>M (skip i r) (c+1)
 | 0,M=>by
  show sumN 1 _=sumN 1 _
  exact qci fun i I=>by
   obtain rfl:i=0:=by omega
   rfl
 | n+1,M=>by
  show sumN (n+1+1) (fun j=>sg j*M 0 j*det (n+1) fun r c=>M (r+1) (skip j c))=_
  rw [qd9,qd9 (n+1)];have E:∀a b c d:Int,a=c->b=d->a+b=c+d:=fun a b c d h k=>by rw [h,k]
  refine E _ _ _ _ ?_ ?_
  ·have F:(fun r c=>M (r+1) (skip 0 c))=fun r c=>M (skip 0 r) (c+1):=by
    funext r c
    rw [qdT,qdT]
   rw [F]
  ·have G:∀j,sg (j+1)*M 0 (j+1)*det (n+1) (fun r c=>M (r+1) (skip (j+1) c))=sumN (n+1) fun i=>- (sg j*sg i*(M 0 (j+1)*M (i+1) 0)*det n fun r c=>M (skip i r+1) (skip j c+1)):=by
    intro j;rw [qjA n,<-qfK];refine qci fun i _=>?_
    simp only [qe2,qe1,qnA];simp only [qbI,Int.mul_neg,qbD,Int.mul_left_comm]
   have H:∀i,sg (i+1)*M (i+1) 0*det (n+1) (fun r c=>M (skip (i+1) r) (c+1))=sumN (n+1) fun j=>- (sg j*sg i*(M 0 (j+1)*M (i+1) 0)*det n fun r c=>M (skip i r+1) (skip j c+1)):=by
    intro i
    show _*sumN (n+1) (fun j=>sg j*M (skip (i+1) 0) (j+1)*det n fun r c=>M (skip (i+1) (r+1)) (skip j c+1))=_
    rw [<-qfK];refine qci fun j _=>?_
    simp only [qe2,qe1,qnA];simp only [qbI,Int.mul_neg,qbD,Int.mul_left_comm,qbm]
   rw [qci fun j _=>G j,qci fun i _=>H i,qjg]
theorem qkh:∀(n:Nat) (M:Nat->Nat->Int),det n (fun r c=>M c r)=det n M
 | 0,_=>rfl
 | n+1,M=>by
  rw [qjA n M]
  show sumN (n+1) (fun j=>sg j*M j 0*det n fun r c=>M (skip j c) (r+1))=_
  exact qci fun j _=>by rw [qkh n fun r c=>M (skip j r) (c+1)]
theorem qhQ (n:Nat) (i:Nat) (I:i<2):∀(m:Nat) (M K:Nat->Nat->Int) (L:Nat->Int),m+2<=n->(∀c,c<n->K i c=M i c+sumN m fun s=>L s*M (s+2) c)->(∀r c,r<n->c<n->r≠i->K r c=M r c)->det n K=det n M
 | 0,M,K,L,J,G,ho=>qep n K M fun r c hr E=>by
  by_cases h:r=i
  ·subst h;rw [G c E];simp [sumN]
  ·exact ho r c hr E h
 | m+1,M,K,L,J,G,ho=>by
  have H:=qhQ n i I m M (fun r c=>if r=i then M i c+sumN m (fun s=>L s*M (s+2) c) else M r c) L (by omega) (fun c _=>by simp) fun r c _ _ hr=>by simp [hr]
  rw [<-H];refine qjy n _ K i (m+2) (L m) (by omega) (by omega) (by omega) (fun c E=>?_) fun r c hr E F=>by rw [ho r c hr E F];simp [F]
  have:¬m+2=i:=by omega
  rw [G c E];simp only [sumN,this,if_true,if_false];omega
def bord (k:Nat) (M:Nat->Nat->Int) (a c:Nat):Int:=det (k+1) fun r x=>M (if r=0 then a else r+1) (if x=0 then c else x+1)
def steps (k:Nat) (M:Nat->Nat->Int):Int:=det k fun r c=>M (r+2) (c+2)
def lam (k:Nat) (M:Nat->Nat->Int) (a s:Nat):Int:=sg (s+1)*det k fun r x=>M (if skip (s+1) r=0 then a else skip (s+1) r+1) (x+2)
theorem qip (k:Nat) (M:Nat->Nat->Int) (a c:Nat):bord k M a c=steps k M*M a c+sumN k fun s=>lam k M a s*M (s+2) c:=by
 unfold bord steps;rw [qjA,qd9];have E:∀a b c d:Int,a=c->b=d->a+b=c+d:=fun a b c d h k=>by rw [h,k]
 refine E _ _ _ _ ?_ (qci fun s G=>?_)
 ·have e:(fun r x=>M (if skip 0 r=0 then a else skip 0 r+1) (if x+1=0 then c else x+1+1))=fun r x=>M (r+2) (x+2):=by
   funext r x
   rw [qdT];simp
  rw [e];simp [sg,qbm]
 ·have F:¬s+1=0:=by omega
  have e:(fun r x=>M (if skip (s+1) r=0 then a else skip (s+1) r+1) (if x+1=0 then c else x+1+1))=fun r x=>M (if skip (s+1) r=0 then a else skip (s+1) r+1) (x+2):=by
   funext r x;simp
  rw [e];unfold lam;simp only [F,if_true,if_false,qbD,qbm]
theorem qiq (k:Nat) (M:Nat->Nat->Int) (a c:Nat) (E:c<k):bord k M a (c+2)=0:=by
 unfold bord;rw [<-qkh];refine qge (k+1) c _ 0 (by omega) fun r _=>?_
 have:¬0+c+1=0:=by omega
 simp only [this,if_true,if_false];rw [show 0+c+1+1=c+2 by omega]
theorem qfJ (n:Nat) (f:Nat->Int) (h:∀i,i<n->f (i+1)=0):sumN (n+1) f=f 0:=by
 rw [qd9,qg8 n _ h,Int.add_zero]
theorem sg0:sg 0=1:=rfl
theorem sg1:sg 1 = -1:=rfl
def cleared (k:Nat) (M:Nat->Nat->Int):Nat->Nat->Int:=fun r c=>if r=0 then bord k M 0 c else if r=1 then bord k M 1 c else M r c
theorem qjz (k:Nat) (M:Nat->Nat->Int):det (k+2) (cleared k M)=steps k M*(steps k M*det (k+2) M):=by
 have F:det (k+2) (fun r c=>if r=0 then steps k M*M 0 c else M r c)=steps k M*det (k+2) M :=
  qef (k+2) M _ 0 (steps k M) (by omega) (fun c _=>by simp) fun r c _ _ hr=>by simp [hr]
 have G:det (k+2) (fun r c=>if r=0 then bord k M 0 c else M r c)=det (k+2) (fun r c=>if r=0 then steps k M*M 0 c else M r c) :=
  qhQ (k+2) 0 (by omega) k _ _ (lam k M 0) qN (fun c _=>by
   show bord k M 0 c=_
   rw [qip];simp) fun r c _ _ hr=>by simp [hr]
 have H:det (k+2) (fun r c=>if r=1 then steps k M*M 1 c else if r=0 then bord k M 0 c else M r c)=steps k M*det (k+2) (fun r c=>if r=0 then bord k M 0 c else M r c) :=
  qef (k+2) _ _ 1 (steps k M) (by omega) (fun c _=>by simp) fun r c _ _ hr=>by simp [hr]
 have I:det (k+2) (cleared k M)=det (k+2) (fun r c=>if r=1 then steps k M*M 1 c else if r=0 then bord k M 0 c else M r c) :=
  qhQ (k+2) 1 (by omega) k _ _ (lam k M 1) qN (fun c _=>by
   show bord k M 1 c=_
   rw [qip];simp) fun r c _ _ hr=>by
    by_cases E:r=0
    ·subst E;simp [cleared]
    ·simp [cleared,hr,E]
 rw [I,H,G,F]
theorem qiu (k:Nat) (M:Nat->Nat->Int):det (k+2) (cleared k M)=(bord k M 0 0*bord k M 1 1-bord k M 0 1*bord k M 1 0)*steps k M:=by
 have z0:∀c,c<k->cleared k M 0 (c+2)=0:=fun c F=>qiq k M 0 c F
 have H:∀c,c<k->cleared k M 1 (c+2)=0:=fun c F=>qiq k M 1 c F
 have a:det (k+1) (fun r c=>cleared k M (r+1) (skip 0 c))=bord k M 1 1*steps k M:=by
  show sumN (k+1) (fun j=>sg j*cleared k M 1 (skip 0 j)*det k fun r c=>cleared k M (r+2) (skip 0 (skip j c)))=_
  rw [qfJ k _ fun i E=>by
   simp only [qdT];rw [H i E,qbK,Int.zero_mul]]
  have e:(fun r c=>cleared k M (r+2) (skip 0 (skip 0 c)))=fun r c=>M (r+2) (c+2):=by
   funext r c
   simp [qdT,cleared]
  rw [e,sg0,Int.one_mul]
  rfl
 have b:det (k+1) (fun r c=>cleared k M (r+1) (skip 1 c))=bord k M 1 0*steps k M:=by
  show sumN (k+1) (fun j=>sg j*cleared k M 1 (skip 1 j)*det k fun r c=>cleared k M (r+2) (skip 1 (skip j c)))=_
  have G:∀c,skip 1 (c+1)=c+2:=fun c=>by unfold skip;rw [if_neg (by omega)]
  rw [qfJ k _ fun i E=>by
   rw [G,H i E,qbK,Int.zero_mul]]
  have e:(fun r c=>cleared k M (r+2) (skip 1 (skip 0 c)))=fun r c=>M (r+2) (c+2):=by
   funext r c
   rw [qdT,G];simp [cleared]
  rw [e,sg0,Int.one_mul]
  rfl
 show sumN (k+1+1) (fun j=>sg j*cleared k M 0 j*det (k+1) fun r c=>cleared k M (r+1) (skip j c))=_
 rw [qd9,qfJ k _ fun i E=>by rw [z0 i E,qbK,Int.zero_mul]];simp only [qaR];rw [a,b,sg0,sg1,Int.one_mul]
 show bord k M 0 0*(bord k M 1 1*steps k M) + -1*bord k M 0 1*(bord k M 1 0*steps k M)=_
 rw [Int.sub_mul,qbI,Int.one_mul,qbI,qbD,qbD];omega
theorem qnN (k:Nat) (M:Nat->Nat->Int) (E:steps k M≠0):bord k M 0 0*bord k M 1 1-bord k M 0 1*bord k M 1 0=steps k M*det (k+2) M:=by
 have h:=(qiu k M).symm.trans (qjz k M);rw [qbm _ (steps k M)] at h;exact Int.eq_of_mul_eq_mul_left E h
