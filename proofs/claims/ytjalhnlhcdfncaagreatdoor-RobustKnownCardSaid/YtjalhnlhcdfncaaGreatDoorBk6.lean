import Derived.Test.YtjalhnlhcdfncaaGreatDoorBk4
import Derived.Test.YtjalhnlhcdfncaaGreatDoorBk5
set_option maxRecDepth 100000
set_option maxHeartbeats 0
namespace Go.Proofs.YtjalhnlhcdfncaaGreatDoor
open Go.RowKit Go.Proofs.Tryz
theorem qdT {P:Prop} (h:¬P):false=true↔P:=⟨fun e=>absurd e (by decide),fun x=>absurd x h⟩
theorem qjz {P:Prop} (h:P):true=true↔P:=⟨fun _=>h,fun _=>rfl⟩
theorem not_nums {L:List UInt8} {k:Nat} (h:k<L.length) (F:¬(48<=L[k].toNat/\L[k].toNat<=57)):¬Nums L:=fun G=>F (G _ (qbG h))
theorem qml {L:List UInt8} {k:Nat} (h:k<L.length) (H:Nums (L.take k)) (G:48<=L[k].toNat/\L[k].toNat<=57):Nums (L.take (k+1)):=by
 rw [qdO L k h];intro c F;rcases qaG.1 F with h1 | h1
 ·exact H c h1
 ·rw [qao.1 h1];exact G
def ReadsAs (w:World) (s:List UInt8) (e:Ending) (w':World):Prop:=∃v F,e=.returned (.tuple #[v,.bool F])/\(F=true↔Valid s)/\(∃a n c b,v=.agg #[.slice a n c,.bool b])/\Below w.heap.size w w'
theorem qmY (s:ByteArray) (w:World) :
  Calls prog 192 #[.string s] w fun e w'=>ReadsAs w s.data.toList e w':=by
 have hc:=fun W=>Tryz.strings_CutPrefix s ⟨#[45]⟩ W
 obtain⟨t,ht⟩:=qX ((⟨(Lib.trimPrefix s.data.toList (ByteArray.mk #[45]).data.toList).toArray⟩:ByteArray):ByteArray);have af:t.data.toList=body s.data.toList:=by rw [<-ht];rfl
 obtain⟨b,hb⟩:=qX (Lib.hasPrefix s.data.toList (ByteArray.mk #[45]).data.toList);have aA:signd s.data.toList=b:=hb;rw [ht,hb] at hc;obtain⟨L,hL⟩:=qX (body s.data.toList);obtain⟨n,hn⟩:=qX t.size;have ak:L.length=n:=by rw [<-hL,<-af,<-hn];rfl
 have az:∀k (h:k<t.size) (h':k<L.length),t[k]=L[k]:=fun k h h'=>by subst hL;simp only [<-af];rfl
 have hV:Valid s.data.toList↔(Nums L/\0<L.length/\L.length<=600/\(L.head? = some 48->L.length=1/\b=false)):=by
  subst hL;subst aA;exact⟨fun h=>⟨h.nums,h.pos,h.le,h.lead⟩,fun h=>⟨h.1,h.2.1,h.2.2.1,h.2.2.2⟩⟩
 have hg:=fun (h1:Nums L) (h2:0<L.length) (h3:L.length<=600) W=>whole.qku t (by rw [af,hL];exact h1) (by rw [hn,<-ak];exact h2) (by rw [hn,<-ak];omega) W
 have HC:=qH hc;have HV:=qH hV;have HG:=qH hg;have ay:=qH az;have HL:=qH (qA ak hn);clear hc hV hg aA hb af ht hL az;have HA:Hu (∀cs,Below w.heap.size w (w.alloc (.cells cs 267))):=qH fun cs=>qB.alloc qN _
 have aD:(w.alloc (.cells #[.slice none 0 0,.bool false] 267)).heap[w.heap.size]? = some (.cells #[.slice none 0 0,.bool false] 267 (0,0)):=qM _ _ _ rfl;have HZ:=qH aD;clear aD
 by_cases ah:n=0\/600<n
 ·have O:¬Valid s.data.toList:=fun h=>by have:=HV.o.1 h;omega
  have HN:=qH O;clear O
  by_cases aG:n=0
  ·subst aG;go_enter func192,ntmps192;go_wp2_with fail;refine (HC.o _).mono ?_;rintro e w1 ⟨rfl,rfl⟩;go_wp2_with fail;refine qR (v:=.tuple #[.agg #[.slice none 0 0,.bool false],.bool false]) (rB_ rfl w.heap.size HZ.o underlying267 2) rfl ⟨_,_,rfl,qdT HN.o,⟨_,_,_,_,rfl⟩,HA.o _⟩
  ·have h6:(600:Int)<n:=by omega
   have aH:((n:Int) == 0)=false:=by rw [beq_eq_false_iff_ne];omega
   go_enter func192,ntmps192;go_wp2_with fail;refine (HC.o _).mono ?_;rintro e w1 ⟨rfl,rfl⟩;go_wp2_with fail;refine qR (v:=.tuple #[.agg #[.slice none 0 0,.bool false],.bool false]) (rB_ rfl w.heap.size HZ.o underlying267 2) rfl ⟨_,_,rfl,qdT HN.o,⟨_,_,_,_,rfl⟩,HA.o _⟩
 ·have h6:¬(600:Int)<n:=by omega
  have h0:(0:Int)<n:=by omega
  have aH:((n:Int) == 0)=false:=by rw [beq_eq_false_iff_ne];omega
  have av:n<=600:=by omega
  have aF:=qH ah;clear ah;go_enter func192,ntmps192;go_wp2_with fail;refine (HC.o _).mono ?_;rintro e w1 ⟨rfl,rfl⟩;go_wp2_with fail
  go_loopw [23] (fun x23 W=>∃k:Nat,k<=n/\x23=.int .i64 k/\W=w.alloc (.cells #[.slice none 0 0,.bool false] 267)/\Hu (Nums (L.take k))) (fun x23 _=>n-(intOf x23).toNat)
  case atStart=>exact⟨0,qan _,rfl,rfl,qH (fun c hc=>by simp at hc)⟩
  case round =>
   obtain⟨k,hk,rfl,rfl,hI⟩:=hrel
   by_cases au:k<n
   ·have aM:(k:Int)<n:=by omega
    have aj:k<L.length:=by rw [HL.o.1];exact au
    have ae:k<t.size:=by rw [HL.o.2];exact au
    have Y:=ay.o k ae aj;obtain⟨c,H⟩:=qX (L[k].toNat);have aI:(t[k]'ae).toNat=c:=by rw [Y,H]
    by_cases F:48<=c/\c<=57
    ·have aC:=qml aj hI.o (by rw [H];exact F);have g1:¬(c:Int)<48:=by omega
     have g2:¬(57:Int)<c:=by omega
     have HX:=qH aC;clear aC H Y F;go_wp2;go_roundw
     case rel=>exact⟨k+1,au,by go_num,trivial,HX⟩
     case measure=>simp [intOf];omega
    ·have O:¬Valid s.data.toList:=fun h=>not_nums aj (by rw [H];exact F) (HV.o.1 h).1
     have HN:=qH O;have Hg:=qH F;clear O H Y F
     by_cases g1:(c:Int)<48
     ·go_wp2_with fail;refine qR (v:=.tuple #[.agg #[.slice none 0 0,.bool false],.bool false]) (rB_ rfl w.heap.size HZ.o underlying267 2) rfl ⟨_,_,rfl,qdT HN.o,⟨_,_,_,_,rfl⟩,HA.o _⟩
     ·have g2:(57:Int)<c:=by have:=Hg.o;omega
      go_wp2_with fail;refine qR (v:=.tuple #[.agg #[.slice none 0 0,.bool false],.bool false]) (rB_ rfl w.heap.size HZ.o underlying267 2) rfl ⟨_,_,rfl,qdT HN.o,⟨_,_,_,_,rfl⟩,HA.o _⟩
   ·obtain rfl:k=n:=by omega
    have ai:Nums L:=by have h:=hI.o;rwa [qal (by rw [HL.o.1];exact qae _)] at h
    have Z:0<L.length:=by rw [HL.o.1];omega
    have ae:0<t.size:=by rw [HL.o.2];omega
    have Y:=ay.o 0 ae Z;obtain⟨c,H⟩:=qX (L[0].toNat);have aI:(t[0]'ae).toNat=c:=by rw [Y,H]
    have aa:L.head? = some 48↔c=48:=by
     rw [List.head?_eq_getElem?,qad Z,<-H];exact⟨fun e=>by rw [qag e];rfl,fun e=>congrArg some (qkf e)⟩
    have Hh:=qH aa;have Hn:=qH ai;clear aa ai H Y;have aB:=HG.o Hn.o Z (by rw [HL.o.1];exact av);have ax:=qH aB;clear aB
    by_cases ag:c=48
    ·subst ag
     by_cases I:b=true\/1<k
     ·have O:¬Valid s.data.toList:=fun h=>by
       have h1:=(HV.o.1 h).2.2.2 (Hh.o.2 rfl);rcases I with h2 | h2
       ·rw [h2] at h1;exact absurd h1.2 (by decide)
       ·rw [HL.o.1] at h1;omega
      have HN:=qH O;clear O;cases b with
      | true =>
       go_wp2_with fail;refine qR (v:=.tuple #[.agg #[.slice none 0 0,.bool false],.bool false]) (rB_ rfl w.heap.size HZ.o underlying267 2) rfl ⟨_,_,rfl,qdT HN.o,⟨_,_,_,_,rfl⟩,HA.o _⟩
      | false =>
       have aJ:(1:Int)<k:=by
        rcases I with h | h
        ·cases h
        ·omega
       clear I;go_wp2_with fail;refine qR (v:=.tuple #[.agg #[.slice none 0 0,.bool false],.bool false]) (rB_ rfl w.heap.size HZ.o underlying267 2) rfl ⟨_,_,rfl,qdT HN.o,⟨_,_,_,_,rfl⟩,HA.o _⟩
     ·have hb:b=false:=by
       cases b with
       | true=>exact absurd (qav rfl) I
       | false=>rfl
      have aL:¬(1:Int)<k:=by omega
      subst hb;have U:Valid s.data.toList:=HV.o.2 ⟨Hn.o,Z,by rw [HL.o.1];exact av,fun _=>⟨by rw [HL.o.1];omega,rfl⟩⟩;have HY:=qH U;clear U I;go_wp2_with fail;refine (ax.o _).mono ?_;rintro e w2 ⟨v,rfl,V,hv⟩;have G:=(V.block w.heap.size (by simp)).trans HZ.o;have J:Below w.heap.size w w2:=(HA.o _).trans (V.mono (HA.o _).size);obtain⟨am,bm,om,cm,nm,M,rfl,_,_⟩:=hv;have HR:=qH (qA G (qS J qN #[.slice am nm cm,.bool false]));clear G J V
      go_wp2_with ((with_reducible refine wpList_store_row rfl 267 _ _ rfl w.heap.size #[.slice am nm cm,.bool false] ?_ ?_ 267 _ HR.o.1 2 ?_ ?_ ?_ ?_ ?_);(next=>rfl);(next=>rfl);(next=>kernel_rfl);(next=>rfl);(next=>rfl);(next=>rfl))
      refine qR (v:=.tuple #[.agg #[.slice am nm cm,.bool false],.bool true]) (rB_ rfl w.heap.size (qT _ _ _ _ _ _ HR.o.1) underlying267 2) rfl ⟨_,_,rfl,qjz HY.o,⟨_,_,_,_,rfl⟩,HR.o.2⟩
    ·have aK:((c:Int) == 48)=false:=by rw [beq_eq_false_iff_ne];omega
     have U:Valid s.data.toList:=HV.o.2 ⟨Hn.o,Z,by rw [HL.o.1];exact av,fun h=>absurd (Hh.o.1 h) ag⟩;have HY:=qH U;clear U;go_wp2_with fail;refine (ax.o _).mono ?_;rintro e w2 ⟨v,rfl,V,hv⟩;have G:=(V.block w.heap.size (by simp)).trans HZ.o;have J:Below w.heap.size w w2:=(HA.o _).trans (V.mono (HA.o _).size);obtain⟨am,bm,om,cm,nm,M,rfl,_,_⟩:=hv;have HR:=qH (qA G (qS J qN #[.slice am nm cm,.bool b]));clear G J V
     go_wp2_with ((with_reducible refine wpList_store_row rfl 267 _ _ rfl w.heap.size #[.slice am nm cm,.bool b] ?_ ?_ 267 _ HR.o.1 2 ?_ ?_ ?_ ?_ ?_);(next=>rfl);(next=>rfl);(next=>kernel_rfl);(next=>rfl);(next=>rfl);(next=>rfl))
     refine qR (v:=.tuple #[.agg #[.slice am nm cm,.bool b],.bool true]) (rB_ rfl w.heap.size (qT _ _ _ _ _ _ HR.o.1) underlying267 2) rfl ⟨_,_,rfl,qjz HY.o,⟨_,_,_,_,rfl⟩,HR.o.2⟩
def qeT (w:World) (P:Prop) (F:Int) (e:Ending) (w':World):Prop:=∃c:Int,e=.returned (.int .i64 c)/\(c=0/\P\/c=F/\¬P)/\Below w.heap.size w w'
theorem qfF (s:ByteArray) (w:World) :
  Calls prog 119 #[.string s] w fun e w'=>qeT w (Valid s.data.toList) 10 e w':=by
 have J:=qH (qmY s w);go_enter func119,ntmps119;go_wp2_with fail;refine J.o.mono ?_;rintro e O ⟨v,ok,rfl,F,⟨a,n,c,b,rfl⟩,G⟩;have H:=qH (G.alloc G.size (.cells #[.slice a n c,.bool b] 267));have I:=qH F;clear G F;cases ok with
 | true =>
  go_wp2;go_ret;exact⟨0,rfl,qav ⟨rfl,by simpa using I.o⟩,H.o⟩
 | false =>
  go_wp2;go_ret;exact⟨10,rfl,qaj ⟨rfl,by simpa using I.o⟩,H.o⟩
theorem qiC {z N:Int} {d D:Nat} (F:d≠0) (H:z.natAbs.Coprime d) (G:D≠0) (h:z*D=N*d) {q:Rat} (I:q=mkRat N D):q.num=z/\q.den=d:=by
 have e:q=(⟨z,d,F,H⟩:Rat):=by
  rw [I,Rat.mk_eq_mkRat];exact ((Rat.mkRat_eq_iff F G).2 h).symm
 rw [e];exact⟨rfl,rfl⟩
theorem rat_mul {p q:Rat} {z:Int} {d:Nat} (G:d≠0) (F:z.natAbs.Coprime d) (h:z*(p.den*q.den:Nat)=p.num*q.num*d):(p*q).num=z/\(p*q).den=d :=
 qiC G F (qbF p.den_nz q.den_nz) h (Rat.mul_def' p q)
theorem rat_add {p q:Rat} {z:Int} {d:Nat} (G:d≠0) (F:z.natAbs.Coprime d) (h:z*(p.den*q.den:Nat)=(p.num*q.den+q.num*p.den)*d):(p+q).num=z/\(p+q).den=d :=
 qiC G F (qbF p.den_nz q.den_nz) h (Rat.add_def' p q)
theorem mul_low {x X y Y:Nat} (h1:x.Coprime X) (h2:y.Coprime Y) (hX:0<X) (hY:0<Y) :
  (x / x.gcd Y*(y / y.gcd X)).Coprime (X / y.gcd X*(Y / x.gcd Y))/\x / x.gcd Y*(y / y.gcd X)*(X*Y)=x*y*(X / y.gcd X*(Y / x.gcd Y)):=by
 have hg:0<x.gcd Y:=qa5 _ hY;have Z:0<y.gcd X:=qa5 _ hX;obtain⟨a,J⟩:=qbI x Y;obtain⟨d,V⟩:=qaR x Y;obtain⟨c,U⟩:=qbI y X;obtain⟨b,O⟩:=qaR y X;have ea:x / x.gcd Y=a:=by (conv=>lhs;lhs;rw [J]);exact qaO _ hg
 have ed:Y / x.gcd Y=d:=by (conv=>lhs;lhs;rw [V]);exact qaO _ hg
 have ec:y / y.gcd X=c:=by (conv=>lhs;lhs;rw [U]);exact qaO _ Z
 have eb:X / y.gcd X=b:=by (conv=>lhs;lhs;rw [O]);exact qaO _ Z
 have G:a.Coprime d:=by have:=Nat.coprime_div_gcd_div_gcd hg;rwa [ea,ed] at this
 have H:c.Coprime b:=by have:=Nat.coprime_div_gcd_div_gcd Z;rwa [ec,eb] at this
 have F:a.Coprime b:=Nat.Coprime.coprime_dvd_left ⟨_,by rw [qaC];exact J⟩ (Nat.Coprime.coprime_dvd_right ⟨_,by rw [qaC];exact O⟩ h1);have I:c.Coprime d:=Nat.Coprime.coprime_dvd_left ⟨_,by rw [qaC];exact U⟩ (Nat.Coprime.coprime_dvd_right ⟨_,by rw [qaC];exact V⟩ h2);rw [ea,eb,ec,ed];refine⟨Nat.Coprime.mul_left (Nat.Coprime.mul_right F G) (Nat.Coprime.mul_right H I),?_⟩;generalize x.gcd Y=g at *;generalize y.gcd X=h at *;subst J O;rw [U,V];simp only [qaC,qbr]
theorem qle {x y:Int} {l r X:Nat} (Z:x.natAbs.Coprime X) (hr:r∣X) (H:l.Coprime r):(x*l+y*r).natAbs.Coprime r:=by
 unfold Nat.Coprime;have G:=qbI (x*l+y*r).natAbs r;have F:=qaR (x*l+y*r).natAbs r;generalize (x*l+y*r).natAbs.gcd r=d at *;have I:(d:Int)∣x*l+y*r:=Int.ofNat_dvd_left.2 G;have J:(d:Int)∣y*r:=Int.dvd_mul_of_dvd_right (Int.natCast_dvd_natCast.2 F);have O:(d:Int)∣x*l:=(Int.dvd_add_left J).1 I;have U:d∣x.natAbs*l:=by have:=Int.ofNat_dvd_left.1 O;rwa [qaD,qaq] at this
 have V:d.Coprime l:=Nat.Coprime.coprime_dvd_left F H.symm;have Y:d∣x.natAbs:=V.dvd_of_dvd_mul_right U;exact Nat.eq_one_of_dvd_one (by rw [<-Z];exact Nat.dvd_gcd Y (Nat.dvd_trans F hr))
theorem add_low {x y:Int} {X Y:Nat} (h1:x.natAbs.Coprime X) (h2:y.natAbs.Coprime Y) (hX:0<X) (T:Int) (hT:T=x*(Y / X.gcd Y:Nat)+y*(X / X.gcd Y:Nat)) :
  (T.natAbs / T.natAbs.gcd (X.gcd Y)).Coprime (X / X.gcd Y*(Y / T.natAbs.gcd (X.gcd Y))) /\
   T.tdiv (T.natAbs.gcd (X.gcd Y):Nat)*(X*Y:Nat)=(x*Y+y*X)*(X / X.gcd Y*(Y / T.natAbs.gcd (X.gcd Y)):Nat):=by
 have hg:0<X.gcd Y:=Nat.gcd_pos_of_pos_left _ hX;have J:0<T.natAbs.gcd (X.gcd Y):=qa5 _ hg;obtain⟨r,hr⟩:=qbI X Y;obtain⟨l,G⟩:=qaR X Y;have Z:X / X.gcd Y=r:=by (conv=>lhs;lhs;rw [hr]);exact qaO _ hg
 have el:Y / X.gcd Y=l:=by (conv=>lhs;lhs;rw [G]);exact qaO _ hg
 have F:r.Coprime l:=by have:=Nat.coprime_div_gcd_div_gcd hg;rwa [Z,el] at this
 rw [Z,el] at hT;have U:T.natAbs.Coprime r:=by rw [hT];exact qle h1 ⟨_,by rw [qaC];exact hr⟩ F.symm
 have O:T.natAbs.Coprime l:=by rw [hT,Int.add_comm];exact qle h2 ⟨_,by rw [qaC];exact G⟩ F
 obtain⟨n,hn⟩:=qbI T.natAbs (X.gcd Y);obtain⟨k,hk⟩:=qaR T.natAbs (X.gcd Y);have en:T.natAbs / T.natAbs.gcd (X.gcd Y)=n:=by (conv=>lhs;lhs;rw [hn]);exact qaO _ J
 have ek:X.gcd Y / T.natAbs.gcd (X.gcd Y)=k:=by (conv=>lhs;lhs;rw [hk]);exact qaO _ J
 have V:n.Coprime k:=by have:=Nat.coprime_div_gcd_div_gcd J;rwa [en,ek] at this
 have H:n∣T.natAbs:=⟨_,by rw [qaC];exact hn⟩;have eY:Y / T.natAbs.gcd (X.gcd Y)=k*l:=by
  conv=>lhs;lhs;rw [G,hk]
  rw [qaI];exact qaO _ J
 rw [en,Z,eY];refine⟨Nat.Coprime.mul_right (Nat.Coprime.coprime_dvd_left H U) (Nat.Coprime.mul_right V (Nat.Coprime.coprime_dvd_left H O)),?_⟩;have eT:T=T.tdiv (T.natAbs.gcd (X.gcd Y):Nat)*(T.natAbs.gcd (X.gcd Y):Nat):=by
  refine (Int.tdiv_mul_cancel (Int.ofNat_dvd_left.2 (qbI _ _))).symm
 have I:x*Y+y*X=(X.gcd Y:Int)*T:=by
  conv=>lhs;rw [G,hr]
  rw [hT];push_cast;grind
 generalize T.tdiv (T.natAbs.gcd (X.gcd Y):Nat)=t at *;generalize T.natAbs.gcd (X.gcd Y)=h at *;rw [I,eT];generalize X.gcd Y=g at *;subst hk hr G
 push_cast
 grind
