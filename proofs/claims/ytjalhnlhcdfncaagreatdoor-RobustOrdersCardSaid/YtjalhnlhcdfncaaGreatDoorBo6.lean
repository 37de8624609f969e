import Derived.Test.YtjalhnlhcdfncaaGreatDoorBo4
import Derived.Test.YtjalhnlhcdfncaaGreatDoorBo5
set_option maxRecDepth 100000
set_option maxHeartbeats 0
namespace Go.Proofs.YtjalhnlhcdfncaaGreatDoor
open Go.RowKit Go.Proofs.Tryz
theorem qc5 {P:Prop} (h:¬P):false=true↔P:=⟨fun e=>absurd e (by decide),fun x=>absurd x h⟩
theorem qfF {P:Prop} (h:P):true=true↔P:=⟨fun _=>h,fun _=>rfl⟩
theorem not_nums {L:List UInt8} {k:Nat} (h:k<L.length) (E:¬(48<=L[k].toNat/\L[k].toNat<=57)):¬Nums L:=fun F=>E (F _ (qbz h))
theorem qor {L:List UInt8} {k:Nat} (h:k<L.length) (H:Nums (L.take k)) (F:48<=L[k].toNat/\L[k].toNat<=57):Nums (L.take (k+1)):=by
 rw [qep L k h];intro c E;rcases qaL.1 E with h1 | h1
 ·exact H c h1
 ·rw [qap.1 h1];exact F
def ReadsAs (w:World) (s:List UInt8) (e:Ending) (w':World):Prop:=∃v ok,e=.returned (.tuple #[v,.bool ok])/\(ok=true↔Valid s)/\(∃a n c b,v=.agg #[.slice a n c,.bool b])/\Below w.heap.size w w'
theorem qpn (s:ByteArray) (w:World) :
  Calls prog 192 #[.string s] w fun e w'=>ReadsAs w s.data.toList e w':=by
 have hc:=fun W=>Tryz.strings_CutPrefix s ⟨#[45]⟩ W
 obtain⟨t,ht⟩:=qX ((⟨(Lib.trimPrefix s.data.toList (ByteArray.mk #[45]).data.toList).toArray⟩:ByteArray):ByteArray);have af:t.data.toList=body s.data.toList:=by rw [<-ht];rfl
 obtain⟨b,hb⟩:=qX (Lib.hasPrefix s.data.toList (ByteArray.mk #[45]).data.toList);have aA:signd s.data.toList=b:=hb;rw [ht,hb] at hc;obtain⟨L,hL⟩:=qX (body s.data.toList);obtain⟨n,hn⟩:=qX t.size;have ak:L.length=n:=by rw [<-hL,<-af,<-hn];rfl
 have az:∀k (h:k<t.size) (h':k<L.length),t[k]=L[k]:=fun k h h'=>by subst hL;simp only [<-af];rfl
 have hV:Valid s.data.toList↔(Nums L/\0<L.length/\L.length<=600/\(L.head? = some 48->L.length=1/\b=false)):=by
  subst hL;subst aA;exact⟨fun h=>⟨h.nums,h.pos,h.le,h.lead⟩,fun h=>⟨h.1,h.2.1,h.2.2.1,h.2.2.2⟩⟩
 have hg:=fun (h1:Nums L) (h2:0<L.length) (h3:L.length<=600) W=>whole.ql5 t (by rw [af,hL];exact h1) (by rw [hn,<-ak];exact h2) (by rw [hn,<-ak];omega) W
 have HC:=qH hc;have HV:=qH hV;have HG:=qH hg;have ay:=qH az;have HL:=qH (qA ak hn);clear hc hV hg aA hb af ht hL az;have HA:Hu (∀cs,Below w.heap.size w (w.alloc (.cells cs 267))):=qH fun cs=>qB.alloc qN _
 have aD:(w.alloc (.cells #[.slice none 0 0,.bool false] 267)).heap[w.heap.size]? = some (.cells #[.slice none 0 0,.bool false] 267 (0,0)):=qM _ _ _ rfl;have HZ:=qH aD;clear aD
 by_cases ah:n=0\/600<n
 ·have O:¬Valid s.data.toList:=fun h=>by have:=HV.o.1 h;omega
  have HN:=qH O;clear O
  by_cases aG:n=0
  ·subst aG;go_enter func192,ntmps192;go_wp2_with fail;refine (HC.o _).mono ?_;rintro e w1 ⟨rfl,rfl⟩;go_wp2_with fail;refine qR (v:=.tuple #[.agg #[.slice none 0 0,.bool false],.bool false]) (rB_ rfl w.heap.size HZ.o underlying267 2) rfl ⟨_,_,rfl,qc5 HN.o,⟨_,_,_,_,rfl⟩,HA.o _⟩
  ·have h6:(600:Int)<n:=by omega
   have aH:((n:Int) == 0)=false:=by rw [beq_eq_false_iff_ne];omega
   go_enter func192,ntmps192;go_wp2_with fail;refine (HC.o _).mono ?_;rintro e w1 ⟨rfl,rfl⟩;go_wp2_with fail;refine qR (v:=.tuple #[.agg #[.slice none 0 0,.bool false],.bool false]) (rB_ rfl w.heap.size HZ.o underlying267 2) rfl ⟨_,_,rfl,qc5 HN.o,⟨_,_,_,_,rfl⟩,HA.o _⟩
 ·have h6:¬(600:Int)<n:=by omega
  have h0:(0:Int)<n:=by omega
  have aH:((n:Int) == 0)=false:=by rw [beq_eq_false_iff_ne];omega
  have av:n<=600:=by omega
  have aF:=qH ah;clear ah;go_enter func192,ntmps192;go_wp2_with fail;refine (HC.o _).mono ?_;rintro e w1 ⟨rfl,rfl⟩;go_wp2_with fail
  go_loopw [23] (fun x23 W=>∃k:Nat,k<=n/\x23=.int .i64 k/\W=w.alloc (.cells #[.slice none 0 0,.bool false] 267)/\Hu (Nums (L.take k))) (fun x23 _=>n-(intOf x23).toNat)
  case atStart=>exact⟨0,qaj _,rfl,rfl,qH (fun c hc=>by simp at hc)⟩
  case round =>
   obtain⟨k,hk,rfl,rfl,hI⟩:=hrel
   by_cases au:k<n
   ·have aM:(k:Int)<n:=by omega
    have aj:k<L.length:=by rw [HL.o.1];exact au
    have ae:k<t.size:=by rw [HL.o.2];exact au
    have Y:=ay.o k ae aj;obtain⟨c,H⟩:=qX (L[k].toNat);have aI:(t[k]'ae).toNat=c:=by rw [Y,H]
    by_cases E:48<=c/\c<=57
    ·have aC:=qor aj hI.o (by rw [H];exact E);have g1:¬(c:Int)<48:=by omega
     have g2:¬(57:Int)<c:=by omega
     have HX:=qH aC;clear aC H Y E;go_wp2;go_roundw
     case rel=>exact⟨k+1,au,by go_num,trivial,HX⟩
     case measure=>simp [intOf];omega
    ·have O:¬Valid s.data.toList:=fun h=>not_nums aj (by rw [H];exact E) (HV.o.1 h).1
     have HN:=qH O;have Hg:=qH E;clear O H Y E
     by_cases g1:(c:Int)<48
     ·go_wp2_with fail;refine qR (v:=.tuple #[.agg #[.slice none 0 0,.bool false],.bool false]) (rB_ rfl w.heap.size HZ.o underlying267 2) rfl ⟨_,_,rfl,qc5 HN.o,⟨_,_,_,_,rfl⟩,HA.o _⟩
     ·have g2:(57:Int)<c:=by have:=Hg.o;omega
      go_wp2_with fail;refine qR (v:=.tuple #[.agg #[.slice none 0 0,.bool false],.bool false]) (rB_ rfl w.heap.size HZ.o underlying267 2) rfl ⟨_,_,rfl,qc5 HN.o,⟨_,_,_,_,rfl⟩,HA.o _⟩
   ·obtain rfl:k=n:=by omega
    have ai:Nums L:=by have h:=hI.o;rwa [qah (by rw [HL.o.1];exact qad _)] at h
    have Z:0<L.length:=by rw [HL.o.1];omega
    have ae:0<t.size:=by rw [HL.o.2];omega
    have Y:=ay.o 0 ae Z;obtain⟨c,H⟩:=qX (L[0].toNat);have aI:(t[0]'ae).toNat=c:=by rw [Y,H]
    have aa:L.head? = some 48↔c=48:=by
     rw [List.head?_eq_getElem?,qac Z,<-H];exact⟨fun e=>by rw [qag e];rfl,fun e=>congrArg some (qgi e)⟩
    have Hh:=qH aa;have Hn:=qH ai;clear aa ai H Y;have aB:=HG.o Hn.o Z (by rw [HL.o.1];exact av);have ax:=qH aB;clear aB
    by_cases ag:c=48
    ·subst ag
     by_cases I:b=true\/1<k
     ·have O:¬Valid s.data.toList:=fun h=>by
       have h1:=(HV.o.1 h).2.2.2 (Hh.o.2 rfl);rcases I with h2 | h2
       ·rw [h2] at h1;exact absurd h1.2 (by decide)
       ·rw [HL.o.1] at h1;omega
      have HN:=qH O;clear O;cases b with
      | true =>
       go_wp2_with fail;refine qR (v:=.tuple #[.agg #[.slice none 0 0,.bool false],.bool false]) (rB_ rfl w.heap.size HZ.o underlying267 2) rfl ⟨_,_,rfl,qc5 HN.o,⟨_,_,_,_,rfl⟩,HA.o _⟩
      | false =>
       have aJ:(1:Int)<k:=by
        rcases I with h | h
        ·cases h
        ·omega
       clear I;go_wp2_with fail;refine qR (v:=.tuple #[.agg #[.slice none 0 0,.bool false],.bool false]) (rB_ rfl w.heap.size HZ.o underlying267 2) rfl ⟨_,_,rfl,qc5 HN.o,⟨_,_,_,_,rfl⟩,HA.o _⟩
     ·have hb:b=false:=by
       cases b with
       | true=>exact absurd (qaw rfl) I
       | false=>rfl
      have aL:¬(1:Int)<k:=by omega
      subst hb;have U:Valid s.data.toList:=HV.o.2 ⟨Hn.o,Z,by rw [HL.o.1];exact av,fun _=>⟨by rw [HL.o.1];omega,rfl⟩⟩;have HY:=qH U;clear U I;go_wp2_with fail;refine (ax.o _).mono ?_;rintro e w2 ⟨v,rfl,V,hv⟩;have F:=(V.block w.heap.size (by simp)).trans HZ.o;have J:Below w.heap.size w w2:=(HA.o _).trans (V.mono (HA.o _).size);obtain⟨am,bm,om,cm,nm,M,rfl,_,_⟩:=hv;have HR:=qH (qA F (qS J qN #[.slice am nm cm,.bool false]));clear F J V
      go_wp2_with ((with_reducible refine wpList_store_row rfl 267 _ _ rfl w.heap.size #[.slice am nm cm,.bool false] ?_ ?_ 267 _ HR.o.1 2 ?_ ?_ ?_ ?_ ?_);(next=>rfl);(next=>rfl);(next=>kernel_rfl);(next=>rfl);(next=>rfl);(next=>rfl))
      refine qR (v:=.tuple #[.agg #[.slice am nm cm,.bool false],.bool true]) (rB_ rfl w.heap.size (qT _ _ _ _ _ _ HR.o.1) underlying267 2) rfl ⟨_,_,rfl,qfF HY.o,⟨_,_,_,_,rfl⟩,HR.o.2⟩
    ·have aK:((c:Int) == 48)=false:=by rw [beq_eq_false_iff_ne];omega
     have U:Valid s.data.toList:=HV.o.2 ⟨Hn.o,Z,by rw [HL.o.1];exact av,fun h=>absurd (Hh.o.1 h) ag⟩;have HY:=qH U;clear U;go_wp2_with fail;refine (ax.o _).mono ?_;rintro e w2 ⟨v,rfl,V,hv⟩;have F:=(V.block w.heap.size (by simp)).trans HZ.o;have J:Below w.heap.size w w2:=(HA.o _).trans (V.mono (HA.o _).size);obtain⟨am,bm,om,cm,nm,M,rfl,_,_⟩:=hv;have HR:=qH (qA F (qS J qN #[.slice am nm cm,.bool b]));clear F J V
     go_wp2_with ((with_reducible refine wpList_store_row rfl 267 _ _ rfl w.heap.size #[.slice am nm cm,.bool b] ?_ ?_ 267 _ HR.o.1 2 ?_ ?_ ?_ ?_ ?_);(next=>rfl);(next=>rfl);(next=>kernel_rfl);(next=>rfl);(next=>rfl);(next=>rfl))
     refine qR (v:=.tuple #[.agg #[.slice am nm cm,.bool b],.bool true]) (rB_ rfl w.heap.size (qT _ _ _ _ _ _ HR.o.1) underlying267 2) rfl ⟨_,_,rfl,qfF HY.o,⟨_,_,_,_,rfl⟩,HR.o.2⟩
def qfI (w:World) (P:Prop) (E:Int) (e:Ending) (w':World):Prop:=∃c:Int,e=.returned (.int .i64 c)/\(c=0/\P\/c=E/\¬P)/\Below w.heap.size w w'
theorem qgA (s:ByteArray) (w:World) :
  Calls prog 119 #[.string s] w fun e w'=>qfI w (Valid s.data.toList) 10 e w':=by
 have J:=qH (qpn s w);go_enter func119,ntmps119;go_wp2_with fail;refine J.o.mono ?_;rintro e O ⟨v,ok,rfl,E,⟨a,n,c,b,rfl⟩,F⟩;have H:=qH (F.alloc F.size (.cells #[.slice a n c,.bool b] 267));have I:=qH E;clear F E;cases ok with
 | true =>
  go_wp2;go_ret;exact⟨0,rfl,qaw ⟨rfl,by simpa using I.o⟩,H.o⟩
 | false =>
  go_wp2;go_ret;exact⟨10,rfl,qam ⟨rfl,by simpa using I.o⟩,H.o⟩
theorem qjQ {z N:Int} {d D:Nat} (E:d≠0) (H:z.natAbs.Coprime d) (F:D≠0) (h:z*D=N*d) {q:Rat} (I:q=mkRat N D):q.num=z/\q.den=d:=by
 have e:q=(⟨z,d,E,H⟩:Rat):=by
  rw [I,Rat.mk_eq_mkRat];exact ((Rat.mkRat_eq_iff E F).2 h).symm
 rw [e];exact⟨rfl,rfl⟩
theorem rat_mul {p q:Rat} {z:Int} {d:Nat} (F:d≠0) (E:z.natAbs.Coprime d) (h:z*(p.den*q.den:Nat)=p.num*q.num*d):(p*q).num=z/\(p*q).den=d :=
 qjQ F E (qb0 p.den_nz q.den_nz) h (Rat.mul_def' p q)
theorem rat_add {p q:Rat} {z:Int} {d:Nat} (F:d≠0) (E:z.natAbs.Coprime d) (h:z*(p.den*q.den:Nat)=(p.num*q.den+q.num*p.den)*d):(p+q).num=z/\(p+q).den=d :=
 qjQ F E (qb0 p.den_nz q.den_nz) h (Rat.add_def' p q)
theorem mul_low {x X y Y:Nat} (h1:x.Coprime X) (h2:y.Coprime Y) (hX:0<X) (hY:0<Y) :
  (x / x.gcd Y*(y / y.gcd X)).Coprime (X / y.gcd X*(Y / x.gcd Y))/\x / x.gcd Y*(y / y.gcd X)*(X*Y)=x*y*(X / y.gcd X*(Y / x.gcd Y)):=by
 have hg:0<x.gcd Y:=qbe _ hY;have Z:0<y.gcd X:=qbe _ hX;obtain⟨a,J⟩:=qbT x Y;obtain⟨d,V⟩:=qa4 x Y;obtain⟨c,U⟩:=qbT y X;obtain⟨b,O⟩:=qa4 y X;have ea:x / x.gcd Y=a:=by (conv=>lhs;lhs;rw [J]);exact qa6 _ hg
 have ed:Y / x.gcd Y=d:=by (conv=>lhs;lhs;rw [V]);exact qa6 _ hg
 have ec:y / y.gcd X=c:=by (conv=>lhs;lhs;rw [U]);exact qa6 _ Z
 have eb:X / y.gcd X=b:=by (conv=>lhs;lhs;rw [O]);exact qa6 _ Z
 have F:a.Coprime d:=by have:=Nat.coprime_div_gcd_div_gcd hg;rwa [ea,ed] at this
 have H:c.Coprime b:=by have:=Nat.coprime_div_gcd_div_gcd Z;rwa [ec,eb] at this
 have E:a.Coprime b:=Nat.Coprime.coprime_dvd_left ⟨_,by rw [qav];exact J⟩ (Nat.Coprime.coprime_dvd_right ⟨_,by rw [qav];exact O⟩ h1);have I:c.Coprime d:=Nat.Coprime.coprime_dvd_left ⟨_,by rw [qav];exact U⟩ (Nat.Coprime.coprime_dvd_right ⟨_,by rw [qav];exact V⟩ h2);rw [ea,eb,ec,ed];refine⟨Nat.Coprime.mul_left (Nat.Coprime.mul_right E F) (Nat.Coprime.mul_right H I),?_⟩;generalize x.gcd Y=g at *;generalize y.gcd X=h at *;subst J O;rw [U,V];simp only [qav,qbB]
theorem qnh {x y:Int} {l r X:Nat} (hx:x.natAbs.Coprime X) (hr:r∣X) (H:l.Coprime r):(x*l+y*r).natAbs.Coprime r:=by
 unfold Nat.Coprime;have F:=qbT (x*l+y*r).natAbs r;have E:=qa4 (x*l+y*r).natAbs r;generalize (x*l+y*r).natAbs.gcd r=d at *;have I:(d:Int)∣x*l+y*r:=Int.ofNat_dvd_left.2 F;have J:(d:Int)∣y*r:=Int.dvd_mul_of_dvd_right (Int.natCast_dvd_natCast.2 E);have O:(d:Int)∣x*l:=(Int.dvd_add_left J).1 I;have U:d∣x.natAbs*l:=by have:=Int.ofNat_dvd_left.1 O;rwa [qaE,qas] at this
 have V:d.Coprime l:=Nat.Coprime.coprime_dvd_left E H.symm;have Y:d∣x.natAbs:=V.dvd_of_dvd_mul_right U;exact Nat.eq_one_of_dvd_one (by rw [<-hx];exact Nat.dvd_gcd Y (Nat.dvd_trans E hr))
theorem add_low {x y:Int} {X Y:Nat} (h1:x.natAbs.Coprime X) (h2:y.natAbs.Coprime Y) (hX:0<X) (T:Int) (hT:T=x*(Y / X.gcd Y:Nat)+y*(X / X.gcd Y:Nat)) :
  (T.natAbs / T.natAbs.gcd (X.gcd Y)).Coprime (X / X.gcd Y*(Y / T.natAbs.gcd (X.gcd Y))) /\
   T.tdiv (T.natAbs.gcd (X.gcd Y):Nat)*(X*Y:Nat)=(x*Y+y*X)*(X / X.gcd Y*(Y / T.natAbs.gcd (X.gcd Y)):Nat):=by
 have hg:0<X.gcd Y:=Nat.gcd_pos_of_pos_left _ hX;have J:0<T.natAbs.gcd (X.gcd Y):=qbe _ hg;obtain⟨r,hr⟩:=qbT X Y;obtain⟨l,F⟩:=qa4 X Y;have Z:X / X.gcd Y=r:=by (conv=>lhs;lhs;rw [hr]);exact qa6 _ hg
 have el:Y / X.gcd Y=l:=by (conv=>lhs;lhs;rw [F]);exact qa6 _ hg
 have E:r.Coprime l:=by have:=Nat.coprime_div_gcd_div_gcd hg;rwa [Z,el] at this
 rw [Z,el] at hT;have U:T.natAbs.Coprime r:=by rw [hT];exact qnh h1 ⟨_,by rw [qav];exact hr⟩ E.symm
 have O:T.natAbs.Coprime l:=by rw [hT,Int.add_comm];exact qnh h2 ⟨_,by rw [qav];exact F⟩ E
 obtain⟨n,hn⟩:=qbT T.natAbs (X.gcd Y);obtain⟨k,hk⟩:=qa4 T.natAbs (X.gcd Y);have en:T.natAbs / T.natAbs.gcd (X.gcd Y)=n:=by (conv=>lhs;lhs;rw [hn]);exact qa6 _ J
 have ek:X.gcd Y / T.natAbs.gcd (X.gcd Y)=k:=by (conv=>lhs;lhs;rw [hk]);exact qa6 _ J
 have V:n.Coprime k:=by have:=Nat.coprime_div_gcd_div_gcd J;rwa [en,ek] at this
 have H:n∣T.natAbs:=⟨_,by rw [qav];exact hn⟩;have eY:Y / T.natAbs.gcd (X.gcd Y)=k*l:=by
  conv=>lhs;lhs;rw [F,hk]
  rw [qay];exact qa6 _ J
 rw [en,Z,eY];refine⟨Nat.Coprime.mul_right (Nat.Coprime.coprime_dvd_left H U) (Nat.Coprime.mul_right V (Nat.Coprime.coprime_dvd_left H O)),?_⟩;have eT:T=T.tdiv (T.natAbs.gcd (X.gcd Y):Nat)*(T.natAbs.gcd (X.gcd Y):Nat):=by
  refine (Int.tdiv_mul_cancel (Int.ofNat_dvd_left.2 (qbT _ _))).symm
 have I:x*Y+y*X=(X.gcd Y:Int)*T:=by
  conv=>lhs;rw [F,hr]
  rw [hT];push_cast;grind
 generalize T.tdiv (T.natAbs.gcd (X.gcd Y):Nat)=t at *;generalize T.natAbs.gcd (X.gcd Y)=h at *;rw [I,eT];generalize X.gcd Y=g at *;subst hk hr F
 push_cast
 grind
def sumN:Nat->(Nat->Int)->Int
 | 0,_=>0
 | n+1,f=>sumN n f+f n
theorem qct {n:Nat} {f g:Nat->Int} (h:∀i,i<n->f i=g i):sumN n f=sumN n g:=by
 induction n with
 | zero=>rfl
 | succ n ih=>simp only [sumN];rw [ih fun i E=>h i (by omega),h n (by omega)]
theorem qiW (n:Nat) (f g:Nat->Int):sumN n (fun i=>f i+g i)=sumN n f+sumN n g:=by
 induction n with
 | zero=>rfl
 | succ n ih=>simp only [sumN,ih];omega
theorem qgh (n:Nat) (c:Int) (f:Nat->Int):sumN n (fun i=>c*f i)=c*sumN n f:=by
 induction n with
 | zero=>simp [sumN]
 | succ n ih=>simp only [sumN,ih,Int.mul_add]
theorem qhP (n:Nat) (f:Nat->Int) (h:∀i,i<n->f i=0):sumN n f=0:=by
 induction n with
 | zero=>rfl
 | succ n ih=>simp only [sumN];rw [ih fun i E=>h i (by omega),h n (by omega)];rfl
theorem qlQ (n:Nat) (f:Nat->Int):sumN n (fun i=>- f i) = - sumN n f:=by
 induction n with
 | zero=>rfl
 | succ n ih=>simp only [sumN,ih];omega
theorem qj3 (n m:Nat) (f:Nat->Nat->Int):sumN n (fun i=>sumN m (fun j=>f i j))=sumN m (fun j=>sumN n (fun i=>f i j)):=by
 induction n with
 | zero =>
  simp only [sumN];exact (qhP m _ fun _ _=>rfl).symm
 | succ n ih=>simp only [sumN,ih];rw [<-qiW]
theorem qo5 (n:Nat) (f:Nat->Nat->Int) (h:∀i j,i<n->j<n->f i j = - f j i):sumN n (fun i=>sumN n (fun j=>f i j))=0:=by
 have H:sumN n (fun i=>sumN n (fun j=>f i j))=sumN n (fun i=>sumN n (fun j=>- f j i)):=qct fun i E=>qct fun j F=>h i j E F
 have I:sumN n (fun i=>sumN n (fun j=>- f j i)) = - sumN n (fun i=>sumN n (fun j=>f j i)):=by
  rw [<-qlQ];exact qct fun i _=>qlQ n _
 have J:=qj3 n n f;omega
def skip (k c:Nat):Nat:=if c<k then c else c+1
theorem qek {k c n:Nat} (E:c<n):skip k c<n+1:=by unfold skip;split <;> omega
theorem skip_ne (k c:Nat):skip k c≠k:=by unfold skip;split <;> omega
theorem qo6 (n k:Nat) (J:k<n+1) (f:Nat->Int):sumN n (fun c=>f (skip k c))+f k=sumN (n+1) f:=by
 induction n with
 | zero =>
  obtain rfl:k=0:=by omega
  simp [sumN]
 | succ n ih =>
  by_cases F:k=n+1
  ·subst F;simp only [sumN];have H:sumN n (fun c=>f (skip (n+1) c))=sumN n f:=qct fun i I=>by unfold skip;rw [if_pos (by omega)]
   have E:f (skip (n+1) n)=f n:=by unfold skip;rw [if_pos (by omega)]
   rw [H,E]
  ·have:=ih (by omega);simp only [sumN] at this ⊢;have E:f (skip k n)=f (n+1):=by unfold skip;rw [if_neg (by omega)]
   rw [E];omega
def sg (j:Nat):Int:=if j % 2=0 then 1 else -1
def det:Nat->(Nat->Nat->Int)->Int
 | 0,_=>1
 | n+1,M=>sumN (n+1) fun j=>sg j*M 0 j*det n fun r c=>M (r+1) (skip j c)
theorem qeL:∀(n:Nat) (M N:Nat->Nat->Int),(∀r c,r<n->c<n->M r c=N r c)->det n M=det n N
 | 0,_,_,_=>rfl
 | n+1,M,N,h=>by
  simp only [det];refine qct fun j F=>?_
  rw [h 0 j (by omega) F,qeL n _ _ fun r c hr E=>h (r+1) (skip j c) (by omega) (qek E)]
theorem qeB:∀(n:Nat) (M N K:Nat->Nat->Int) (k:Nat),k<n->(∀c,c<n->K k c=M k c+N k c)->(∀r c,r<n->c<n->r≠k->K r c=M r c/\K r c=N r c)->det n K=det n M+det n N
 | 0,_,_,_,_,h,_,_=>absurd h (by omega)
 | n+1,M,N,K,0,_,H,ho=>by
  simp only [det];rw [<-qiW];refine qct fun j F=>?_
  have J:det n (fun r c=>K (r+1) (skip j c))=det n (fun r c=>M (r+1) (skip j c)):=qeL n _ _ fun r c hr E=>(ho (r+1) (skip j c) (by omega) (qek E) (by omega)).1
  have O:det n (fun r c=>K (r+1) (skip j c))=det n (fun r c=>N (r+1) (skip j c)):=qeL n _ _ fun r c hr E=>(ho (r+1) (skip j c) (by omega) (qek E) (by omega)).2
  rw [<-O,<-J,H j F,Int.mul_add,Int.add_mul]
 | n+1,M,N,K,k+1,h,H,ho=>by
  simp only [det];rw [<-qiW];refine qct fun j F=>?_
  have e:=qeB n (fun r c=>M (r+1) (skip j c)) (fun r c=>N (r+1) (skip j c)) (fun r c=>K (r+1) (skip j c)) k (by omega) (fun c E=>H (skip j c) (qek E)) (fun r c hr E U=>ho (r+1) (skip j c) (by omega) (qek E) (by omega));have I:=ho 0 j (by omega) F (by omega);rw [e,Int.mul_add];rw [<-I.1];have:K 0 j=N 0 j:=I.2;rw [this]
theorem qeC:∀(n:Nat) (M K:Nat->Nat->Int) (k:Nat) (a:Int),k<n->(∀c,c<n->K k c=a*M k c)->(∀r c,r<n->c<n->r≠k->K r c=M r c)->det n K=a*det n M
 | 0,_,_,_,_,h,_,_=>absurd h (by omega)
 | n+1,M,K,0,a,_,H,ho=>by
  simp only [det];rw [<-qgh];refine qct fun j F=>?_
  rw [qeL n _ _ fun r c hr E=>ho (r+1) (skip j c) (by omega) (qek E) (by omega),H j F];rw [<-qbK,<-qbK,qbs (sg j) a,qbK a (sg j)]
 | n+1,M,K,k+1,a,h,H,ho=>by
  simp only [det];rw [<-qgh];refine qct fun j F=>?_
  have e:=qeC n (fun r c=>M (r+1) (skip j c)) (fun r c=>K (r+1) (skip j c)) k a (by omega) (fun c E=>H (skip j c) (qek E)) (fun r c hr E I=>ho (r+1) (skip j c) (by omega) (qek E) (by omega));rw [e,ho 0 j (by omega) F (by omega),<-qbK,<-qbK,qbs (sg j*M 0 j) a,qbK]
def cof (j k:Nat):Nat:=if k<j then k else k-1
theorem cof_skip (j c:Nat):cof j (skip j c)=c:=by unfold cof skip;(repeat' split) <;> omega
theorem qmP (j k x:Nat) (h:j≠k):skip j (skip (cof j k) x)=skip k (skip (cof k j) x):=by
 unfold cof skip
 by_cases F:k<j
 ·have E:¬j<k:=by omega
  simp only [F,E,if_true,if_false]
  (repeat' split) <;> omega
 ·have E:j<k:=by omega
  simp only [F,E,if_true,if_false]
  (repeat' split) <;> omega
theorem sg_cof (j k:Nat) (h:j≠k):sg j*sg (cof j k) = - (sg k*sg (cof k j)):=by
 unfold sg cof
 by_cases F:k<j
 ·have E:¬j<k:=by omega
  simp only [F,E,if_true,if_false]
  (repeat' split) <;> first | omega | (exfalso;omega)
 ·have E:j<k:=by omega
  simp only [F,E,if_true,if_false]
  (repeat' split) <;> first | omega | (exfalso;omega)
def two (n:Nat) (M:Nat->Nat->Int) (j k:Nat):Int:=if j=k then 0 else sg j*sg (cof j k)*(M 0 j*M 1 k)*det n fun r x=>M (r+2) (skip j (skip (cof j k) x))
theorem det_two (n:Nat) (M:Nat->Nat->Int):det (n+2) M=sumN (n+2) fun j=>sumN (n+2) fun k=>two n M j k:=by
 show sumN (n+2) (fun j=>sg j*M 0 j*det (n+1) fun r c=>M (r+1) (skip j c))=_
 refine qct fun j F=>?_
 rw [<-qo6 (n+1) j F];have E:two n M j j=0:=by unfold two;rw [if_pos rfl]
 rw [E,Int.add_zero]
 show sg j*M 0 j*sumN (n+1) (fun c=>sg c*M 1 (skip j c)*det n fun r x=>M (r+2) (skip j (skip c x)))=_
 rw [<-qgh];refine qct fun c H=>?_
 unfold two;rw [if_neg (Ne.symm (skip_ne j c)),cof_skip];simp only [qbK,qbs,Int.mul_left_comm]
theorem qlX (n:Nat) (M:Nat->Nat->Int) (h:∀c,c<n+2->M 0 c=M 1 c):det (n+2) M=0:=by
 rw [det_two];refine qo5 (n+2) _ fun j k F H=>?_
 unfold two
 by_cases E:j=k
 ·rw [if_pos E,if_pos E.symm];rfl
 ·rw [if_neg E,if_neg (Ne.symm E),sg_cof j k E];have e:(fun r x=>M (r+2) (skip j (skip (cof j k) x)))=fun r x=>M (r+2) (skip k (skip (cof k j) x)):=by
   funext r x;rw [qmP j k x E]
  rw [e,h j F,<-h k H,qbs (M 1 j) (M 0 k),qbN,qbN]
theorem qeD:∀(n:Nat) (M:Nat->Nat->Int) (k:Nat),k+1<n->(∀c,c<n->M k c=M (k+1) c)->det n M=0
 | 0,_,_,h,_=>absurd h (by omega)
 | 1,_,_,h,_=>absurd h (by omega)
 | n+2,M,0,_,h=>qlX n M h
 | n+2,M,k+1,H,h=>by
  show sumN (n+2) (fun j=>sg j*M 0 j*det (n+1) fun r c=>M (r+1) (skip j c))=0
  refine qhP _ _ fun j F=>?_
  rw [qeD (n+1) (fun r c=>M (r+1) (skip j c)) k (by omega) fun c E=>h (skip j c) (qek E),qbP]
def R2 (M:Nat->Nat->Int) (k:Nat) (x y:Nat->Int):Nat->Nat->Int:=fun r c=>if r=k then x c else if r=k+1 then y c else M r c
theorem R2_left (n:Nat) (M:Nat->Nat->Int) (k:Nat) (F:k+1<n) (x E y:Nat->Int):det n (R2 M k (fun c=>x c+E c) y)=det n (R2 M k x y)+det n (R2 M k E y) :=
 qeB n _ _ _ k (by omega) (fun c _=>by simp [R2]) fun r c _ _ hr=>by simp [R2,hr]
theorem qk6 (n:Nat) (M:Nat->Nat->Int) (k:Nat) (F:k+1<n) (x y E:Nat->Int):det n (R2 M k x (fun c=>y c+E c))=det n (R2 M k x y)+det n (R2 M k x E) :=
 qeB n _ _ _ (k+1) (by omega) (fun c _=>by simp [R2]) fun r c _ _ hr=>by simp [R2,hr]
theorem qkh (n:Nat) (M:Nat->Nat->Int) (k:Nat) (E:k+1<n) (x:Nat->Int):det n (R2 M k x x)=0 :=
 qeD n _ k E fun c _=>by simp [R2]
theorem R2_swap (n:Nat) (M:Nat->Nat->Int) (k:Nat) (E:k+1<n) (x y:Nat->Int):det n (R2 M k x y) = - det n (R2 M k y x):=by
 have h:=qkh n M k E fun c=>x c+y c
 rw [R2_left n M k E,qk6 n M k E,qk6 n M k E,qkh n M k E,qkh n M k E] at h;omega
theorem R2_self (M:Nat->Nat->Int) (k:Nat):R2 M k (M k) (M (k+1))=M:=by
 funext r c
 unfold R2;split
 ·rename_i h;rw [h]
 ·split
  ·rename_i h;rw [h]
  ·rfl
theorem qgQ (n:Nat):∀(d:Nat) (M:Nat->Nat->Int) (i:Nat),i+d+1<n->(∀c,c<n->M i c=M (i+d+1) c)->det n M=0
 | 0,M,i,E,h=>qeD n M i E h
 | d+1,M,i,E,h=>by
  have F:=R2_swap n M (i+d+1) (by omega) (M (i+d+1)) (M (i+d+1+1));rw [R2_self] at F;rw [F,qgQ n d (R2 M (i+d+1) (M (i+d+1+1)) (M (i+d+1))) i (by omega) (fun c I=>by
   have:¬i=i+d+1:=by omega
   have H:¬i=i+d+1+1:=by omega
   simp only [R2,this,H,if_false,if_true];exact h c I)]
  rfl
theorem qkq (n:Nat) (M K:Nat->Nat->Int) (i s:Nat) (a:Int) (I:i<n) (Z:s<n) (H:i≠s) (V:∀c,c<n->K i c=M i c+a*M s c) (Y:∀r c,r<n->c<n->r≠i->K r c=M r c):det n K=det n M:=by
 have J:=qeB n M (fun r c=>if r=i then a*M s c else M r c) K i I (fun c F=>by simp [V c F]) fun r c hr F E=>by
  rw [Y r c hr F E];simp [E]
 have O:=qeC n (fun r c=>if r=i then M s c else M r c) (fun r c=>if r=i then a*M s c else M r c) i a I (fun c _=>by simp) fun r c _ _ E=>by simp [E]
 have U:det n (fun r c=>if r=i then M s c else M r c)=0:=by
  rcases Nat.lt_or_gt_of_ne H with h | h
  ·obtain⟨d,rfl⟩:∃d,s=i+d+1:=⟨s-i-1,by omega⟩;refine qgQ n d _ i (by omega) fun c _=>?_
   have:¬i+d+1=i:=by omega
   simp [this]
  ·obtain⟨d,rfl⟩:∃d,i=s+d+1:=⟨i-s-1,by omega⟩;refine qgQ n d _ s (by omega) fun c _=>?_
   have:¬s=s+d+1:=by omega
   simp [this]
 rw [J,O,U,qbP,Int.add_zero]
theorem qex (n:Nat) (f:Nat->Int):sumN (n+1) f=f 0+sumN n fun i=>f (i+1):=by
 induction n with
 | zero=>simp [sumN]
 | succ n ih =>
  have:sumN (n+1+1) f=sumN (n+1) f+f (n+1):=rfl;rw [this,ih];simp only [sumN];omega
theorem qoV (j:Nat):sg (j+1) = - sg j:=by
 unfold sg
 (repeat' split) <;> first | omega | (exfalso;omega)
theorem qec (r:Nat):skip 0 r=r+1:=by unfold skip;rw [if_neg (by omega)]
theorem qfu (j:Nat):skip (j+1) 0=0:=by unfold skip;rw [if_pos (by omega)]
theorem qft (j c:Nat):skip (j+1) (c+1)=skip j c+1:=by unfold skip;(repeat' split) <;> omega
theorem qks:∀(n:Nat) (M:Nat->Nat->Int),det (n+1) M=sumN (n+1) fun i=>sg i*M i 0*det n fun r c=>M (skip i r) (c+1)
 | 0,M=>by
  show sumN 1 _=sumN 1 _
  exact qct fun i J=>by
   obtain rfl:i=0:=by omega
   rfl
 | n+1,M=>by
  show sumN (n+1+1) (fun j=>sg j*M 0 j*det (n+1) fun r c=>M (r+1) (skip j c))=_
  rw [qex,qex (n+1)];have E:∀a b c d:Int,a=c->b=d->a+b=c+d:=fun a b c d h k=>by rw [h,k]
  refine E _ _ _ _ ?_ ?_
  ·have F:(fun r c=>M (r+1) (skip 0 c))=fun r c=>M (skip 0 r) (c+1):=by
    funext r c
    rw [qec,qec]
   rw [F]
  ·have H:∀j,sg (j+1)*M 0 (j+1)*det (n+1) (fun r c=>M (r+1) (skip (j+1) c))=sumN (n+1) fun i=>- (sg j*sg i*(M 0 (j+1)*M (i+1) 0)*det n fun r c=>M (skip i r+1) (skip j c+1)):=by
    intro j;rw [qks n,<-qgh];refine qct fun i _=>?_
    simp only [qfu,qft,qoV];simp only [qbN,Int.mul_neg,qbK,Int.mul_left_comm]
   have I:∀i,sg (i+1)*M (i+1) 0*det (n+1) (fun r c=>M (skip (i+1) r) (c+1))=sumN (n+1) fun j=>- (sg j*sg i*(M 0 (j+1)*M (i+1) 0)*det n fun r c=>M (skip i r+1) (skip j c+1)):=by
    intro i
    show _*sumN (n+1) (fun j=>sg j*M (skip (i+1) 0) (j+1)*det n fun r c=>M (skip (i+1) (r+1)) (skip j c+1))=_
    rw [<-qgh];refine qct fun j _=>?_
    simp only [qfu,qft,qoV];simp only [qbN,Int.mul_neg,qbK,Int.mul_left_comm,qbs]
   rw [qct fun j _=>H j,qct fun i _=>I i,qj3]
theorem qlc:∀(n:Nat) (M:Nat->Nat->Int),det n (fun r c=>M c r)=det n M
 | 0,_=>rfl
 | n+1,M=>by
  rw [qks n M]
  show sumN (n+1) (fun j=>sg j*M j 0*det n fun r c=>M (skip j c) (r+1))=_
  exact qct fun j _=>by rw [qlc n fun r c=>M (skip j r) (c+1)]
theorem qiz (n:Nat) (i:Nat) (J:i<2):∀(m:Nat) (M K:Nat->Nat->Int) (L:Nat->Int),m+2<=n->(∀c,c<n->K i c=M i c+sumN m fun s=>L s*M (s+2) c)->(∀r c,r<n->c<n->r≠i->K r c=M r c)->det n K=det n M
 | 0,M,K,L,O,H,ho=>qeL n K M fun r c hr E=>by
  by_cases h:r=i
  ·subst h;rw [H c E];simp [sumN]
  ·exact ho r c hr E h
 | m+1,M,K,L,O,H,ho=>by
  have I:=qiz n i J m M (fun r c=>if r=i then M i c+sumN m (fun s=>L s*M (s+2) c) else M r c) L (by omega) (fun c _=>by simp) fun r c _ _ hr=>by simp [hr]
  rw [<-I];refine qkq n _ K i (m+2) (L m) (by omega) (by omega) (by omega) (fun c E=>?_) fun r c hr E F=>by rw [ho r c hr E F];simp [F]
  have:¬m+2=i:=by omega
  rw [H c E];simp only [sumN,this,if_true,if_false];omega
def bord (k:Nat) (M:Nat->Nat->Int) (a c:Nat):Int:=det (k+1) fun r x=>M (if r=0 then a else r+1) (if x=0 then c else x+1)
def steps (k:Nat) (M:Nat->Nat->Int):Int:=det k fun r c=>M (r+2) (c+2)
def lam (k:Nat) (M:Nat->Nat->Int) (a s:Nat):Int:=sg (s+1)*det k fun r x=>M (if skip (s+1) r=0 then a else skip (s+1) r+1) (x+2)
theorem qi9 (k:Nat) (M:Nat->Nat->Int) (a c:Nat):bord k M a c=steps k M*M a c+sumN k fun s=>lam k M a s*M (s+2) c:=by
 unfold bord steps;rw [qks,qex];have E:∀a b c d:Int,a=c->b=d->a+b=c+d:=fun a b c d h k=>by rw [h,k]
 refine E _ _ _ _ ?_ (qct fun s H=>?_)
 ·have e:(fun r x=>M (if skip 0 r=0 then a else skip 0 r+1) (if x+1=0 then c else x+1+1))=fun r x=>M (r+2) (x+2):=by
   funext r x
   rw [qec];simp
  rw [e];simp [sg,qbs]
 ·have F:¬s+1=0:=by omega
  have e:(fun r x=>M (if skip (s+1) r=0 then a else skip (s+1) r+1) (if x+1=0 then c else x+1+1))=fun r x=>M (if skip (s+1) r=0 then a else skip (s+1) r+1) (x+2):=by
   funext r x;simp
  rw [e];unfold lam;simp only [F,if_true,if_false,qbK,qbs]
theorem qja (k:Nat) (M:Nat->Nat->Int) (a c:Nat) (E:c<k):bord k M a (c+2)=0:=by
 unfold bord;rw [<-qlc];refine qgQ (k+1) c _ 0 (by omega) fun r _=>?_
 have:¬0+c+1=0:=by omega
 simp only [this,if_true,if_false];rw [show 0+c+1+1=c+2 by omega]
theorem qgg (n:Nat) (f:Nat->Int) (h:∀i,i<n->f (i+1)=0):sumN (n+1) f=f 0:=by
 rw [qex,qhP n _ h,Int.add_zero]
theorem sg0:sg 0=1:=rfl
theorem sg1:sg 1 = -1:=rfl
def cleared (k:Nat) (M:Nat->Nat->Int):Nat->Nat->Int:=fun r c=>if r=0 then bord k M 0 c else if r=1 then bord k M 1 c else M r c
theorem qkr (k:Nat) (M:Nat->Nat->Int):det (k+2) (cleared k M)=steps k M*(steps k M*det (k+2) M):=by
 have F:det (k+2) (fun r c=>if r=0 then steps k M*M 0 c else M r c)=steps k M*det (k+2) M :=
  qeC (k+2) M _ 0 (steps k M) (by omega) (fun c _=>by simp) fun r c _ _ hr=>by simp [hr]
 have H:det (k+2) (fun r c=>if r=0 then bord k M 0 c else M r c)=det (k+2) (fun r c=>if r=0 then steps k M*M 0 c else M r c) :=
  qiz (k+2) 0 (by omega) k _ _ (lam k M 0) qN (fun c _=>by
   show bord k M 0 c=_
   rw [qi9];simp) fun r c _ _ hr=>by simp [hr]
 have I:det (k+2) (fun r c=>if r=1 then steps k M*M 1 c else if r=0 then bord k M 0 c else M r c)=steps k M*det (k+2) (fun r c=>if r=0 then bord k M 0 c else M r c) :=
  qeC (k+2) _ _ 1 (steps k M) (by omega) (fun c _=>by simp) fun r c _ _ hr=>by simp [hr]
 have J:det (k+2) (cleared k M)=det (k+2) (fun r c=>if r=1 then steps k M*M 1 c else if r=0 then bord k M 0 c else M r c) :=
  qiz (k+2) 1 (by omega) k _ _ (lam k M 1) qN (fun c _=>by
   show bord k M 1 c=_
   rw [qi9];simp) fun r c _ _ hr=>by
    by_cases E:r=0
    ·subst E;simp [cleared]
    ·simp [cleared,hr,E]
 rw [J,I,H,F]
theorem qjg (k:Nat) (M:Nat->Nat->Int):det (k+2) (cleared k M)=(bord k M 0 0*bord k M 1 1-bord k M 0 1*bord k M 1 0)*steps k M:=by
 have z0:∀c,c<k->cleared k M 0 (c+2)=0:=fun c F=>qja k M 0 c F
 have I:∀c,c<k->cleared k M 1 (c+2)=0:=fun c F=>qja k M 1 c F
 have a:det (k+1) (fun r c=>cleared k M (r+1) (skip 0 c))=bord k M 1 1*steps k M:=by
  show sumN (k+1) (fun j=>sg j*cleared k M 1 (skip 0 j)*det k fun r c=>cleared k M (r+2) (skip 0 (skip j c)))=_
  rw [qgg k _ fun i E=>by
   simp only [qec];rw [I i E,qbP,Int.zero_mul]]
  have e:(fun r c=>cleared k M (r+2) (skip 0 (skip 0 c)))=fun r c=>M (r+2) (c+2):=by
   funext r c
   simp [qec,cleared]
  rw [e,sg0,Int.one_mul]
  rfl
 have b:det (k+1) (fun r c=>cleared k M (r+1) (skip 1 c))=bord k M 1 0*steps k M:=by
  show sumN (k+1) (fun j=>sg j*cleared k M 1 (skip 1 j)*det k fun r c=>cleared k M (r+2) (skip 1 (skip j c)))=_
  have H:∀c,skip 1 (c+1)=c+2:=fun c=>by unfold skip;rw [if_neg (by omega)]
  rw [qgg k _ fun i E=>by
   rw [H,I i E,qbP,Int.zero_mul]]
  have e:(fun r c=>cleared k M (r+2) (skip 1 (skip 0 c)))=fun r c=>M (r+2) (c+2):=by
   funext r c
   rw [qec,H];simp [cleared]
  rw [e,sg0,Int.one_mul]
  rfl
 show sumN (k+1+1) (fun j=>sg j*cleared k M 0 j*det (k+1) fun r c=>cleared k M (r+1) (skip j c))=_
 rw [qex,qgg k _ fun i E=>by rw [z0 i E,qbP,Int.zero_mul]];simp only [qaT];rw [a,b,sg0,sg1,Int.one_mul]
 show bord k M 0 0*(bord k M 1 1*steps k M) + -1*bord k M 0 1*(bord k M 1 0*steps k M)=_
 rw [Int.sub_mul,qbN,Int.one_mul,qbN,qbK,qbK];omega
theorem qo8 (k:Nat) (M:Nat->Nat->Int) (E:steps k M≠0):bord k M 0 0*bord k M 1 1-bord k M 0 1*bord k M 1 0=steps k M*det (k+2) M:=by
 have h:=(qjg k M).symm.trans (qkr k M);rw [qbs _ (steps k M)] at h;exact Int.eq_of_mul_eq_mul_left E h
