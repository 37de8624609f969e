import Derived.Test.YtjalhnlhcdfncaaGreatDoorBu20
import Derived.Test.YtjalhnlhcdfncaaGreatDoorBu25
set_option maxRecDepth 100000
set_option maxHeartbeats 0
namespace Go.Proofs.YtjalhnlhcdfncaaGreatDoor
open Go.RowKit Go.Proofs.Tryz
def shi (s k:Nat):Nat:=if k % 2=1/\s % 3=0 then k / 2 else k
def shq (L:List Dr) (s k:Nat):Rat:=(L.getD (shi s k) dr0).q
theorem shi_le (s k:Nat):shi s k<=k:=by unfold shi;split <;> omega
theorem qlD (ao:Option Addr) (b aC c s:Nat) (L:List Dr) (w:World) (hL:L.length<=9223372036854775807) (hc:L.length<=c) (hs:s<256) (h:DrCells w ao b aC L) :
  Calls prog 12 #[.slice ao L.length c,.int .u8 (s:Int)] w fun e w'=>∃(a2:Option Addr) (g cap:Nat),e=.returned (.slice a2 (min L.length 42) cap)/\min L.length 42<=cap/\FCells w' a2 g 0 (told (min L.length 42) (shq L s))/\Below w.heap.size w w':=by
 obtain⟨n,hn⟩:=qX (min L.length 42);have aL:n<=L.length:=by omega
 have aD:n<=42:=by omega
 have aJ:min (L.length:Int) 42=(n:Int):=by omega
 have H:=qH h;rw [hn];clear h hn;go_enter func12,ntmps12;have aK:(n:Int)<=(c:Int):=by omega
 go_wp2_with fail
 go_loopw [5,6,7,14] (fun x5 x6 x7 x14 W=>∃k:Nat,x14=.int .i64 (k:Int)/\k<=n/\Kn (fun W=>Below w.heap.size w W/\Rws W w.heap.size 27 2 x5 k (fflat (told k (shq L s)))) W) (fun _ _ _ x14 _=>n-(intOf x14).toNat)
 case atStart=>exact⟨0,rfl,qaj _,.of ⟨Below.refl _ _,Rws.nil _ _ _ _⟩⟩
 case round =>
  obtain⟨k,rfl,hk,K1⟩:=hrel
  by_cases az:k<n
  ·have aG:(k:Int)<n:=by omega
   have aH:(k:Int)<(L.length:Int):=by omega
   have hd:=(H.o.below K1.o.1).cell k (by omega);have ae:=H.o.addr (by omega);subst ae;obtain⟨p1,q1,o1,z1,p2,q2,o2,z2,⟨d0,d1,d2,d3,d4,d5⟩,F,G⟩:=hd;obtain⟨dk,af⟩:=qX (L.getD k dr0);rw [af] at d0 d1 d2 d3 d4 d5 F G;obtain⟨W5,ai,N5⟩:=nw1 wr #[.bool dk.n0,.slice p1 dk.n1.length z1,.int .u16 dk.n2,.bool dk.d0,.slice p2 dk.d1.length z2,.int .u16 dk.d2] 89;have HK:=qH (qA af (qA F G));clear F G af;go_upto_region 5 with fail;rw [<-ai];clear ai d0 d1 d2 d3 d4 d5;have ah:=K1.o.1.trans (N5.o.1.mono K1.o.1.size);obtain⟨m,hm⟩:=qX (shi s k);have O:m<L.length:=by rw [<-hm];exact qaQ (shi_le s k) (by omega)
   have ag:shq L s k=(L.getD m dr0).q:=by unfold shq;rw [hm]
   have ak:=(H.o.below K1.o.1).cell m O;have J:=H.o.ok m O;obtain⟨E,I⟩:=qX (L.getD m dr0);rw [I] at ak J ag;obtain⟨V,r1,t1,c1,Y,r2,t2,c2,⟨x0,x1,x2,x3,x4,x5⟩,au,av⟩:=ak;have l5:∀{p:Addr} {v:Value},wr.cell? p=some v->W5.cell? p=some v:=fun {p v} h=>(N5.o.1.cell (qac wr _ h)).trans h
   have HX:=qH (qA (l5 x0) (qA (l5 x1) (qA (l5 x2) (qA (l5 x3) (qA (l5 x4) (l5 x5))))));have HM:=qH (qA J (qA ag (qA au av)));have HH:=qH (qA ah (qA I hm));have HL:=qH O;clear J ag au av ah hm I l5 x0 x1 x2 x3 x4 x5 O;obtain⟨tt,ax⟩:∃t:Bool,decide (k % 2=1/\s % 3=0)=t:=⟨_,rfl⟩;have HT:=qH ax;clear ax
   go_cut [26] (fun x26 W=>x26=.bool tt/\Hu (W=W5))
   case first =>
    rcases (show k % 2=0\/k % 2=1 by omega) with hx | hx
    ·have e1:(k:Int).tmod 2=0:=by rw [qby (by omega)];omega
     have e2:(k:Int) % 2=0:=by omega
     have ht:tt=false:=by rw [<-HT.o];exact qU (by omega)
     clear hx;go_wp2;go_meet;exact⟨by rw [ht],qH rfl⟩
    ·have e1:(k:Int).tmod 2=1:=by rw [qby (by omega)];omega
     have e2:(k:Int) % 2=1:=by omega
     rcases (show s % 3=0\/s % 3=1\/s % 3=2 by omega) with hy | hy | hy
     ·have e3:(s:Int).tmod 3=0:=by rw [qby (by omega)];omega
      have e4:(s:Int) % 3=0:=by omega
      have ht:tt=true:=by rw [<-HT.o];exact qV (by omega)
      clear hx hy;go_wp2;go_meet;exact⟨by rw [ht],qH rfl⟩
     ·have e3:(s:Int).tmod 3=1:=by rw [qby (by omega)];omega
      have e4:(s:Int) % 3=1:=by omega
      have ht:tt=false:=by rw [<-HT.o];exact qU (by omega)
      clear hx hy;go_wp2;go_meet;exact⟨by rw [ht],qH rfl⟩
     ·have e3:(s:Int).tmod 3=2:=by rw [qby (by omega)];omega
      have e4:(s:Int) % 3=2:=by omega
      have ht:tt=false:=by rw [<-HT.o];exact qU (by omega)
      clear hx hy;go_wp2;go_meet;exact⟨by rw [ht],qH rfl⟩
   case rest =>
    obtain⟨rfl,aj⟩:=hcut;obtain rfl:=aj.o.symm;clear aj
    go_upto_if 26 with fail
    go_cut [7] (fun x7 W'=>x7=.pointer (some ⟨wr.heap.size,0,none⟩)/\Hu (∃(V:Option Addr) (r1 t1 c1:Nat) (Y:Option Addr) (r2 t2 c2:Nat),(Below wr.heap.size wr W'/\W'.heap[wr.heap.size]? = some (.cells #[.bool E.n0,.slice V E.n1.length c1,.int .u16 E.n2,.bool E.d0,.slice Y E.d1.length c2,.int .u16 E.d2] 89 (0,0)))/\KCells W' .u16 V r1 t1 E.n1/\KCells W' .u16 Y r2 t2 E.d1))
    case first =>
     cases tt with
     | false =>
      have e:dk=E:=by
       rw [<-HK.o.1,<-HH.o.2.1,<-HH.o.2.2];unfold shi;rw [if_neg (of_decide_eq_false HT.o)]
      have HE:=qH (qA (HK.o.2.1.below N5.o.1) (HK.o.2.2.below N5.o.1));have Z:=qH N5.o;rw [e] at HE Z;go_wp2;go_meet;exact⟨rfl,qH ⟨p1,q1,o1,z1,p2,q2,o2,z2,Z.o,HE.o.1,HE.o.2⟩⟩
     | true =>
      have hc:=of_decide_eq_true HT.o;have aA:k / 2=m:=by rw [<-HH.o.2.2];unfold shi;rw [if_pos hc]
      have e1:(k:Int).tdiv 2=(m:Int):=by rw [Int.tdiv_eq_ediv_of_nonneg (by omega)];omega
      have e2:(k:Int) / 2=(m:Int):=by omega
      have aI:(m:Int)<(L.length:Int):=by have:=HL.o;omega
      obtain⟨x0,x1,x2,x3,x4,x5⟩:=HX.o;have U:=qS N5.o.1 (g:=wr.heap.size) qN #[.bool E.n0,.slice V E.n1.length c1,.int .u16 E.n2,.bool E.d0,.slice Y E.d1.length c2,.int .u16 E.d2];have HE:=qH (qA U (qA (HM.o.2.2.1.below U) (HM.o.2.2.2.below U)));have Z:=qH N5.o.2;clear U hc aA
      go_wp2_with (first | (with_reducible refine sR_ rfl 89 _ _ rfl (wr.heap.size) #[.bool E.n0,.slice V E.n1.length c1,.int .u16 E.n2,.bool E.d0,.slice Y E.d1.length c2,.int .u16 E.d2] Z.o 6 ?_) | fail)
      go_meet;exact⟨rfl,qH ⟨V,r1,t1,c1,Y,r2,t2,c2,⟨HE.o.1,qT _ _ _ _ _ _ Z.o⟩,HE.o.2.1,HE.o.2.2⟩⟩
    case rest =>
     obtain⟨rfl,hI⟩:=hcut;obtain⟨V,r1,t1,c1,Y,r2,t2,c2,aa,F,G⟩:=hI.o;have HS:=qH (qnC E V Y r1 t1 c1 r2 t2 c2 _ HM.o.1 F G);have Z:=qH aa;obtain⟨z1,z2,hz⟩:=qcF (shq L s k);have HZ:=qH hz;rw [<-HM.o.2.1,qeG,hz] at HS;clear F G aa hI hz
     go_wp2_with (first | (with_reducible refine lW_ rfl 89 _ rfl (wr.heap.size) #[.bool E.n0,.slice V E.n1.length c1,.int .u16 E.n2,.bool E.d0,.slice Y E.d1.length c2,.int .u16 E.d2] Z.o.2 underlying89 6 ?_) | fail)
     refine HS.o.mono ?_;rintro e w2 ⟨rfl,hb⟩;have K2:=(K1.below Z.o.1).below hb;clear hb HS
     go_wp2_with (first | (at_builtin;refine qem rfl _ _ rfl K2.o.1 rfl K2.o.2 rfl rfl rfl (by omega) ?_;intro v' w' aB ay) | fail)
     go_roundw
     case rel=>exact⟨k+1,by go_num,az,.of ⟨ay.o,by rw [qeC,HZ.o];exact aB.o⟩⟩
     case measure=>simp [intOf];omega
  ·obtain rfl:k=n:=by omega
   have aF:¬(k:Int)<(k:Int):=by omega
   go_wp2;go_ret;obtain⟨a2,g,cap,rfl,h1,h2⟩:=qdI K1.o.2 (qb1 _ _);exact⟨a2,g,cap,rfl,h2,h1,K1.o.1⟩
def swR (f:Nat->Nat) (a b n:Nat):Nat->Nat:=fun k=>if a<=k/\k<a+n then f (k-a+b) else if b<=k/\k<b+n then f (k-b+a) else f k
def rot (f:Nat->Nat) (a m b:Nat):Nat->Nat:=fun k=>if a<=k/\k<b then (if k<a+(b-m) then f (k+m-a) else f (k+m-b)) else f k
theorem rot_gt {f:Nat->Nat} {i j m:Nat} (G:0<j) (E:j<i) (F:i<=m):rot (swR f (m-i) m j) (m-(i-j)) m (m+j)=rot f (m-i) m (m+j):=by
 funext k
 unfold rot swR
 repeat' split
 all_goals first | omega | (congr 1;omega) | rfl
theorem rot_lt {f:Nat->Nat} {i j m:Nat} (E:0<i) (F:i<j) (G:i<=m):rot (swR f (m-i) (m+j-i) i) (m-i) m (m+(j-i))=rot f (m-i) m (m+j):=by
 funext k
 unfold rot swR
 repeat' split
 all_goals first | omega | (congr 1;omega) | rfl
theorem rot_eq {f:Nat->Nat} {i m:Nat} (E:i<=m):swR f (m-i) m i=rot f (m-i) m (m+i):=by
 funext k
 unfold rot swR
 repeat' split
 all_goals first | omega | (congr 1;omega) | rfl
theorem swR_zero (f:Nat->Nat) (a b:Nat):swR f a b 0=f:=by
 funext k
 unfold swR
 repeat' split
 all_goals first | omega | rfl
def swp (f:Nat->Nat) (i j:Nat):Nat->Nat:=fun k=>if k=i then f j else if k=j then f i else f k
theorem swR_succ {f:Nat->Nat} {a b n:Nat} (h:a+n<b):swR f a b (n+1)=swp (swR f a b n) (a+n) (b+n):=by
 funext k
 unfold swp swR
 repeat' split
 all_goals first | omega | (congr 1;omega) | rfl
def Inc (T:Nat->Nat->Prop) (f:Nat->Nat) (a b:Nat):Prop:=∀i j,a<=i->i<j->j<b->T (f i) (f j)
theorem Inc.sub {T:Nat->Nat->Prop} {f:Nat->Nat} {a b E F:Nat} (h:Inc T f a b) (J:a<=E) (O:F<=b):Inc T f E F:=fun i j H G I=>h i j (by omega) G (by omega)
structure Mer (T:Nat->Nat->Prop) (f f':Nat->Nat) (a b:Nat):Prop where
 o:∀k,¬(a<=k/\k<b)->f' k=f k
 mem:∀k,a<=k->k<b->∃j,a<=j/\j<b/\f' k=f j
 inc:Inc T f' a b
structure Mst (T lt:Nat->Nat->Prop) (f:Nat->Nat) (a m b:Nat):Prop where
 l:Inc T f a m
 r:Inc T f m b
 x:∀i j,a<=i->i<m->m<=j->j<b->(lt (f j) (f i)↔T (f j) (f i))
 t:∀i j,a<=i->i<m->m<=j->j<b->¬T (f j) (f i)->T (f i) (f j)
theorem rot_mem {f:Nat->Nat} {a m b k:Nat} (G:a<=m) (H:m<=b) (E:a<=k) (F:k<b):∃j,a<=j/\j<b/\rot f a m b k=f j:=by
 unfold rot;rw [if_pos ⟨E,F⟩];split
 ·exact⟨_,by omega,by omega,rfl⟩
 ·exact⟨_,by omega,by omega,rfl⟩
section
variable {T lt:Nat->Nat->Prop} (ht:∀x y z,T x y->T y z->T x z)
include ht
theorem mer_left {f:Nat->Nat} {a b i:Nat} (h:Mst T lt f a (a+1) b) (h1:a+1<=i) (h2:i<=b) (Z:∀k,a+1<=k->k<i->lt (f k) (f a)) (hr:∀k,i<=k->k<b->¬lt (f k) (f a)):Mer T f (rot f a (a+1) i) a b:=by
 have H:∀k,a+1<=k->k<i->T (f k) (f a):=fun k F E=>(h.x a k qN (by omega) F (by omega)).1 (Z k F E)
 have G:∀k,i<=k->k<b->T (f a) (f k):=fun k F E=>h.t a k qN (by omega) (by omega) E fun e=>hr k F E ((h.x a k qN (by omega) (by omega) E).2 e)
 have V:∀k,rot f a (a+1) i k=if a<=k/\k<i-1 then f (k+1) else if k=i-1 then f a else f k:=fun k=>by
  unfold rot
  repeat' split
  all_goals first | omega | (congr 1;omega) | rfl
 refine⟨fun k hk=>?_,fun k F E=>?_,fun x y F E Y=>?_⟩
 ·rw [V,if_neg (by omega),if_neg (by omega)]
 ·rw [V];split
  ·exact⟨k+1,by omega,by omega,rfl⟩
  ·split
   ·exact⟨a,by omega,by omega,rfl⟩
   ·exact⟨k,F,E,rfl⟩
 ·rw [V,V]
  by_cases I:a<=x/\x<i-1
  ·rw [if_pos I]
   by_cases O:a<=y/\y<i-1
   ·rw [if_pos O];exact h.r _ _ (by omega) (by omega) (by omega)
   ·rw [if_neg O]
    by_cases U:y=i-1
    ·rw [if_pos U];exact H _ (by omega) (by omega)
    ·rw [if_neg U];exact ht _ _ _ (H (x+1) (by omega) (by omega)) (G y (by omega) Y)
  ·rw [if_neg I]
   by_cases J:x=i-1
   ·rw [if_pos J,if_neg (by omega),if_neg (by omega)];exact G y (by omega) Y
   ·rw [if_neg J,if_neg (by omega),if_neg (by omega)];exact h.r _ _ (by omega) E Y
omit ht in
theorem qiL {f:Nat->Nat} {a m i:Nat} (h:Mst T lt f a m (m+1)) (Z:a<=i) (h2:i<=m) (Y:∀k,a<=k->k<i->¬lt (f m) (f k)) (hr:∀k,i<=k->k<m->lt (f m) (f k)):Mer T f (rot f i m (m+1)) a (m+1):=by
 have V:∀k,a<=k->k<i->T (f k) (f m):=fun k E F=>h.t k m E (by omega) qN (by omega) fun e=>Y k E F ((h.x k m E (by omega) qN (by omega)).2 e)
 have U:∀k,i<=k->k<m->T (f m) (f k):=fun k E F=>(h.x k m (by omega) F qN (by omega)).1 (hr k E F)
 have O:∀k,rot f i m (m+1) k=if k=i then f m else if i<k/\k<=m then f (k-1) else f k:=fun k=>by
  unfold rot
  repeat' split
  all_goals first | omega | (congr 1;omega) | rfl
 refine⟨fun k hk=>?_,fun k E F=>?_,fun x y E F h5=>?_⟩
 ·rw [O,if_neg (by omega),if_neg (by omega)]
 ·rw [O];split
  ·exact⟨m,by omega,by omega,rfl⟩
  ·split
   ·exact⟨k-1,by omega,by omega,rfl⟩
   ·exact⟨k,E,F,rfl⟩
 ·rw [O,O]
  by_cases G:x=i
  ·rw [if_pos G,if_neg (by omega),if_pos (by omega)];exact U _ (by omega) (by omega)
  ·rw [if_neg G]
   by_cases H:i<x/\x<=m
   ·rw [if_pos H,if_neg (by omega),if_pos (by omega)];exact h.l _ _ (by omega) (by omega) (by omega)
   ·rw [if_neg H]
    by_cases I:y=i
    ·rw [if_pos I];exact V _ (by omega) (by omega)
    ·rw [if_neg I]
     by_cases J:i<y/\y<=m
     ·rw [if_pos J];exact h.l _ _ (by omega) (by omega) (by omega)
     ·rw [if_neg J];exact h.l _ _ (by omega) F (by omega)
theorem qlm {f O f2 f3:Nat->Nat} {a m b E s e:Nat} (h:Mst T lt f a m b) (av:a<m) (ay:m<b) (ag:a<E) (ah:E<b) (he:e+s=E+m) (af:a<=s) (az:s<=m) (aA:s<=E) (ax:e<=b)
  (hl:∀c,a<=c->c<s->E+m-1-c<b->¬lt (f (E+m-1-c)) (f c)) (hr:∀c,s<=c->c<m->c<E->lt (f (E+m-1-c)) (f c))
  (h1:O=rot f s m e) (I:Mer T O f2 a E) (F:Mer T f2 f3 E b):Mer T f f3 a b:=by
 have aa:m<=e:=by omega
 have ev:∀k,O k=if s<=k/\k<E then f (k+m-s) else if E<=k/\k<e then f (k+m-e) else f k:=fun k=>by
  rw [h1];unfold rot
  repeat' split
  all_goals first | omega | (congr 1;omega) | rfl
 have Y:∀k,a<=k->k<E->(∃i,a<=i/\i<s/\O k=f i)\/(∃j,m<=j/\j<e/\O k=f j):=fun k G J=>by
  rw [ev]
  by_cases hk:s<=k
  ·rw [if_pos ⟨hk,J⟩];exact .inr ⟨_,by omega,by omega,rfl⟩
  ·rw [if_neg (by omega),if_neg (by omega)];exact .inl ⟨k,G,by omega,rfl⟩
 have Z:∀k,E<=k->k<b->(∃i,s<=i/\i<m/\O k=f i)\/(∃j,e<=j/\j<b/\O k=f j):=fun k G J=>by
  rw [ev,if_neg (by omega)]
  by_cases hk:k<e
  ·rw [if_pos ⟨G,hk⟩];exact .inl ⟨_,by omega,by omega,rfl⟩
  ·rw [if_neg (by omega)];exact .inr ⟨k,by omega,J,rfl⟩
 have ak:∀i j,a<=i->i<s->e<=j->j<b->T (f i) (f j):=fun i j G J H U=>by
  have V:T (f (s-1)) (f e):=h.t _ _ (by omega) (by omega) aa (by omega) fun ai=>by
   have h7:=hl (s-1) (by omega) (by omega) (by omega);rw [show E+m-1-(s-1)=e by omega] at h7;exact h7 ((h.x (s-1) e (by omega) (by omega) aa (by omega)).2 ai)
  have h8:T (f i) (f e):=by
   rcases qaB i (s-1) with h9 | h9
   ·exact ht _ _ _ (h.l i (s-1) G h9 (by omega)) V
   ·rw [show i=s-1 by omega];exact V
  rcases qaB e j with h9 | h9
  ·exact ht _ _ _ h8 (h.r e j aa h9 U)
  ·rw [show j=e by omega];exact h8
 have au:∀j i,m<=j->j<e->s<=i->i<m->T (f j) (f i):=fun j i G J H U=>by
  have V:T (f (e-1)) (f s):=by
   have h7:=hr s qN (by omega) (by omega);rw [show E+m-1-s=e-1 by omega] at h7;exact (h.x s (e-1) af (by omega) (by omega) (by omega)).1 h7
  have h8:T (f j) (f s):=by
   rcases qaB j (e-1) with h9 | h9
   ·exact ht _ _ _ (h.r j (e-1) G h9 (by omega)) V
   ·rw [show j=e-1 by omega];exact V
  rcases qaB s i with h9 | h9
  ·exact ht _ _ _ h8 (h.l s i af h9 U)
  ·rw [show i=s by omega];exact h8
 have ae:∀x y,a<=x->x<E->E<=y->y<b->T (O x) (O y):=fun x y G J H U=>by
  rcases Y x G J with ⟨i,i1,i2,e1⟩ | ⟨j,j1,j2,e1⟩ <;> rcases Z y H U with ⟨i',k1,k2,e2⟩ | ⟨j',k1,k2,e2⟩ <;> rw [e1,e2]
  ·exact h.l i i' i1 (by omega) k2
  ·exact ak i j' i1 i2 k1 k2
  ·exact au j i' j1 j2 k1 k2
  ·exact h.r j j' j1 (by omega) k2
 refine⟨fun k hk=>?_,fun k G J=>?_,fun x y G J H=>?_⟩
 ·rw [F.o k (by omega),I.o k (by omega),ev,if_neg (by omega),if_neg (by omega)]
 ·have aj:∃j,a<=j/\j<b/\f3 k=O j:=by
   rcases qaB k E with H | H
   ·obtain⟨j,j1,j2,e1⟩:=I.mem k G H;exact⟨j,j1,by omega,by rw [F.o k (by omega),e1]⟩
   ·obtain⟨j,j1,j2,e1⟩:=F.mem k H J;exact⟨j,by omega,j2,by rw [e1,I.o j (by omega)]⟩
  obtain⟨j,j1,j2,e1⟩:=aj;rw [e1];rcases qaB j E with H | H
  ·rcases Y j j1 H with ⟨i,i1,i2,e2⟩ | ⟨i,i1,i2,e2⟩
   ·exact⟨i,i1,by omega,e2⟩
   ·exact⟨i,by omega,by omega,e2⟩
  ·rcases Z j H j2 with ⟨i,i1,i2,e2⟩ | ⟨i,i1,i2,e2⟩
   ·exact⟨i,by omega,by omega,e2⟩
   ·exact⟨i,by omega,i2,e2⟩
 ·rcases qaB y E with U | U
  ·rw [F.o x (by omega),F.o y (by omega)];exact I.inc x y G J U
  ·rcases qaB x E with V | V
   ·rw [F.o x (by omega)];obtain⟨i,i1,i2,e1⟩:=I.mem x G V;obtain⟨j,j1,j2,e2⟩:=F.mem y U H;rw [e1,e2,I.o j (by omega)];exact ae i j i1 i2 j1 j2
   ·exact F.inc x y V J H
end
theorem rot_ev {f:Nat->Nat} {m E s e:Nat} (he:e+s=E+m) (F:s<=m) (G:s<=E) (k:Nat):rot f s m e k=if s<=k/\k<E then f (k+m-s) else if E<=k/\k<e then f (k+m-e) else f k:=by
 unfold rot
 repeat' split
 all_goals first | omega | (congr 1;omega) | rfl
theorem Mer.refl {T:Nat->Nat->Prop} {f:Nat->Nat} {a b:Nat} (h:Inc T f a b):Mer T f f a b:=⟨fun _ _=>rfl,fun k E F=>⟨k,E,F,rfl⟩,h⟩
theorem Inc.congr {T:Nat->Nat->Prop} {f E:Nat->Nat} {a b:Nat} (h:Inc T f a b) (e:∀k,a<=k->k<b->E k=f k):Inc T E a b:=fun i j F H G=>by
 rw [e i F (by omega),e j (by omega) G];exact h i j F H G
theorem Mst.congr {T lt:Nat->Nat->Prop} {f I:Nat->Nat} {a m b:Nat} (J:a<=m) (O:m<=b) (h:Mst T lt f a m b) (e:∀k,a<=k->k<b->I k=f k):Mst T lt I a m b :=
 ⟨h.l.congr fun k E F=>e k E (by omega),h.r.congr fun k E F=>e k (by omega) F,fun i j E F H G=>by rw [e i E (by omega),e j (by omega) G];exact h.x i j E F H G,fun i j E F H G=>by rw [e i E (by omega),e j (by omega) G];exact h.t i j E F H G⟩
theorem mst_low {T lt:Nat->Nat->Prop} {f:Nat->Nat} {a m b F s e:Nat} (h:Mst T lt f a m b) (he:e+s=F+m) (_Y:a<=s) (J:s<=m) (O:s<=F) (V:e<=b):Mst T lt (rot f s m e) a s F:=by
 have E:=rot_ev (f:=f) he J O;refine⟨fun i j G H I=>?_,fun i j G H I=>?_,fun i j G H I U=>?_,fun i j G H I U=>?_⟩
 ·rw [E,E,if_neg (by omega),if_neg (by omega),if_neg (by omega),if_neg (by omega)];exact h.l i j G H (by omega)
 ·rw [E,E,if_pos (by omega),if_pos (by omega)];exact h.r _ _ (by omega) (by omega) (by omega)
 ·rw [E j,E i,if_pos (by omega),if_neg (by omega),if_neg (by omega)];exact h.x _ _ G (by omega) (by omega) (by omega)
 ·rw [E j,E i,if_pos (by omega),if_neg (by omega),if_neg (by omega)];exact h.t _ _ G (by omega) (by omega) (by omega)
theorem mst_upp {T lt:Nat->Nat->Prop} {f:Nat->Nat} {a m b F s e:Nat} (h:Mst T lt f a m b) (he:e+s=F+m) (Y:a<=s) (O:s<=m) (U:s<=F) (_V:e<=b):Mst T lt (rot f s m e) F e b:=by
 have E:=rot_ev (f:=f) he O U;refine⟨fun i j I G H=>?_,fun i j I G H=>?_,fun i j I G H J=>?_,fun i j I G H J=>?_⟩
 ·rw [E,E,if_neg (by omega),if_pos (by omega),if_neg (by omega),if_pos (by omega)];exact h.l _ _ (by omega) (by omega) (by omega)
 ·rw [E,E,if_neg (by omega),if_neg (by omega),if_neg (by omega),if_neg (by omega)];exact h.r i j (by omega) G H
 ·rw [E j,E i,if_neg (by omega),if_neg (by omega),if_neg (by omega),if_pos (by omega)];exact h.x _ _ (by omega) (by omega) (by omega) J
 ·rw [E j,E i,if_neg (by omega),if_neg (by omega),if_neg (by omega),if_pos (by omega)];exact h.t _ _ (by omega) (by omega) (by omega) J
theorem shift_up {f:Nat->Nat} {a k:Nat} (h:a<=k):swp (rot f a (a+1) (k+1)) k (k+1)=rot f a (a+1) (k+1+1):=by
 funext x
 unfold swp rot
 repeat' split
 all_goals first | omega | (congr 1;omega) | rfl
theorem qlC (f:Nat->Nat) (a:Nat):rot f a (a+1) (a+1)=f:=by
 funext x
 unfold rot
 repeat' split
 all_goals first | omega | (congr 1;omega) | rfl
theorem qhG {f:Nat->Nat} {k m:Nat} (h:k+1<=m):swp (rot f (k+1) m (m+1)) (k+1) k=rot f k m (m+1):=by
 funext x
 unfold swp rot
 repeat' split
 all_goals first | omega | (congr 1;omega) | rfl
theorem qnB (f:Nat->Nat) (m:Nat):rot f m m (m+1)=f:=by
 funext x
 unfold rot
 repeat' split
 all_goals first | omega | (congr 1;omega) | rfl
theorem Mst.down {T lt:Nat->Nat->Prop} (U:∀x y z,T x y->T y z->T x z) {f:Nat->Nat} {a m b i h k:Nat} (H:Mst T lt f a m b) (E:a<=i) (F:i<m) (I:m<=k) (O:k<=h) (G:h<b) (J:lt (f h) (f i)):lt (f k) (f i):=by
 rcases qaB k h with h1 | h1
 ·exact (H.x i k E F I (by omega)).2 (U _ _ _ (H.r k h I h1 G) ((H.x i h E F (by omega) G).1 J))
 ·rw [show k=h by omega];exact J
theorem Mst.up {T lt:Nat->Nat->Prop} (U:∀x y z,T x y->T y z->T x z) {f:Nat->Nat} {a m b i h k:Nat} (H:Mst T lt f a m b) (E:m<=h) (F:h<b) (G:a<=i) (O:i<=k) (I:k<m) (J:lt (f h) (f i)):lt (f h) (f k):=by
 rcases qaB i k with h1 | h1
 ·exact (H.x k h (by omega) I E F).2 (U _ _ _ ((H.x i h G (by omega) E F).1 J) (H.l i k G h1 I))
 ·rw [show k=i by omega];exact J
theorem Mst.side {T lt:Nat->Nat->Prop} (I:∀x y z,T x y->T y z->T x z) {f:Nat->Nat} {a m b p c h:Nat} (H:Mst T lt f a m b) (E:a<=c) (O:c<=h) (F:h<m) (U:m+h<=p) (V:p<b+c) (G:lt (f (p-c)) (f c)):lt (f (p-h)) (f h):=by
 have J:=(H.x c (p-c) E (by omega) (by omega) (by omega)).1 G;rcases qaB c h with h7 | h7
 ·exact (H.x h (p-h) (by omega) F (by omega) (by omega)).2 (I _ _ _ (H.r (p-h) (p-c) (by omega) (by omega) (by omega)) (I _ _ _ J (H.l c h E h7 F)))
 ·rw [show h=c by omega];exact G
theorem qkI (f:Nat->Nat) (m e:Nat):rot f m m e=f:=by
 funext x
 unfold rot
 repeat' split
 all_goals first | omega | (congr 1;omega) | rfl
theorem qnp (f:Nat->Nat) (s m:Nat) (_h:s<=m):rot f s m m=f:=by
 funext x
 unfold rot
 repeat' split
 all_goals first | omega | (congr 1;omega) | rfl
def fnl (n:Nat) (f:Nat->Nat):List Nat:=(List.range n).map f
theorem qdl (n:Nat) (f:Nat->Nat):(fnl n f).length=n:=by unfold fnl;simp
theorem qc4 {n k:Nat} (f:Nat->Nat) (h:k<n):(fnl n f)[k]? = some (f k):=by
 unfold fnl;rw [qaN,qbG h];rfl
theorem qmn {n:Nat} {f E:Nat->Nat} (h:∀k,k<n->f k=E k):fnl n f=fnl n E:=List.map_congr_left fun k F=>h k (qas.1 F)
theorem qmp {n j:Nat} (f:Nat->Nat) (x:Nat):(fnl n f).set j x=fnl n fun k=>if k=j then x else f k:=by
 refine List.ext_getElem? fun k=>?_
 rw [List.getElem?_set]
 by_cases E:k<n
 ·rw [qc4 _ E,qc4 _ E,qdl]
  by_cases e:j=k
  ·subst e;rw [if_pos rfl,if_pos E,if_pos rfl]
  ·rw [if_neg e,if_neg fun h=>e h.symm]
 ·rw [qaO (by rw [qdl];omega),qaO (by rw [qdl];omega),qdl];split
  ·rw [if_neg (by omega)]
  ·rfl
theorem qgg {n i j:Nat} (f:Nat->Nat):((fnl n f).set i (f j)).set j (f i)=fnl n (swp f i j):=by
 rw [qmp,qmp];refine qmn fun k _=>?_
 unfold swp
 by_cases F:k=j
 ·rw [if_pos F]
  by_cases E:k=i
  ·rw [if_pos E];rw [<-F,E]
  ·rw [if_neg E,if_pos F]
 ·rw [if_neg F]
  by_cases E:k=i
  ·rw [if_pos E,if_pos E]
  ·rw [if_neg E,if_neg E,if_neg F]
theorem qha (B g n c a b m:Nat) (f:Nat->Nat) (cv:Value) (w:World) (hn:n<=1000) (hO:NatR w B g n c (fnl n f)) (ha:a+m<=b) (F:b+m<=n) :
  Calls prog 263 #[.slice (some ⟨g,0,none⟩) n c,.int .i64 (a:Int),.int .i64 (b:Int),.int .i64 (m:Int),cv] w fun e w'=>e=.returned (.tuple #[])/\w.grownBy w' (some g)/\NatR w' B g n c (fnl n (swR f a b m)):=by
 have H0:Hu (NatR w B g n c (fnl n (swR f a b 0))/\w.grownBy w (some g)):=qH (by rw [swR_zero];exact⟨hO,qcs _ _⟩);clear hO;go_enter func263,ntmps263;go_wp2_with fail
 go_loopw [10] (fun x10 W=>∃i:Nat,x10=.int .i64 (i:Int)/\i<=m/\Hu (NatR W B g n c (fnl n (swR f a b i))/\w.grownBy W (some g))) (fun x10 _=>m-(intOf x10).toNat)
 case atStart=>exact⟨0,rfl,qaj _,H0⟩
 case round =>
  obtain⟨i,rfl,hi,hS⟩:=hrel
  by_cases av:i<m
  case neg =>
   obtain rfl:i=m:=by omega
   have ak:¬(i:Int)<(i:Int):=by omega
   go_wp2_with fail
   go_end0
   exact⟨rfl,hS.o.2,hS.o.1⟩
  have ak:(i:Int)<(m:Int):=by omega
  obtain⟨x,hx⟩:=qX (swR f a b i (a+i));obtain⟨y,hy⟩:=qX (swR f a b i (b+i));obtain⟨p,hp⟩:=qX (a+i);obtain⟨q,hq⟩:=qX (b+i);rw [hp] at hx;rw [hq] at hy;have ax:(a:Int)+(i:Int)=(p:Int):=by omega
  have az:(b:Int)+(i:Int)=(q:Int):=by omega
  have ai:p<n:=by omega
  have aj:q<n:=by omega
  have ay:(p:Int)<(n:Int):=by omega
  have aA:(q:Int)<(n:Int):=by omega
  have aB:IntKind.i64.wrap (p:Int)=(p:Int):=by rw [IntKind.wrap_i64];omega
  have aC:IntKind.i64.wrap (q:Int)=(q:Int):=by rw [IntKind.wrap_i64];omega
  have U:=qH (qA hx (qA hy (qA hp hq)));have HR:=qH (show NatR wr.drew B g n c (fnl n (swR f a b i))/\w.grownBy wr.drew (some g) from ⟨hS.o.1.below qB.drew,qbX hS.o.2 (keepB qB.drew)⟩);have ag:(fnl n (swR f a b i))[p]? = some x:=by rw [qc4 _ ai,hx]
  have ah:(fnl n (swR f a b i))[q]? = some y:=by rw [qc4 _ aj,hy]
  have HA:=qH (qA ag ah);clear hx hy hp hq ag ah;go_wp2_with fail;refine wp_region_held_drew (S:=fun _=>True) (by kernel_rfl) trivial (fun hS0=>?_);refine hT 0 (h:=hT 1 (h:=hT 2 (h:=hT 3 (h:=hT 4 (h:=hT 5 (h:=hT 6 (h:=hT 7 (h:=hT 8 (h:=hT 9 (h:=hT 10 (h:=hT 11 (h:=hT 12 (h:=hT 14 (h:=hT 15 (h:=hT 16 (h:=hT 17 (h:=hT 18 (h:=?_))))))))))))))))));refine Go.Proofs.YtjalhnlhcdfncaaGreatDoor.gr [(13,29),(19,35),(20,36)] [] [0,1,2,3,4,5,6,7,8,9,10,11,12,14,15,16,17,18] [13,19,20] [] 21 24 (fl2 [(13,fun z _=>z=.int .i64 (y:Int)),(19,fun z _=>z=.int .i64 (x:Int)),(20,fun z _=>z=.pointer (some ⟨g,p,none⟩))]) _ 3
   (hS:=fun _ _=>trivial) (hstep:=⟨⟨_,rfl,fun v w3 F H K hK=>?_⟩,⟨_,rfl,fun v w3 F H K hK=>?_⟩,⟨_,rfl,fun v w3 F H K hK=>?_⟩,trivial⟩) (hend:=fun v w3 F H _ fu=>?_)
  ·have h0:=((HR.o.1.below F).at HA.o.2).1;exact gV hK rfl
  ·have h0:=((HR.o.1.below F).at HA.o.1).1;exact gV hK rfl
  ·exact gV hK rfl
  have V:v 13=_:=H 13 (by decide) (by decide);have Y:v 19=_:=H 19 (by decide) (by decide);have Z:v 20=_:=H 20 (by decide) (by decide);rw [V,Y,Z];have J:=HR.o.1.below F;have aa:=qbX HR.o.2 (keepB F);obtain⟨h0,h1⟩:=J.at HA.o.1;have E:=J.set ai y;have I:=qbX aa (qb0 w3 g p (.int .i64 (y:Int)));refine hSg 21 (h:=⟨trivial,?_⟩);obtain⟨W5,af⟩:=qY (w3.setCell ⟨g,p,none⟩ (.int .i64 (y:Int)));rw [<-af] at E I ⊢;have au:p≠q:=by have h1:=U.o.2.2.1;have h2:=U.o.2.2.2;omega
  have hne:((fnl n (swR f a b i)).set p y)[q]? = some y:=by rw [qbL au];exact HA.o.2
  obtain⟨h2,h3⟩:=E.at hne;have O:=E.set aj x;have ae:=qbX I (qb0 W5 g q (.int .i64 (x:Int)));have G:((fnl n (swR f a b i)).set p y).set q x=fnl n (swR f a b (i+1)):=by
   rw [<-U.o.1,<-U.o.2.1,qgg,<-U.o.2.2.1,<-U.o.2.2.2,swR_succ (by omega)]
  rw [G] at O;have HE:=qH (qA O ae);clear af h0 h1 J aa E I O ae hne V Y Z F H G;refine hT 22 (hS:=trivial) (h:=?_);refine hSg 23 (h:=⟨trivial,?_⟩);refine wpAnyH_done (by kernel_rfl) ?_ _;clear h2 h3 hS0;go_wp2;go_roundw
  case rel=>exact⟨i+1,by go_num,by omega,HE⟩
  case measure=>simp [intOf] <;> omega
theorem qly (B g n c a m b:Nat) (f:Nat->Nat) (Z:Value) (w:World) (hn:n<=1000) (hO:NatR w B g n c (fnl n f)) (aG:a<m) (aJ:m<b) (aH:b<=n) :
  Calls prog 247 #[.slice (some ⟨g,0,none⟩) n c,.int .i64 (a:Int),.int .i64 (m:Int),.int .i64 (b:Int),Z] w fun e F=>e=.returned (.tuple #[])/\w.grownBy F (some g)/\NatR F B g n c (fnl n (rot f a m b)):=by
 obtain⟨i0,aj⟩:∃z,m-a=z:=⟨_,rfl⟩;obtain⟨j0,av⟩:∃z,b-m=z:=⟨_,rfl⟩;have ak:(m:Int)-(a:Int)=(i0:Int):=by omega
 have ax:(b:Int)-(m:Int)=(j0:Int):=by omega
 have H0:Hu (∃d,NatR w B g n c (fnl n d)/\w.grownBy w (some g)/\rot d (m-i0) m (m+j0)=rot f a m b):=qH ⟨f,hO,qcs _ _,by rw [show m-i0=a by omega,show m+j0=b by omega]⟩;have G:0<i0/\i0<=m/\0<j0/\m+j0<=n:=by omega
 clear hO aj av;go_enter func247,ntmps247;go_wp2_with fail;clear ak ax
 go_loopw [10,11] (fun x10 x11 W=>∃i j:Nat,x10=.int .i64 (i:Int)/\x11=.int .i64 (j:Int)/\0<i/\i<=m/\0<j/\m+j<=n/\Hu (∃d,NatR W B g n c (fnl n d)/\w.grownBy W (some g)/\rot d (m-i) m (m+j)=rot f a m b)) (fun x10 x11 _=>(intOf x10).toNat+(intOf x11).toNat)
 case atStart=>exact⟨i0,j0,rfl,rfl,G.1,G.2.1,G.2.2.1,G.2.2.2,H0⟩
 case round =>
  obtain⟨i,j,rfl,rfl,hi,H,hj,aa,hS⟩:=hrel;obtain⟨mi,E⟩:∃z,m-i=z:=⟨_,rfl⟩;have aB:(m:Int)-(i:Int)=(mi:Int):=by omega
  have HM:=qH E
  by_cases au:i=j
  ·subst au;have aI:¬((i:Int)≠(i:Int)):=by omega
   have I:Hu (Calls prog 263 #[.slice (some ⟨g,0,none⟩) n c,.int .i64 (mi:Int),.int .i64 (m:Int),.int .i64 (i:Int),Z] wr fun e F=>e=.returned (.tuple #[])/\w.grownBy F (some g)/\NatR F B g n c (fnl n (rot f a m b))):=qH (by
    obtain⟨d,J,O,h3⟩:=hS.o;refine (qha B g n c mi m i d Z wr hn J (by omega) aa).mono fun e F ⟨e1,e2,e3⟩=>⟨e1,qbX O e2,?_⟩
    rw [<-h3,<-rot_eq H,E];exact e3)
   clear E hS;go_wp2_with fail;refine I.o.mono ?_;rintro e w2 ⟨rfl,J,O⟩;have HE:=qH (qA J O);clear J O I;go_wp2_with fail
   go_end0
   exact⟨rfl,HE.o⟩
  have hne:(i:Int)≠(j:Int):=by omega
  by_cases ai:j<i
  ·have ah:(j:Int)<(i:Int):=by omega
   obtain⟨ij,U⟩:∃z,i-j=z:=⟨_,rfl⟩;have az:(i:Int)-(j:Int)=(ij:Int):=by omega
   have V:0<ij/\ij<=m:=by omega
   have I:Hu (Calls prog 263 #[.slice (some ⟨g,0,none⟩) n c,.int .i64 (mi:Int),.int .i64 (m:Int),.int .i64 (j:Int),Z] wr fun e F=>e=.returned (.tuple #[])/\∃d,NatR F B g n c (fnl n d)/\w.grownBy F (some g)/\rot d (m-ij) m (m+j)=rot f a m b):=qH (by
    obtain⟨d,J,O,h3⟩:=hS.o;refine (qha B g n c mi m j d Z wr hn J (by omega) aa).mono fun e F ⟨e1,e2,e3⟩=>⟨e1,_,e3,qbX O e2,?_⟩
    rw [<-h3,<-U,<-E];exact rot_gt hj ai H)
   clear E hS U;go_wp2_with fail;refine I.o.mono ?_;rintro e w2 ⟨rfl,hX⟩;have HE:=qH hX;clear hX I;go_wp2;go_roundw
   case rel=>exact⟨ij,j,by go_num,rfl,V.1,V.2,hj,aa,HE⟩
   case measure=>simp [intOf];omega
  ·have ah:¬((j:Int)<(i:Int)):=by omega
   have ay:i<j:=by omega
   obtain⟨ji,ae⟩:∃z,j-i=z:=⟨_,rfl⟩;have aA:(j:Int)-(i:Int)=(ji:Int):=by omega
   obtain⟨mj,af⟩:∃z,m+j=z:=⟨_,rfl⟩;have aC:(m:Int)+(j:Int)=(mj:Int):=by omega
   obtain⟨mk,ag⟩:∃z,mj-i=z:=⟨_,rfl⟩;have aF:(mj:Int)-(i:Int)=(mk:Int):=by omega
   have Y:0<ji/\m+ji<=n:=by omega
   have aD:mj<=1000:=by omega
   have I:Hu (Calls prog 263 #[.slice (some ⟨g,0,none⟩) n c,.int .i64 (mi:Int),.int .i64 (mk:Int),.int .i64 (i:Int),Z] wr fun e F=>e=.returned (.tuple #[])/\∃d,NatR F B g n c (fnl n d)/\w.grownBy F (some g)/\rot d (m-i) m (m+ji)=rot f a m b):=qH (by
    obtain⟨d,J,O,h3⟩:=hS.o;refine (qha B g n c mi mk i d Z wr hn J (by omega) (by omega)).mono fun e F ⟨e1,e2,e3⟩=>⟨e1,_,e3,qbX O e2,?_⟩
    rw [<-h3,<-ae,<-ag,<-af,<-E];exact rot_lt hi ay H)
   clear E hS ae af ag;go_wp2_with fail;refine I.o.mono ?_;rintro e w2 ⟨rfl,hX⟩;have HE:=qH hX;clear hX I;go_wp2;go_roundw
   case rel=>exact⟨i,ji,rfl,by go_num,hi,H,Y.1,Y.2,HE⟩
   case measure=>simp [intOf];omega
end Go.Proofs.YtjalhnlhcdfncaaGreatDoor
section
namespace Go.Proofs.YtjalhnlhcdfncaaGreatDoor
open Go.RowKit Go.Proofs.Tryz
theorem rot_here {f:Nat->Nat} {j i:Nat} (h:j<=i):rot f j i (i+1) j=f i:=by
 unfold rot
 repeat' split
 all_goals first | omega | (congr 1;omega) | rfl
theorem qno {f:Nat->Nat} {j i k:Nat} (h:k<j):rot f j i (i+1) k=f k:=by
 unfold rot;rw [if_neg (by omega)]
def Par (T lt:Nat->Nat->Prop) (f:Nat->Nat) (a b:Nat):Prop:=∀i j,a<=i->i<j->j<b->(lt (f j) (f i)↔T (f j) (f i))/\(¬T (f j) (f i)->T (f i) (f j))
theorem Par.ins {T lt:Nat->Nat->Prop} {f H:Nat->Nat} {a b i:Nat} (h:Par T lt f a b) (E:Mer T f H a i) (J:i<b):Mst T lt H a i (i+1):=by
 refine⟨E.inc,fun x y F G I=>by omega,fun x y F G I O=>?_,fun x y F G I O=>?_⟩
 ·obtain rfl:y=i:=by omega
  obtain⟨k,k1,k2,e⟩:=E.mem x F G;rw [E.o y (by omega),e];exact (h k y k1 k2 J).1
 ·obtain rfl:y=i:=by omega
  obtain⟨k,k1,k2,e⟩:=E.mem x F G;rw [E.o y (by omega),e];exact (h k y k1 k2 J).2
theorem Mer.snoc {T:Nat->Nat->Prop} {f G F:Nat->Nat} {a i:Nat} (h:Mer T f G a i) (_J:a<=i) (E:Mer T G F a (i+1)):Mer T f F a (i+1):=by
 refine⟨fun k O=>?_,fun k H I=>?_,E.inc⟩
 ·rw [E.o k O,h.o k (by omega)]
 ·obtain⟨j,j1,j2,e⟩:=E.mem k H I;rw [e];rcases qaB j i with h3 | h3
  ·obtain⟨q,q1,q2,e2⟩:=h.mem j j1 h3;exact⟨q,q1,by omega,e2⟩
  ·exact⟨j,j1,j2,h.o j (by omega)⟩
theorem Mer.all {T:Nat->Nat->Prop} {f F:Nat->Nat} {a b n:Nat} {l:List Nat} (h:Mer T f F a b) (I:b<=n) (G:∀k,k<n->f k∈l):∀k,k<n->F k∈l:=fun k H=>by
 by_cases E:a<=k/\k<b
 ·obtain⟨j,_,j2,e⟩:=h.mem k E.1 E.2;rw [e];exact G j (by omega)
 ·rw [h.o k E];exact G k H
theorem qjG (T lt:Nat->Nat->Prop) [DecidableRel lt] (ht:∀x y z,T x y->T y z->T x z) (cf:Nat->Nat->Int) (F:Nat) (cb:Array Value) (B g n c:Nat) (l:List Nat) (hn:n<=1000) (aH:∀x∈l,∀y∈l,cf x y<0↔lt x y)
  (hF:∀a b W,(callFunc F (#[a,b]++cb)).run prog W=.ok (.enter F (#[a,b]++cb)) W) (a b:Nat) (f:Nat->Nat) (w:World) (aX:a<=b) (aY:b<=n) (hO:NatR w B g n c (fnl n f)) (aI:∀k,k<n->f k∈l) (hP:Par T lt f a b) (hC:CmpOk F cb g l cf w) :
  Calls prog 203 #[.slice (some ⟨g,0,none⟩) n c,.int .i64 (a:Int),.int .i64 (b:Int),.func (.func F) #[] cb] w fun e w'=>e=.returned (.tuple #[])/\w.grownBy w' (some g)/\∃f',NatR w' B g n c (fnl n f')/\Mer T f f' a b:=by
 have HC:=qH (qA hC (qA aH (qA ht (qA aI hP))));have H0:Hu (∃E,NatR w B g n c (fnl n E)/\Mer T f E a (min (a+1) b)/\w.grownBy w (some g)):=qH ⟨f,hO,Mer.refl fun i j Z V h3=>by omega,qcs _ _⟩;clear hC aH ht aI hP hO;obtain⟨a1,aP⟩:∃z,a+1=z:=⟨_,rfl⟩;have aQ:(a:Int)+1=(a1:Int):=by omega
 rw [aP] at H0;go_enter func203,ntmps203;go_wp2_with fail;clear aQ
 go_loopw [8] (fun x8 W=>∃i:Nat,x8=.int .i64 (i:Int)/\a1<=i/\i<=b+1/\Hu (∃E,NatR W B g n c (fnl n E)/\Mer T f E a (min i b)/\w.grownBy W (some g))) (fun x8 _=>b+1-(intOf x8).toNat)
 case atStart=>exact⟨a1,rfl,qae _,by omega,H0⟩
 case round =>
  obtain⟨i,rfl,aZ,bf,hS⟩:=hrel
  by_cases hi:i<b
  case neg =>
   have aS:¬(i:Int)<(b:Int):=by omega
   have HE:Hu (w.grownBy wr (some g)/\∃f',NatR wr B g n c (fnl n f')/\Mer T f f' a b):=qH (by
    obtain⟨E,Z,V,h3⟩:=hS.o;rw [Nat.min_eq_right (by omega)] at V;exact⟨h3,E,Z,V⟩)
   go_wp2_with fail
   go_end0
   exact⟨rfl,HE.o⟩
  have aS:(i:Int)<(b:Int):=by omega
  have HI:Hu (∃d E,d=rot E i i (i+1)/\Mer T f E a i/\(∀k,i<=k->k<i->lt (E i) (E k))/\NatR wr B g n c (fnl n d)/\w.grownBy wr (some g)):=qH (by
   obtain⟨E,Z,V,h3⟩:=hS.o;rw [qaX (by omega)] at V;exact⟨E,E,(qkI E i (i+1)).symm,V,fun k k1 k2=>by omega,Z,h3⟩)
  clear hS;go_wp2_with fail
  go_loopw [9] (fun x9 W=>∃j:Nat,x9=.int .i64 (j:Int)/\a<=j/\j<=i/\Hu (∃d E,d=rot E j i (i+1)/\Mer T f E a i/\(∀k,j<=k->k<i->lt (E i) (E k))/\NatR W B g n c (fnl n d)/\w.grownBy W (some g))) (fun x9 _=>(intOf x9).toNat)
  case atStart=>exact⟨i,rfl,by omega,qae _,HI⟩
  case round =>
   obtain⟨j,rfl,aR,aM,hI⟩:=hrel;have stop:∀W,(∃d E,d=rot E j i (i+1)/\Mer T f E a i/\(∀k,j<=k->k<i->lt (E i) (E k))/\NatR W B g n c (fnl n d)/\w.grownBy W (some g)/\(j=a\/¬lt (E i) (E (j-1))))->∃E,NatR W B g n c (fnl n E)/\Mer T f E a (min (i+1) b)/\w.grownBy W (some g):=fun W ⟨d,E,Z,V,h3,h4,h5,h6⟩=>by
    rw [qaX (by omega)];have hm:=HC.o.2.2.2.2.ins V hi;refine⟨d,h4,V.snoc (by omega) ?_,h5⟩;rw [Z];refine qiL hm aR aM (fun k k1 k2 k3=>?_) h3;rcases h6 with h6 | h6
    ·omega
    ·exact h6 (hm.up HC.o.2.2.1 qN (Nat.lt_succ_self _) k1 (by omega) (by omega) k3)
   have O:=qH stop;clear stop
   by_cases bg:a<j
   case neg =>
    have aL:¬((a:Int)<(j:Int)):=by omega
    have HE:Hu (∃E,NatR wr.drew B g n c (fnl n E)/\Mer T f E a (min (i+1) b)/\w.grownBy wr.drew (some g)):=qH (by
     obtain⟨d,E,Z,V,h3,h4,h5⟩:=hI.o;exact O.o _ ⟨d,E,Z,V,h3,h4.below qB.drew,qbX h5 (keepB qB.drew),.inl (by omega)⟩)
    clear hI O;go_wp2_with fail;refine wp_region_held_drew (S:=fun _=>True) (by kernel_rfl) trivial (fun hS0=>?_);refine hT 0 (h:=hT 1 (h:=hT 2 (h:=hT 3 (h:=hU 4 (h:=hU 5 (h:=hU 6 (h:=hU 7 (h:=hU 8 (h:=hU 9 (h:=hU 10 (h:=hU 11 (h:=hU 12 (h:=hU 13 (h:=hU 14 (h:=hU 15 (h:=hT 16 (h:=?_)))))))))))))))));refine wpAnyH_done (by kernel_rfl) ?_ _;go_wp2;go_roundw
    case rel=>exact⟨i+1,by go_num,by omega,by omega,HE⟩
    case measure=>simp [intOf] <;> omega
   have aL:(a:Int)<(j:Int):=by omega
   obtain⟨d,E,hd,hm,ah,aa,ai⟩:=hI.o;have ax:=hm.all (by omega) HC.o.2.2.2.1;obtain⟨j1,aK⟩:∃z,j-1=z:=⟨_,rfl⟩;have aU:(j:Int)-1=(j1:Int):=by omega
   have ay:j<n:=by omega
   have U:j1<n:=by omega
   have bi:(j:Int)<(n:Int):=by omega
   have aV:(j1:Int)<(n:Int):=by omega
   have bn:IntKind.i64.wrap (j:Int)=(j:Int):=by rw [IntKind.wrap_i64];omega
   have aW:IntKind.i64.wrap (j1:Int)=(j1:Int):=by rw [IntKind.wrap_i64];omega
   obtain⟨x,hx⟩:=qX (E i);obtain⟨y,hy⟩:=qX (E j1);have I:=qc4 (n:=n) d ay;have J:=qc4 (n:=n) d U;rw [hd,rot_here aM,hx] at I;rw [hd,qno (by omega),hy] at J;rw [<-hd] at I J;obtain⟨cx,fx⟩:=aa.at I;obtain⟨cy,fy⟩:=aa.at J;have aJ:=qac wr _ cx;have bx:∀W,Below wr.heap.size wr W->W.cell? ⟨g,j,none⟩=some (.int .i64 (x:Int)):=fun W Y=>(Y.cell (p:=⟨g,j,none⟩) aJ).trans cx
   have bY:∀W,Below wr.heap.size wr W->W.cell? ⟨g,j1,none⟩=some (.int .i64 (y:Int)):=fun W Y=>(Y.cell (p:=⟨g,j1,none⟩) aJ).trans cy
   have az:x∈l:=hx▸ax i (by omega);have aA:y∈l:=hy▸ax j1 U;have HK:=qH (HC.o.1 wr.drew (qbX ai (keepB qB.drew)) x az y aA);have G:=qH (qA (HC.o.2.1 x az y aA) (qA hx (qA hy (qA aa (qA ai (qA hd (qA hm (qA ah aK))))))));clear I J cx fx cy fy az aA aa ai hx hy hd hm ah aK hI ax;go_wp2_with fail;refine wp_region_held_drew (S:=fun W=>Below wr.heap.size wr W) (by kernel_rfl) qB.drew (fun hS0=>?_);refine hT 0 (h:=hT 1 (h:=hT 2 (h:=hT 3 (h:=hT 4 (h:=hT 5 (h:=hT 6 (h:=hT 7 (h:=hT 8 (h:=hT 9 (h:=hT 10 (h:=hT 11 (h:=hT 12 (h:=hT 13 (h:=?_))))))))))))));refine hC 14 HK.o (h:=?_);rintro e w2 ⟨rfl,av⟩;have H:=qcg av;refine⟨_,rfl,H,hN (h:=?_)⟩;have HW:=qH (qA (G.o.2.2.2.1.below H) (qbX G.o.2.2.2.2.1 (keepB H)))
   by_cases af:cf x y<0
   ·refine hT 15 (hS:=H) (h:=hT 16 (hS:=H) (h:=?_));refine wpAnyH_done (by kernel_rfl) ?_ _;have aO:Hu (lt (E i) (E j1)):=qH (by rw [G.o.2.1,G.o.2.2.1];exact G.o.1.1 af);obtain⟨wn,aN⟩:∃u,u=w2:=⟨_,rfl⟩;rw [<-aN] at HW ⊢;clear aN H av hS0 bx bY af HK;obtain⟨x2,hx⟩:∃x,d j=x:=⟨_,rfl⟩;obtain⟨y2,hy⟩:∃y,d j1=y:=⟨_,rfl⟩;have I:=qc4 (n:=n) d ay;have J:=qc4 (n:=n) d U;rw [hx] at I;rw [hy] at J;have HA:=qH (qA I (qA J (qA hx hy)));have HR:=HW;clear I J hx hy;go_wp2_with fail;refine wp_region_held_drew (S:=fun _=>True) (by kernel_rfl) trivial (fun hS0=>?_);refine hT 0 (h:=hT 1 (h:=hT 2 (h:=hT 3 (h:=hT 4 (h:=hT 5 (h:=hT 6 (h:=hT 7 (h:=hT 8 (h:=hT 10 (h:=hT 11 (h:=hT 12 (h:=?_))))))))))));refine Go.Proofs.YtjalhnlhcdfncaaGreatDoor.gr [(9,46),(13,50),(14,51)] [] [0,1,2,3,4,5,6,7,8,10,11,12] [9,13,14] [] 15 18 (fl2 [(9,fun z _=>z=.int .i64 (y2:Int)),(13,fun z _=>z=.int .i64 (x2:Int)),(14,fun z _=>z=.pointer (some ⟨g,j,none⟩))]) _ 3
     (hS:=fun _ _=>trivial) (hstep:=⟨⟨_,rfl,fun v w3 Y hF K hK=>?_⟩,⟨_,rfl,fun v w3 Y hF K hK=>?_⟩,⟨_,rfl,fun v w3 Y hF K hK=>?_⟩,trivial⟩) (hend:=fun v w3 Y hF _ fu=>?_)
    ·have h0:=((HR.o.1.below (qcg Y)).at HA.o.2.1).1;exact gV hK rfl
    ·have h0:=((HR.o.1.below (qcg Y)).at HA.o.1).1;exact gV hK rfl
    ·exact gV hK rfl
    have e9:v 9=_:=hF 9 (by decide) (by decide);have aB:v 13=_:=hF 13 (by decide) (by decide);have aC:v 14=_:=hF 14 (by decide) (by decide);rw [e9,aB,aC];have ak:=HR.o.1.below (qcg Y);have aD:=qbX HR.o.2 (keepB (qcg Y));obtain⟨h0,Z⟩:=ak.at HA.o.1;have ae:=ak.set ay y2;have aj:=qbX aD (qb0 w3 g j (.int .i64 (y2:Int)));refine hSg 15 (h:=⟨trivial,?_⟩);obtain⟨W5,aG⟩:=qY (w3.setCell ⟨g,j,none⟩ (.int .i64 (y2:Int)));rw [<-aG] at ae aj ⊢;have hne:((fnl n d).set j y2)[j1]? = some y2:=by rw [qbL (by omega)];exact HA.o.2.1
    obtain⟨V,h3⟩:=ae.at hne;have au:=ae.set U x2;have aF:=qbX aj (qb0 W5 g j1 (.int .i64 (x2:Int)));have ag:((fnl n d).set j y2).set j1 x2=fnl n (rot E j1 i (i+1)):=by
     rw [<-HA.o.2.2.1,<-HA.o.2.2.2,qgg,G.o.2.2.2.2.2.1];have aT:j=j1+1:=by have:=G.o.2.2.2.2.2.2.2.2;omega
     rw [aT];exact congrArg (fnl n) (qhG (by omega))
    rw [ag] at au;have HE:=qH (qA au aF);clear aG h0 Z ak aD ae aj au aF hne e9 aB aC Y hF ag;refine hT 16 (hS:=trivial) (h:=?_);refine hSg 17 (h:=⟨trivial,?_⟩);refine wpAnyH_done (by kernel_rfl) ?_ _;clear V h3 hS0;go_wp2;go_roundw
    case rel=>exact⟨j1,by go_num,by have:=G.o.2.2.2.2.2.2.2.2;omega,by have:=G.o.2.2.2.2.2.2.2.2;omega,qH ⟨_,E,rfl,G.o.2.2.2.2.2.2.1,fun k k1 k2=>by
     rcases qaB k j with h | h
     ·have h9:=G.o.2.2.2.2.2.2.2.2;obtain rfl:k=j1:=by omega
      exact aO.o
     ·exact G.o.2.2.2.2.2.2.2.1 k h k2,HE.o.1,HE.o.2⟩⟩
    case measure=>simp [intOf] <;> omega
   ·refine hT 15 (hS:=H) (h:=hT 16 (hS:=H) (h:=?_));refine wpAnyH_done (by kernel_rfl) ?_ _;have HE:Hu (∃E,NatR w2 B g n c (fnl n E)/\Mer T f E a (min (i+1) b)/\w.grownBy w2 (some g)):=qH (O.o _ ⟨d,E,G.o.2.2.2.2.2.1,G.o.2.2.2.2.2.2.1,G.o.2.2.2.2.2.2.2.1,HW.o.1,HW.o.2,.inr fun h=>af (G.o.1.2 (by
     rw [G.o.2.2.2.2.2.2.2.2,G.o.2.1,G.o.2.2.1] at h;exact h))⟩)
    clear H av hS0 bx bY af HK;go_wp2;go_roundw
    case rel=>exact⟨i+1,by go_num,by omega,by omega,HE⟩
    case measure=>simp [intOf] <;> omega
   end Go.Proofs.YtjalhnlhcdfncaaGreatDoor
end
namespace Go.Proofs.YtjalhnlhcdfncaaGreatDoor
def Tix (s:Nat->Rat) (x y:Nat):Prop:=s x<s y\/(s x=s y/\x<y)
theorem Tix.trans {s:Nat->Rat} (x y z:Nat) (E:Tix s x y) (F:Tix s y z):Tix s x z:=by
 rcases E with E | ⟨E,G⟩ <;> rcases F with F | ⟨F,H⟩
 ·left;grind
 ·left;grind
 ·left;grind
 ·exact .inr ⟨by grind,by omega⟩
theorem Tix.asymm {s:Nat->Rat} {x y:Nat} (E:Tix s x y):¬Tix s y x:=fun F=>by
 rcases E with E | ⟨E,G⟩ <;> rcases F with F | ⟨F,H⟩
 ·grind
 ·grind
 ·grind
 ·omega
theorem pw_eq {T:Nat->Nat->Prop} (E:∀x y,T x y->¬T y x):∀{l F:List Nat},l.Pairwise T->F.Pairwise T->l.Perm F->l=F
 | [],_,_,_,h=>(List.Perm.nil_eq h)
 | a :: l,[],_,_,h=>absurd h.symm.nil_eq (by simp)
 | a :: l,b :: F,J,O,h=>by
  obtain⟨p1,p2⟩:=qbu.1 J;obtain⟨q1,q2⟩:=qbu.1 O;have H:a=b:=by
   have G:a∈b :: F:=h.mem_iff.1 (qa8 ..);have I:b∈a :: l:=h.mem_iff.2 (qa8 ..);rcases qav.1 G with e | G
   ·exact e
   ·rcases qav.1 I with e | I
    ·exact e.symm
    ·exact absurd (q1 a G) (E _ _ (p1 b I))
  subst H;rw [pw_eq E p2 q2 (List.Perm.cons_inv h)]
theorem up_full {K:List Nat} {n:Nat} (h:Up K) (I:K.length=n) (H:∀i∈K,i<n):K=List.range n:=by
 have low:∀j (E:j<K.length),j<=K[j]:=fun j=>by
  induction j with
  | zero=>exact fun _=>qaj _
  | succ j ih =>
   intro E;have F:=ih (by omega);have G:=(List.pairwise_iff_getElem.1 h) j (j+1) (by omega) E (Nat.lt_succ_self _);omega
 have top:∀d j (E:j<K.length),j+d+1=n->K[j]+d<n:=fun d=>by
  induction d with
  | zero=>exact fun j E _=>H _ (qbM E)
  | succ d ih =>
   intro j E e;have F:=ih (j+1) (by omega) (by omega);have G:=(List.pairwise_iff_getElem.1 h) j (j+1) E (by omega) (Nat.lt_succ_self _);omega
 refine List.ext_getElem (by rw [qbs];exact I) fun j F G=>?_
 rw [List.getElem_range];have J:=low j F;have a2:=top (n-1-j) j F (by omega);omega
theorem all_perm {l:List Nat} {n:Nat} (O:l.Nodup) (J:l.length=n) (H:∀i∈l,i<n):l.Perm (List.range n):=by
 have E:=qdn (lt:=fun a b:Nat=>a<b) l;have F:Ord (fun a b:Nat=>a<b) (isort (fun a b=>a<b) l):=qgB (fun a b c F G=>by omega) (fun a b h=>by omega) _;have G:(isort (fun a b:Nat=>a<b) l).Nodup:=E.nodup_iff.2 O;have U:Up (isort (fun a b:Nat=>a<b) l):=(List.pairwise_and_iff.2 ⟨F,G⟩).imp fun⟨F,G⟩=>by omega
 rw [<-up_full U (by rw [E.length_eq];exact J) fun i I=>H i (E.mem_iff.1 I)];exact E.symm
theorem qm0 {s:Nat->Rat} {n:Nat} {E:Nat->Nat} (h:Mer (Tix s) (fun k=>k) E 0 n):fnl n E=qck s n:=by
 have H:(fnl n E).Pairwise (Tix s):=List.pairwise_iff_getElem.2 fun i j V U I=>by
  rw [qdl] at V U;have e:∀k (F:k<(fnl n E).length),(fnl n E)[k]=E k:=fun k F=>by
   have G:=qc4 (n:=n) (k:=k) E (by rw [qdl] at F;exact F);rw [qad F] at G;exact qag G
  rw [e,e];exact h.inc i j (qaj _) I U
 have J:∀x∈fnl n E,x<n:=fun x hx=>by
  obtain⟨k,F,rfl⟩:=qbe.1 hx;obtain⟨j,_,j2,e⟩:=h.mem k (qaj _) (qas.1 F);rw [e];exact j2
 have O:(fnl n E).Nodup:=H.imp fun G e=>by subst e;exact G.asymm G
 refine pw_eq (fun _ _ h=>h.asymm) H ((qeI s n).imp fun h=>?_) ((all_perm O (qdl n E) J).trans (qcD s n).symm);unfold Tix
 grind
theorem qni (s:Nat->Rat) (a b:Nat):Par (Tix s) (fun x y=>s x<s y) (fun k=>k) a b:=fun i j _ E _=>by
 show (s j<s i↔Tix s j i)/\(¬Tix s j i->Tix s i j)
 refine⟨⟨fun h=>.inl h,fun h=>?_⟩,fun h=>?_⟩
 ·rcases h with h | ⟨_,h⟩
  ·exact h
  ·omega
 ·unfold Tix at h ⊢
  grind
theorem qlo {s:Nat->Rat} {J E:Nat->Nat} {m n:Nat} (O:Mer (Tix s) (fun k=>k) J 0 m) (U:Mer (Tix s) J E m n):Mst (Tix s) (fun x y=>s x<s y) E 0 m n:=by
 have hl:∀k,k<m->E k=J k:=fun k H=>U.o k (by omega)
 have I:∀k,k<m->E k<m:=fun k H=>by
  obtain⟨j,_,j2,e⟩:=O.mem k (qaj _) H;rw [hl k H,e];exact j2
 have G:∀k,m<=k->k<n->m<=E k:=fun k H Z=>by
  obtain⟨j,j1,j2,e⟩:=U.mem k H Z;rw [e,O.o j (by omega)];exact j1
 refine⟨O.inc.congr fun k _ F=>hl k F,U.inc,fun i j _ F V Y=>⟨fun h=>.inl h,fun h=>?_⟩,fun i j _ F V Y h=>?_⟩
 ·rcases h with h | ⟨_,h⟩
  ·exact h
  ·have:=I i F;have:=G j V Y;omega
 ·have a1:=I i F;have a2:=G j V Y;unfold Tix at h ⊢;have a3:E i<E j:=by omega
  grind
