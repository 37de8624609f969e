import Derived.Deep.Cut
import Derived.Deep.RegionHeld
import Derived.Test.YtjalhnlhcdfncaaGreatDoorBu19
set_option maxRecDepth 100000
set_option maxHeartbeats 0
namespace Go.Proofs.YtjalhnlhcdfncaaGreatDoor.p4
open Go.Lib Go.RowKit
theorem qkG:∀(k j a d:Nat),d<10 ^ k->padk (j+k) (a*10 ^ k+d)=padk j a++padk k d
 | 0,j,a,d,h=>by
  have:d=0:=by simpa using h
  subst this;simp [padk]
 | k+1,j,a,d,h=>by
  have e:a*10 ^ (k+1)=a*10 ^ k*10:=by rw [qaH,qaw]
  show padk (j+k+1) _=_
  rw [padk,padk,e,show (a*10 ^ k*10+d) / 10=a*10 ^ k+d / 10 by omega,show (a*10 ^ k*10+d) % 10=d % 10 by omega,qkG k j a (d / 10) (by rw [qaH] at h;omega),qaE]
def gtx:List Nat->List UInt8
 | []=>[]
 | d :: l=>gtx l++padk 4 d
theorem gtx_eq:∀(L:List Nat),(∀d∈L,d<10000)->gtx L=padk (4*L.length) (mval L)
 | [],_=>rfl
 | d :: L,h=>by
  have E:=qkG 4 (4*L.length) (mval L) d (h d qa8);have e:mval (d :: L)=mval L*10 ^ 4+d:=by
   show d+10000*mval L=mval L*10000+d
   omega
  rw [e]
  show gtx L++padk 4 d=padk (4*L.length+4) _
  rw [E,gtx_eq L (fun x hx=>h x (qbh _ hx))]
theorem gtx_drop {L:List Nat} {j:Nat} (h:j<L.length):gtx (L.drop j)=gtx (L.drop (j+1))++padk 4 (dg L j):=by
 rw [qbB h,gtx];unfold dg;rw [qaa,qad h];rfl
theorem pow4 (k:Nat):(10000:Nat) ^ k=10 ^ (4*k):=by rw [Nat.pow_mul]
theorem qmt (L:List Nat):(gtx L).length=4*L.length:=by
 induction L with
 | nil=>rfl
 | cons d L ih=>rw [gtx,qaf,ih,qgj,qbz];omega
def bare (x:Nat):List UInt8:=if x=0 then [] else decDigits x
theorem qmu {L:List Nat} (H:Dig L):∃z,gtx L=List.replicate z 48++bare (mval L):=by
 have F:=gtx_eq L H.mem;have G:=H.lt;rw [pow4] at G;unfold bare
 by_cases E:mval L=0
 ·rw [if_pos E];rw [E,qfT] at F;exact⟨4*L.length,by rw [F,qbw]⟩
 ·rw [if_neg E];have I:0<4*L.length:=by
   rcases qaU L.length with h | h
   ·rw [List.length_eq_zero_iff.1 h] at E;exact absurd rfl E
   ·omega
  exact⟨_,by rw [F,qjW _ _ I G]⟩
theorem qlX {x:Nat} {c:UInt8} {t:List UInt8} (h:bare x=c :: t):c≠48:=by
 unfold bare at h;split at h
 ·cases h
 ·rintro rfl;rename_i E;exact E (qeX x (by rw [h];rfl))
def qb9 (W:World) (v:Value) (z:Int):Prop:=∃m,v=.agg #[.bool (decide (z<0)),m]/\MagAt W m z.natAbs
theorem qb9.below {W W':World} {v:Value} {z:Int} (h:qb9 W v z) (G:Below W.heap.size W W'):qb9 W' v z:=by
 obtain⟨m,E,F⟩:=h;exact⟨m,E,F.below G⟩
theorem qb9.shape {W:World} {v:Value} {z:Int} (h:qb9 W v z):∃(b:Bool) (a:Option Addr) (n c:Nat),v=.agg #[.bool b,.slice a n c]:=by
 obtain⟨m,rfl,am,bm,G,cm,n,M,rfl,F,E⟩:=h;exact⟨_,am,n,cm,rfl⟩
theorem qli {W:World} {m:Value} {x:Nat} {neg:Bool} (h:MagAt W m x):qb9 W (.agg #[.bool (neg && !decide (x=0)),m]) (if neg=true then -(x:Int) else x):=by
 have F:(neg && !decide (x=0))=decide ((if neg=true then -(x:Int) else x)<0):=by
  cases neg with
  | false=>rw [Bool.false_and,if_neg (by simp)];exact (qU (by omega)).symm
  | true =>
   rw [if_pos rfl,Bool.true_and]
   by_cases E:x=0
   ·rw [qV E];exact (qU (by omega)).symm
   ·rw [qU E];exact (qV (by omega)).symm
 rw [F];refine⟨m,rfl,?_⟩;cases neg with
 | false=>simpa using h
 | true=>rw [if_pos rfl,qbv,qar];exact h
theorem qkx {W:World} {F:Option Addr} {b E c n:Nat} {L:List Nat} (h:IsM W F b E c n L):n=0↔mval L=0:=by rw [h.nrm.zero,h.len]
theorem qmG {W:World} {G:Option Addr} {b E c n g:Nat} {L:List Nat} {cs:Array Value} {t:TypeId} {H:Nat×Nat} (h:IsM W G b E c n L) (hg:W.heap[g]? = some (.cells cs t H)) (hne:∀x∈cs.toList,∀d,x≠.int .i64 d) (I:0<n):b≠g:=by
 rintro rfl;have F:=h.cell 0 I;unfold World.cell? at F;simp only [hg] at F;have J:cs[E+0]? = some (.int .i64 ((dg L 0:Nat):Int)):=by
  simpa using F
 exact hne _ (by rw [Array.mem_toList_iff];exact Array.mem_of_getElem? J) _ rfl
theorem qcq {W W':World} {v:Value} {x g:Nat} {cs:Array Value} {t:TypeId} {F:Nat×Nat} (h:MagAt W v x) (I:W.grownBy W' (some g)) (hg:W.heap[g]? = some (.cells cs t F)) (hne:∀x∈cs.toList,∀d,x≠.int .i64 d):MagAt W' v x:=by
 obtain⟨ao,b,off,c,n,L,rfl,E,H⟩:=h;exact⟨ao,b,off,c,n,L,rfl,⟨E.len,E.cap,qeJ I E.cells (fun G=>qmG E hg hne (by rw [<-E.len];exact G)),E.dig,E.nrm⟩,H⟩
theorem qcY {W:World} {v:Value} {x g:Nat} {cs cs':Array Value} {t:TypeId} {E:Nat×Nat} (h:MagAt W v x) (hg:W.heap[g]? = some (.cells cs t E)) (hne:∀x∈cs.toList,∀d,x≠.int .i64 d):MagAt (W.setRow g cs') v x:=qcq h (qce W g cs') hg hne
theorem qlt {W W':World} {v:Value} {z:Int} {g:Nat} {cs:Array Value} {t:TypeId} {E:Nat×Nat} (h:qb9 W v z) (H:W.grownBy W' (some g)) (hg:W.heap[g]? = some (.cells cs t E)) (hne:∀x∈cs.toList,∀d,x≠.int .i64 d):qb9 W' v z:=by
 obtain⟨m,F,G⟩:=h;exact⟨m,F,qcq G H hg hne⟩
theorem qcp {W:World} {v:Value} {z:Int} {g:Nat} {cs cs':Array Value} {t:TypeId} {E:Nat×Nat} (h:qb9 W v z) (hg:W.heap[g]? = some (.cells cs t E)) (hne:∀x∈cs.toList,∀d,x≠.int .i64 d):qb9 (W.setRow g cs') v z:=qlt h (qce W g cs') hg hne
theorem nd2 (b:Bool) (a:Option Addr) (n c:Nat):∀x∈(#[.bool b,.slice a n c]:Array Value).toList,∀d,x≠.int .i64 d:=by
 intro x hx d;rcases qav.1 hx with rfl | hx
 ·intro h;cases h
 ·rw [qan.1 hx];intro h;cases h
theorem nd4 (b F:Bool) (a E:Option Addr) (n H c G:Nat):∀x∈(#[.bool b,.slice a n c,.bool F,.slice E H G]:Array Value).toList,∀d,x≠.int .i64 d:=by
 intro x hx d;rcases qav.1 hx with rfl | hx
 ·intro h;cases h
 rcases qav.1 hx with rfl | hx
 ·intro h;cases h
 rcases qav.1 hx with rfl | hx
 ·intro h;cases h
 ·rw [qan.1 hx];intro h;cases h
open Go.Proofs.Tryz
theorem qmy {B:Nat} {b m:Value} (h:HiS B m):HiP B (.agg #[b,m]):=fun E x e=>by
 simp only [qaY,qa5,qaW,and_true] at e;rw [<-e.2];exact h
theorem qkA (x N:Nat) (neg:Bool) (I:Value) (w:World) (hm:DigAt w I x N) (hN:N<=17592186044416) :
  Calls prog 174 #[.bool neg,I] w fun e w'=>∃v,e=.returned v/\Below w.heap.size w w'/\qb9 w' v (if neg=true then -(x:Int) else x)/\∀B,HiS B I->HiP B v:=by
 have hc:=fun (W:World) (h:Below w.heap.size w W)=>ql7 x N I W (hm.below h) hN
 obtain⟨ao,b,off,c0,n0,L,rfl,_,_,_,_,_,_⟩:=hm;have HC:=qH hc;have F:Below w.heap.size w (w.alloc (.cells #[.bool false,.slice none 0 0] 105)):=qB.alloc qN _;have E:=qH (qA F (qM w (.cells #[.bool false,.slice none 0 0] 105) _ rfl));clear hc F;go_enter func174,ntmps174
 go_wp2_with (go_at_call 235;refine (HC.o _ E.o.1).mono ?_)
 rintro e w1 ⟨u,rfl,rfl,⟨am,bm,om,c,n,M,rfl,V,hx⟩,hh⟩;have G:n=0↔x=0:=by rw [qkx V,hx]
 have hM:MagAt (w.alloc (.cells #[.bool false,.slice none 0 0] 105)) (.slice am n c) x:=⟨am,bm,om,c,n,M,rfl,V,hx⟩;have hP:=fun b=>qcp (cs':=#[.bool b,.slice am n c]) (qli (neg:=neg) hM) E.o.2 (nd2 false none 0 0)
 have O:=qH hP;have U:=fun b=>qH (qS E.o.1 qN #[.bool b,.slice am n c])
 have Hn:=qH G;have J:=qH hh;clear hP G hM V hx hh;cases neg with
 | false =>
  go_wp2_with (with_reducible refine sR_ rfl 105 _ _ rfl (w.heap.size) #[.bool false,.slice am n c] E.o.2 2 ?_)
  refine qR (v:=.agg #[.bool false,.slice am n c]) (rA_ rfl (w.heap.size) (qT _ _ _ _ _ _ E.o.2) underlying105 2) rfl ⟨_,rfl,(U false).o,?_,fun B h=>qmy (J.o B h)⟩;exact O.o false
 | true =>
  by_cases Y:n=0
  ·subst Y
   go_wp2_with (with_reducible refine sR_ rfl 105 _ _ rfl (w.heap.size) #[.bool false,.slice am 0 c] E.o.2 2 ?_)
   refine qR (v:=.agg #[.bool false,.slice am 0 c]) (rA_ rfl (w.heap.size) (qT _ _ _ _ _ _ E.o.2) underlying105 2) rfl ⟨_,rfl,(U false).o,?_,fun B h=>qmy (J.o B h)⟩;have Z:x=0:=by simpa using Hn.o
   have:=O.o false
   rwa [show (true && !decide (x=0))=false by rw [Z];rfl] at this
  ·have H:¬x=0:=fun h=>Y (Hn.o.2 h)
   have Hx:=qH H;clear H;have aa:0<n:=by omega
   clear Y
   go_wp2_with (with_reducible refine sR_ rfl 105 _ _ rfl (w.heap.size) #[.bool true,.slice am n c] E.o.2 2 ?_)
   refine qR (v:=.agg #[.bool true,.slice am n c]) (rA_ rfl (w.heap.size) (qT _ _ _ _ _ _ E.o.2) underlying105 2) rfl ⟨_,rfl,(U true).o,?_,fun B h=>qmy (J.o B h)⟩;have:=O.o true
   rwa [show (true && !decide (x=0))=true by rw [qU Hx.o];rfl] at this
theorem qhW (x N:Nat) (neg:Bool) (E:Value) (w:World) (J:DigAt w E x N) (hN:N<=17592186044416) :
  Calls prog 174 #[.bool neg,E] w fun e F=>∃v,e=.returned v/\Below w.heap.size w F/\qb9 F v (if neg=true then -(x:Int) else x) :=
 (qkA x N neg E w J hN).mono fun _ _ ⟨v,G,H,I,_⟩=>⟨v,G,H,I⟩
end Go.Proofs.YtjalhnlhcdfncaaGreatDoor.p4
namespace Go.Proofs.YtjalhnlhcdfncaaGreatDoor.p4
open Go.RowKit Go.Proofs.Tryz
structure IntInv (n m k:Nat) (S:List Nat):Prop where
 len:S.length=k
 dig:Dig S
 val:mval S+10000 ^ k*m=n
 fit:m<10000 ^ (5-k)
theorem IntInv.start {n:Nat} (h:n<100000000000000000000):IntInv n n 0 []:=⟨rfl,Dig.nil,by simp [mval],by simpa using h⟩
theorem IntInv.lt {n m k:Nat} {S:List Nat} (h:IntInv n m k S) (F:k<=5) (E:m≠0):k<5:=by
 rcases qaB k 5 with h1 | h1
 ·exact h1
 ·obtain rfl:k=5:=by omega
  have:=h.fit;simp at this;omega
theorem IntInv.step {n m k:Nat} {S:List Nat} (h:IntInv n m k S) (G:k<5):IntInv n (m / 10000) (k+1) (S++[m % 10000]):=by
 refine⟨by rw [qaf,h.len];rfl,h.dig.snoc (qbR _ (by decide)),?_,?_⟩
 ·rw [qcW,h.len,<-h.val,qaH,Nat.add_assoc,qaw,<-qa4]
  congr 2
  exact Nat.mod_add_div _ _
 ·have E:=h.fit;obtain⟨j,F⟩:∃j,5-k=j+1:=⟨4-k,by omega⟩;rw [F,qaH] at E;rw [show 5-(k+1)=j by omega];exact Nat.div_lt_of_lt_mul (by rw [qat];exact E)
theorem IntInv.done {n k:Nat} {S:List Nat} (h:IntInv n 0 k S):mval S=n:=by have:=h.val;simpa using this
theorem qjI (n:Int) (hn:n<0) (hr:-9223372036854775808<=n/\n<=9223372036854775807) (w:World) :
  Calls prog 98 #[.int .i64 n] w fun e w'=>∃v,e=.returned v/\Below w.heap.size w w'/\qb9 w' v n:=by
 obtain⟨J,G⟩:=qY (w.alloc (.cells #[.bool false,.slice none 0 0] 105));have ah:Below w.heap.size w J:=G▸qbY qB qN;have aj:J.heap[w.heap.size]? = some (.cells #[.bool false,.slice none 0 0] 105 (0,0)):=by rw [G];exact qM _ _ _ rfl
 obtain⟨N,hN⟩:=qX n.natAbs;have HI:=qH (IntInv.start (n:=N) (by omega));have HN:=qH hN;have I:=qH (qA ah aj);have aD:=hr.1;have aF:=hr.2;have aB:decide (n<0)=true:=by exact qV hn
 have az:n<0:=by omega
 clear hN ah aj hr;go_enter func98,ntmps98;go_wp2_with fail;rw [<-G];clear G
 go_loopw [0,3,5] (fun x0 x3 x5 W=>∃(z:Int) (m k:Nat) (S:List Nat),x0=.int .i64 z/\z<=0/\-9223372036854775808<=z/\k<=5/\Hu (z.natAbs=m)/\Hu (IntInv N m k S)/\Hu (W.ownsRow J.heap.size 3 1 x3 k (row64 S))/\Hu (Below J.heap.size J W)) (fun x0 _ _ _=>(intOf x0).natAbs)
 case atStart=>exact⟨n,N,0,[],rfl,by omega,by omega,qaj _,HN,HI,qH (World.ownsRow_nil _ _ _ _),qH qB⟩
 case round =>
  obtain⟨z,m,k,S,rfl,aK,aL,hk,hm,hI,hO,hB⟩:=hrel;have aA:=hB.o.size
  by_cases ay:z=0
  ·subst ay;obtain rfl:0=m:=hm.o;have hv:=hI.o.done;have HD:=qH (qfC (N:=5) hO.o hI.o.dig hk);rw [hv] at HD;have V:=qhW N 5 true _ _ HD.o (by decide);rw [show (if true=true then -(N:Int) else N)=n by rw [<-HN.o];simp;omega] at V;have HM:=qH V;clear hv V;go_wp2_with fail;refine HM.o.mono ?_;rintro e w2 ⟨u,rfl,ai,ae⟩;have O:Below J.heap.size J w2:=hB.o.trans (ai.mono hB.o.size);have E:=(O.block w.heap.size (qG I.o.2).1).trans I.o.2;have F:Below w.heap.size w w2:=I.o.1.trans (O.mono I.o.1.size);obtain⟨b9,a9,n9,c9,rfl⟩:=ae.shape;have ak:=qcp (cs':=#[.bool b9,.slice a9 n9 c9]) ae E (nd2 _ _ _ _);have I:=qH (qA E (qA F (qS F qN #[.bool b9,.slice a9 n9 c9])));have HV:=qH ak;clear E F ak ai ae O
   go_wp2_with (with_reducible refine sR_ rfl 105 _ _ rfl (w.heap.size) #[.bool b9,.slice a9 n9 c9] I.o.1 2 ?_)
   exact qR (v:=.agg #[.bool b9,.slice a9 n9 c9]) (rA_ rfl (w.heap.size) (qT _ _ _ _ _ _ I.o.1) underlying105 2) rfl ⟨_,rfl,I.o.2.2,HV.o⟩
  ·obtain⟨q,hq⟩:=qX (m / 10000);obtain⟨r,Z⟩:=qX (m % 10000);have av:=hm.o;have H:z = -(m:Int):=by omega
   have t1:z.tmod 10000 = -(r:Int):=by rw [H,Int.neg_tmod,tmodB m r Z]
   have t2:z.tdiv 10000 = -(q:Int):=by rw [H,Int.neg_tdiv,tdivB m q hq]
   have au:=hI.o.lt hk (by omega);have aa:=hI.o.step au;rw [hq,Z] at aa;have af:=qH aa;have aG:r<10000:=by omega
   have aC:q<=922337203685478:=by omega
   have Hq:=qH (show q<m by omega);have ag:=qH H;have aM:z<0:=by omega
   have aN:(z != 0)=true:=by rw [bne_iff_ne];omega
   clear aa hq Z H av
   by_cases ax:r=0
   ·subst ax
    go_wp2_with (first | (at_builtin;refine qe9 (d:=0) rfl _ _ rfl hB.o rfl hO.o rfl rfl (by omega) rfl ?_;intro v' w' Y U) | fail)
    go_roundw
    case rel=>exact⟨_,q,k+1,S++[0],rfl,by omega,by omega,by omega,qH (by omega),af,Y,U⟩
    case measure=>have:=Hq.o;have:=ag.o;simp [intOf];omega
   ·have aH:-(r:Int)<0:=by omega
    have aI:0<r:=by omega
    have aJ:- -(r:Int)=(r:Int):=by omega
    go_wp2_with (first | (at_builtin;refine qe9 (d:=r) rfl _ _ rfl hB.o rfl hO.o rfl rfl (by omega) rfl ?_;intro v' w' Y U) | fail)
    go_roundw
    case rel=>exact⟨_,q,k+1,S++[r],rfl,by omega,by omega,by omega,qH (by omega),af,Y,U⟩
    case measure=>have:=Hq.o;have:=ag.o;simp [intOf];omega
theorem qgy (n:Int) (hn:0<=n) (hr:-9223372036854775808<=n/\n<=9223372036854775807) (w:World) :
  Calls prog 98 #[.int .i64 n] w fun e w'=>∃v,e=.returned v/\Below w.heap.size w w'/\qb9 w' v n:=by
 obtain⟨J,G⟩:=qY (w.alloc (.cells #[.bool false,.slice none 0 0] 105));have Z:Below w.heap.size w J:=G▸qbY qB qN;have ae:J.heap[w.heap.size]? = some (.cells #[.bool false,.slice none 0 0] 105 (0,0)):=by rw [G];exact qM _ _ _ rfl
 obtain⟨N,hN⟩:=qX n.natAbs;have HI:=qH (IntInv.start (n:=N) (by omega));have HN:=qH hN;have I:=qH (qA Z ae);have ay:=hr.1;have az:=hr.2;have ax:decide (n<0)=false:=by exact qU (by omega)
 have au:¬n<0:=by omega
 clear hN Z ae hr;go_enter func98,ntmps98;go_wp2_with fail;rw [<-G];clear G
 go_loopw [0,3,5] (fun x0 x3 x5 W=>∃(z:Int) (m k:Nat) (S:List Nat),x0=.int .i64 z/\0<=z/\z<=9223372036854775807/\k<=5/\Hu (z.natAbs=m)/\Hu (IntInv N m k S)/\Hu (W.ownsRow J.heap.size 3 1 x3 k (row64 S))/\Hu (Below J.heap.size J W)) (fun x0 _ _ _=>(intOf x0).natAbs)
 case atStart=>exact⟨n,N,0,[],rfl,by omega,by omega,qaj _,HN,HI,qH (World.ownsRow_nil _ _ _ _),qH qB⟩
 case round =>
  obtain⟨z,m,k,S,rfl,aC,aD,hk,hm,hI,hO,hB⟩:=hrel;have av:=hB.o.size
  by_cases ak:z=0
  ·subst ak;obtain rfl:0=m:=hm.o;have hv:=hI.o.done;have HD:=qH (qfC (N:=5) hO.o hI.o.dig hk);rw [hv] at HD;have H:=qhW N 5 false _ _ HD.o (by decide);rw [show (if false=true then -(N:Int) else N)=n by rw [<-HN.o];simp;omega] at H;have HM:=qH H;clear hv H;go_wp2_with fail;refine HM.o.mono ?_;rintro e w2 ⟨u,rfl,aa,Y⟩;have O:Below J.heap.size J w2:=hB.o.trans (aa.mono hB.o.size);have E:=(O.block w.heap.size (qG I.o.2).1).trans I.o.2;have F:Below w.heap.size w w2:=I.o.1.trans (O.mono I.o.1.size);obtain⟨b9,a9,n9,c9,rfl⟩:=Y.shape;have af:=qcp (cs':=#[.bool b9,.slice a9 n9 c9]) Y E (nd2 _ _ _ _);have I:=qH (qA E (qA F (qS F qN #[.bool b9,.slice a9 n9 c9])));have HV:=qH af;clear E F af aa Y O
   go_wp2_with (with_reducible refine sR_ rfl 105 _ _ rfl (w.heap.size) #[.bool b9,.slice a9 n9 c9] I.o.1 2 ?_)
   exact qR (v:=.agg #[.bool b9,.slice a9 n9 c9]) (rA_ rfl (w.heap.size) (qT _ _ _ _ _ _ I.o.1) underlying105 2) rfl ⟨_,rfl,I.o.2.2,HV.o⟩
  ·obtain⟨q,hq⟩:=qX (m / 10000);obtain⟨r,U⟩:=qX (m % 10000);obtain rfl:z=(m:Int):=by have:=hm.o;omega
   have t1:(m:Int).tmod 10000=(r:Int):=tmodB m r U;have t2:(m:Int).tdiv 10000=(q:Int):=tdivB m q hq;have t3:(m:Int) % 10000=r:=by omega
   have t4:(m:Int) / 10000=q:=by omega
   have ai:=hI.o.lt hk (by omega);have V:=hI.o.step ai;rw [hq,U] at V;have ag:=qH V;have aA:r<10000:=by omega
   have Hq:=qH (show q<m by omega);have H:0<m:=by omega
   have aF:((m:Int) != 0)=true:=by rw [bne_iff_ne];omega
   have aB:¬(r:Int)<0:=by omega
   clear V hq U
   go_wp2_with (first | (at_builtin;refine qe9 (d:=r) rfl _ _ rfl hB.o rfl hO.o rfl rfl (by omega) rfl ?_;intro v' w' aj ah) | fail)
   go_roundw
   case rel=>exact⟨_,q,k+1,S++[r],rfl,by omega,by omega,by omega,qH (by omega),ag,aj,ah⟩
   case measure=>have:=Hq.o;simp [intOf];omega
theorem qjH (n:Int) (hr:-9223372036854775808<=n/\n<=9223372036854775807) (w:World) :
  Calls prog 98 #[.int .i64 n] w fun e E=>∃v,e=.returned v/\Below w.heap.size w E/\qb9 E v n:=by
 rcases Int.lt_or_le n 0 with h | h
 ·exact qjI n h hr w
 ·exact qgy n h hr w
instance stays_plain {v:Value} {x:Int}:Stays fun W=>qb9 W v x:=⟨fun h E=>h.below E⟩
def Rows2 (g E:Nat) (o F:Obj) (W:World):Prop:=W.heap[g]? = some o/\W.heap[E]? = some F
theorem qlv {P:Program} {V:Func} {p q:Tmp} {F:TypeId} (h:V.results=#[.cell p F,.cell q F]) (E:Array Value) (w:World) (g H:Nat) (t:TypeId) (cs cs':Array Value) (d:TypeDesc)
  (hp:E.getD p undef=.pointer (some ⟨g,0,none⟩)) (hq:E.getD q undef=.pointer (some ⟨H,0,none⟩)) (hg:w.heap[g]? = some (.cells cs t (0,0))) (J:w.heap[H]? = some (.cells cs' t (0,0)))
  (hu:P.underlying F=some d) (Y:(match d with | .struct _ | .array _ _=>true | _=>false)=true) (n:Nat) (Z:(P.info? F).map (·.size)=some n) (I:cs.size=n) (G:cs'.size=n) :
  (results V E).run P w=.ok (.tuple #[.agg cs,.agg cs']) w:=by
 have O:E[p]?.getD undef=.pointer (some ⟨g,0,none⟩):=by simpa using hp
 have U:E[q]?.getD undef=.pointer (some ⟨H,0,none⟩):=by simpa using hq
 have h1:=run_loadVar_row w g t F cs (0,0) d hg hu Y (by rw [I];exact Z);have h2:=run_loadVar_row w H t F cs' (0,0) d J hu Y (by rw [G];exact Z);simp [results,h,O,U,asAddr,h1,h2,Sem.run_bind,Result.andThen]
theorem kn3 (w:World) (a:Array Value) (t:TypeId) (E:Array Value) (F:TypeId) (b:Array Value) (u:TypeId):∃W,W=((w.alloc (.cells a t)).alloc (.cells E F)).alloc (.cells b u) /\
  Kn (fun W=>Below w.heap.size w W/\W.heap[w.heap.size]? = some (.cells a t (0,0))/\W.heap[w.heap.size+1]? = some (.cells E F (0,0))/\W.heap[w.heap.size+1+1]? = some (.cells b u (0,0))) W :=
 ⟨_,rfl,.of ⟨qbY (qbY (qbY qB qN) qN) qN,
  (qL _ _ _ (by simp only [qab];omega)).trans ((qL _ _ _ (by simp only [qab];omega)).trans (qM _ _ _ rfl)),
  (qL _ _ _ (by simp only [qab];omega)).trans (qM _ _ _ (by simp)),qM _ _ _ (by simp)⟩⟩
def qdM (W:World) (v:Value) (q:Rat):Prop:=∃m o,v=.agg #[.bool (decide (q.num<0)),m,.bool false,o]/\MagAt W m q.num.natAbs/\MagAt W o q.den
theorem qdM.shape {W:World} {v:Value} {q:Rat} (h:qdM W v q):∃(b:Bool) (a:Option Addr) (n c:Nat) (E:Option Addr) (G F:Nat),v=.agg #[.bool b,.slice a n c,.bool false,.slice E G F]:=by
 obtain⟨m,o,rfl,⟨am,bm,H,cm,n,M,rfl,_,_⟩,⟨ao,bo,I,co,no,O,rfl,_,_⟩⟩:=h;exact⟨_,am,n,cm,ao,no,co,rfl⟩
theorem qgb {W:World} {v:Value} {q:Rat} {g:Nat} {cs cs':Array Value} {t:TypeId} {E:Nat×Nat} (h:qdM W v q) (hg:W.heap[g]? = some (.cells cs t E)) (hne:∀x∈cs.toList,∀d,x≠.int .i64 d):qdM (W.setRow g cs') v q:=by
 obtain⟨m,o,F,G,H⟩:=h;exact⟨m,o,F,qcY G hg hne,qcY H hg hne⟩
theorem hir_of {B:Nat} {b x E y:Value} (F:HiS B x) (G:HiS B y):HiR B (.agg #[b,x,E,y]):=fun _ _ _ _ e=>by
 simp only [qaY,qa5,qaW,and_true] at e;rw [<-e.2.1,<-e.2.2.2];exact⟨F,G⟩
theorem qnn {W:World} {b E:Bool} {m o:Value} {q:Rat} {x y:Int} (hx:qb9 W (.agg #[.bool b,m]) x) (hy:qb9 W (.agg #[.bool E,o]) y) (F:x=q.num) (G:y=(q.den:Int)):qdM W (.agg #[.bool b,m,.bool E,o]) q:=by
 obtain⟨m',e1,H⟩:=hx;obtain⟨o',e2,I⟩:=hy;simp only [qaY,qa5,qaW,qbF,and_true] at e1 e2;obtain⟨rfl,rfl⟩:=e1;obtain⟨rfl,rfl⟩:=e2;subst F G;refine⟨m,o,?_,H,by simpa using I⟩;rw [qU (show ¬(q.den:Int)<0 by omega)]
theorem low_num (n d:Int) (G:0<d):(if n<0 then -((n.natAbs / (n.natAbs.gcd d.natAbs:Nat):Nat):Int) else ((n.natAbs / (n.natAbs.gcd d.natAbs:Nat):Nat):Int))=(Rat.divInt n d).num/\((d.natAbs / (n.natAbs.gcd d.natAbs:Nat):Nat):Int)=((Rat.divInt n d).den:Int):=by
 obtain⟨E,F⟩:=qjY n d (by omega);rw [E,F,qU (show ¬d<0 by omega)];refine⟨?_,rfl⟩
 by_cases h:n<0
 ·rw [if_pos h,qV h];rfl
 ·rw [if_neg h,qU h];rfl
def LowSt (w:World) (q:Rat) (K:Nat) (W:World) (G:Bool) (E:Option Addr) (J H:Nat) (F:Option Addr) (no I:Nat):Prop :=
 (∃n d:Int,0<d/\Rat.divInt n d=q/\Fit n.natAbs K/\Fit d.natAbs K/\qb9 W (.agg #[.bool G,.slice E J H]) n/\qb9 W (.agg #[.bool false,.slice F no I]) d) /\
 Below w.heap.size w W/\W.heap[w.heap.size]? = some (.cells #[.bool G,.slice E J H] 105 (0,0))/\W.heap[w.heap.size+1]? = some (.cells #[.bool false,.slice F no I] 105 (0,0)) /\
  W.heap[w.heap.size+1+1]? = some (.cells #[.bool false,.slice none 0 0,.bool false,.slice none 0 0] 107 (0,0))
open Go.Lib
theorem conv4 (E F G H:UInt8) (n0 n1 n2 I:Int) (J:n0=(E.toNat:Nat)) (O:n1=(F.toNat:Nat)) (U:n2=(G.toNat:Nat)) (V:I=(H.toNat:Nat)) (W:World) :
  (convert 299 9 (.slice (some ⟨W.heap.size,0,none⟩) 4 4)).run prog (W.alloc (.cells #[.int .u8 n0,.int .u8 n1,.int .u8 n2,.int .u8 I] 5))=.ok (.string ⟨#[E,F,G,H]⟩) (W.alloc (.cells #[.int .u8 n0,.int .u8 n1,.int .u8 n2,.int .u8 I] 5)):=by
 subst J O U V;refine run_convert_bytes_back (P:=prog) _ 299 9 5 ⟨W.heap.size,0,none⟩ 4 [E,F,G,H] underlying299 underlying5 underlying9 ?_;intro j Y;have hg:=heap_alloc_new W (.cells #[.int .u8 (E.toNat:Nat),.int .u8 (F.toNat:Nat),.int .u8 (G.toNat:Nat),.int .u8 (H.toNat:Nat)] 5)
 match j,Y with
 | 0,_=>exact qC _ _ 0 _ _ _ hg
 | 1,_=>exact qC _ _ 1 _ _ _ hg
 | 2,_=>exact qC _ _ 2 _ _ _ hg
 | 3,_=>exact qC _ _ 3 _ _ _ hg
def grp (d:Nat):ByteArray:=⟨(padk 4 d).toArray⟩
theorem grp_size (d:Nat):(grp d).size=4:=by
 show (padk 4 d).toArray.size=4
 rw [qbQ,qgj]
theorem four_any (d:Nat) (Z:d<10000) (w:World) :
  Calls prog 205 #[.int .i64 (d:Int)] w fun e Y=>e=.returned (.string (grp d))/\Below w.heap.size w Y:=by
 obtain⟨a,O⟩:=qX (d / 1000);obtain⟨b,U⟩:=qX (d / 100);obtain⟨E,H⟩:=qX (b % 10);obtain⟨c,V⟩:=qX (d / 10);obtain⟨F,I⟩:=qX (c % 10);obtain⟨e,he⟩:=qX (d % 10);have hg:grp d=⟨#[UInt8.ofNat (48+a),UInt8.ofNat (48+E),UInt8.ofNat (48+F),UInt8.ofNat (48+e)]⟩:=by
  unfold grp;simp only [padk];rw [show d / 10 / 10 / 10 % 10=a by omega,show d / 10 / 10 % 10=E by omega,show d / 10 % 10=F by omega,he]
  rfl
 have J:=conv4 (UInt8.ofNat (48+a)) (UInt8.ofNat (48+E)) (UInt8.ofNat (48+F)) (UInt8.ofNat (48+e)) (48+(a:Int)) (48+(E:Int)) (48+(F:Int)) (48+(e:Int)) (by rw [qct (by omega)];omega) (by rw [qct (by omega)];omega) (by rw [qct (by omega)];omega) (by rw [qct (by omega)];omega) w;rw [<-hg] at J;have t1:(d:Int) / 1000=a:=by omega
 have t2:(d:Int) / 100=b:=by omega
 have t3:(b:Int) % 10=E:=by omega
 have t4:(d:Int) / 10=c:=by omega
 have t5:(c:Int) % 10=F:=by omega
 have t6:(d:Int) % 10=e:=by omega
 have l1:a<10:=by omega
 have l2:b<100:=by omega
 have l3:c<1000:=by omega
 have l4:E<10:=by omega
 have l5:F<10:=by omega
 have l6:e<10:=by omega
 clear O U H V I he hg;generalize grp d=G at *;go_enter func205,ntmps205;go_wp2;go_ret;exact⟨rfl,qbY qB qN⟩
theorem ne_empty {a:ByteArray} (h:a.size≠0):a.toList.isEmpty=false:=by
 rw [ByteArray.toList_eq];cases e:a.data.toList with
 | nil=>exact absurd (show a.size=0 by show a.data.size=0;rw [<-qbq,e];rfl) h
 | cons x l=>rfl
theorem text_any (z:Int) (K:Nat) (hK:K<=17592186000000) (v:Value) (w:World) (hv:qb9 w v z) (hz:Fit z.natAbs K) :
  Calls prog 138 #[v] w fun e w'=>e=.returned (.string (qcb z))/\Below w.heap.size w w':=by
 obtain⟨m,rfl,am,bm,om,cm,n,M,rfl,Im,au⟩:=hv;have hn:n<=K:=by rw [<-au] at hz;exact hz.len Im
 obtain⟨zc,aG⟩:=qmu Im.dig;have H:=qmt M;rw [Im.len] at H;have aR:=qe7 (z:=z);have aS:=qek (z:=z);rw [au] at aG;have ak:=qH (qA aR aS);obtain⟨WT,ay⟩:=qX (qcb z);rw [ay];have aj:=qH ay;clear ay;have bg:=qH aG;have bf:=qH H;have HM:=qH Im;have J:Below w.heap.size w (w.alloc (.cells #[.bool (decide (z<0)),.slice am n cm] 105)):=qbY qB qN;obtain⟨bz,az⟩:=qX (decide (z<0));rw [az] at J ⊢;have aI:=qH az;obtain⟨W1,Z⟩:=qY (w.alloc (.cells #[.bool bz,.slice am n cm] 105));have aF:W1.heap[w.heap.size]? = some (.cells #[.bool bz,.slice am n cm] 105 (0,0)):=by rw [Z];exact qM _ _ _ rfl
 rw [<-Z] at J;have HW:=qH (qA J aF);have aM:=Im.below J;have aY:=qH aM;clear aR aS aG H Im au hz az J aM;go_enter func138,ntmps138;go_wp2_with fail;rw [<-Z];clear Z;have k1:=qC W1 _ 1 _ _ _ aF;clear aF;go_wp2_with fail
 go_loopw [3,4] (fun x3 x4 W=>∃(k:Nat) (zz:Int) (t:ByteArray),k<=n/\x4=.int .i64 zz/\Hu (zz+1=k)/\x3=.string t/\Hu (t.data.toList=gtx (M.drop k))/\Hu (Below W1.heap.size W1 W)) (fun _ x4 _=>(RowKit.intOf x4+1).toNat)
 case atStart=>exact⟨n,_,⟨#[]⟩,qae _,rfl,qH (by omega),rfl,qH (by rw [qaT (by rw [HM.o.len];exact qae _)];rfl),qH qB⟩
 case round =>
  obtain⟨k,zz,t,hk,rfl,aX,rfl,ht,hB⟩:=hrel;have aa:=(hB.o.block w.heap.size (qG HW.o.2).1).trans HW.o.2;have k1:=qC wr _ 1 _ _ _ aa;have k0:=qC wr _ 0 _ _ _ aa;have bC:=qH aa;clear aa
  by_cases bH:0<k
  ·obtain⟨j,rfl⟩:∃j,k=j+1:=⟨k-1,by omega⟩;obtain rfl:zz=(j:Int):=by have:=aX.o;omega
   have bG:(j:Int)<n:=by omega
   have bq:=HM.o.addr (by omega);subst bq;have bu:=(aY.o.below hB.o).cell j (by omega);have aA:dg M j<10000:=HM.o.dig j;have aB:=gtx_drop (L:=M) (j:=j) (by rw [HM.o.len];omega);obtain⟨d,hd⟩:=qX (dg M j);rw [hd] at bu aA aB;have ae:t.size=4*(n-(j+1)):=by
    have:t.size=t.data.toList.length:=by rw [qbq];rfl
    rw [this,ht.o,qmt,qbi,HM.o.len]
   have HF:=qH (four_any d aA);have bv:=grp_size d;have af:∀W,(Op.stringOp .add t (grp d)).run prog W=.ok (.string (t++grp d)) W:=fun W=>run_string_add_sum W _ _ (by omega)
   have ah:(t++grp d).data.toList=gtx (M.drop j):=by
    rw [ByteArray.data_append,qbl,ht.o,aB];rfl
   have aK:=qH ah;generalize grp d=G at *;clear ah bv ae aB hd aA
   go_wp2_with (go_at_call 205;refine (HF.o _).mono ?_)
   rintro e w2 ⟨rfl,aP⟩;have aZ:=qH aP;clear aP;go_wp2;go_roundw
   case rel=>exact⟨j,_,_,by omega,rfl,qH (by omega),rfl,aK,qH (hB.o.trans (aZ.o.mono hB.o.size))⟩
   case measure=>simp [RowKit.intOf]
  ·obtain rfl:k=0:=by omega
   obtain rfl:zz = -1:=by have:=aX.o;omega
   have F:=ht.o;rw [List.drop_zero] at F;have ae:t.size=4*n:=by
    have:t.size=t.data.toList.length:=by rw [qbq];rfl
    rw [this,F,bf.o]
   rw [bg.o] at F;obtain⟨R,hR⟩:=qX (bare z.natAbs);rw [hR] at F;have ag:zc+R.length=4*n:=by
    have h1:t.size=t.data.toList.length:=by rw [qbq];rfl
    rw [<-ae,h1,F,qaf,qaS]
   obtain⟨N4,aN⟩:=qX (4*n);rw [aN] at ae ag;have aO:∀i (h:i<t.size),t[i]=(List.replicate zc 48++R).getD i 0:=fun i h=>by
    have:t[i]=t.data.toList[i]'(by rw [qbq];exact h):=rfl;rw [this,<-F,qaa,qad (by rw [qbq];exact h)];rfl
   have O:t.extract zc N4=⟨R.toArray⟩:=by
    apply ByteArray.ext;rw [ByteArray.data_extract];apply Array.ext';rw [Array.toList_extract,F];simp only [List.extract,List.drop_append,qaS,qaM,List.drop_zero];rw [qaT (by rw [qaS];exact qae _),qbj,qah (by omega)]
   have bD:N4<=70368744000000:=by omega
   have aH:=qH aO;have aJ:=qH O;have HR:=qH hR;have Hl:=qH ag;clear aO O hR F aN;go_wp2_with fail
   go_loopw [5] (fun x5 W=>∃k:Nat,x5=.int .i64 k/\k<=zc/\W=wr) (fun x5 _=>zc-(RowKit.intOf x5).toNat)
   case atStart=>exact⟨0,rfl,qaj _,rfl⟩
   case round =>
    obtain⟨k,rfl,bI,hW⟩:=hrel;have bn:=hW.symm;clear hW;subst bn
    by_cases aD:k<zc
    ·have Y:k<t.size:=by have:=Hl.o;omega
     have aC:(k:Int)<N4:=by have:=Hl.o;omega
     have bJ:(t[k]'Y).toNat=48:=by
      rw [aH.o k Y,qaa,qaz (by rw [qaS];exact aD),qbk,if_pos aD];rfl
     go_wp2;go_roundw
     case rel=>exact⟨k+1,by go_num,aD,trivial⟩
     case measure=>simp [RowKit.intOf];omega
    ·obtain rfl:k=zc:=by omega
     by_cases h0:z.natAbs=0
     ·have I:R=[]:=by rw [<-HR.o];unfold bare;rw [if_pos h0]
      subst I;have aC:k=N4:=by have:=Hl.o;simpa using this
      have aV:qcb z=⟨#[48]⟩:=by
       rw [ak.o.2 (by omega),h0];unfold num;rw [qb7 (by decide)];rfl
      have O:=aJ.o;subst aC;rw [aj.o] at aV;subst aV;go_wp2;go_ret;exact⟨rfl,HW.o.1.trans (hB.o.mono HW.o.1.size)⟩
     ·have I:R=decDigits z.natAbs:=by rw [<-HR.o];unfold bare;rw [if_neg h0]
      have av:R≠[]:=by rw [I];exact qdU _
      have bE:=List.length_pos_iff.2 av;have aC:(k:Int)<N4:=by have:=Hl.o;omega
      have bB:k<=N4:=by omega
      have Y:k<t.size:=by omega
      obtain⟨c,hc⟩:=qX ((t[k]'Y).toNat);have aQ:c≠48:=by
       rintro rfl;obtain⟨x,l,aW⟩:∃x l,R=x :: l:=by
        cases R with
        | nil=>exact absurd rfl av
        | cons x l=>exact⟨x,l,rfl⟩
       have h1:=aH.o k Y;rw [qaa,qau (by rw [qaS];exact qae _),qaS,qaM,aW] at h1;replace h1:t[k]=x:=h1;rw [h1] at hc;exact qlX (HR.o.trans aW) (qid hc)
      have bF:((c:Int) == 48)=false:=by rw [beq_eq_false_iff_ne];omega
      have O:=aJ.o;have ai:(⟨R.toArray⟩:ByteArray)=num z.natAbs:=by rw [I];rfl
      rw [ai] at O;have bA:(num z.natAbs).size=R.length:=by rw [I];rfl
      have hne:=ne_empty (a:=num z.natAbs) (by omega);have aT:=ak.o.1;have aU:=ak.o.2;have aL:Hu (z<0->qcb z=⟨#[45]⟩++num z.natAbs):=qH aT;have bi:Hu (¬z<0->qcb z=num z.natAbs):=qH fun h=>aU (by omega)
      clear aT aU;generalize num z.natAbs=U at *;have af:∀W,(Op.stringOp .add ⟨#[45]⟩ U).run prog W=.ok (.string (⟨#[45]⟩++U)) W:=fun W=>run_string_add_sum W _ _ (by have:(⟨#[45]⟩:ByteArray).size=1:=rfl;have:=Hl.o;omega)
      obtain⟨V,hV⟩:=qX ((⟨#[45]⟩:ByteArray)++U);rw [hV] at af aL;clear hV I av ai aQ bA;cases bz with
      | true =>
       have E:z<0:=of_decide_eq_true aI.o;have ax:V=WT:=by rw [<-aj.o,aL.o E]
       subst ax;clear E;go_wp2;go_ret;exact⟨rfl,HW.o.1.trans (hB.o.mono HW.o.1.size)⟩
      | false =>
       have E:¬z<0:=of_decide_eq_false aI.o;have ax:U=WT:=by rw [<-aj.o,bi.o E]
       subst ax;clear E;go_wp2;go_ret;exact⟨rfl,HW.o.1.trans (hB.o.mono HW.o.1.size)⟩
theorem qih {z:Int} (h:z<0):(qcb z).size=(num z.natAbs).size+1:=by
 rw [qe7 h,ByteArray.size_append];have:(⟨#[45]⟩:ByteArray).size=1:=rfl;omega
theorem qii {z:Int} (h:¬z<0):(qcb z).size=(num z.natAbs).size:=by rw [qek h]
theorem num_fit {x K:Nat} (h:Fit x K) (E:0<K):(num x).size<=4*K:=by
 rw [qdG];refine qcw _ _ (by omega) ?_;rw [<-pow4];exact h
def qlU (w:World) (z:Int) (e:Ending) (E:World):Prop:=((num z.natAbs).size<=600/\e=.returned (.tuple #[.string (qcb z),.int .i64 0])\/¬(num z.natAbs).size<=600/\e=.returned (.tuple #[.string ⟨#[]⟩,.int .i64 6]))/\Below w.heap.size w E
theorem qng (z:Int) (K:Nat) (af:0<K) (hK:K<=17592186000000) (v:Value) (w:World) (hv:qb9 w v z) (hz:Fit z.natAbs K) :
  Calls prog 102 #[v] w fun e w'=>qlU w z e w':=by
 have HT:=qH (fun (W:World) (h:Below w.heap.size w W)=>text_any z K hK v W (hv.below h) hz);have hn:=num_fit hz af;have E:=qih (z:=z);have F:=qii (z:=z);obtain⟨m,rfl,am,bm,om,cm,nm,M,rfl,_,_⟩:=hv;obtain⟨N,hN⟩:=qX ((num z.natAbs).size);obtain⟨S,hS⟩:=qX (qcb z);rw [hS] at HT E F;rw [hN] at hn E F;unfold qlU;rw [hN,hS];obtain⟨L,hL⟩:=qX S.size;rw [hL] at E F;obtain⟨b,hb⟩:=qX (decide (z<0));rw [hb] at HT ⊢;obtain⟨W1,I⟩:=qY (w.alloc (.cells #[.bool b,.slice am nm cm] 105));have V:Below w.heap.size w W1:=I▸qbY qB qN;have Y:W1.heap[w.heap.size]? = some (.cells #[.bool b,.slice am nm cm] 105 (0,0)):=by rw [I];exact qM _ _ _ rfl
 have H1:=qH (qA V Y);have H:L=if b=true then N+1 else N:=by
  subst hb
  by_cases h:z<0
  ·rw [qV h,if_pos rfl];exact E h
  ·rw [qU h,if_neg (by decide)];exact F h
 clear V Y E F hS hN hb hz;go_enter func102,ntmps102;go_wp2_with fail;rw [<-I];clear I;refine (HT.o _ H1.o.1).mono ?_;rintro e w2 ⟨rfl,U⟩;have Z:=zkeep U _ _ H1.o.2;have k0:=qC w2 _ 0 _ _ _ Z;have HB:=qH (H1.o.1.trans (U.mono H1.o.1.size));clear U Z;cases b with
 | true =>
  rw [if_pos rfl] at H;subst H
  by_cases G:N<=600
  ·have O:¬(600:Int)<((N+1:Nat):Int)-1:=by omega
   have aa:¬(600:Int)<(N:Int)+1-1:=by omega
   have ae:¬600<N:=by omega
   have J:=qH G;clear G;go_wp2_with fail
   go_ret2
   exact⟨qax ⟨J.o,rfl⟩,HB.o⟩
  ·have O:(600:Int)<((N+1:Nat):Int)-1:=by omega
   have aa:(600:Int)<(N:Int)+1-1:=by omega
   have ae:600<N:=by omega
   have J:=qH G;clear G;go_wp2_with fail
   go_ret2
   exact⟨qam ⟨J.o,rfl⟩,HB.o⟩
 | false =>
  rw [if_neg (by decide)] at H;subst H
  by_cases G:L<=600
  ·have O:¬(600:Int)<(L:Int):=by omega
   have J:=qH G;clear G;go_wp2_with fail
   go_ret2
   exact⟨qax ⟨J.o,rfl⟩,HB.o⟩
  ·have O:(600:Int)<(L:Int):=by omega
   have J:=qH G;clear G;go_wp2_with fail
   go_ret2
   exact⟨qam ⟨J.o,rfl⟩,HB.o⟩
theorem qi1 {w F:World} {z:Int} {e:Ending} (h:qlU w z e F):∃(T:ByteArray) (c:Int),e=.returned (.tuple #[.string T,.int .i64 c])/\((num z.natAbs).size<=600/\T=qcb z/\c=0\/¬(num z.natAbs).size<=600/\T=⟨#[]⟩/\c=6)/\Below w.heap.size w F:=by
 obtain⟨h | h,E⟩:=h
 ·exact⟨_,_,h.2,qax ⟨h.1,rfl,rfl⟩,E⟩
 ·exact⟨_,_,h.2,qam ⟨h.1,rfl,rfl⟩,E⟩
theorem rout_any (q:Rat) (K:Nat) (ae:0<K) (hK:K<=17592186000000) (v:Value) (w:World) (hv:qdM w v q) (fn:Fit q.num.natAbs K) (fd:Fit q.den K) :
  Calls prog 54 #[v] w fun e w'=>qgp w q e w':=by
 obtain⟨m,o,rfl,hm,ho⟩:=hv;have ah:∀W,Below w.heap.size w W->qb9 W (.agg #[.bool (decide (q.num<0)),m]) q.num:=fun W h=>⟨m,rfl,hm.below h⟩
 have ag:∀W,Below w.heap.size w W->qb9 W (.agg #[.bool false,o]) (q.den:Int):=fun W h=>⟨o,by rw [qU (by omega)],by simpa using ho.below h⟩
 have HN:=qH (fun (W:World) (h:Below w.heap.size w W)=>qng q.num K ae hK _ W (ah W h) fn);have HD:=qH (fun (W:World) (h:Below w.heap.size w W)=>qng (q.den:Int) K ae hK _ W (ag W h) (by simpa using fd));have V:qcb (q.den:Int)=num q.den:=by
  rw [qek (show ¬(q.den:Int)<0 by omega),qar]
 have aa:=qH V;generalize decide (q.num<0)=b at *;obtain⟨am,bm,om,cm,nm,M,rfl,_,_⟩:=hm;obtain⟨ao,bo,oo,co,no,O,rfl,_,_⟩:=ho;clear ah ag fn fd V;obtain⟨W1,G⟩:=qY ((w.alloc (.cells #[.bool b,.slice am nm cm,.bool false,.slice ao no co] 107)).alloc (.cells #[.string ⟨#[]⟩,.string ⟨#[]⟩] 27));have af:Below w.heap.size w W1:=G▸qbY (qbY qB qN) qN;have E:W1.heap[w.heap.size]? = some (.cells #[.bool b,.slice am nm cm,.bool false,.slice ao no co] 107 (0,0)):=by rw [G,qL _ _ _ (by simp only [qab];omega)];exact qM _ _ _ rfl
 have ai:W1.heap[w.heap.size+1]? = some (.cells #[.string ⟨#[]⟩,.string ⟨#[]⟩] 27 (0,0)):=by rw [G];exact qM _ _ _ (by simp)
 have k0:=qC W1 _ 0 _ _ _ E;have k1:=qC W1 _ 1 _ _ _ E;have H1:=qH (qA af (qA E ai));clear af E ai;go_enter func54,ntmps54;go_wp2_with fail;rw [<-G];clear G;go_wp2_with fail;refine (HN.o _ H1.o.1).mono ?_;intro e w2 U;obtain⟨T,c,rfl,hT,J⟩:=qi1 U;have E:=zkeep J _ _ H1.o.2.1;have k2:=qC w2 _ 2 _ _ _ E;have k3:=qC w2 _ 3 _ _ _ E;have H2:=qH (qA (H1.o.1.trans (J.mono H1.o.1.size)) (zkeep J _ _ H1.o.2.2));clear J E U k0 k1;go_wp2_with fail;refine (HD.o _ H2.o.1).mono ?_;intro e w3 h3;obtain⟨T2,c2,rfl,Y,Z⟩:=qi1 h3;rw [aa.o,qar] at Y;have H:=qH (qA (H2.o.1.trans (Z.mono H2.o.1.size)) (zkeep Z _ _ H2.o.2));clear Z h3 k2 k3;rcases hT with ⟨h1,F,rfl⟩ | ⟨h1,F,rfl⟩
 ·rcases Y with ⟨U,I,rfl⟩ | ⟨U,I,rfl⟩
  ·have HS:Hu (Short q):=qH ⟨h1,U⟩;have HE:Hu (Value.agg #[.string T,.string T2]=fstr q):=qH (by rw [F,I];rfl);clear h1 U F I
   go_wp2_with (with_reducible refine sR_ rfl 27 _ _ rfl (w.heap.size+1) #[.string T,.string T2] H.o.2 2 ?_)
   exact qR (v:=.tuple #[.agg #[.string T,.string T2],.int .i64 0]) (rB_ rfl (w.heap.size+1) (qT _ _ _ _ _ _ H.o.2) underlying27 2) rfl ⟨qax ⟨HS.o,by rw [HE.o]⟩,qS H.o.1 (by omega) _⟩
  ·have HS:Hu (¬Short q):=qH (fun h=>U h.2);clear h1 U F I
   go_wp2_with (with_reducible refine sR_ rfl 27 _ _ rfl (w.heap.size+1) #[.string ⟨#[]⟩,.string ⟨#[]⟩] H.o.2 2 ?_)
   exact qR (v:=.tuple #[.agg #[.string ⟨#[]⟩,.string ⟨#[]⟩],.int .i64 6]) (rB_ rfl (w.heap.size+1) (qT _ _ _ _ _ _ H.o.2) underlying27 2) rfl ⟨qam ⟨HS.o,rfl⟩,qS H.o.1 (by omega) _⟩
 ·have HS:Hu (¬Short q):=qH (fun h=>h1 h.1);clear h1 F Y
  go_wp2_with (with_reducible refine sR_ rfl 27 _ _ rfl (w.heap.size+1) #[.string ⟨#[]⟩,.string ⟨#[]⟩] H.o.2 2 ?_)
  exact qR (v:=.tuple #[.agg #[.string ⟨#[]⟩,.string ⟨#[]⟩],.int .i64 6]) (rB_ rfl (w.heap.size+1) (qT _ _ _ _ _ _ H.o.2) underlying27 2) rfl ⟨qam ⟨HS.o,rfl⟩,qS H.o.1 (by omega) _⟩
theorem qi4 (x y K:Nat) (hK:K<=1) (vm vo:Value) (w:World) (hm:MagAt w vm x) (ho:MagAt w vo y) (hx:Fit x K) (hy:Fit y K) (J:0<y) :
  Calls prog 206 #[vm,vo] w fun e w'=>∃q r,e=.returned (.tuple #[q,r])/\Below w.heap.size w w'/\MagAt w' q (x / y)/\MagAt w' r (x % y)/\HiS w.heap.size q:=by
 obtain⟨am,bm,om,cm,n,M,rfl,Im,rfl⟩:=hm;obtain⟨ao,bo,oo,co,no,O,rfl,F,rfl⟩:=ho;have hn:n<=K:=hx.len Im;have ai:no<=K:=hy.len F;have I:0<no:=by
  rcases qaU no with h | h
  ·have:=(F.nrm.zero).2 (by rw [F.len,h]);omega
  ·exact h
 have aa:=F.addr I;subst aa;have U:=qH Im;have Y:=qH F;have Z:=qH J;clear Im F hx hy J;have h1:no=1:=by omega
 subst h1;have ae:=Y.o.cell 0 (by omega);obtain⟨d,V⟩:=qX (dg O 0);rw [V,qbA] at ae;have G:O=[d]:=by
  obtain⟨a,ha⟩:=List.length_eq_one_iff.1 Y.o.len;subst ha;rw [<-V];rfl
 have E:mval O=d:=by rw [G];simp [mval]
 have ah:d<10000:=by rw [<-V];exact Y.o.dig 0
 have ag:=qH E;have H:0<d:=by have:=Z.o;omega
 rw [E];have HC:=qH (once_any (mval M) K d (by omega) H (by omega) (.slice am n cm) w ⟨am,bm,om,cm,n,M,rfl,U.o.len,U.o.cap,hn,U.o.cells,U.o.dig,rfl⟩);obtain⟨r,hr⟩:=qX (mval M % d);have aj:r<d:=by rw [<-hr];exact qbR _ H
 rw [hr] at HC ⊢;clear V G E hr;go_enter func206,ntmps206
 go_wp2_with (go_at_call 248;refine HC.o.mono ?_)
 rintro e w1 ⟨q,rfl,hb,hq,af⟩;have HD:=qH (qfC (N:=1) (own_lit w1 r 3 rfl qN) (Dig.nil.snoc (d:=r) (by omega)) qN);have Hb:=qH hb;have Hq:=qH hq;clear hb hq
 go_wp2_with (go_at_call 235;refine (cut_digs _ 1 _ _ HD.o (by decide)).mono ?_)
 rintro e w2 ⟨u,rfl,rfl,hu⟩;go_wp2
 go_ret2
 exact⟨_,_,rfl,Hb.o.alloc Hb.o.size _,Hq.o.below (qB.alloc qN _),by simpa [mval] using hu,af⟩
theorem qjB (x y:Int) (K:Nat) (hK:K<=1) (v u:Value) (w:World) (hv:qb9 w v x) (hu:qb9 w u y) (hx:Fit x.natAbs K) (hy:Fit y.natAbs K) :
  Calls prog 139 #[v,u] w fun e w'=>∃u,e=.returned u/\Below w.heap.size w w'/\qb9 w' u ((x.natAbs.gcd y.natAbs:Nat):Int):=by
 obtain⟨m,rfl,hm⟩:=hv;obtain⟨o,rfl,ho⟩:=hu;generalize decide (x<0)=b0 at *;generalize decide (y<0)=b1 at *;have HM:=qH hm;have HO:=qH ho;obtain⟨a0,bm,om,c0,n0,M,rfl,Im,ax⟩:=hm;obtain⟨a1,bo,oo,c1,n1,O,rfl,Io,ay⟩:=ho;obtain⟨G,hG⟩:=qX (x.natAbs.gcd y.natAbs);rw [hG];have HF:=qH (qA hx (qA hy (qA hG hK)));clear Im ax Io ay hx hy hG hK;obtain⟨U,H⟩:=qY (((w.alloc (.cells #[.bool b0,.slice a0 n0 c0] 105)).alloc (.cells #[.bool b1,.slice a1 n1 c1] 105)).alloc (.cells #[.bool false,.slice none 0 0] 105));have af:Below w.heap.size w U:=H▸qbY (qbY (qbY qB qN) qN) qN;have ah:U.heap[w.heap.size]? = some (.cells #[.bool b0,.slice a0 n0 c0] 105 (0,0)):=by rw [H,qL _ _ _ (by simp only [qab];omega),qL _ _ _ (by simp only [qab];omega)];exact qM _ _ _ rfl
 have ai:U.heap[w.heap.size+1]? = some (.cells #[.bool b1,.slice a1 n1 c1] 105 (0,0)):=by rw [H,qL _ _ _ (by simp only [qab];omega)];exact qM _ _ _ (by simp)
 have aj:U.heap[w.heap.size+1+1]? = some (.cells #[.bool false,.slice none 0 0] 105 (0,0)):=by rw [H];exact qM _ _ _ (by simp)
 have az:=qC U _ 1 _ _ _ ah;have aA:=qC U _ 1 _ _ _ ai;have HR:=qH (qA af aj);clear ah ai aj af;go_enter func139,ntmps139;go_wp2_with fail;rw [<-H];clear H
 go_quiet (fail)
 go_wp2_with fail;have E:Hu (Below w.heap.size w (U.drewN nq)/\(U.drewN nq).heap[w.heap.size+1+1]? = some (.cells #[.bool false,.slice none 0 0] 105 (0,0))):=qH ⟨below_drewN HR.o.1 nq,HR.o.2⟩;obtain⟨W2,Z⟩:=qY (U.drewN nq);rw [<-Z] at E;rw [<-Z];clear Z az aA
 go_loopg [5,6,7,8] y.natAbs (fun b x5 x6 x7 x8 W=>∃a:Nat,Hu (MagAt W x5 a)/\Hu (MagAt W x6 b)/\Hu (Fit a K/\Fit b K/\a.gcd b=G)/\Hu (Below W2.heap.size W2 W))
 case atStart=>exact⟨x.natAbs,qH (HM.o.below E.o.1),qH (HO.o.below E.o.1),qH ⟨HF.o.1,HF.o.2.1,HF.o.2.2.1⟩,qH qB⟩
 case round =>
  obtain⟨a,ha,hb,hF,hB⟩:=hrel;have au:=hb.o;obtain⟨a6,b6,o6,c6,n6,B6,rfl,I6,aa⟩:=au;have J:=qkx I6;rw [aa] at J;clear I6 aa
  by_cases V:n6=0
  ·have Y:=J.1 V;subst V;obtain rfl:gk=0:=Y;have ae:MagAt wr u5 G:=by have h:=hF.o.2.2;rw [Nat.gcd_zero_right] at h;rw [<-h];exact ha.o
   have HG:qb9 wr (.agg #[.bool false,u5]) (G:Int):=⟨u5,by rw [qU (by omega)],by simpa using ae⟩;obtain⟨a5,b5,o5,c5,n5,B5,rfl,_,_⟩:=ae;have F:=(hB.o.block (w.heap.size+1+1) (qG E.o.2).1).trans E.o.2;have I:Below w.heap.size w wr:=E.o.1.trans (hB.o.mono E.o.1.size);have ak:=qcp (cs':=#[.bool false,.slice a5 n5 c5]) HG F (nd2 _ _ _ _);have HR:=qH (qA F (qA I (qS I (show w.heap.size<=w.heap.size+1+1 by omega) #[.bool false,.slice a5 n5 c5])));have HV:=qH ak;clear F I ak HG J
   go_wp2_with (with_reducible refine sR_ rfl 105 _ _ rfl (w.heap.size+1+1) #[.bool false,.slice a5 n5 c5] HR.o.1 2 ?_)
   exact qR (v:=.agg #[.bool false,.slice a5 n5 c5]) (rA_ rfl (w.heap.size+1+1) (qT _ _ _ _ _ _ HR.o.1) underlying105 2) rfl ⟨_,rfl,HR.o.2.2,HV.o⟩
  ·have Y:gk≠0:=fun h=>V (J.2 h)
   have aB:(0:Int)<n6:=by omega
   have HD:=qH (qi4 a gk K (by have:=HF.o.2.2.2;omega) u5 _ wr ha.o hb.o hF.o.1 hF.o.2.1 (by omega));have av:=qH Y;clear J V Y;go_wp2_with fail;refine HD.o.mono ?_;rintro e w2 ⟨q,r,rfl,ag,hq,hr,_⟩;have HV:=qH (qA ag hr);clear ag hr hq;go_wp2_with fail
   go_roundg (a % gk)
   case measure=>exact qbR _ (by have:=av.o;omega)
   case rel=>exact⟨gk,qH (hb.o.below HV.o.1),qH HV.o.2,qH ⟨hF.o.2.1,hF.o.1.le (Nat.mod_le _ _),by rw [<-hF.o.2.2,Nat.gcd_comm gk,<-Nat.gcd_rec,Nat.gcd_comm]⟩,qH (hB.o.trans (HV.o.1.mono hB.o.size))⟩
theorem qga (x y:Int) (K:Nat) (U:K<=1) (v u:Value) (w:World) (hv:qb9 w v x) (hu:qb9 w u y) (hx:Fit x.natAbs K) (hy:Fit y.natAbs K) (aW:0<y) (ae:x.natAbs % y.natAbs=0) :
  Calls prog 173 #[v,u] w fun e w'=>∃p q,e=.returned (.tuple #[p,q])/\Below w.heap.size w w'/\qb9 w' p (if x<0 then -((x.natAbs / y.natAbs:Nat):Int) else ((x.natAbs / y.natAbs:Nat):Int))/\qb9 w' q 0/\HiP w.heap.size p:=by
 obtain⟨m,rfl,hm⟩:=hv;obtain⟨o,rfl,ho⟩:=hu;rw [qU (show ¬y<0 by omega)];have hp:=fun (W:World) (h:Below w.heap.size w W)=>qi4 x.natAbs y.natAbs K U m o W (hm.below h) (ho.below h) hx hy (by omega)
 rw [ae] at hp;have hq:Fit (x.natAbs / y.natAbs) K:=hx.le (qaV _ _);have af:(if (decide (x<0) != false)=true then -((x.natAbs / y.natAbs:Nat):Int) else ((x.natAbs / y.natAbs:Nat):Int))=(if x<0 then -((x.natAbs / y.natAbs:Nat):Int) else ((x.natAbs / y.natAbs:Nat):Int)):=by
  by_cases h:x<0
  ·rw [qV h,if_pos h];rfl
  ·rw [qU h,if_neg h];rfl
 rw [<-af];obtain⟨b0,av⟩:=qX (decide (x<0));rw [av];rw [show (b0 != false)=b0 by cases b0 <;> rfl];obtain⟨X,hX⟩:=qX ((if b0=true then -((x.natAbs / y.natAbs:Nat):Int) else ((x.natAbs / y.natAbs:Nat):Int)):Int);rw [hX];generalize x.natAbs / y.natAbs=Q at *;have HP:=qH hp;have aM:=qH hX;have HQ:=qH hq;have aV:=U;obtain⟨ax,bm,om,cx,nx,M,rfl,Im,aN⟩:=hm;obtain⟨ay,bo,oo,cy,ny,O,rfl,Io,aO⟩:=ho;clear hX hp hq af av Im aN Io aO hx hy U ae;obtain⟨W1,F⟩:=qY ((((w.alloc (.cells #[.bool b0,.slice ax nx cx] 105)).alloc (.cells #[.bool false,.slice ay ny cy] 105)).alloc (.cells #[.bool false,.slice none 0 0] 105)).alloc (.cells #[.bool false,.slice none 0 0] 105));have az:Below w.heap.size w W1:=F▸qbY (qbY (qbY (qbY qB qN) qN) qN) qN;have ak:W1.heap[w.heap.size]? = some (.cells #[.bool b0,.slice ax nx cx] 105 (0,0)):=by rw [F,qL _ _ _ (by simp only [qab];omega),qL _ _ _ (by simp only [qab];omega),qL _ _ _ (by simp only [qab];omega)];exact qM _ _ _ rfl
 have au:W1.heap[w.heap.size+1]? = some (.cells #[.bool false,.slice ay ny cy] 105 (0,0)):=by rw [F,qL _ _ _ (by simp only [qab];omega),qL _ _ _ (by simp only [qab];omega)];exact qM _ _ _ (by simp)
 have aD:W1.heap[w.heap.size+1+1]? = some (.cells #[.bool false,.slice none 0 0] 105 (0,0)):=by rw [F,qL _ _ _ (by simp only [qab];omega)];exact qM _ _ _ (by simp)
 have aF:W1.heap[w.heap.size+1+1+1]? = some (.cells #[.bool false,.slice none 0 0] 105 (0,0)):=by rw [F];exact qM _ _ _ (by simp)
 have aS:=qC W1 _ 1 _ _ _ ak;have aT:=qC W1 _ 1 _ _ _ au;have HR:=qH (qA az (qA ak (qA au (qA aD aF))));clear ak au aD aF az;go_enter func173,ntmps173;go_wp2_with fail;rw [<-F];clear F;go_wp2_with fail;refine (HP.o _ HR.o.1).mono ?_;rintro e E ⟨q,r,rfl,ag,aH,aI,aC⟩;clear aS aT;have aR:Below E.heap.size E E:=Below.refl _ _;have aG:Below E.heap.size E E.drew:=aR.drew;have aU:E.drew.heap.size=E.heap.size:=rfl;have row:∀(g:Nat) (o:Obj),W1.heap[g]? = some o->E.heap[g]? = some o:=zkeep ag;have R0:=row _ _ HR.o.2.1;have R1:=row _ _ HR.o.2.2.1;have l0:w.heap.size<E.heap.size:=(qG R0).1;have l1:w.heap.size+1<E.heap.size:=(qG R1).1;have C0:∀W,Below E.heap.size E W->W.cell? ⟨w.heap.size,0,none⟩=some (.bool b0):=fun W h=>(h.cell (p:=⟨w.heap.size,0,none⟩) l0).trans (qC _ _ 0 _ _ _ R0)
 have C1:∀W,Below E.heap.size E W->W.cell? ⟨w.heap.size+1,0,none⟩=some (.bool false):=fun W h=>(h.cell (p:=⟨w.heap.size+1,0,none⟩) l1).trans (qC _ _ 0 _ _ _ R1)
 have ai:=fun (W:World) (h:Below E.heap.size E W)=>qkA Q K b0 q W ((aH.below h).digs HQ.o) (by omega)
 have aj:=fun (W:World) (h:Below E.heap.size E W)=>qhW 0 1 b0 r W ((aI.below h).digs (by unfold Fit;decide)) (by decide)
 rw [aM.o] at ai;rw [show (if b0=true then -((0:Nat):Int) else ((0:Nat):Int))=0 by split <;> rfl] at aj;have aJ:=qH ai;have aK:=qH aj;have aa:=HR.o.1.trans (ag.mono HR.o.1.size);have aL:=qH (aC.mono HR.o.1.size);have H2:=qH (qA aa (qA (row _ _ HR.o.2.2.2.1) (row _ _ HR.o.2.2.2.2)));obtain⟨aq,_,_,cq,aX,_,rfl,_,_⟩:=aH;obtain⟨ar,_,_,cr,aY,_,rfl,_,_⟩:=aI;clear ai aj R0 R1 ag aa row aC;go_wp2_with fail;refine wp_region_held_drew (S:=fun W=>Below E.heap.size E W) (by kernel_rfl) aG (fun hS0=>?_);refine hT 0 (h:=hT 1 (h:=hT 2 (h:=hT 3 (h:=hT 4 (h:=hT 5 (h:=hT 7 (h:=hT 8 (h:=hT 9 (h:=?_)))))))));refine gr [(6,24),(10,28),(11,8),(12,9)] [] [0,1,2,3,4,5,7,8,9] [6,10,11,12] [11,12] 13 15 (fl2 [(6,fun x W=>qb9 W x X/\HiP w.heap.size x),(10,fun x W=>qb9 W x 0),(11,ZC E.heap.size #[.bool false,.slice none 0 0] 105),(12,ZC E.heap.size #[.bool false,.slice none 0 0] 105)]) _ 2
  (hS:=fun w' h=>qcg h) (hstep:=⟨⟨_,rfl,fun v I H Y K U=>?_⟩,⟨_,rfl,fun v I H Y K U=>?_⟩,⟨_,rfl,fun v I H Y K U=>?_⟩,⟨_,rfl,fun v I H Y K U=>?_⟩,trivial⟩) (hend:=fun v I H Y hE f=>?_)
 ·exact gC U (aJ.o _ (qcg H)) (h:=fun e I ⟨u,e1,h1,h2,h3⟩=>⟨u,e1,⟨h2,h3 _ aL.o⟩,h1⟩)
 ·exact gC U (aK.o _ (qcg H)) (h:=fun e I ⟨u,e1,h1,h2⟩=>⟨u,e1,h2,h1⟩)
 ·exact gW U (h:=ZC.new H.size)
 ·exact gW U (h:=ZC.new H.size)
 have i3:qb9 I (v 6) X/\HiP w.heap.size (v 6):=Y 6 (by decide) (by decide);have i4:qb9 I (v 10) 0:=Y 10 (by decide) (by decide);obtain⟨g3,h3,e11,ah⟩:ZC _ _ _ (v 11) I:=Y 11 (by decide) (by decide);obtain⟨g4,h4,e12,aA⟩:ZC _ _ _ (v 12) I:=Y 12 (by decide) (by decide);have hne:g3≠g4:=by have:=hE 11 (by decide) 12 (by decide) (by decide);rwa [e11,e12] at this
 obtain⟨b3,a3,n3,c3,e6⟩:=i3.1.shape;obtain⟨b4,a4,n4,c4,e10⟩:=i4.shape;rw [e6] at i3;rw [e10] at i4;have aQ:b4=false:=by
  obtain⟨m4,aB,_⟩:=i4;simp only [qaY,qa5,qaW,qbF] at aB;exact aB.1
 subst aQ;have H:=qcg H;have J:=(setRow_other I g3 g4 #[.bool b3,.slice a3 n3 c3] (fun e=>hne e.symm)).trans h4;refine hSn 13 2 h3 (hx:=by exact e11) (hy:=by exact e6) (h:=⟨qS H ah _,?_⟩);refine hSt 14 2 J (hx:=by exact e12) (hy:=by exact e10) (h:=⟨qS (qS H ah _) aA _,?_⟩);have l1:=(qG H2.o.2.2).1;obtain⟨W5,G⟩:=qY ((I.setRow g3 #[.bool b3,.slice a3 n3 c3]).setRow g4 #[.bool false,.slice a4 n4 c4]);have Z:Below E.heap.size E W5:=G▸qS (qS H ah _) aA _;have V:Kn (fun W=>Below w.heap.size w W/\W.heap[w.heap.size+1+1]? = some (.cells #[.bool false,.slice none 0 0] 105 (0,0))/\W.heap[w.heap.size+1+1+1]? = some (.cells #[.bool false,.slice none 0 0] 105 (0,0)) /\
   W.heap[g3]? = some (.cells #[.bool b3,.slice a3 n3 c3] 105 (0,0))/\W.heap[g4]? = some (.cells #[.bool false,.slice a4 n4 c4] 105 (0,0))/\qb9 W (.agg #[.bool b3,.slice a3 n3 c3]) X/\qb9 W (.agg #[.bool false,.slice a4 n4 c4]) 0) W5 :=
  .of ⟨H2.o.1.trans (Z.mono H2.o.1.size),zkeep Z _ _ H2.o.2.1,zkeep Z _ _ H2.o.2.2,G▸(setRow_other _ _ _ _ hne).trans (qT _ _ _ _ _ _ h3),G▸qT _ _ _ _ _ _ J,
   G▸qcp (qcp i3.1 h3 (nd2 _ _ _ _)) J (nd2 _ _ _ _),G▸qcp (qcp i4 h3 (nd2 _ _ _ _)) J (nd2 _ _ _ _)⟩
 rw [<-G];have HI:=qH i3.2;have k1:∀W,Rows2 g3 g4 (.cells #[.bool b3,.slice a3 n3 c3] 105 (0,0)) (.cells #[.bool false,.slice a4 n4 c4] 105 (0,0)) W->W.cell? ⟨g3,0,none⟩=some (.bool b3)/\W.cell? ⟨g3,1,none⟩=some (.slice a3 n3 c3)/\W.cell? ⟨g4,0,none⟩=some (.bool false)/\W.cell? ⟨g4,1,none⟩=some (.slice a4 n4 c4) :=
  fun W h=>⟨qC _ _ 0 _ _ _ h.1,qC _ _ 1 _ _ _ h.1,qC _ _ 0 _ _ _ h.2,qC _ _ 1 _ _ _ h.2⟩
 have aP:Rows2 g3 g4 (.cells #[.bool b3,.slice a3 n3 c3] 105 (0,0)) (.cells #[.bool false,.slice a4 n4 c4] 105 (0,0)) W5:=⟨V.o.2.2.2.1,V.o.2.2.2.2.1⟩;clear C0 C1 h3 h4 J i3 i4 H Z Y hE G hS0;go_wp2_with fail;refine wp_region_held_drew (S:=Rows2 g3 g4 (.cells #[.bool b3,.slice a3 n3 c3] 105 (0,0)) (.cells #[.bool false,.slice a4 n4 c4] 105 (0,0))) (by kernel_rfl) aP (fun hS0=>?_);refine hT 0 (h:=hT 1 (h:=?_));have o3:=(setRow_other W5.drew (w.heap.size+1+1) (w.heap.size+1+1+1) #[.bool b3,.slice a3 n3 c3] (by omega)).trans V.o.2.2.1;have sr:∀(W:World) (g:Nat) (cs:Array Value),Rows2 g3 g4 (.cells #[.bool b3,.slice a3 n3 c3] 105 (0,0)) (.cells #[.bool false,.slice a4 n4 c4] 105 (0,0)) W->g3≠g->g4≠g->Rows2 g3 g4 (.cells #[.bool b3,.slice a3 n3 c3] 105 (0,0)) (.cells #[.bool false,.slice a4 n4 c4] 105 (0,0)) (W.setRow g cs):=fun W g cs h h1 h2=>⟨(setRow_other _ _ _ _ h1).trans h.1,(setRow_other _ _ _ _ h2).trans h.2⟩
 refine hSn 2 2 (show W5.drew.heap[_]? = _ from V.o.2.1) (h:=⟨sr _ _ _ hS0 (by omega) (by omega),?_⟩);refine hSt 3 2 o3 (h:=⟨sr _ _ _ (sr _ _ _ hS0 (by omega) (by omega)) (by omega) (by omega),?_⟩);go_wp2_with fail;exact qR (v:=.tuple #[.agg #[.bool b3,.slice a3 n3 c3],.agg #[.bool false,.slice a4 n4 c4]]) (qlv rfl _ _ (w.heap.size+1+1) (w.heap.size+1+1+1) 105 _ _ _ rfl rfl ((setRow_other _ _ _ _ (by omega)).trans (qT _ _ _ _ _ _ V.o.2.1)) (qT _ _ _ _ _ _ o3) underlying105 rfl 2 (by kernel_rfl) rfl rfl) rfl
  ⟨_,_,rfl,qS (qS V.o.1.drew (by omega) _) (by omega) _,qcp (qcp (V.o.2.2.2.2.2.1.below qB.drew) V.o.2.1 (nd2 _ _ _ _)) o3 (nd2 _ _ _ _),qcp (qcp (V.o.2.2.2.2.2.2.below qB.drew) V.o.2.1 (nd2 _ _ _ _)) o3 (nd2 _ _ _ _),HI.o⟩
theorem qlg (n d:Int) (hd:0<d) (K:Nat) (hK:K<=1) (v u:Value) (w:World) (hv:qb9 w v n) (hu:qb9 w u d) (fn:Fit n.natAbs K) (fd:Fit d.natAbs K) :
  Calls prog 97 #[v,u] w fun e w'=>∃u,e=.returned u/\Below w.heap.size w w'/\qdM w' u (Rat.divInt n d)/\HiR w.heap.size u:=by
 obtain⟨q,hq⟩:=qX (Rat.divInt n d);rw [hq];have HF:=qH (qA fn (qA fd (qA hd (qA hq (qA hv hu)))));obtain⟨m,rfl,am,bm,om,cm,nm,M,rfl,_,_⟩:=hv;obtain⟨o,rfl,ao,bo,oo,co,no,O,rfl,_,_⟩:=hu;generalize aO:decide (n<0)=b0 at *;generalize aS:decide (d<0)=bd at *;have aA:=qH (qA aO aS);clear fn fd aO aS hq;obtain⟨W1,aN,K1⟩:=kn3 w #[.bool b0,.slice am nm cm] 105 #[.bool bd,.slice ao no co] 105 #[.bool false,.slice none 0 0,.bool false,.slice none 0 0] 107;have bD:=qC W1 _ 0 _ _ _ K1.o.2.2.1;go_enter func97,ntmps97;go_upto_region 1 with fail;rw [<-aN];clear aN
 go_upto_if 11 with fail
 go_cut [12] from 12 (fun _ W=>∃b0 am nm cm ao no co,LowSt w q K W b0 am nm cm ao no co)
 case first =>
  have l2:=(qG K1.o.2.2.2).1;obtain rfl:bd=false:=by rw [<-aA.o.2];exact qU (by have:=HF.o.2.2.1;omega)
  have bG:¬d<0:=of_decide_eq_false aA.o.2;go_wp2;go_meet;exact⟨_,_,_,_,_,_,_,⟨n,d,by omega,HF.o.2.2.2.1,HF.o.1,HF.o.2.1,HF.o.2.2.2.2.1.below K1.o.1,HF.o.2.2.2.2.2.below K1.o.1⟩,K1.o⟩
 case rest =>
  clear HF aA K1 bD hd;obtain⟨b0,am,nm,cm,ao,no,co,⟨n,d,hd,hq,fn,fd,hv,hu⟩,hb,r0,r1,r2⟩:=hcut;obtain⟨l1,l2⟩:=low_num n d hd;obtain⟨G,hG⟩:=qX (n.natAbs.gcd d.natAbs);have bC:0<G:=by rw [<-hG];exact qba _ (by omega)
  have aC:Fit G K:=fd.le (by rw [<-hG];exact Nat.gcd_le_right _ (by omega));have aM:n.natAbs % G=0:=by rw [<-hG];exact Nat.mod_eq_zero_of_dvd (qbN _ _)
  have aL:d.natAbs % G=0:=by rw [<-hG];exact Nat.mod_eq_zero_of_dvd (qaZ _ _)
  rw [hG,hq] at l1 l2;have HG:=qH (fun (W:World) (h:Below wc.heap.size wc W)=>qjB n d K hK _ _ W (hv.below h) (hu.below h) fn fd);have bf:Hu (n.natAbs.gcd d.natAbs=G):=qH hG;have HN:=qH (fun (W:World) (g:Value) (h:Below wc.heap.size wc W) (hg:qb9 W g (G:Int))=>qga n G K hK _ g W (hv.below h) hg fn (by simpa using aC) (by omega) (by simpa using aM));have HD:=qH (fun (W:World) (g:Value) (h:Below wc.heap.size wc W) (hg:qb9 W g (G:Int))=>qga d G K hK _ g W (hu.below h) hg fd (by simpa using aC) (by omega) (by simpa using aL));have HL:=qH (qA l1 (qA l2 hd));have HB:=qH hb;have HR:=qH (qA (Below.refl wc.heap.size wc) (qA r0 (qA r1 r2)));clear l1 l2 hG bC aC aM aL fn fd hv hu r0 r1 r2 hb hq
  go_wp2_with (first | (with_reducible refine lW_ rfl 105 _ rfl (w.heap.size) #[.bool b0,.slice am nm cm] HR.o.2.1 underlying105 2 ?_) | (with_reducible refine lW_ rfl 105 _ rfl (w.heap.size+1) #[.bool false,.slice ao no co] HR.o.2.2.1 underlying105 2 ?_))
  refine (HG.o _ qB).mono ?_;rintro e w2 ⟨vg,rfl,aP,ax⟩;rw [bf.o] at ax;obtain⟨bg,ag,ng,cg,rfl⟩:=ax.shape;obtain⟨W2,af⟩:=qY (w2.alloc (.cells #[.bool bg,.slice ag ng cg] 105));have aj:Below wc.heap.size wc W2:=af▸qbY aP qN;have az:qb9 W2 (.agg #[.bool bg,.slice ag ng cg]) (G:Int):=ax.below (af▸qbY qB qN);have row:∀(g:Nat) (o:Obj),wc.heap[g]? = some o->W2.heap[g]? = some o:=zkeep aj;have rg:W2.heap[w2.heap.size]? = some (.cells #[.bool bg,.slice ag ng cg] 105 (0,0)):=by rw [af];exact qM _ _ _ rfl
  have H2:=qH (qA (HR.o.1.trans (aj.mono HR.o.1.size)) (qA (row _ _ HR.o.2.1) (qA (row _ _ HR.o.2.2.1) (qA (row _ _ HR.o.2.2.2) (qA rg az)))));have aK:=qH af;clear aP ax aj az row rg af;have F0:=H2.o.2.1;have Fg:=H2.o.2.2.2.2.1;rw [aK.o] at F0 Fg;have aI:=qH (qA F0 Fg);clear F0 Fg
  go_wp2_with (first | ((with_reducible refine qcx rfl 105 _ _ rfl _ #[.bool bg,.slice ag ng cg] ?_ ?_ 2 ?_ ?_ ?_ ?_ ?_);(next=>rfl);(next=>rfl);(next=>kernel_rfl);(next=>rfl);(next=>rfl);(next=>rfl)) | (with_reducible refine lW_ rfl 105 _ rfl (w.heap.size) #[.bool b0,.slice am nm cm] aI.o.1 underlying105 2 ?_) | (with_reducible refine lW_ rfl 105 _ rfl (w2.heap.size) #[.bool bg,.slice ag ng cg] aI.o.2 underlying105 2 ?_))
  rw [<-aK.o];refine (HN.o _ _ H2.o.1 H2.o.2.2.2.2.2).mono ?_;rintro e w4 ⟨p4,q4,rfl,av,aF,aH,aT⟩;obtain⟨I,F,V,J,rfl⟩:=aF.shape;obtain⟨bv,bq,bE,bA,rfl⟩:=aH.shape;have aY:=qH (aT.mono (qal HB.o.size H2.o.1.size));clear aT;have ay:Below wc.heap.size wc w4:=H2.o.1.trans (av.mono H2.o.1.size);have aa:∀(g:Nat) (o:Obj),W2.heap[g]? = some o->w4.heap[g]? = some o:=zkeep av;have H4:=qH (qA ay (qA (aa _ _ H2.o.2.2.1) (qA (aa _ _ H2.o.2.2.2.1) (qA (aa _ _ H2.o.2.2.2.2.1) (qA (H2.o.2.2.2.2.2.below av) (qA aF aH))))));clear av aF aH ay aa;obtain⟨W5,ah⟩:=qY ((w4.alloc (.cells #[.bool I,.slice F V J] 105)).alloc (.cells #[.bool bv,.slice bq bE bA] 105));have E:Below w4.heap.size w4 W5:=ah▸qbY (qbY qB qN) qN;have ae:∀(g:Nat) (o:Obj),w4.heap[g]? = some o->W5.heap[g]? = some o:=zkeep E;have rp:W5.heap[w4.heap.size]? = some (.cells #[.bool I,.slice F V J] 105 (0,0)):=by rw [ah,qL _ _ _ (by simp only [qab];omega)];exact qM _ _ _ rfl
  have H5:=qH (qA (H4.o.1.trans (E.mono H4.o.1.size)) (qA (ae _ _ H4.o.2.1) (qA (ae _ _ H4.o.2.2.1) (qA (ae _ _ H4.o.2.2.2.1) (qA (H4.o.2.2.2.2.1.below E) (qA rp (H4.o.2.2.2.2.2.1.below E)))))));have F1:=H5.o.2.1;have Fg:=H5.o.2.2.2.1;rw [ah] at F1 Fg;have aJ:=qH (qA F1 Fg);have bi:=qH ah;clear E ae rp F1 Fg ah
  go_wp2_with (first | (with_reducible refine lW_ rfl 105 _ rfl (w.heap.size+1) #[.bool false,.slice ao no co] aJ.o.1 underlying105 2 ?_) | (with_reducible refine lW_ rfl 105 _ rfl (w2.heap.size) #[.bool bg,.slice ag ng cg] aJ.o.2 underlying105 2 ?_))
  rw [<-bi.o];refine (HD.o _ _ H5.o.1 H5.o.2.2.2.2.1).mono ?_;rintro e w6 ⟨p6,q6,rfl,aD,aG,aV,aU⟩;obtain⟨aB,H,Y,U,rfl⟩:=aG.shape;obtain⟨bz,bu,bF,bB,rfl⟩:=aV.shape;have aZ:=qH (aU.mono (qal HB.o.size H5.o.1.size));clear aU;obtain⟨W7,ai⟩:=qY ((w6.alloc (.cells #[.bool aB,.slice H Y U] 105)).alloc (.cells #[.bool bz,.slice bu bF bB] 105));have ak:Below w6.heap.size w6 W7:=ai▸qbY (qbY qB qN) qN;have Z:Below W5.heap.size W5 W7:=aD.trans (ak.mono aD.size);have au:∀(g:Nat) (o:Obj),W5.heap[g]? = some o->W7.heap[g]? = some o:=zkeep Z;have aX:W7.heap[w6.heap.size]? = some (.cells #[.bool aB,.slice H Y U] 105 (0,0)):=by rw [ai,qL _ _ _ (by simp only [qab];omega)];exact qM _ _ _ rfl
  have aR:Below w.heap.size w W7:=HB.o.trans ((H5.o.1.trans (Z.mono H5.o.1.size)).mono HB.o.size);have rr:=au _ _ H5.o.2.2.1;have hq:=qnn (q:=q) (H5.o.2.2.2.2.2.2.below Z) (aG.below ak) HL.o.1 (by rw [if_neg (show ¬d<0 by have:=HL.o.2.2;omega),qar];exact HL.o.2.1);have aQ:aB=false:=by
   obtain⟨m6,o6,h6,_⟩:=hq;simp only [qaY,qa5,qaW,qbF] at h6;exact h6.2.2.1
  subst aQ;have aW:=qgb (cs':=#[.bool I,.slice F V J,.bool false,.slice H Y U]) hq rr (nd4 _ _ _ _ _ _ _ _);have G0:=au _ _ H5.o.2.2.2.2.2.1;have G1:=aX;have G2:=rr;rw [ai] at G0 G1 G2;have H7:=qH (qA G0 (qA G1 (qA G2 (qA rr (qA aW (qS aR (show w.heap.size<=w.heap.size+1+1 by omega) #[.bool I,.slice F V J,.bool false,.slice H Y U]))))));have bn:=qH ai;clear aD aG aV ak Z au aX aR rr hq aW G0 G1 G2 ai
  go_wp2_with (first | (with_reducible refine lW_ rfl 105 _ rfl (w4.heap.size) #[.bool I,.slice F V J] H7.o.1 underlying105 2 ?_) | (with_reducible refine lW_ rfl 105 _ rfl (w6.heap.size) #[.bool false,.slice H Y U] H7.o.2.1 underlying105 2 ?_) | (with_reducible refine sR_ rfl 107 _ _ rfl (w.heap.size+1+1) #[.bool I,.slice F V J,.bool false,.slice H Y U] H7.o.2.2.1 4 ?_))
  rw [<-bn.o];exact qR (v:=.agg #[.bool I,.slice F V J,.bool false,.slice H Y U]) (rA_ rfl (w.heap.size+1+1) (qT _ _ _ _ _ _ H7.o.2.2.2.1) underlying107 4) rfl ⟨_,rfl,H7.o.2.2.2.2.2,H7.o.2.2.2.2.1,hir_of (aY.o _ _ rfl) (aZ.o _ _ rfl)⟩
theorem qnm (n d:Int) (hn:-10000<n/\n<10000) (hd:0<d) (ak:d<10000) (w:World) :
  Calls prog 51 #[.int .i64 n,.int .i64 d] w fun e w'=>∃u,e=.returned u/\Below w.heap.size w w'/\qdM w' u (Rat.divInt n d):=by
 have HN:=qH (fun (W:World)=>qjH n ⟨by omega,by omega⟩ W);have HD:=qH (fun (W:World)=>qgy d (by omega) ⟨by omega,by omega⟩ W);have HL:=qH (fun (W:World) (v u:Value) (hv:qb9 W v n) (hu:qb9 W u d)=>qlg n d hd 1 (by decide) v u W hv hu (show n.natAbs<10000 ^ 1 by omega) (show d.natAbs<10000 ^ 1 by omega));obtain⟨W1,E⟩:=qY (w.alloc (.cells #[.bool false,.slice none 0 0,.bool false,.slice none 0 0] 107));have V:Below w.heap.size w W1:=E▸qbY qB qN;have aa:W1.heap[w.heap.size]? = some (.cells #[.bool false,.slice none 0 0,.bool false,.slice none 0 0] 107 (0,0)):=by rw [E];exact qM _ _ _ rfl
 have H1:=qH (qA V aa);clear V aa;go_enter func51,ntmps51;go_wp2_with fail;rw [<-E];clear E;refine (HN.o _).mono ?_;rintro e w2 ⟨v2,rfl,G,I⟩;have H2:=qH (qA (H1.o.1.trans (G.mono H1.o.1.size)) (qA (zkeep G _ _ H1.o.2) I));obtain⟨ag,ae,au,ai,rfl⟩:=I.shape;clear G I;go_wp2_with fail;refine (HD.o _).mono ?_;rintro e w3 ⟨v3,rfl,F,J⟩;have U:=qH (qA (H2.o.1.trans (F.mono H2.o.1.size)) (qA (zkeep F _ _ H2.o.2.1) (qA (H2.o.2.2.below F) J)));obtain⟨ah,af,av,aj,rfl⟩:=J.shape;clear F J;go_wp2_with fail;refine (HL.o _ _ _ U.o.2.2.1 U.o.2.2.2).mono ?_;rintro e w4 ⟨v4,rfl,H,O,_⟩;obtain⟨b4,a4,n4,c4,a5,n5,c5,rfl⟩:=O.shape;have rr:=zkeep H _ _ U.o.2.1;have Y:=U.o.1.trans (H.mono U.o.1.size);have Z:=qgb (cs':=#[.bool b4,.slice a4 n4 c4,.bool false,.slice a5 n5 c5]) O rr (nd4 _ _ _ _ _ _ _ _);have H4:=qH (qA rr (qA Z (qS Y qN #[.bool b4,.slice a4 n4 c4,.bool false,.slice a5 n5 c5])));clear H O rr Y Z
 go_wp2_with (with_reducible refine sR_ rfl 107 _ _ rfl (w.heap.size) #[.bool b4,.slice a4 n4 c4,.bool false,.slice a5 n5 c5] H4.o.1 4 ?_)
 exact qR (v:=.agg #[.bool b4,.slice a4 n4 c4,.bool false,.slice a5 n5 c5]) (rA_ rfl (w.heap.size) (qT _ _ _ _ _ _ H4.o.1) underlying107 4) rfl ⟨_,rfl,H4.o.2.2,H4.o.2.1⟩
end Go.Proofs.YtjalhnlhcdfncaaGreatDoor.p4
namespace Go.Proofs.YtjalhnlhcdfncaaGreatDoor
open Go.RowKit Go.Proofs.Tryz
structure Dr where
 n0:Bool
 n1:List Int
 n2:Int
 d0:Bool
 d1:List Int
 d2:Int
structure DrOk (d:Dr):Prop where
 l1:d.n1.length<=9223372036854775807
 l2:d.d1.length<=9223372036854775807
 g1:∀k,0<=d.n1.getD k 0/\d.n1.getD k 0<65536
 g2:∀k,0<=d.d1.getD k 0/\d.d1.getD k 0<65536
def Dr.a (d:Dr):Int:=(small d.n0 d.n1).tmod 1000
def Dr.z (d:Dr):Int:=1+((small d.d0 d.d1).natAbs:Int) % 60
def Dr.q (d:Dr):Rat:=Rat.divInt d.a d.z
theorem Dr.a_le (d:Dr):-1000<d.a/\d.a<1000:=⟨Int.lt_tmod_of_pos _ (by decide),Int.tmod_lt_of_pos _ (by decide)⟩
theorem Dr.z_le (d:Dr):1<=d.z/\d.z<=60:=by
 unfold Dr.z;omega
theorem Dr.rb (d:Dr):Rb d.q 1000:=by
 have E:=d.a_le;have F:=d.z_le;refine qhE (p:=d.a) (z:=d.z) (by omega) (by omega) (by omega) ?_;unfold Dr.q;rw [Rat.divInt_eq_div]
theorem Dr.short (d:Dr):Short d.q:=qdu d.rb (by decide +kernel)
theorem qnC (d:Dr) (a1 a2:Option Addr) (b1 o1 c1 b2 o2 c2:Nat) (w:World) (E:DrOk d) (h1:KCells w .u16 a1 b1 o1 d.n1) (h2:KCells w .u16 a2 b2 o2 d.d1) :
  Calls prog 36 #[.agg #[.bool d.n0,.slice a1 d.n1.length c1,.int .u16 d.n2,.bool d.d0,.slice a2 d.d1.length c2,.int .u16 d.d2]] w fun e w'=>e=.returned (fstr d.q)/\Below w.heap.size w w':=by
 obtain⟨W1,Y,N1⟩:=nw2 w #[.bool d.n0,.slice a1 d.n1.length c1,.int .u16 d.n2,.bool d.d0,.slice a2 d.d1.length c2,.int .u16 d.d2] 89 #[.string ⟨#[]⟩,.string ⟨#[]⟩] 27;have HN:=qH (fun (W:World) (G:Below w.heap.size w W)=>qjc d.n0 a1 b1 o1 d.n1.length c1 d.n1 d.n2 W rfl E.l1 (h1.below G) E.g1);have HD:=qH (fun (W:World) (G:Below w.heap.size w W)=>qjc d.d0 a2 b2 o2 d.d1.length c2 d.d1 d.d2 W rfl E.l2 (h2.below G) E.g2);have ah:=qkM E.g1 d.n0;have ai:=qkM E.g2 d.d0;have ha:=d.a_le;have hz:=d.z_le;have O:=d.rb;have F:=d.short;obtain⟨q,hq⟩:=qX d.q;have J:q=Rat.divInt d.a d.z:=by rw [<-hq];rfl
 obtain⟨x,hx⟩:=qX (small d.n0 d.n1);obtain⟨y,hy⟩:=qX (small d.d0 d.d1);have I:d.a=x.tmod 1000:=by unfold Dr.a;rw [hx]
 have U:d.z=1+(y.natAbs:Int) % 60:=by unfold Dr.z;rw [hy]
 rw [hx] at HN ah;rw [hy] at HD ai;rw [hq] at O F ⊢;rw [I,U] at J;rw [I] at ha;rw [U] at hz;have k3:=qC _ _ 3 _ _ _ N1.o.2.1;have k4:=qC _ _ 4 _ _ _ N1.o.2.1;have k5:=qC _ _ 5 _ _ _ N1.o.2.1;have HQ:=qH (qA J (qA O F));clear J O F hq hx hy I U E h1 h2;go_enter func36,ntmps36;go_upto_region 1 with fail;rw [<-Y];clear Y;go_wp2_with fail;refine (HD.o _ N1.o.1).mono ?_;rintro e w2 ⟨rfl,G⟩;have V:=N1.below G;clear G N1 k3 k4 k5
 go_upto_if 10 with fail
 go_cut [3] (fun x3 W=>x3=.int .i64 (y.natAbs:Int)/\Hu (W=w2))
 case first =>
  by_cases hy:y<0
  ·go_wp2;go_meet;exact⟨by congr 1;omega,qH rfl⟩
  ·go_wp2;go_meet;exact⟨by congr 1;omega,qH rfl⟩
 case rest =>
  obtain⟨rfl,aa⟩:=hcut;obtain rfl:=aa.o;have k0:=qC _ _ 0 _ _ _ V.o.2.1;have k1:=qC _ _ 1 _ _ _ V.o.2.1;have k2:=qC _ _ 2 _ _ _ V.o.2.1;clear aa;go_wp2_with fail;refine (HN.o _ V.o.1).mono ?_;rintro e w3 ⟨rfl,G⟩;have K3:=V.below G;clear G V k0 k1 k2;go_wp2_with fail;refine (p4.qnm _ _ ⟨by omega,by omega⟩ (by omega) (by omega) _).mono ?_;rintro e w4 ⟨u,rfl,ae,hu⟩;rw [<-HQ.o.1] at hu;have K4:=K3.below ae;obtain⟨b4,a4,n4,c4,a5,n5,c5,rfl⟩:=hu.shape;have h5:(1000:Nat)<10000 ^ 5:=by decide
  have HO:=qH (p4.rout_any q 5 (by decide) (by decide) _ _ hu (qaQ HQ.o.2.1.1 h5) (qaQ HQ.o.2.1.2 h5));clear ae hu K3 h5;go_wp2_with fail;refine HO.o.mono ?_;rintro e w5 ⟨⟨_,rfl⟩ | ⟨ag,_⟩,af⟩
  ·have K5:=K4.below af;obtain⟨W6,Z,N6⟩:=nw1 w5 #[.string (ftxt q).1,.string (ftxt q).2] 27;clear af K4 HO;rw [qeG];go_upto_region 5 with fail;rw [<-Z];clear Z;have K6:=K5.below N6.o.1;have F:=qS K6.o.1 (g:=w.heap.size+1) (qbc _) #[.string (ftxt q).1,.string (ftxt q).2];have H:=qH (qA N6.o.2 (qA K6.o.2.2 F));clear F K5 K6 N6
   go_wp2_with (first | (with_reducible refine lW_ rfl 27 _ rfl (w5.heap.size) #[.string (ftxt q).1,.string (ftxt q).2] H.o.1 underlying27 2 ?_) | (with_reducible refine sR_ rfl 27 _ _ rfl (w.heap.size+1) #[.string (ftxt q).1,.string (ftxt q).2] H.o.2.1 2 ?_))
   exact qR (v:=.agg #[.string (ftxt q).1,.string (ftxt q).2]) (rA_ rfl (w.heap.size+1) (qT _ _ _ _ _ _ H.o.2.1) underlying27 2) rfl ⟨rfl,H.o.2.2⟩
  ·exact absurd HQ.o.2.2 ag
def dr0:Dr:=⟨false,[],0,false,[],0⟩
def DrAt (W:World) (b E:Nat) (d:Dr):Prop :=
 ∃(F:Option Addr) (G I c1:Nat) (a2:Option Addr) (H J c2:Nat),(W.cell? ⟨b,E,none⟩=some (.bool d.n0)/\W.cell? ⟨b,E+1,none⟩=some (.slice F d.n1.length c1)/\W.cell? ⟨b,E+2,none⟩=some (.int .u16 d.n2)/\W.cell? ⟨b,E+3,none⟩=some (.bool d.d0)/\W.cell? ⟨b,E+4,none⟩=some (.slice a2 d.d1.length c2)/\W.cell? ⟨b,E+5,none⟩=some (.int .u16 d.d2)) /\
  KCells W .u16 F G I d.n1/\KCells W .u16 a2 H J d.d1
theorem DrAt.below {W W':World} {b E:Nat} {d:Dr} (h:DrAt W b E d) (F:Below W.heap.size W W'):DrAt W' b E d:=by
 obtain⟨a1,b1,o1,c1,a2,b2,o2,c2,⟨G,H,I,J,O,U⟩,k1,k2⟩:=h;have l:∀{p:Addr} {v:Value},W.cell? p=some v->W'.cell? p=some v:=fun {p v} h=>(F.cell (qac W _ h)).trans h
 exact⟨a1,b1,o1,c1,a2,b2,o2,c2,⟨l G,l H,l I,l J,l O,l U⟩,k1.below F,k2.below F⟩
structure DrCells (W:World) (ao:Option Addr) (b off:Nat) (L:List Dr):Prop where
 addr:0<L.length->ao=some ⟨b,off,none⟩
 cell:∀k,k<L.length->DrAt W b (off+k*6) (L.getD k dr0)
 ok:∀k,k<L.length->DrOk (L.getD k dr0)
theorem DrCells.below {W W':World} {F:Option Addr} {b E:Nat} {L:List Dr} (h:DrCells W F b E L) (G:Below W.heap.size W W'):DrCells W' F b E L:=⟨h.addr,fun k H=>(h.cell k H).below G,h.ok⟩
open Go.ChangeShapes Go.WideShapes Go.ChangeAt Go.Deep
section
variable {H:Type} {enc:TypeId×Value->H} {w:World} {sp:Nat->Bool} {held:Bool} {fuel:Nat} {v:Value} {x:DataW H×List MemPlace}
theorem qnf (h:DataW.trod enc prog w 0 sp held fuel 84 [v]=some x):∃(a:Option Addr) (b off c:Nat) (l:List Int),v=.slice a l.length c/\l.length<=maxLen/\KCells w .u16 a b off l/\∀k,0<=l.getD k 0/\l.getD k 0<65536:=by
 rcases open_slice1 underlying84 (by kernel_rfl) h with ⟨G,_⟩ | ⟨a,len,cap,m,n,V,D,Pl,G,_,hl,hm,J,_,hx⟩
 ·exact⟨none,0,0,0,[],by injection G,by decide,⟨fun h=>absurd h (by decide),fun k h=>absurd h (by simp)⟩,fun k=>by simp⟩
 ·have Z:len<=m:=by rw [J];split <;> omega
  have H:∀i,i<len->∃z:Int,V i=.int .u16 z/\0<=z/\z<65536:=fun i hi=>by
   obtain⟨z,e,_,hw⟩:=DataW.trod_int underlying85 (hx i (by omega)).2;have U:0<=z/\z<=65535:=by simpa [Lit.wf,IntKind.min,IntKind.max,IntKind.signed,IntKind.bits] using hw
   exact⟨z,by injection e,U.1,by omega⟩
  obtain⟨Y,O⟩:=choose_lt H;have hg:∀k,k<len->((List.range len).map Y).getD k 0=Y k:=fun k F=>by
   rw [qaa,qaN,qbG F];rfl
  have E:((List.range len).map Y).length=len:=by rw [qaD,qbs]
  refine⟨some a,a.block,a.off,cap,(List.range len).map Y,by rw [E];injection G,by rw [E];omega,⟨fun I=>?_,fun k F=>?_⟩,fun k=>?_⟩
  ·rw [E] at I;exact congrArg some (qg2 (hx 0 (by omega)).1)
  ·rw [E] at F;rw [hg k F];have I:=(hx k (by omega)).1;rw [qg2 (a:=a) (hx 0 (by omega)).1,Addr.add_mid,(O k F).1] at I;exact I
  ·rcases qaB k len with F | F
   ·rw [hg k F];exact (O k F).2
   ·rw [qaa,qaO (by rw [E];exact F)];exact⟨Int.le_refl _,by decide⟩
theorem c3Dr:Tryz.prog.cellsOf 87=3:=by kernel_rfl
theorem c6Dr:Tryz.prog.cellsOf 89=6:=by kernel_rfl
theorem c1B:Tryz.prog.cellsOf 4=1:=by kernel_rfl
theorem c1U:Tryz.prog.cellsOf 85=1:=by kernel_rfl
theorem c1S:Tryz.prog.cellsOf 84=1:=by kernel_rfl
theorem qiW {v0 H v2:Value} (h:DataW.trod enc prog w 0 sp held fuel 87 [v0,H,v2]=some x) :
  ∃(bl:Bool) (a:Option Addr) (b E c:Nat) (l:List Int) (z:Int),v0=.bool bl/\H=.slice a l.length c/\v2=.int .u16 z/\l.length<=maxLen/\KCells w .u16 a b E l/\∀k,0<=l.getD k 0/\l.getD k 0<65536:=by
 obtain⟨xs,n,_,_,_,G,F⟩:=DataW.trod_struct underlying87 h
 match xs,G with
 | [y0,y1,y2],_ =>
  have g0:=F 0 _ rfl;have g1:=F 1 _ rfl;have g2:=F 2 _ rfl;simp [c1B,c1U,c1S] at g0 g1 g2;obtain⟨bl,e0,_⟩:=DataW.trod_bool underlying4 g0;obtain⟨a,b,E,c,l,e1,J,I,hr⟩:=qnf g1;obtain⟨z,e2,_,_⟩:=DataW.trod_int underlying85 g2;exact⟨bl,a,b,E,c,l,z,by injection e0,e1,by injection e2,J,I,hr⟩
theorem open_dr {cs:List Value} (h:DataW.trod enc prog w 0 sp held fuel 89 cs=some x) {a:Addr} (hc:w.cells? 0 a 6=some cs) (V:a.spot=none) :
  ∃d,DrAt w a.block a.off d/\DrOk d:=by
 obtain⟨_,F,E⟩:=World.cells?_some hc;obtain⟨xs,n,_,_,_,Y,Z⟩:=DataW.trod_struct underlying89 h
 match xs,Y,cs,F with
 | [y0,y1],_,[v0,v1,v2,v3,v4,v5],_ =>
  have g0:=Z 0 _ rfl;have g1:=Z 1 _ rfl;simp [c3Dr] at g0 g1;obtain⟨bl,a1,b1,o1,c1,l1,z1,rfl,rfl,rfl,I,G,O⟩:=qiW g0;obtain⟨bm,a2,b2,o2,c2,l2,z2,rfl,rfl,rfl,J,H,U⟩:=qiW g1;obtain⟨ab,ao,asp⟩:=a;have V:asp=none:=V;subst V;have e:∀k (u:Value),k<6->w.cell? ((⟨ab,ao,none⟩:Addr).add k)=some u->w.cell? ⟨ab,ao+k,none⟩=some u:=fun k u _ h=>by
   rw [<-Addr.add_mid];exact h
  refine⟨⟨bl,l1,z1,bm,l2,z2⟩,⟨a1,b1,o1,c1,a2,b2,o2,c2,⟨by have:=e 0 _ (by decide) (E 0 (by decide));simpa using this,by have:=e 1 _ (by decide) (E 1 (by decide));simpa using this,by have:=e 2 _ (by decide) (E 2 (by decide));simpa using this,
   by have:=e 3 _ (by decide) (E 3 (by decide));simpa using this,by have:=e 4 _ (by decide) (E 4 (by decide));simpa using this,by have:=e 5 _ (by decide) (E 5 (by decide));simpa using this⟩,G,H⟩,?_⟩
  unfold maxLen at I J;exact⟨by show l1.length<=_;omega,by show l2.length<=_;omega,O,U⟩
theorem open_drs (h:DataW.trod enc prog w 0 sp held fuel 23 [v]=some x):∃(a:Option Addr) (b off c:Nat) (L:List Dr),v=.slice a L.length c/\L.length<=maxLen/\L.length<=c/\DrCells w a b off L:=by
 rcases open_slice underlying23 h with ⟨H,_⟩ | ⟨a,len,cap,m,n,D,Pl,H,_,hl,hm,Z,_,hx⟩
 ·exact⟨none,0,0,0,[],by injection H,by decide,qae _,⟨fun h=>absurd h (by decide),fun k h=>absurd h (by simp),fun k h=>absurd h (by simp)⟩⟩
 ·have ae:len<=m:=by rw [Z];split <;> omega
  have U:0<len->a=⟨a.block,a.off,none⟩:=fun V=>by
   obtain⟨cs',I,_⟩:=hx 0 (by omega);rw [c6Dr] at I;obtain⟨_,aa,G⟩:=World.cells?_some I;have h3:=G 0 (by decide);rw [add_add] at h3;have h4:w.cell? (a.add 0)=cs'[0]?:=h3;rw [qad (by omega)] at h4;exact qg2 h4
  have J:∀i,i<len->∃d,DrAt w a.block (a.off+i*6) d/\DrOk d:=fun i hi=>by
   obtain⟨cs',I,h2⟩:=hx i (by omega);rw [c6Dr] at I;have ha:=U (by omega);have O:a.add (i*6)=⟨a.block,a.off+i*6,none⟩:=by rw [ha,Addr.add_mid]
   rw [O] at I;exact open_dr h2 I rfl
  have:Inhabited Dr:=⟨dr0⟩;obtain⟨Y,hY⟩:=choose_lt J;have hg:∀k,k<len->((List.range len).map Y).getD k dr0=Y k:=fun k F=>by
   rw [qaa,qaN,qbG F];rfl
  have E:((List.range len).map Y).length=len:=by rw [qaD,qbs]
  refine⟨some a,a.block,a.off,cap,(List.range len).map Y,by rw [E];injection H,by rw [E];omega,by rw [E];omega,⟨fun V=>?_,fun k F=>?_,fun k F=>?_⟩⟩
  ·rw [E] at V;exact congrArg some (U V)
  ·rw [E] at F;rw [hg k F];exact (hY k F).1
  ·rw [E] at F;rw [hg k F];exact (hY k F).2
theorem open_ds {r:Reach} {I:Nat} {d:DataW H} {p:List MemPlace} (Y:Value.okWide prog w r I 23 v) (h:DataW.Trod enc prog w 0 sp held 23 v d p) :
  ∃(a:Option Addr) (b E c:Nat) (L:List Dr),v=.slice a L.length c/\L.length<=9223372036854775807/\L.length<=c/\DrCells w a b E L:=by
 obtain⟨fuel,U⟩:=h;have O:=okWide_slice underlying23 Y;obtain⟨a,n,c,rfl⟩:=O;have F:DataW.trod enc prog w 0 sp held fuel 23 [.slice a n c]=some (d,p):=U;obtain⟨a,b,E,c,l,e,V,G,J⟩:=open_drs F;unfold maxLen at V;exact⟨a,b,E,c,l,e,by omega,G,J⟩
