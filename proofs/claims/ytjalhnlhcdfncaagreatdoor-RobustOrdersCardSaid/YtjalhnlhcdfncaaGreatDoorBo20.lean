import Derived.Deep.Cut
import Derived.Deep.RegionHeld
import Derived.Test.YtjalhnlhcdfncaaGreatDoorBo19
set_option maxRecDepth 100000
set_option maxHeartbeats 0
namespace Go.Proofs.YtjalhnlhcdfncaaGreatDoor.p4
open Go.RowKit Go.Proofs.Tryz
def Sec (L:List Nat):Prop:=Dig L\/(L.length=1/\dg L 0<=10000)
def SecAt (W:World) (v:Value) (y J:Nat):Prop:=∃(E:Option Addr) (b off c n:Nat) (L:List Nat),v=.slice E n c/\L.length=n/\n<=c/\n<=J/\Cells W E b off L/\Sec L/\mval L=y
theorem DigAt.sec {W:World} {v:Value} {x N:Nat} (h:DigAt W v x N):SecAt W v x N:=by
 obtain⟨ao,b,off,c,n,L,rfl,E,F,H,I,J,O⟩:=h;exact⟨ao,b,off,c,n,L,rfl,E,F,H,I,qaw J,O⟩
theorem SecAt.one {W:World} {m g e:Nat} (F:m<=10000) (h:W.heap[g]? = some (.cells #[.int .i64 (m:Int)] e (0,0))):SecAt W (.slice (some ⟨g,0,none⟩) 1 1) m 1:=by
 refine⟨_,g,0,1,1,[m],rfl,rfl,qad _,qad _,⟨fun _=>rfl,fun k E=>?_⟩,qam ⟨rfl,F⟩,by simp [mval]⟩
 match k,E with
 | 0,_=>exact qC _ _ 0 _ _ _ h
theorem sec_le {L:List Nat} {j:Nat} (h:Sec L) (H:j<L.length):dg L j<=10000:=by
 rcases h with h | ⟨F,E⟩
 ·exact qan (h j)
 ·obtain rfl:j=0:=by omega
  exact E
theorem qoR {L:List Nat} {j c p d e:Nat} (h:Sec L) (U:j<L.length) (he:dg L j=e) (F:j=0->c=0) (H:c<10000) (J:p<10000) (I:d<10000):c+(p+d*e)<100000000:=by
 rcases h with h | ⟨O,E⟩
 ·exact qfD H J I (by rw [<-he];exact h j)
 ·obtain rfl:j=0:=by omega
  rw [he] at E;have:=F rfl;have:d*e<=9999*10000:=Nat.mul_le_mul (by omega) E;omega
theorem qgt (W:World) (n:Nat) (E:n<=maxLen):(W.alloc (.cells (madeCells #[.int .i64 0] n) 3)).ownsRow W.heap.size 3 1 (.slice (some ⟨W.heap.size,0,none⟩) n n) n (row64 (List.replicate n 0)) :=
 qiU (qgV W n 3) (by simp) qN E
theorem qfC (x y K J:Nat) (hK:K+J<=17592186040000) (vm vo:Value) (w:World) (hm:DigAt w vm x K) (ho:SecAt w vo y J) :
  Calls prog 178 #[vm,vo] w fun e w'=>∃v,e=.returned v/\Below w.heap.size w w'/\MagAt w' v (x*y):=by
 obtain⟨am,bm,om,cm,n,M,rfl,lm,aI,hn,CM,DM,rfl⟩:=hm;obtain⟨ao,bo,oo,co,no,O,rfl,lo,aJ,aG,CO,SO,rfl⟩:=ho;obtain⟨s,hs⟩:=qX (n+no);have av:(n:Int)+(no:Int)=s:=by omega
 have aF:=run_make_row' (P:=prog) 30 3 (.int .i64 0) 8 underlying30 qgo rfl .i64 .i64 s (by omega) (by omega);have F:=qH (qA lm (qA CM DM));have E:=qH (qA lo (qA CO SO));have V:=qH hs;have aH:=qH av;have aN:s<=17592186040000:=by omega
 clear CM CO DM SO lm lo hK hs hn aG;go_enter func178,ntmps178;go_wp2
 go_loopw [6] (fun x6 W=>∃(k:Nat) (R:List Nat),k<=n/\x6=.int .i64 k/\Hu (TimesInv M O k 0 R 0)/\Hu (W.ownsRow w.heap.size 3 1 (.slice (some ⟨w.heap.size,0,none⟩) s s) s (row64 R))/\Hu (Below w.heap.size w W)) (fun x6 _=>n-(intOf x6).toNat)
 case atStart =>
  refine⟨0,List.replicate s 0,qaj _,rfl,qH ?_,qH (qgt w s (by unfold maxLen;omega)),qH (qB.alloc qN _)⟩;have:=TimesInv.start M O
  rwa [F.o.1,E.o.1,V.o] at this
 case round =>
  obtain⟨k,R,hk,rfl,H,Y,hB⟩:=hrel;clear aF av
  by_cases ag:k<n
  ·have aL:(k:Int)<n:=by omega
   have aA:=F.o.2.1.addr (by rw [F.o.1];omega);subst aA;have aa:=(F.o.2.1.below hB.o).cell k (by rw [F.o.1];omega);have hd:dg M k<10000:=F.o.2.2 k;obtain⟨d,af⟩:=qX (dg M k);rw [af] at aa hd;have ai:=qH af;clear af;go_wp2_with fail
   go_loopw [7,8] (fun x7 x8 W=>∃(j c:Nat) (S:List Nat),j<=no/\x8=.int .i64 j/\x7=.int .i64 c/\Hu (j=0->c=0)/\Hu (TimesInv M O k j S c)/\Hu (W.ownsRow w.heap.size 3 1 (.slice (some ⟨w.heap.size,0,none⟩) s s) s (row64 S))/\Hu (Below w.heap.size w W)) (fun _ x8 _=>no-(intOf x8).toNat)
   case atStart=>exact⟨0,0,R,qaj _,rfl,rfl,qH (fun _=>rfl),H,Y,hB⟩
   case round =>
    clear H Y hB aa;obtain⟨j,c,S,hj,rfl,rfl,h0,H,Y,hB⟩:=hrel
    by_cases au:j<no
    ·have aK:(j:Int)<no:=by omega
     have az:=E.o.2.1.addr (by rw [E.o.1];omega);subst az;have aB:=(E.o.2.1.below hB.o).cell j (by rw [E.o.1];omega);have aa:=(F.o.2.1.below hB.o).cell k (by rw [F.o.1];omega);rw [ai.o] at aa;obtain⟨e,I⟩:=qX (dg O j);have he:e<=10000:=by rw [<-I];exact sec_le E.o.2.2 (by rw [E.o.1];omega)
     rw [I] at aB;have U:S.length=s:=by rw [H.o.len,F.o.1,E.o.1,V.o]
     have ak:wr.cell? ⟨w.heap.size,k+j,none⟩=some (.int .i64 ((dg S (k+j):Nat):Int)):=(Y.o.cellAt (k+j) (by have:=V.o;omega)).trans (qeu S (k+j) (by have:=V.o;omega));have aC:wr.frozen? ⟨w.heap.size,k+j,none⟩=false:=Y.o.frozenAt (k+j);have hp:dg S (k+j)<10000:=H.o.dig (k+j);obtain⟨p,ah⟩:=qX (dg S (k+j));rw [ah] at ak hp;have hc:=H.o.carry;have Hb:=qH (qoR E.o.2.2 (by rw [E.o.1];omega) I h0.o hc hp hd);obtain⟨q,hq⟩:=qX (d*e:Nat);rw [hq] at Hb;have aM:(d:Int)*(e:Int)=(q:Int):=by rw [<-hq,Int.natCast_mul]
     obtain⟨r,hr⟩:=qX (c+p:Nat);obtain⟨t,ht⟩:=qX (r+q:Nat);have aO:t<100000000:=by have:=Hb.o;omega
     obtain⟨c1,Z⟩:=qX (t / 10000:Nat);obtain⟨s1,ae⟩:=qX (t % 10000:Nat);have r4:(c:Int)+p=r:=by omega
     have r6:(r:Int)+q=t:=by omega
     have r7:(t:Int) / 10000=c1:=by omega
     have r8:(t:Int).tdiv 10000=c1:=tdivB t c1 Z;have r9:(t:Int).tmod 10000=s1:=tmodB t s1 ae;have Ht:=qH (qA hr (qA ht (qA Z ae)));have aD:(k:Int)+j<s:=by have:=V.o;omega
     have aj:c1<10000:=by omega
     clear hr ht Z ae;have ax:=qH I;have ay:=qH ah;have Hq:=qH hq;have Hc:=qH hc;have Hd:=qH hd;have He:=qH he;have Hp:=qH hp;clear I ah hq U;go_wp2_with fail
     go_quiet (fail)
     go_wp2;go_roundw
     case rel =>
      obtain⟨hr,ht,Z,ae⟩:=Ht.o;exact⟨j+1,c1,S.set (k+j) s1,au,by go_num,rfl,qH (fun h=>absurd h (by omega)),qH (H.o.step (by rw [F.o.1];exact ag) (by rw [E.o.1];exact au) (by omega) aj (by rw [show S.getD (k+j) 0=p from ay.o,show M.getD k 0=d from ai.o,show O.getD j 0=e from ax.o,Hq.o];omega)),qH (qg1 (own_drewN Y.o _) (k+j) s1 rfl),qH ((below_drewN hB.o _).setCell qN _)⟩
     case measure=>simp [intOf];omega
    ·obtain rfl:j=no:=by omega
     have U:S.length=s:=by rw [H.o.len,F.o.1,E.o.1,V.o]
     have ak:wr.cell? ⟨w.heap.size,k+j,none⟩=some (.int .i64 ((dg S (k+j):Nat):Int)):=(Y.o.cellAt (k+j) (by have:=V.o;omega)).trans (qeu S (k+j) (by have:=V.o;omega));have aC:wr.frozen? ⟨w.heap.size,k+j,none⟩=false:=Y.o.frozenAt (k+j);have aD:(k:Int)+j<s:=by have:=V.o;omega
     have hc:=H.o.carry;have Hc:=qH hc;have Hd:=qH hd;clear U hc hd;go_wp2;go_roundw
     case rel =>
      have h:=H.o;rw [<-E.o.1] at h;have h2:=h.next (by rw [F.o.1];exact ag)
      rw [E.o.1] at h2;exact⟨k+1,S.set (k+j) c,ag,by go_num,qH h2,qH (qg1 Y.o (k+j) c rfl),qH (hB.o.setCell qN _)⟩
     case measure=>simp [intOf];omega
  ·obtain rfl:k=n:=by omega
   have U:R.length=s:=by rw [H.o.len,F.o.1,E.o.1,V.o]
   have hv:mval R=mval M*mval O:=by
    have h1:=H.o;rw [<-F.o.1] at h1;exact h1.done rfl
   have HD:=qH (qdj (N:=s) Y.o H.o.dig qN);rw [hv] at HD;clear hv U
   go_wp2_with (first | (go_at_call 235;refine (qfN _ s _ _ HD.o (by omega)).mono ?_;rintro e w1 ⟨u,rfl,rfl,hu⟩) | fail)
   go_ret;exact⟨_,rfl,hB.o,hu⟩
theorem qlB (x K d:Nat) (hK:K<=17592186040000) (Y:0<d) (hd:d<=10000) (vm:Value) (w:World) (hm:DigAt w vm x K) :
  Calls prog 248 #[vm,.int .i64 (d:Int)] w fun e w'=>∃v,e=.returned (.tuple #[v,.int .i64 ((x % d:Nat):Int)])/\Below w.heap.size w w'/\MagAt w' v (x / d)/\HiS w.heap.size v:=by
 obtain⟨am,bm,om,cm,n,M,rfl,lm,aj,Z,CM,DM,rfl⟩:=hm;have hn:n<=17592186040000:=qak Z hK;have ah:=run_make_row' (P:=prog) 30 3 (.int .i64 0) 8 underlying30 qgo rfl .i64 .i64 n (by omega) (by omega);have E:=qH (qA lm (qA CM DM));have Hd:=qH (qA Y hd);obtain⟨rr,J⟩:=qX (mval M % d);have aa:=qH J;rw [J];have h0:((d:Int) == 0)=false:=by rw [beq_eq_false_iff_ne];omega
 have ak:¬d=0:=by omega
 clear CM DM lm Z hK J hd Y;go_enter func248,ntmps248;go_wp2
 go_loopw [7,8] (fun x7 x8 W=>∃(k r:Nat) (z:Int) (R:List Nat),k<=n/\x8=.int .i64 z/\Hu (z+1=k)/\x7=.int .i64 r/\Hu (ShortInv M d k R r)/\Hu (W.ownsRow w.heap.size 3 1 (.slice (some ⟨w.heap.size,0,none⟩) n n) n (row64 R))/\Hu (Below w.heap.size w W)) (fun _ x8 _=>(intOf x8+1).toNat)
 case atStart =>
  refine⟨n,0,_,List.replicate n 0,qad _,rfl,qH (by omega),rfl,qH ?_,qH (qgt w n (by unfold maxLen;omega)),qH (qB.alloc qN _)⟩;have:=ShortInv.start M Hd.o.1
  rwa [E.o.1] at this
 case round =>
  obtain⟨k,r,z,R,hk,rfl,hz,rfl,H,V,hB⟩:=hrel;clear ah
  by_cases az:0<k
  ·obtain⟨j,rfl⟩:∃j,k=j+1:=⟨k-1,by omega⟩;obtain rfl:z=(j:Int):=by have:=hz.o;omega
   have ay:(j:Int)<n:=by omega
   have af:=E.o.2.1.addr (by rw [E.o.1];omega);subst af;have ag:=(E.o.2.1.below hB.o).cell j (by rw [E.o.1];omega);have hm:dg M j<10000:=E.o.2.2 j;obtain⟨m,F⟩:=qX (dg M j);rw [F] at ag hm;have hr:=H.o.rest;have I:R.length=n:=H.o.len.trans E.o.1;have au:wr.cell? ⟨w.heap.size,j,none⟩=some (.int .i64 ((dg R j:Nat):Int)):=(V.o.cellAt j (by omega)).trans (qeu R j (by omega));have ax:wr.frozen? ⟨w.heap.size,j,none⟩=false:=V.o.frozenAt j;have av:=Hd.o.2;obtain⟨t1,O⟩:=qX (r*10000:Nat);obtain⟨t2,U⟩:=qX (t1+m:Nat);obtain⟨q,hq⟩:=qX (t2 / d:Nat);obtain⟨s,hs⟩:=qX (t2 % d:Nat);have hstep:=H.o.step (by rw [E.o.1];omega) E.o.2.2;have aA:q<10000:=by
    have:=hstep.dig j;rw [qc8 (by omega),show M.getD j 0=m from F,O,U,hq] at this;exact this
   rw [show M.getD j 0=m from F,O,U,hq,hs] at hstep;have aB:s<d:=by rw [<-hs];exact qbS _ Hd.o.1
   have r1:(r:Int)*10000=t1:=by omega
   have r4:(t1:Int)+m=t2:=by omega
   have r6:=tdivN t2 d q hq;have r9:=tmodN t2 d s hs;have ae:=qH hstep;have aC:(t2:Int)<9000000000:=by omega
   clear hstep O U hq hs I hm F;go_wp2;go_roundw
   case rel=>exact⟨j,s,_,R.set j q,by omega,rfl,qH (by omega),rfl,ae,qH (qg1 V.o j q rfl),qH (hB.o.setCell qN _)⟩
   case measure=>simp [intOf]
  ·obtain rfl:k=0:=by omega
   obtain rfl:z = -1:=by have:=hz.o;omega
   have I:R.length=n:=H.o.len.trans E.o.1;have HD:=qH (qdj (N:=n) V.o H.o.dig qN);have HH:=qou V.o;rw [H.o.done.1] at HD;have ai:r=rr:=by rw [<-aa.o];exact H.o.done.2
   subst ai;clear I
   go_wp2_with (first | (go_at_call 235;refine (qko _ n _ _ HD.o (by omega)).mono ?_;rintro e w1 ⟨u,rfl,rfl,hu,hh⟩) | fail)
   go_ret2
   exact⟨_,rfl,hB.o,hu,hh _ HH⟩
theorem qgN {P:Program} {w:World} (base:Nat) (t Y e:TypeId) (i:TypeInfo) (F:Nat) (J:P.underlying t=some (.slice e)) (I:P.info? e=some i)
  (v:Value) (n:Nat) (Z:List Value) (E:w.ownsRow base e F v n Z) (c:Nat):(Builtin.append_ #[t,t] Y #[v,.slice none 0 c]).run P w=.ok v w:=by
 rcases E.2 with ⟨rfl,rfl⟩ | ⟨g,cap,cur,rfl,O,hg,H,U,V,htake⟩
 ·simp [Builtin.append_,run_underlying J,sizeOf,typeInfo,I,Builtin.lenOf,Builtin.firstCells]
 ·simp [Builtin.append_,run_underlying J,sizeOf,typeInfo,I,Builtin.lenOf,Builtin.firstCells,loadCells,storeCells,H]
theorem qfE {ag:Array Oper} {rest:List Oper} {o:Oper} {a:Act} {w:World} {Q:Exit->Act->World->Prop} (I:o.guard=none) (s x:Operand)
  (ho:o.op=.call { callee:=.builtin .append,args:=#[s,x],argTypes:=#[30,30] }) {W0:World} {B:Nat} {v:Value} {n:Nat} {S:List Nat} {ao:Option Addr} {b off m c:Nat} {L:List Nat}
  (hB:Below B W0 w) (ah:B=W0.heap.size) (F:w.ownsRow B 3 1 v n (row64 S)) (hc:Cells w ao b off L) (hm:L.length=m) (hs:a.eval s=v) (hx:a.eval x=.slice ao m c) (hn:n+m<=17592186044416)
  (h:∀O w',Hu (w'.ownsRow B 3 1 O (n+m) (row64 (S++L)))->Hu (Below B W0 w')->wpList prog ag Q rest (a.put o.dst O) w') :
  wpList prog ag Q (o :: rest) a w:=by
 obtain⟨i0,hi,aa,ae,af⟩:=info_parts qgo;have ai:=hB.size
 by_cases h0:0<m
 ·have ha:=hc.addr (by omega);subst ha;refine wpList_append_own _ I s x 30 ho B 3 i0 (.int .i64 0) 1 8 underlying30 hi aa ae af rfl (by decide) v n (row64 S) hs F ⟨b,off,none⟩ m c (row64 L) hx (by rw [qdv,hm,qbV]) ?c1 (qoK L) ?c3 ?c4 ?c5 ?_
  case c1 =>
   intro j u J;have Y:j<L.length:=by
    rcases qaB j L.length with h | h
    ·exact h
    ·rw [qaR (by rw [qdv];exact h)] at J;exact absurd J (by simp)
   rw [qeu L j Y] at J;cases J;have U:=hc.cell j Y
   by_cases V:j=0
   ·subst V;simpa [Addr.add] using U
   ·simpa [Addr.add,V] using U
  case c3=>unfold maxLen;omega
  case c4=>omega
  case c5=>omega
  intro O w' E H _;refine h O w' (qH ?_) (qH ?_)
  ·unfold row64 at E ⊢;rw [qbh];exact E
  ·exact hB.grown H (by omega) (fun k hk=>(F.lt k hk).1)
 ·obtain rfl:m=0:=by omega
  obtain rfl:L=[]:=qbk.1 hm;cases ao with
  | none =>
   refine wpList_plain I fun K hK=>?_
   have Z:=qgN (P:=prog) (w:=w) B 30 o.type 3 i0 1 underlying30 hi v n (row64 S) F c;unfold Oper.wp;simp [execOp,ho,resolve,invoke,builtin,hs,hx,Z,Result.andThen];exact hK _ _ (h v w (qH (by rw [qbj];exact F)) (qH hB))
  | some ad =>
   refine wpList_append_own _ I s x 30 ho B 3 i0 (.int .i64 0) 1 8 underlying30 hi aa ae af rfl (by decide) v n (row64 S) hs F ad 0 c [] hx rfl (fun j u J=>by simp at J) (fun u hu=>by simp at hu) (by unfold maxLen;omega) (by omega) (by omega) ?_;intro O w' E H _;refine h O w' (qH ?_) (qH ?_)
   ·rw [qbj];rw [qbj] at E;exact E
   ·exact hB.grown H (by omega) (fun k hk=>(F.lt k hk).1)
theorem qkP (W:World) (d:Nat) (e:TypeId) {B g:Nat} (hg:g=W.heap.size) (hB:B<=g):(W.alloc (.cells #[.int .i64 (d:Int)] e)).ownsRow B e 1 (.slice (some ⟨g,0,none⟩) 1 1) 1 (row64 [d]):=by
 subst hg;exact⟨rfl,.inr ⟨W.heap.size,1,_,rfl,hB,heap_alloc_new W _,qad _,by decide,rfl,rfl⟩⟩
theorem qlD (W:World) (e:TypeId) {B g:Nat} (hg:g=W.heap.size) (hB:B<=g):(W.alloc (.cells #[] e)).ownsRow B e 1 (.slice (some ⟨g,0,none⟩) 0 0) 0 (row64 []):=by
 subst hg;exact⟨rfl,.inr ⟨W.heap.size,0,_,rfl,hB,heap_alloc_new W _,qad _,by decide,rfl,rfl⟩⟩
structure QuoInv (m:List Nat) (b L k:Nat) (R:List Nat) (r:Nat):Prop where
 len:R.length=L
 dig:Dig R
 rest:r<b
 val:mval (R.drop k)*b+r=mval (m.drop k)
theorem QuoInv.start {m:List Nat} {b L n:Nat} (F:Dig m) (I:m.length=L+n) (H:10000 ^ n<=b):QuoInv m b L L (List.replicate L 0) (mval (m.drop L)):=by
 refine⟨by simp,Dig.zeros _,?_,?_⟩
 ·have h:=(Dig.of fun d E=>F.mem d (List.mem_of_mem_drop E):Dig (m.drop L)).lt;rw [qaY,show m.length-L=n by omega] at h;omega
 ·rw [qaM (by simp)];simp [mval]
theorem quo_alg {B X q b r t d E:Nat} (H:t=d+B*r) (I:t=b*q+E):(q+B*X)*b+E=d+B*(X*b+r):=by
 have F:(q+B*X)*b=b*q+B*(X*b):=by rw [qaI,qav q b,qay]
 rw [F,qa7];omega
theorem QuoInv.digit {m R:List Nat} {b L k r d:Nat} (h:QuoInv m b L (k+1) R r) (F:d<10000):(d+10000*r) / b<10000:=by
 have E:=h.rest;rw [qbM (by omega)];have:10000*(r+1)<=10000*b:=qaK _ (by omega);omega
theorem QuoInv.step {m R:List Nat} {b L k r d:Nat} (h:QuoInv m b L (k+1) R r) (J:k<L) (E:dg m k=d) (I:d<10000):QuoInv m b L k (R.set k ((d+10000*r) / b)) (d+10000*r-b*((d+10000*r) / b)):=by
 have U:=h.digit I;have H:0<b:=by have:=h.rest;omega
 have F:=Nat.div_add_mod (d+10000*r) b;have O:=qbS (d+10000*r) H;refine⟨by rw [qa8,h.len],h.dig.set U _,by omega,?_⟩;unfold dg at E;rw [qdt (by rw [h.len];exact J),qcS m k,<-h.val,E];exact quo_alg rfl (by omega)
theorem QuoInv.done {m R:List Nat} {b L r:Nat} (h:QuoInv m b L 0 R r):mval R=mval m / b/\r=mval m % b:=by
 have E:=h.val;simp only [List.drop_zero] at E;have hr:=h.rest;rw [<-E]
 constructor
 ·rw [qav,Nat.mul_add_div (by omega),Nat.div_eq_of_lt hr];rfl
 ·rw [qav,Nat.mul_add_mod,Nat.mod_eq_of_lt hr]
structure Half (b t low high:Nat):Prop where
 least:low*b<=t
 most:t<high*b
 less:low<high
 bound:high<=10001
theorem Half.start {b t P top:Nat} (I:top*P<=b) (Y:b<(top+1)*P) (Z:t<b*10000) (H:10000<=top):Half b t (t / P / (top+1)) (t / P / top+1):=by
 have J:0<P:=by
  rcases qaN P with h | h
  ·subst h;omega
  ·exact h
 obtain⟨f,F⟩:=qX (t / P);have O:f*P<=t:=by rw [<-F];exact Nat.div_mul_le_self t P
 have U:t<(f+1)*P:=by rw [<-F,qav];exact Nat.lt_mul_div_succ t J
 have V:f<(top+1)*10000:=by
  have:f*P<((top+1)*10000)*P:=by
   have e:((top+1)*10000)*P=((top+1)*P)*10000:=Nat.mul_right_comm _ _ _;rw [e];omega
  exact Nat.lt_of_mul_lt_mul_right this
 rw [F];have g1:f / (top+1)*(top+1)<=f:=Nat.div_mul_le_self _ _;have g2:f<top*(f / top+1):=Nat.lt_mul_div_succ f (by omega);refine⟨?_,?_,?_,?_⟩
 ·have E:f / (top+1)*b<=f / (top+1)*((top+1)*P):=qaK _ (by omega);rw [<-qay] at E;have a2:=qaW P g1;omega
 ·have E:(f / top+1)*(top*P)<=(f / top+1)*b:=qaK _ I;rw [<-qay,qav (f / top+1) top] at E;have a2:(f+1)*P<=top*(f / top+1)*P:=qaW P g2;omega
 ·have:f / (top+1)<=f / top:=Nat.div_le_div_left (by omega) (by omega);omega
 ·have:f / top<10001:=by
   rw [qbM (by omega)];omega
  omega
theorem Half.up {b t low E m:Nat} (h:Half b t low E) (H:m<E) (F:b*m<=t):Half b t m E:=⟨by rw [qav];exact F,h.most,H,h.bound⟩
theorem Half.down {b t low E m:Nat} (h:Half b t low E) (H:low<m) (I:m<=E) (F:t<b*m):Half b t low m:=⟨h.least,by rw [qav m];exact F,H,by have:=h.bound;omega⟩
theorem Half.done {b t low E:Nat} (h:Half b t low E) (H:E<=low+1):t / b=low:=by
 have F:=h.less;obtain rfl:E=low+1:=by omega
 exact Nat.div_eq_of_lt_le h.least h.most
theorem top_two {O:List Nat} {n:Nat} (E:Dig O) (V:Nrm O) (U:O.length=n+1) (Y:0<n) :
  (dg O n*10000+dg O (n-1))*10000 ^ (n-1)<=mval O/\mval O<(dg O n*10000+dg O (n-1)+1)*10000 ^ (n-1)/\10000<=dg O n*10000+dg O (n-1)/\dg O n*10000+dg O (n-1)<100000000:=by
 have H:=qdh O (n-1) (by omega);have F:=qcS O (n-1);rw [show n-1+1=n by omega,qcS O n,qaM (by omega:O.length<=n+1)] at F;have I:=(E.take (n-1)).lt;rw [qao,qaS (by omega)] at I;have Z:dg O n<10000:=E n;have h2:dg O (n-1)<10000:=E (n-1);have h3:dg O n≠0:=by
  rcases V with h | h
  ·omega
  ·rw [U] at h;exact h
 have J:mval (O.drop (n-1))=dg O n*10000+dg O (n-1):=by
  rw [F];unfold dg;simp [mval];omega
 rw [J,qav (10000 ^ (n-1))] at H;refine⟨by omega,?_,by omega,by omega⟩;rw [qaI _ 1,qbD];omega
theorem qh4 {L:List Nat} {k f x:Nat} (h:f=mval (L.drop (k+1))) (hx:L.getD k 0=x):f*10000+x=mval (L.drop k):=by
 rw [qcS L k,hx,<-h];omega
theorem qle {U:List Nat} {E q:Nat} (F:Dig U) (H:U.length=E) (h:E<=q+3):mval (U.drop q)<1000000000000:=by
 have a:=(F.drop q).lt;rw [qaY] at a;have b:10000 ^ (U.length-q)<=10000 ^ 3:=qaO (by decide) (by omega);have c:10000 ^ 3=1000000000000:=by decide
 omega
theorem qiL {L:List Nat} {k:Nat} (F:Dig L):mval (L.drop k)=mval L / 10000 ^ k:=by
 by_cases H:k<=L.length
 ·have I:=qdh L k H;have E:=(F.take k).lt;rw [qao,qaS H] at E;rw [I,Nat.add_comm,Nat.mul_add_div (Nat.pow_pos (by decide)),Nat.div_eq_of_lt E];rfl
 ·rw [qaM (by omega),Nat.div_eq_of_lt]
  ·rfl
  ·exact qai F.lt (qaO (by decide) (by omega))
def MagHi (W:World) (B:Nat) (v:Value) (x:Nat):Prop:=∃(E:Option Addr) (b off c n:Nat) (L:List Nat),v=.slice E n c/\IsM W E b off c n L/\(0<n->B<=b)/\mval L=x
theorem MagHi.mag {W:World} {B:Nat} {v:Value} {x:Nat} (h:MagHi W B v x):MagAt W v x:=by
 obtain⟨ao,b,off,c,n,L,rfl,E,_,F⟩:=h;exact⟨ao,b,off,c,n,L,rfl,E,F⟩
theorem MagHi.below {W W':World} {B:Nat} {v:Value} {x:Nat} (h:MagHi W B v x) (I:Below W.heap.size W W'):MagHi W' B v x:=by
 obtain⟨ao,b,off,c,n,L,rfl,E,F,H⟩:=h;exact⟨ao,b,off,c,n,L,rfl,E.below I,F,H⟩
theorem MagHi.set {W:World} {B g k:Nat} {v u:Value} {x:Nat} (h:MagHi W B v x) (hg:g<B):MagHi (W.setCell ⟨g,k,none⟩ u) B v x:=by
 obtain⟨ao,b,off,c,n,L,rfl,E,F,H⟩:=h;refine⟨ao,b,off,c,n,L,rfl,⟨E.len,E.cap,⟨E.cells.addr,fun j I=>?_⟩,E.dig,E.nrm⟩,F,H⟩;have hne:b≠g:=by have:=F (by rw [<-E.len];omega);omega
 exact (World.cell?_setCell_far W ⟨g,k,none⟩ ⟨b,off+j,none⟩ u (by show g≠b;omega)).trans (E.cells.cell j I)
theorem Cells.drop {W:World} {b off:Nat} {L:List Nat} (h:Cells W (some ⟨b,off,none⟩) b off L) (k:Nat):Cells W (some ⟨b,off+k,none⟩) b (off+k) (L.drop k) :=
 ⟨fun _=>rfl,fun j E=>by
  rw [qaY] at E;rw [Nat.add_assoc,h.cell (k+j) (by omega)];unfold dg;rw [qaa,qaa,List.getElem?_drop]⟩
theorem qnb {W W':World} {o:Obj} {B:Nat} (h:Below B (W.alloc o) W') (hB:W.heap.size<=B):Below W.heap.size W W':=((Below.refl _ W).alloc qN o).trans (h.mono hB)
theorem own_below {W W':World} {B C e n:Nat} {v:Value} {F:List Value} (h:W.ownsRow C e 1 v n F) (J:Below B W W') (hB:W.heap.size<=B):W'.ownsRow C e 1 v n F:=by
 refine⟨h.1,?_⟩;rcases h.2 with h2 | ⟨g,c,cur,rfl,H,E,I⟩
 ·exact qaw h2
 ·refine qam ⟨g,c,cur,rfl,H,?_,I⟩;have O:g<W.heap.size:=by
   rcases qaB g W.heap.size with h' | h'
   ·exact h'
   ·rw [Array.getElem?_eq_none h'] at E;exact absurd E (by simp)
  rw [J.block g (by omega)];exact E
theorem cut_hi (B n:Nat) (v:Value) (L:List Nat) (w:World) (H:w.ownsRow B 3 1 v n (row64 L)) (Z:Dig L) (hN:n<=17592186044416):Calls prog 235 #[v] w fun e w'=>∃u,e=.returned u/\w'=w/\MagHi w B u (mval L):=by
 have E:L.length=n:=by have:=H.1;rw [qdv] at this;omega
 rcases H.2 with ⟨rfl,rfl⟩ | ⟨g,c,cur,rfl,Y,hg,O,hm,hs,ht⟩
 ·obtain rfl:L=[]:=qbk.1 E;refine (qnk none 0 0 0 0 [] w rfl (qaj _) qN ⟨fun h=>absurd h (by simp),fun k h=>absurd h (by simp)⟩ Dig.nil).mono ?_;rintro e w' ⟨u,rfl,rfl,ao,b,off,c,n,L,rfl,I,V⟩;have U:=I.nrm.zero.1 (by rw [V];rfl);exact⟨_,rfl,rfl,ao,b,off,c,n,L,rfl,I,fun h=>by rw [<-I.len] at h;omega,V⟩
 ·refine (qnl (some ⟨g,0,none⟩) g 0 c n L w E hN O (qcP H E)).mono ?_;rintro e w' ⟨m,rfl,rfl,aa,U,F⟩;refine⟨_,rfl,rfl,some ⟨g,0,none⟩,g,0,c,m,L.take m,rfl,⟨?_,by omega,(qcP H E).take m,Z.take m,?_⟩,fun _=>Y,qcH U⟩
  ·rw [qao];omega
  ·have E:(L.take m).length=m:=by rw [qao];omega
   rcases F with F | F
   ·exact qaw (by rw [E,F])
   ·right
    rw [E]
    by_cases J:m=0
    ·subst J;exact absurd (U _ (qaj _)) F
    ·rw [qaa,qbE (by omega),<-qaa];exact F
theorem qox (x y K:Nat) (hK:K<=17592186000000) (vm vo:Value) (w:World) (hm:MagAt w vm x) (ho:MagAt w vo y) (hx:Fit x K) (hy:Fit y K) (bT:0<y) :
  Calls prog 206 #[vm,vo] w fun e w'=>∃q r,e=.returned (.tuple #[q,r])/\Below w.heap.size w w'/\MagAt w' q (x / y)/\MagAt w' r (x % y)/\HiS w.heap.size q:=by
 obtain⟨am,bm,om,cm,n,M,rfl,Im,rfl⟩:=hm;obtain⟨ao,bo,oo,co,no,O,rfl,Io,rfl⟩:=ho;have hn:n<=K:=hx.len Im;have ek:no<=K:=hy.len Io;have bO:0<no:=by
  rcases qaN no with h | h
  ·have:=(Io.nrm.zero).2 (by rw [Io.len,h]);omega
  ·exact h
 have cZ:=Io.addr bO;subst cZ;have H:=qH Im;have E:=qH Io;have bW:=qH bT;clear Im Io hx hy bT
 by_cases h1:no=1
 ·subst h1;have dh:=E.o.cell 0 (by omega);obtain⟨d,hd⟩:=qX (dg O 0);rw [hd,qbt] at dh;have J:O=[d]:=by
   obtain⟨a,ha⟩:=List.length_eq_one_iff.1 E.o.len;subst ha;rw [<-hd];rfl
  have aT:mval O=d:=by rw [J];simp [mval]
  have aD:d<10000:=by rw [<-hd];exact E.o.dig 0
  have dI:=qH aT;have bJ:0<d:=by have:=bW.o;omega
  rw [aT];have HC:=qH (qlB (mval M) K d (by omega) bJ (by omega) (.slice am n cm) w ⟨am,bm,om,cm,n,M,rfl,H.o.len,H.o.cap,hn,H.o.cells,H.o.dig,rfl⟩);obtain⟨r,hr⟩:=qX (mval M % d);have eF:r<d:=by rw [<-hr];exact qbS _ bJ
  rw [hr] at HC ⊢;clear hd J aT hr;go_enter func206,ntmps206
  go_wp2_with (go_at_call 248;refine HC.o.mono ?_)
  rintro e w1 ⟨q,rfl,hb,hq,dA⟩;have HD:=qH (qdj (N:=1) (qkP w1 r 3 rfl qN) (Dig.nil.snoc (d:=r) (by omega)) qN);have Hb:=qH hb;have Hq:=qH hq;clear hb hq
  go_wp2_with (go_at_call 235;refine (qfN _ 1 _ _ HD.o (by decide)).mono ?_)
  rintro e w2 ⟨u,rfl,rfl,hu⟩;go_wp2
  go_ret2
  exact⟨_,_,rfl,Hb.o.alloc Hb.o.size _,Hq.o.below (qB.alloc qN _),by simpa [mval] using hu,dA⟩
 ·obtain⟨n1,aU⟩:∃n1,no=n1+1:=⟨no-1,by omega⟩;have e1:(no:Int)-1=n1:=by omega
  by_cases h2:n<=n1
  ·have af:mval M<mval O:=by
    have a1:=H.o.dig.lt;have a2:=E.o.nrm.ge (by rw [E.o.len];omega);rw [H.o.len] at a1;rw [E.o.len,aU,qbR] at a2;have a3:10000 ^ n<=10000 ^ n1:=qaO (by decide) h2;omega
   have bg:=qH af;clear af;go_enter func206,ntmps206
   go_wp2_with (at_builtin;refine qfE (S:=[]) rfl _ _ rfl ((Below.refl _ w).alloc qN _) rfl (qlD w 3 rfl qN) (H.o.cells.below ((Below.refl _ w).alloc qN _)) H.o.len rfl rfl (by omega) ?_)
   intro v' w' aH ah;go_wp2
   go_ret2
   refine⟨_,_,rfl,ah.o,?_,?_,fun a n c e=>by cases e⟩
   ·rw [Nat.div_eq_of_lt bg.o];exact MagAt.nil _
   ·rw [Nat.mod_eq_of_lt bg.o];exact qkO aH.o H.o.dig H.o.nrm
  ·obtain⟨n2,bN⟩:∃n2,n1=n2+1:=⟨n1-1,by omega⟩;have e2:(n1:Int)-1=n2:=by omega
   obtain⟨L,hL⟩:∃L,n=L+n1:=⟨n-n1,by omega⟩;have e3:(n:Int)-n1=L:=by omega
   have cO:=H.o.addr (by omega);subst cO;have dE:=H.o.cap;have dx:=run_make_row' (P:=prog) 30 3 (.int .i64 0) 8 underlying30 qgo rfl .i64 .i64 L (by omega) (by omega);obtain⟨t1,t2,t3,t4⟩:=top_two E.o.dig E.o.nrm (n:=n1) (by rw [E.o.len];omega) (by omega);have bG:=E.o.cell n1 (by omega);have bH:=E.o.cell n2 (by omega);obtain⟨d1,aP⟩:∃d,dg O n1=d:=⟨_,rfl⟩;obtain⟨d2,aQ⟩:∃d,dg O n2=d:=⟨_,rfl⟩;rw [show n1-1=n2 by omega,aP,aQ] at t1 t2 t3 t4;rw [aP] at bG;rw [aQ] at bH;obtain⟨top,aL⟩:=qX (d1*10000+d2);have e4:(d1:Int)*10000+d2=top:=by omega
   rw [aL] at t1 t2 t3 t4;have Ht:=qH (qA t1 (qA t2 (qA t3 t4)));have dF:d1<10000:=by omega
   have av:(n1:Int)<no:=by omega
   have dK:(n2:Int)<no:=by omega
   have dL:(L:Int)<=n:=by omega
   have dM:L<cm:=by omega
   have dN:0<cm-L:=by omega
   have dO:¬cm-L=0:=by omega
   have dP:¬cm<=L:=by omega
   have dQ:¬L=cm:=by omega
   have Hn:=qH (qA aU (qA bN hL));clear aP aQ aL t1 t2 aU bN hL;go_enter func206,ntmps206;go_wp2_with fail
   go_quiet (fail)
   go_wp2_with (at_builtin;refine qfE (S:=[]) (L:=M.drop L) (b:=bm) (off:=om+L) rfl _ _ rfl (qB.alloc qN _) rfl (qlD _ 3 (by simp) (by simp)) ?ac ?al rfl rfl ?ae ?_)
   case ac=>exact (H.o.cells.drop L).below (((below_drewN (Below.refl _ w) nq).alloc qN _).alloc (by simp) _)
   case al=>rw [qaY,H.o.len]
   case ae=>omega
   intro v' w' aH ah;have HB:=qH (((below_drewN (Below.refl _ w) nq).alloc qN _).trans (ah.o.mono (by simp)));have HQ:=qH (own_below (qgt (w.drewN nq) L (by unfold maxLen;omega)) ah.o (by simp));have HS:=qH (show w.heap.size<w'.heap.size by have:=ah.o.size;simp at this;omega);have HR:=qH (qdj (N:=n1+1) aH.o ((Dig.nil).append (H.o.dig.drop L)) (by omega));have HI:=qH (QuoInv.start (b:=mval O) (L:=L) (n:=n1) H.o.dig (by rw [H.o.len];omega) (by have:=E.o.nrm.ge (by rw [E.o.len];omega);rwa [E.o.len,Hn.o.1,qbR] at this));clear dx aH ah bG bH;go_wp2_with fail
   go_loopw [11,12] (fun x11 x12 W=>∃(k r:Nat) (z:Int) (R:List Nat),k<=L/\x12=.int .i64 z/\Hu (z+1=k)/\Hu (QuoInv M (mval O) L k R r)/\Hu (k<L->MagAt W x11 r)/\Hu (DigAt W x11 r (n1+1))/\Hu (W.ownsRow w.heap.size 3 1 (.slice (some ⟨w.heap.size,0,none⟩) L L) L (row64 R))/\Hu (Below w.heap.size w W)/\Hu (w.heap.size<W.heap.size)) (fun _ x12 _=>(intOf x12+1).toNat)
   case atStart=>exact⟨L,_,_,_,qad _,rfl,qH (by omega),HI,qH (fun h=>absurd h (by omega)),HR,HQ,HB,HS⟩
   case round =>
    clear HB HQ HS HR HI;obtain⟨k,r,z,R,hk,rfl,hz,hI,hM,hD,hQ,hB,hS⟩:=hrel
    by_cases dY:0<k
    ·obtain⟨j,rfl⟩:∃j,k=j+1:=⟨k-1,by omega⟩;obtain rfl:z=(j:Int):=by have:=hz.o;omega
     have dX:(j:Int)<n:=by omega
     have bI:=(H.o.below hB.o).cell j (by omega);obtain⟨d,hd⟩:=qX (dg M j);have aD:d<10000:=by rw [<-hd];exact H.o.dig j
     rw [hd] at bI;obtain⟨ar,br,or,cr,nr,T,rfl,lr,dJ,eu,CR,DR,bA⟩:=hD.o;have Hd:=qH hd;have HT:=qH (qA lr (qA CR (qA DR bA)));clear hd lr CR DR bA
     go_wp2_with (at_builtin;refine qfE (S:=[d]) rfl _ _ rfl ((Below.refl _ wr).alloc qN _) rfl (qkP wr d 3 rfl qN) (HT.o.2.1.below ((Below.refl _ wr).alloc qN _)) HT.o.1 rfl rfl (by omega) ?_)
     intro v1 w1 bP av;have aW:Dig ([d]++T):=(Dig.nil.snoc (d:=d) aD).append HT.o.2.2.1;have HC:=qH (cut_hi _ _ _ _ w1 bP.o aW (by omega));have hv:mval (d :: T)=d+10000*r:=by rw [<-HT.o.2.2.2];rfl
     rw [hv] at HC;have bq:=qH (hB.o.trans (av.o.mono (by have:=hS.o;omega)));have bZ:=qH (own_below hQ.o av.o qN);have aB:=qH (show w.heap.size<w1.heap.size by have:=av.o.size;have:=hS.o;omega);clear hM hD hQ hB aW hv bP av bI
     go_wp2_with (go_at_call 235;refine HC.o.mono ?_)
     rintro e w2 ⟨u,rfl,e2,hu⟩;rw [e2];clear e2;obtain⟨au,bu,ou,cu,nu,U,rfl,IU,bF,aC⟩:=hu;obtain⟨t,ht⟩:=qX (d+10000*r);rw [ht] at aC;have bR:t<mval O*10000:=by have:=hI.o.rest;omega
     have ax:Fit t (n1+2):=by
      have a:=E.o.dig.lt;rw [E.o.len,Hn.o.1] at a;unfold Fit;rw [show n1+2=n1+1+1 from rfl,qaF];omega
     have dD:nu<=n1+2:=by rw [<-IU.len];exact IU.nrm.len (by rw [aC];exact ax)
     have aJ:0<nu->w.heap.size+1<=bu:=fun h=>qak hS.o (bF h)
     have Y:=qH (qA IU (qA aJ aC));clear aJ;have ai:=qH (qA ht (qA bR ax));clear IU bF aC HC bR ax ht;go_wp2_with fail
     go_loopw [13,14] (fun x13 x14 W=>∃(kk f:Nat) (zz:Int),n2<=kk/\kk<=n1+2/\x14=.int .i64 zz/\Hu (zz+1=kk)/\x13=.int .i64 f/\Hu (f=mval (U.drop kk))/\f<1000000000000/\W=w1) (fun _ x14 _=>(intOf x14+1).toNat)
     case atStart=>exact⟨n1+2,0,_,by have:=Hn.o.2.1;omega,qad _,rfl,qH (by omega),rfl,qH (by rw [qaM (by rw [Y.o.1.len];exact dD)];rfl),by decide,rfl⟩
     case round =>
      obtain⟨kk,f,zz,dZ,dG,rfl,bU,rfl,hf,dS,hW⟩:=hrel;have cB:=hW.symm;clear hW;subst cB
      by_cases eB:n2<kk
      ·obtain⟨q,rfl⟩:∃q,kk=q+1:=⟨kk-1,by omega⟩;obtain rfl:zz=(q:Int):=by have:=bU.o;omega
       have eD:(n2:Int)<=q:=by omega
       by_cases dB:q<nu
       ·have df:=Y.o.1.addr (by omega);subst df;have di:=Y.o.1.cell q dB;obtain⟨x,hx⟩:=qX (dg U q);have eH:x<10000:=by rw [<-hx];exact Y.o.1.dig q
        rw [hx] at di;have hs:=qh4 hf.o hx;have az:=qle (q:=q) Y.o.1.dig Y.o.1.len (by have:=Hn.o.2.1;omega);rw [<-hs] at az;have Hs:=qH hs;clear hs hx;go_wp2;go_roundw
        case rel=>exact⟨q,f*10000+x,_,by omega,by omega,rfl,qH (by omega),by go_num,Hs,az,trivial⟩
        case measure=>simp [intOf]
       ·have hs:=qh4 (x:=0) hf.o (qc4 (by rw [Y.o.1.len];omega));have az:=qle (q:=q) Y.o.1.dig Y.o.1.len (by have:=Hn.o.2.1;omega);rw [<-hs] at az;have Hs:=qH hs;clear hs;go_wp2;go_roundw
        case rel=>exact⟨q,f*10000+0,_,by omega,by omega,rfl,qH (by omega),by go_num,Hs,az,trivial⟩
        case measure=>simp [intOf]
      ·obtain rfl:kk=n2:=by omega
       have bK:t / 10000 ^ kk=f:=by rw [hf.o,qiL Y.o.1.dig,Y.o.2.2]
       have hH:=Half.start Ht.o.1 Ht.o.2.1 ai.o.2.1 Ht.o.2.2.1;rw [bK] at hH;obtain⟨T1,bz⟩:=qX (top+1);obtain⟨F,aG⟩:=qX (f / T1);obtain⟨h',aS⟩:=qX (f / top);obtain⟨hi,bM⟩:=qX (h'+1);rw [bz,aG,aS,bM] at hH;have f1:(top:Int)+1=T1:=by omega
       have f2:=tdivN f T1 F aG;have f3:=tdivN f top h' aS;have f4:(h':Int)+1=hi:=by omega
       have f5:((T1:Int) == 0)=false:=by rw [beq_eq_false_iff_ne];omega
       have f6:((top:Int) == 0)=false:=by rw [beq_eq_false_iff_ne];omega
       have f7:¬T1=0:=by omega
       have f8:¬top=0:=by omega
       have f9:=hH.bound;have bn:=hH.less;have HH:=qH hH;have bX:f / T1=F:=aG;have dH:zz<kk:=by have:=bU.o;omega
       clear hH bK bz aG aS bM;go_wp2_with fail
       go_quiet (fail)
       go_wp2_with fail;clear f2 f3 f4 f5 f6 f7 f8 bX
       go_loopw [15,16] (fun x15 x16 W=>∃F hi:Nat,x15=.int .i64 F/\x16=.int .i64 hi/\Hu (Half (mval O) t F hi)/\F<hi/\hi<=10001/\Hu (Below w1.heap.size w1 W)) (fun x15 x16 _=>(intOf x16-intOf x15).toNat)
       case atStart=>exact⟨F,hi,rfl,rfl,HH,bn,f9,qH (below_drewN qB _)⟩
       case round =>
        clear HH f9 bn;obtain⟨F,hi,rfl,rfl,hH,d9,dm,I⟩:=hrel
        by_cases dV:1<hi-F
        ·obtain⟨s2,dC⟩:=qX (F+hi);obtain⟨m,hm⟩:=qX (s2 / 2);have g1:(F:Int)+hi=s2:=by omega
         have g2:(s2:Int) / 2=m:=by omega
         have g3:(1:Int)<(hi:Int)-F:=by omega
         have dz:F<m:=by omega
         have dw:m<hi:=by omega
         have J:DigAt (wr.alloc (.cells #[.int .i64 (m:Int)] 3)) (.slice (some ⟨bo,oo,none⟩) no co) (mval O) no:=⟨_,bo,oo,co,no,O,rfl,E.o.len,E.o.cap,qad _,E.o.cells.below ((bq.o.trans (I.o.mono (by have:=aB.o;omega))).alloc (by have:=I.o.size;have:=aB.o;omega) _),E.o.dig,rfl⟩;have HP:=qH (qfC (mval O) m no 1 (by omega) _ _ _ J (SecAt.one (by omega) (heap_alloc_new wr _)));have Hh:=qH (qA dz dw);clear J dC hm
         go_wp2_with (go_at_call 178;refine HP.o.mono ?_)
         rintro e wp ⟨p,rfl,bE,hp⟩;have aR:Fit (mval O*m) (no+2):=by
          have a:Fit (mval O) no:=by have:=E.o.dig.lt;rwa [E.o.len] at this
          have b:Fit m 2:=by unfold Fit;omega
          exact a.mul b
         have bL:Fit t (no+2):=ai.o.2.2.mono (by have:=Hn.o.1;omega);have aO:Below w1.heap.size w1 wp:=(I.o.alloc I.o.size _).trans (bE.mono (by have:=I.o.size;simp;omega));have aV:=qH (qfN _ (no+2) p wp (hp.digs aR) (by omega));have bV:=qH (show MagAt wp (.slice au nu cu) t from MagAt.below ⟨au,bu,ou,cu,nu,U,rfl,Y.o.1,Y.o.2.2⟩ aO);have bf:=qH aO;have Hf:=qH (qA aR bL);clear aO aR bL bE hp HP
         go_wp2_with (go_at_call 235;refine aV.o.mono ?_)
         rintro e wq ⟨p2,rfl,e2,bQ⟩;rw [e2];clear e2;have aY:=qH (qeW (mval O*m) t (no+2) (by omega) p2 _ wp bQ bV.o Hf.o.1 Hf.o.2);clear bQ aV
         go_wp2_with (go_at_call 176;refine aY.o.mono ?_)
         rintro e wo ⟨ro,rfl,bD,af,aF⟩;have aZ:=qH (bf.o.trans (bD.mono bf.o.size));clear bD aY
         by_cases eG:ro<=0
         ·have HN:=qH (hH.o.up Hh.o.2 (by
            rcases (show ro<0\/ro=0 by omega) with h | h
            ·have:=af.1 h;omega
            ·have:=aF.1 h;omega))
          clear af aF;go_wp2;go_roundw
          case rel=>exact⟨m,hi,rfl,rfl,HN,Hh.o.2,dm,aZ⟩
          case measure=>have:=Hh.o;simp [intOf];omega
         ·have HN:=qH (hH.o.down Hh.o.1 (qan Hh.o.2) (by
            rcases Nat.lt_trichotomy (mval O*m) t with h | h | h
            ·have:=af.2 h;omega
            ·have:=aF.2 h;omega
            ·exact h))
          clear af aF;go_wp2;go_roundw
          case rel=>exact⟨F,m,rfl,rfl,HN,Hh.o.1,by have:=Hh.o.2;omega,aZ⟩
          case measure=>have:=Hh.o;simp [intOf];omega
        ·have aa:=hH.o.done (by omega);have dn:R.length=L:=hI.o.len;have aA:=own_below bZ.o I.o qN;have dR:wr.cell? ⟨w.heap.size,j,none⟩=some (.int .i64 ((dg R j:Nat):Int)):=(aA.cellAt j (by omega)).trans (qeu R j (by omega));have dU:wr.frozen? ⟨w.heap.size,j,none⟩=false:=aA.frozenAt j;have dW:(j:Int)<L:=by omega
         have ed:¬(1:Int)<(hi:Int)-F:=by omega
         have aK:=hI.o.digit aD;have hstep:=hI.o.step (k:=j) (by omega) Hd.o aD;rw [ai.o.1,aa] at hstep;rw [ai.o.1,aa] at aK;have ag:=(bq.o.trans (I.o.mono (qan aB.o))).setCell (p:=⟨w.heap.size,j,none⟩) qN (.int .i64 (F:Int));have Z:w.heap.size<(wr.setCell ⟨w.heap.size,j,none⟩ (.int .i64 (F:Int))).heap.size:=by have:=I.o.size;have:=aB.o;simp;omega
         have ak:MagHi (wr.setCell ⟨w.heap.size,j,none⟩ (.int .i64 (F:Int))) (w.heap.size+1) (.slice au nu cu) t:=(MagHi.below ⟨au,bu,ou,cu,nu,U,rfl,Y.o.1,Y.o.2.1,Y.o.2.2⟩ I.o).set (by omega);have aj:=qg1 aA j F rfl;have ay:mval O*F<=t:=by have:=hH.o.least;rwa [qav] at this
         have J:DigAt ((wr.setCell ⟨w.heap.size,j,none⟩ (.int .i64 (F:Int))).alloc (.cells #[.int .i64 (F:Int)] 3)) (.slice (some ⟨bo,oo,none⟩) no co) (mval O) no:=⟨_,bo,oo,co,no,O,rfl,E.o.len,E.o.cap,qad _,E.o.cells.below (ag.alloc (qan Z) _),E.o.dig,rfl⟩;have aN:=heap_alloc_new (wr.setCell ⟨w.heap.size,j,none⟩ (.int .i64 (F:Int))) (.cells #[.int .i64 (F:Int)] 3);rw [show (wr.setCell ⟨w.heap.size,j,none⟩ (.int .i64 (F:Int))).heap.size=wr.heap.size by simp] at aN;have HP:=qH (qfC (mval O) F no 1 (by omega) _ _ _ J (SecAt.one (by omega) aN));clear aN;have HX:=qH (qA hstep (qA ag (qA Z (qA ak (qA aj ay)))));clear J hstep ag Z ak aj ay aA dn aa aK
         go_wp2_with (go_at_call 178;refine HP.o.mono ?_)
         intro e wp p he aI hp;subst he;have V:=qnb aI (by simp);have cK:=HX.o;obtain⟨hstep,ag,Z,ak,aj,ay⟩:=cK;have aX:=qH (qei t (mval O*F) (n1+2) (by omega) _ p wp (ak.mag.below V) hp ai.o.2.2 ay);have bY:=qH (ag.trans (V.mono (qan Z)));have cz:=qH (own_below aj V qN);have bv:=qH (qai Z V.size);have bB:=qH hstep;clear hstep ag Z ak aj ay aI V hp HX HP
         go_wp2_with (go_at_call 177;refine aX.o.mono ?_)
         rintro e wd ⟨v3,rfl,bC,bS⟩;have bi:=qH bS;have aM:=qH bC;clear bS bC aX;go_wp2;go_roundw
         case rel =>
          refine⟨j,_,_,R.set j F,by omega,rfl,qH (by omega),bB,qH (fun _=>bi.o),qH (bi.o.digs ?_),qH (own_below cz.o aM.o qN),qH (bY.o.trans (aM.o.mono (qan bv.o))),qH (qai bv.o aM.o.size)⟩;have a:=E.o.dig.lt;have b:=bB.o.rest;rw [E.o.len,Hn.o.1] at a;exact Nat.lt_trans b a
         case measure=>simp [intOf]
    ·obtain rfl:k=0:=by omega
     obtain rfl:z = -1:=by have:=hz.o;omega
     have HD:=qH (qdj (N:=L) hQ.o hI.o.dig qN);have HH:=qou hQ.o;rw [hI.o.done.1] at HD;have HR:=qH (hM.o (by have:=Hn.o.2.2;omega));rw [hI.o.done.2] at HR
     go_wp2_with (first | (go_at_call 235;refine (qko _ L _ _ HD.o (by omega)).mono ?_;rintro e w1 ⟨u,rfl,rfl,hu,hh⟩) | fail)
     go_ret2
     exact⟨_,_,rfl,hB.o,hu,HR.o,hh _ HH⟩
open Go.Lib
theorem qlF:∀(k j a d:Nat),d<10 ^ k->padk (j+k) (a*10 ^ k+d)=padk j a++padk k d
 | 0,j,a,d,h=>by
  have:d=0:=by simpa using h
  subst this;simp [padk]
 | k+1,j,a,d,h=>by
  have e:a*10 ^ (k+1)=a*10 ^ k*10:=by rw [qaF,qay]
  show padk (j+k+1) _=_
  rw [padk,padk,e,show (a*10 ^ k*10+d) / 10=a*10 ^ k+d / 10 by omega,show (a*10 ^ k*10+d) % 10=d % 10 by omega,qlF k j a (d / 10) (by rw [qaF] at h;omega),qaG]
def gtx:List Nat->List UInt8
 | []=>[]
 | d :: l=>gtx l++padk 4 d
theorem gtx_eq:∀(L:List Nat),(∀d∈L,d<10000)->gtx L=padk (4*L.length) (mval L)
 | [],_=>rfl
 | d :: L,h=>by
  have E:=qlF 4 (4*L.length) (mval L) d (h d qba);have e:mval (d :: L)=mval L*10 ^ 4+d:=by
   show d+10000*mval L=mval L*10000+d
   omega
  rw [e]
  show gtx L++padk 4 d=padk (4*L.length+4) _
  rw [E,gtx_eq L (fun x hx=>h x (qbn _ hx))]
theorem gtx_drop {L:List Nat} {j:Nat} (h:j<L.length):gtx (L.drop j)=gtx (L.drop (j+1))++padk 4 (dg L j):=by
 rw [qbg h,gtx];unfold dg;rw [qaa,qac h];rfl
theorem pow4 (k:Nat):(10000:Nat) ^ k=10 ^ (4*k):=by rw [Nat.pow_mul]
theorem qnG (L:List Nat):(gtx L).length=4*L.length:=by
 induction L with
 | nil=>rfl
 | cons d L ih=>rw [gtx,qaf,ih,qgW,qbH];omega
def bare (x:Nat):List UInt8:=if x=0 then [] else decDigits x
theorem qnH {L:List Nat} (I:Dig L):∃z,gtx L=List.replicate z 48++bare (mval L):=by
 have F:=gtx_eq L I.mem;have H:=I.lt;rw [pow4] at H;unfold bare
 by_cases E:mval L=0
 ·rw [if_pos E];rw [E,qgu] at F;exact⟨4*L.length,by rw [F,qbj]⟩
 ·rw [if_neg E];have J:0<4*L.length:=by
   rcases qaN L.length with h | h
   ·rw [qbk.1 h] at E;exact absurd rfl E
   ·omega
  exact⟨_,by rw [F,qkQ _ _ J H]⟩
theorem qna {x:Nat} {c:UInt8} {t:List UInt8} (h:bare x=c :: t):c≠48:=by
 unfold bare at h;split at h
 ·cases h
 ·rintro rfl;rename_i E;exact E (qfq x (by rw [h];rfl))
theorem qll {v m:Nat} (h:v<10 ^ m) (E:m<=4):v<10000:=qai h (qaO (n:=10) (by decide) E)
theorem qjk {v m:Nat} (h:v<10 ^ m) (E:m<=3):v<1000:=qai h (qaO (n:=10) (by decide) E)
theorem qnP {L:List UInt8} {S:List Nat} {E i k v:Nat} (F:S.length=k) (h:mval S+10000 ^ k*dval (L.take i)=dval L) (J:dval (L.take i)=dval (L.take E)*10 ^ (i-E)+v) (I:(E=0/\i<=4)\/E+4=i) :
  mval (S++[v])+10000 ^ (k+1)*dval (L.take E)=dval L:=by
 rw [J,qa7] at h;rw [qc1,F,qaF,<-h];refine qh5 ?_;rcases I with ⟨H,_⟩ | H
 ·subst H;have e:dval (L.take 0)=0:=rfl;rw [e,Nat.zero_mul,Nat.zero_mul]
 ·have e:i-E=4:=by omega
  rw [e]
theorem fit_len {v n k:Nat} (h:v<10 ^ n) (E:n<=4*k):Fit v k:=by
 unfold Fit;rw [pow4];exact qai h (qaO (by decide) E)
theorem qeN {s:List UInt8} (h:Valid s):Fit (ival s).natAbs 150:=by
 rw [h.natAbs];exact fit_len (qkv _ _ rfl h.nums) (by have:=h.le;omega)
def qca (W:World) (v:Value) (z:Int):Prop:=∃m,v=.agg #[.bool (decide (z<0)),m]/\MagAt W m z.natAbs
theorem qca.below {W W':World} {v:Value} {z:Int} (h:qca W v z) (H:Below W.heap.size W W'):qca W' v z:=by
 obtain⟨m,E,F⟩:=h;exact⟨m,E,F.below H⟩
theorem qca.shape {W:World} {v:Value} {z:Int} (h:qca W v z):∃(b:Bool) (a:Option Addr) (n c:Nat),v=.agg #[.bool b,.slice a n c]:=by
 obtain⟨m,rfl,am,bm,H,cm,n,M,rfl,F,E⟩:=h;exact⟨_,am,n,cm,rfl⟩
theorem qmk {W:World} {m:Value} {x:Nat} {neg:Bool} (h:MagAt W m x):qca W (.agg #[.bool (neg && !decide (x=0)),m]) (if neg=true then -(x:Int) else x):=by
 have F:(neg && !decide (x=0))=decide ((if neg=true then -(x:Int) else x)<0):=by
  cases neg with
  | false=>rw [Bool.false_and,if_neg (by simp)];exact (qU (by omega)).symm
  | true =>
   rw [if_pos rfl,Bool.true_and]
   by_cases E:x=0
   ·rw [qV E];exact (qU (by omega)).symm
   ·rw [qU E];exact (qV (by omega)).symm
 rw [F];refine⟨m,rfl,?_⟩;cases neg with
 | false=>simpa using h
 | true=>rw [if_pos rfl,qbv,qas];exact h
theorem qgT {W:World} {E:Option Addr} {b off c n:Nat} {L:List Nat} (h:IsM W E b off c n L):n=0↔mval L=0:=by rw [h.nrm.zero,h.len]
theorem qnT {W:World} {F:Option Addr} {b off c n g:Nat} {L:List Nat} {cs:Array Value} {t:TypeId} {H:Nat×Nat} (h:IsM W F b off c n L) (hg:W.heap[g]? = some (.cells cs t H)) (hne:∀x∈cs.toList,∀d,x≠.int .i64 d) (I:0<n):b≠g:=by
 rintro rfl;have E:=h.cell 0 I;unfold World.cell? at E;simp only [hg] at E;have J:cs[off+0]? = some (.int .i64 ((dg L 0:Nat):Int)):=by
  simpa using E
 exact hne _ (by rw [Array.mem_toList_iff];exact Array.mem_of_getElem? J) _ rfl
theorem qcA {W W':World} {v:Value} {x g:Nat} {cs:Array Value} {t:TypeId} {F:Nat×Nat} (h:MagAt W v x) (J:W.grownBy W' (some g)) (hg:W.heap[g]? = some (.cells cs t F)) (hne:∀x∈cs.toList,∀d,x≠.int .i64 d):MagAt W' v x:=by
 obtain⟨ao,b,off,c,n,L,rfl,E,I⟩:=h;exact⟨ao,b,off,c,n,L,rfl,⟨E.len,E.cap,qfb J E.cells (fun H=>qnT E hg hne (by rw [<-E.len];exact H)),E.dig,E.nrm⟩,I⟩
theorem qda {W:World} {v:Value} {x g:Nat} {cs cs':Array Value} {t:TypeId} {E:Nat×Nat} (h:MagAt W v x) (hg:W.heap[g]? = some (.cells cs t E)) (hne:∀x∈cs.toList,∀d,x≠.int .i64 d):MagAt (W.setRow g cs') v x:=qcA h (qcn W g cs') hg hne
theorem qmx {W W':World} {v:Value} {z:Int} {g:Nat} {cs:Array Value} {t:TypeId} {E:Nat×Nat} (h:qca W v z) (I:W.grownBy W' (some g)) (hg:W.heap[g]? = some (.cells cs t E)) (hne:∀x∈cs.toList,∀d,x≠.int .i64 d):qca W' v z:=by
 obtain⟨m,F,H⟩:=h;exact⟨m,F,qcA H I hg hne⟩
theorem qcd {W:World} {v:Value} {z:Int} {g:Nat} {cs cs':Array Value} {t:TypeId} {E:Nat×Nat} (h:qca W v z) (hg:W.heap[g]? = some (.cells cs t E)) (hne:∀x∈cs.toList,∀d,x≠.int .i64 d):qca (W.setRow g cs') v z:=qmx h (qcn W g cs') hg hne
theorem nd2 (b:Bool) (a:Option Addr) (n c:Nat):∀x∈(#[.bool b,.slice a n c]:Array Value).toList,∀d,x≠.int .i64 d:=by
 intro x hx d;rcases qat.1 hx with rfl | hx
 ·intro h;cases h
 ·rw [qap.1 hx];intro h;cases h
theorem nd4 (b b':Bool) (a E:Option Addr) (n H c F:Nat):∀x∈(#[.bool b,.slice a n c,.bool b',.slice E H F]:Array Value).toList,∀d,x≠.int .i64 d:=by
 intro x hx d;rcases qat.1 hx with rfl | hx
 ·intro h;cases h
 rcases qat.1 hx with rfl | hx
 ·intro h;cases h
 rcases qat.1 hx with rfl | hx
 ·intro h;cases h
 ·rw [qap.1 hx];intro h;cases h
theorem qgZ (W:World) (g k:Nat) (v:Value):W.grownBy (W.setCell ⟨g,k,none⟩ v) (some g) :=
 ⟨rfl,rfl,rfl,by simp [World.setCell],fun i _ hr=>qW _ _ _ _ (fun e=>hr (by rw [e]))⟩
theorem qnL {B:Nat} {b m:Value} (h:HiS B m):HiP B (.agg #[b,m]):=fun b' x e=>by
 simp only [qaX,qa1,qaV,and_true] at e;rw [<-e.2];exact h
theorem qlx (x N:Nat) (neg:Bool) (J:Value) (w:World) (hm:DigAt w J x N) (hN:N<=17592186044416) :
  Calls prog 174 #[.bool neg,J] w fun e w'=>∃v,e=.returned v/\Below w.heap.size w w'/\qca w' v (if neg=true then -(x:Int) else x)/\∀B,HiS B J->HiP B v:=by
 have hc:=fun (W:World) (h:Below w.heap.size w W)=>qko x N J W (hm.below h) hN
 obtain⟨ao,b,off,c0,n0,L,rfl,_,_,_,_,_,_⟩:=hm;have HC:=qH hc;have F:Below w.heap.size w (w.alloc (.cells #[.bool false,.slice none 0 0] 105)):=qB.alloc qN _;have E:=qH (qA F (qM w (.cells #[.bool false,.slice none 0 0] 105) _ rfl));clear hc F;go_enter func174,ntmps174
 go_wp2_with (go_at_call 235;refine (HC.o _ E.o.1).mono ?_)
 rintro e w1 ⟨u,rfl,rfl,⟨am,bm,om,c,n,M,rfl,Y,hx⟩,hh⟩;have H:n=0↔x=0:=by rw [qgT Y,hx]
 have hM:MagAt (w.alloc (.cells #[.bool false,.slice none 0 0] 105)) (.slice am n c) x:=⟨am,bm,om,c,n,M,rfl,Y,hx⟩;have hP:=fun b=>qcd (cs':=#[.bool b,.slice am n c]) (qmk (neg:=neg) hM) E.o.2 (nd2 false none 0 0)
 have U:=qH hP;have V:=fun b=>qH (qS E.o.1 qN #[.bool b,.slice am n c])
 have Hn:=qH H;have O:=qH hh;clear hP H hM Y hx hh;cases neg with
 | false =>
  go_wp2_with (with_reducible refine sR_ rfl 105 _ _ rfl (w.heap.size) #[.bool false,.slice am n c] E.o.2 2 ?_)
  refine qR (v:=.agg #[.bool false,.slice am n c]) (rA_ rfl (w.heap.size) (qT _ _ _ _ _ _ E.o.2) underlying105 2) rfl ⟨_,rfl,(V false).o,?_,fun B h=>qnL (O.o B h)⟩;exact U.o false
 | true =>
  by_cases Z:n=0
  ·subst Z
   go_wp2_with (with_reducible refine sR_ rfl 105 _ _ rfl (w.heap.size) #[.bool false,.slice am 0 c] E.o.2 2 ?_)
   refine qR (v:=.agg #[.bool false,.slice am 0 c]) (rA_ rfl (w.heap.size) (qT _ _ _ _ _ _ E.o.2) underlying105 2) rfl ⟨_,rfl,(V false).o,?_,fun B h=>qnL (O.o B h)⟩;have aa:x=0:=by simpa using Hn.o
   have:=U.o false
   rwa [show (true && !decide (x=0))=false by rw [aa];rfl] at this
  ·have I:¬x=0:=fun h=>Z (Hn.o.2 h)
   have Hx:=qH I;clear I;have ae:0<n:=by omega
   clear Z
   go_wp2_with (with_reducible refine sR_ rfl 105 _ _ rfl (w.heap.size) #[.bool true,.slice am n c] E.o.2 2 ?_)
   refine qR (v:=.agg #[.bool true,.slice am n c]) (rA_ rfl (w.heap.size) (qT _ _ _ _ _ _ E.o.2) underlying105 2) rfl ⟨_,rfl,(V true).o,?_,fun B h=>qnL (O.o B h)⟩;have:=U.o true
   rwa [show (true && !decide (x=0))=true by rw [qU Hx.o];rfl] at this
theorem qdW (x N:Nat) (neg:Bool) (E:Value) (w:World) (J:DigAt w E x N) (hN:N<=17592186044416) :
  Calls prog 174 #[.bool neg,E] w fun e w'=>∃v,e=.returned v/\Below w.heap.size w w'/\qca w' v (if neg=true then -(x:Int) else x) :=
 (qlx x N neg E w J hN).mono fun _ _ ⟨v,F,H,I,_⟩=>⟨v,F,H,I⟩
end Go.Proofs.YtjalhnlhcdfncaaGreatDoor.p4
namespace Go.Proofs.YtjalhnlhcdfncaaGreatDoor.p4
open Go.RowKit Go.Proofs.Tryz
theorem turn_any (z:Int) (K:Nat) (hK:K<=17592186044416) (v:Value) (w:World) (hv:qca w v z) (hz:Fit z.natAbs K) :
  Calls prog 172 #[v] w fun e w'=>∃u,e=.returned u/\Below w.heap.size w w'/\qca w' u (-z):=by
 obtain⟨m,rfl,hm⟩:=hv;have hs:=fun (W:World) (h:Below w.heap.size w W)=>qdW z.natAbs K (!decide (z<0)) m W ((hm.below h).digs hz) hK
 have Y:(if (!decide (z<0))=true then -(z.natAbs:Int) else (z.natAbs:Int)) = -z:=by
  by_cases h:z<0
  ·rw [qV h,if_neg (by decide)];omega
  ·rw [qU h,if_pos (by decide)];omega
 rw [Y] at hs;have HS:=qH hs;generalize decide (z<0)=b at *;obtain⟨am,bm,om,cm,n,M,rfl,Im,aa⟩:=hm;clear hs Y Im aa hz;obtain⟨W1,H⟩:=qY ((w.alloc (.cells #[.bool b,.slice am n cm] 105)).alloc (.cells #[.bool false,.slice none 0 0] 105));have I:Below w.heap.size w W1:=H▸qb4 (qb4 qB qN) qN;have O:W1.heap[w.heap.size+1]? = some (.cells #[.bool false,.slice none 0 0] 105 (0,0)):=by rw [H];exact qM _ _ _ (by simp)
 go_enter func172,ntmps172;go_wp2_with fail;rw [<-H];refine (HS.o _ I).mono ?_;rintro e w2 ⟨u,rfl,J,U⟩;have E:=(J.block (w.heap.size+1) (qG O).1).trans O;have F:Below w.heap.size w w2:=I.trans (J.mono I.size);clear H I O;obtain⟨b9,a9,n9,c9,rfl⟩:=U.shape;have V:=qcd (cs':=#[.bool b9,.slice a9 n9 c9]) U E (nd2 _ _ _ _);have Z:=qH (qA E (qA F (qS F (show w.heap.size<=w.heap.size+1 by omega) #[.bool b9,.slice a9 n9 c9])));have HV:=qH V;clear E F V J U
 go_wp2_with (with_reducible refine sR_ rfl 105 _ _ rfl (w.heap.size+1) #[.bool b9,.slice a9 n9 c9] Z.o.1 2 ?_)
 exact qR (v:=.agg #[.bool b9,.slice a9 n9 c9]) (rA_ rfl (w.heap.size+1) (qT _ _ _ _ _ _ Z.o.1) underlying105 2) rfl ⟨_,rfl,Z.o.2.2,HV.o⟩
structure IntInv (n m k:Nat) (S:List Nat):Prop where
 len:S.length=k
 dig:Dig S
 val:mval S+10000 ^ k*m=n
 fit:m<10000 ^ (5-k)
theorem IntInv.start {n:Nat} (h:n<100000000000000000000):IntInv n n 0 []:=⟨rfl,Dig.nil,by simp [mval],by simpa using h⟩
theorem IntInv.lt {n m k:Nat} {S:List Nat} (h:IntInv n m k S) (F:k<=5) (E:m≠0):k<5:=by
 rcases qaB k 5 with h1 | h1
 ·exact h1
 ·obtain rfl:k=5:=by omega
  have:=h.fit;simp at this;omega
theorem IntInv.step {n m k:Nat} {S:List Nat} (h:IntInv n m k S) (H:k<5):IntInv n (m / 10000) (k+1) (S++[m % 10000]):=by
 refine⟨by rw [qaf,h.len];rfl,h.dig.snoc (qbS _ (by decide)),?_,?_⟩
 ·rw [qc1,h.len,<-h.val,qaF,Nat.add_assoc,qay,<-qa7]
  congr 2
  exact Nat.mod_add_div _ _
 ·have E:=h.fit;obtain⟨j,F⟩:∃j,5-k=j+1:=⟨4-k,by omega⟩;rw [F,qaF] at E;rw [show 5-(k+1)=j by omega];exact Nat.div_lt_of_lt_mul (by rw [qav];exact E)
theorem IntInv.done {n k:Nat} {S:List Nat} (h:IntInv n 0 k S):mval S=n:=by have:=h.val;simpa using this
theorem qkB (n:Int) (hn:n<0) (hr:-9223372036854775808<=n/\n<=9223372036854775807) (w:World) :
  Calls prog 98 #[.int .i64 n] w fun e w'=>∃v,e=.returned v/\Below w.heap.size w w'/\qca w' v n:=by
 obtain⟨O,H⟩:=qY (w.alloc (.cells #[.bool false,.slice none 0 0] 105));have ai:Below w.heap.size w O:=H▸qb4 qB qN;have ak:O.heap[w.heap.size]? = some (.cells #[.bool false,.slice none 0 0] 105 (0,0)):=by rw [H];exact qM _ _ _ rfl
 obtain⟨N,hN⟩:=qX n.natAbs;have HI:=qH (IntInv.start (n:=N) (by omega));have HN:=qH hN;have J:=qH (qA ai ak);have aF:=hr.1;have aG:=hr.2;have aC:decide (n<0)=true:=by exact qV hn
 have aA:n<0:=by omega
 clear hN ai ak hr;go_enter func98,ntmps98;go_wp2_with fail;rw [<-H];clear H
 go_loopw [0,3,5] (fun x0 x3 x5 W=>∃(z:Int) (m k:Nat) (S:List Nat),x0=.int .i64 z/\z<=0/\-9223372036854775808<=z/\k<=5/\Hu (z.natAbs=m)/\Hu (IntInv N m k S)/\Hu (W.ownsRow O.heap.size 3 1 x3 k (row64 S))/\Hu (Below O.heap.size O W)) (fun x0 _ _ _=>(intOf x0).natAbs)
 case atStart=>exact⟨n,N,0,[],rfl,by omega,by omega,qaj _,HN,HI,qH (World.ownsRow_nil _ _ _ _),qH qB⟩
 case round =>
  obtain⟨z,m,k,S,rfl,aL,aM,hk,hm,hI,hO,hB⟩:=hrel;have aB:=hB.o.size
  by_cases az:z=0
  ·subst az;obtain rfl:0=m:=hm.o;have hv:=hI.o.done;have HD:=qH (qdj (N:=5) hO.o hI.o.dig hk);rw [hv] at HD;have Y:=qdW N 5 true _ _ HD.o (by decide);rw [show (if true=true then -(N:Int) else N)=n by rw [<-HN.o];simp;omega] at Y;have HM:=qH Y;clear hv Y;go_wp2_with fail;refine HM.o.mono ?_;rintro e w2 ⟨u,rfl,aj,af⟩;have U:Below O.heap.size O w2:=hB.o.trans (aj.mono hB.o.size);have E:=(U.block w.heap.size (qG J.o.2).1).trans J.o.2;have F:Below w.heap.size w w2:=J.o.1.trans (U.mono J.o.1.size);obtain⟨b9,a9,n9,c9,rfl⟩:=af.shape;have au:=qcd (cs':=#[.bool b9,.slice a9 n9 c9]) af E (nd2 _ _ _ _);have J:=qH (qA E (qA F (qS F qN #[.bool b9,.slice a9 n9 c9])));have HV:=qH au;clear E F au aj af U
   go_wp2_with (with_reducible refine sR_ rfl 105 _ _ rfl (w.heap.size) #[.bool b9,.slice a9 n9 c9] J.o.1 2 ?_)
   exact qR (v:=.agg #[.bool b9,.slice a9 n9 c9]) (rA_ rfl (w.heap.size) (qT _ _ _ _ _ _ J.o.1) underlying105 2) rfl ⟨_,rfl,J.o.2.2,HV.o⟩
  ·obtain⟨q,hq⟩:=qX (m / 10000);obtain⟨r,aa⟩:=qX (m % 10000);have ax:=hm.o;have I:z = -(m:Int):=by omega
   have t1:z.tmod 10000 = -(r:Int):=by rw [I,Int.neg_tmod,tmodB m r aa]
   have t2:z.tdiv 10000 = -(q:Int):=by rw [I,Int.neg_tdiv,tdivB m q hq]
   have av:=hI.o.lt hk (by omega);have ae:=hI.o.step av;rw [hq,aa] at ae;have ag:=qH ae;have aH:r<10000:=by omega
   have aD:q<=922337203685478:=by omega
   have Hq:=qH (show q<m by omega);have ah:=qH I;have aN:z<0:=by omega
   have aO:(z != 0)=true:=by rw [bne_iff_ne];omega
   clear ae hq aa I ax
   by_cases ay:r=0
   ·subst ay
    go_wp2_with (first | (at_builtin;refine qcG (d:=0) rfl _ _ rfl hB.o rfl hO.o rfl rfl (by omega) rfl ?_;intro v' w' Z V) | fail)
    go_roundw
    case rel=>exact⟨_,q,k+1,S++[0],rfl,by omega,by omega,by omega,qH (by omega),ag,Z,V⟩
    case measure=>have:=Hq.o;have:=ah.o;simp [intOf];omega
   ·have aI:-(r:Int)<0:=by omega
    have aJ:0<r:=by omega
    have aK:- -(r:Int)=(r:Int):=by omega
    go_wp2_with (first | (at_builtin;refine qcG (d:=r) rfl _ _ rfl hB.o rfl hO.o rfl rfl (by omega) rfl ?_;intro v' w' Z V) | fail)
    go_roundw
    case rel=>exact⟨_,q,k+1,S++[r],rfl,by omega,by omega,by omega,qH (by omega),ag,Z,V⟩
    case measure=>have:=Hq.o;have:=ah.o;simp [intOf];omega
theorem qhf (n:Int) (hn:0<=n) (hr:-9223372036854775808<=n/\n<=9223372036854775807) (w:World) :
  Calls prog 98 #[.int .i64 n] w fun e w'=>∃v,e=.returned v/\Below w.heap.size w w'/\qca w' v n:=by
 obtain⟨O,H⟩:=qY (w.alloc (.cells #[.bool false,.slice none 0 0] 105));have aa:Below w.heap.size w O:=H▸qb4 qB qN;have af:O.heap[w.heap.size]? = some (.cells #[.bool false,.slice none 0 0] 105 (0,0)):=by rw [H];exact qM _ _ _ rfl
 obtain⟨N,hN⟩:=qX n.natAbs;have HI:=qH (IntInv.start (n:=N) (by omega));have HN:=qH hN;have J:=qH (qA aa af);have az:=hr.1;have aA:=hr.2;have ay:decide (n<0)=false:=by exact qU (by omega)
 have av:¬n<0:=by omega
 clear hN aa af hr;go_enter func98,ntmps98;go_wp2_with fail;rw [<-H];clear H
 go_loopw [0,3,5] (fun x0 x3 x5 W=>∃(z:Int) (m k:Nat) (S:List Nat),x0=.int .i64 z/\0<=z/\z<=9223372036854775807/\k<=5/\Hu (z.natAbs=m)/\Hu (IntInv N m k S)/\Hu (W.ownsRow O.heap.size 3 1 x3 k (row64 S))/\Hu (Below O.heap.size O W)) (fun x0 _ _ _=>(intOf x0).natAbs)
 case atStart=>exact⟨n,N,0,[],rfl,by omega,by omega,qaj _,HN,HI,qH (World.ownsRow_nil _ _ _ _),qH qB⟩
 case round =>
  obtain⟨z,m,k,S,rfl,aD,aF,hk,hm,hI,hO,hB⟩:=hrel;have ax:=hB.o.size
  by_cases au:z=0
  ·subst au;obtain rfl:0=m:=hm.o;have hv:=hI.o.done;have HD:=qH (qdj (N:=5) hO.o hI.o.dig hk);rw [hv] at HD;have I:=qdW N 5 false _ _ HD.o (by decide);rw [show (if false=true then -(N:Int) else N)=n by rw [<-HN.o];simp;omega] at I;have HM:=qH I;clear hv I;go_wp2_with fail;refine HM.o.mono ?_;rintro e w2 ⟨u,rfl,ae,Z⟩;have U:Below O.heap.size O w2:=hB.o.trans (ae.mono hB.o.size);have E:=(U.block w.heap.size (qG J.o.2).1).trans J.o.2;have F:Below w.heap.size w w2:=J.o.1.trans (U.mono J.o.1.size);obtain⟨b9,a9,n9,c9,rfl⟩:=Z.shape;have ag:=qcd (cs':=#[.bool b9,.slice a9 n9 c9]) Z E (nd2 _ _ _ _);have J:=qH (qA E (qA F (qS F qN #[.bool b9,.slice a9 n9 c9])));have HV:=qH ag;clear E F ag ae Z U
   go_wp2_with (with_reducible refine sR_ rfl 105 _ _ rfl (w.heap.size) #[.bool b9,.slice a9 n9 c9] J.o.1 2 ?_)
   exact qR (v:=.agg #[.bool b9,.slice a9 n9 c9]) (rA_ rfl (w.heap.size) (qT _ _ _ _ _ _ J.o.1) underlying105 2) rfl ⟨_,rfl,J.o.2.2,HV.o⟩
  ·obtain⟨q,hq⟩:=qX (m / 10000);obtain⟨r,V⟩:=qX (m % 10000);obtain rfl:z=(m:Int):=by have:=hm.o;omega
   have t1:(m:Int).tmod 10000=(r:Int):=tmodB m r V;have t2:(m:Int).tdiv 10000=(q:Int):=tdivB m q hq;have t3:(m:Int) % 10000=r:=by omega
   have t4:(m:Int) / 10000=q:=by omega
   have aj:=hI.o.lt hk (by omega);have Y:=hI.o.step aj;rw [hq,V] at Y;have ah:=qH Y;have aB:r<10000:=by omega
   have Hq:=qH (show q<m by omega);have I:0<m:=by omega
   have aG:((m:Int) != 0)=true:=by rw [bne_iff_ne];omega
   have aC:¬(r:Int)<0:=by omega
   clear Y hq V
   go_wp2_with (first | (at_builtin;refine qcG (d:=r) rfl _ _ rfl hB.o rfl hO.o rfl rfl (by omega) rfl ?_;intro v' w' ak ai) | fail)
   go_roundw
   case rel=>exact⟨_,q,k+1,S++[r],rfl,by omega,by omega,by omega,qH (by omega),ah,ak,ai⟩
   case measure=>have:=Hq.o;simp [intOf];omega
theorem qkA (n:Int) (hr:-9223372036854775808<=n/\n<=9223372036854775807) (w:World) :
  Calls prog 98 #[.int .i64 n] w fun e w'=>∃v,e=.returned v/\Below w.heap.size w w'/\qca w' v n:=by
 rcases Int.lt_or_le n 0 with h | h
 ·exact qkB n h hr w
 ·exact qhf n h hr w
theorem qkt (x y:Int) (K:Nat) (hK:K<=17592186000000) (v u:Value) (w:World) (hv:qca w v x) (hu:qca w u y) (hx:Fit x.natAbs K) (hy:Fit y.natAbs K) :
  Calls prog 139 #[v,u] w fun e w'=>∃u,e=.returned u/\Below w.heap.size w w'/\qca w' u ((x.natAbs.gcd y.natAbs:Nat):Int):=by
 obtain⟨m,rfl,hm⟩:=hv;obtain⟨o,rfl,ho⟩:=hu;generalize decide (x<0)=b0 at *;generalize decide (y<0)=b1 at *;have HM:=qH hm;have HO:=qH ho;obtain⟨a0,bm,om,c0,n0,M,rfl,Im,ax⟩:=hm;obtain⟨a1,bo,oo,c1,n1,O,rfl,Io,ay⟩:=ho;obtain⟨G,hG⟩:=qX (x.natAbs.gcd y.natAbs);rw [hG];have HF:=qH (qA hx (qA hy (qA hG hK)));clear Im ax Io ay hx hy hG hK;obtain⟨U,H⟩:=qY (((w.alloc (.cells #[.bool b0,.slice a0 n0 c0] 105)).alloc (.cells #[.bool b1,.slice a1 n1 c1] 105)).alloc (.cells #[.bool false,.slice none 0 0] 105));have af:Below w.heap.size w U:=H▸qb4 (qb4 (qb4 qB qN) qN) qN;have ah:U.heap[w.heap.size]? = some (.cells #[.bool b0,.slice a0 n0 c0] 105 (0,0)):=by rw [H,qL _ _ _ (by simp only [qab];omega),qL _ _ _ (by simp only [qab];omega)];exact qM _ _ _ rfl
 have ai:U.heap[w.heap.size+1]? = some (.cells #[.bool b1,.slice a1 n1 c1] 105 (0,0)):=by rw [H,qL _ _ _ (by simp only [qab];omega)];exact qM _ _ _ (by simp)
 have aj:U.heap[w.heap.size+1+1]? = some (.cells #[.bool false,.slice none 0 0] 105 (0,0)):=by rw [H];exact qM _ _ _ (by simp)
 have az:=qC U _ 1 _ _ _ ah;have aA:=qC U _ 1 _ _ _ ai;have HR:=qH (qA af aj);clear ah ai aj af;go_enter func139,ntmps139;go_wp2_with fail;rw [<-H];clear H
 go_quiet (fail)
 go_wp2_with fail;have E:Hu (Below w.heap.size w (U.drewN nq)/\(U.drewN nq).heap[w.heap.size+1+1]? = some (.cells #[.bool false,.slice none 0 0] 105 (0,0))):=qH ⟨below_drewN HR.o.1 nq,HR.o.2⟩;obtain⟨W2,Z⟩:=qY (U.drewN nq);rw [<-Z] at E;rw [<-Z];clear Z az aA
 go_loopg [5,6,7,8] y.natAbs (fun b x5 x6 x7 x8 W=>∃a:Nat,Hu (MagAt W x5 a)/\Hu (MagAt W x6 b)/\Hu (Fit a K/\Fit b K/\a.gcd b=G)/\Hu (Below W2.heap.size W2 W))
 case atStart=>exact⟨x.natAbs,qH (HM.o.below E.o.1),qH (HO.o.below E.o.1),qH ⟨HF.o.1,HF.o.2.1,HF.o.2.2.1⟩,qH qB⟩
 case round =>
  obtain⟨a,ha,hb,hF,hB⟩:=hrel;have au:=hb.o;obtain⟨a6,b6,o6,c6,n6,B6,rfl,I6,aa⟩:=au;have J:=qgT I6;rw [aa] at J;clear I6 aa
  by_cases V:n6=0
  ·have Y:=J.1 V;subst V;obtain rfl:gk=0:=Y;have ae:MagAt wr u5 G:=by have h:=hF.o.2.2;rw [Nat.gcd_zero_right] at h;rw [<-h];exact ha.o
   have HG:qca wr (.agg #[.bool false,u5]) (G:Int):=⟨u5,by rw [qU (by omega)],by simpa using ae⟩;obtain⟨a5,b5,o5,c5,n5,B5,rfl,_,_⟩:=ae;have F:=(hB.o.block (w.heap.size+1+1) (qG E.o.2).1).trans E.o.2;have I:Below w.heap.size w wr:=E.o.1.trans (hB.o.mono E.o.1.size);have ak:=qcd (cs':=#[.bool false,.slice a5 n5 c5]) HG F (nd2 _ _ _ _);have HR:=qH (qA F (qA I (qS I (show w.heap.size<=w.heap.size+1+1 by omega) #[.bool false,.slice a5 n5 c5])));have HV:=qH ak;clear F I ak HG J
   go_wp2_with (with_reducible refine sR_ rfl 105 _ _ rfl (w.heap.size+1+1) #[.bool false,.slice a5 n5 c5] HR.o.1 2 ?_)
   exact qR (v:=.agg #[.bool false,.slice a5 n5 c5]) (rA_ rfl (w.heap.size+1+1) (qT _ _ _ _ _ _ HR.o.1) underlying105 2) rfl ⟨_,rfl,HR.o.2.2,HV.o⟩
  ·have Y:gk≠0:=fun h=>V (J.2 h)
   have aB:(0:Int)<n6:=by omega
   have HD:=qH (qox a gk K (by have:=HF.o.2.2.2;omega) u5 _ wr ha.o hb.o hF.o.1 hF.o.2.1 (by omega));have av:=qH Y;clear J V Y;go_wp2_with fail;refine HD.o.mono ?_;rintro e w2 ⟨q,r,rfl,ag,hq,hr,_⟩;have HV:=qH (qA ag hr);clear ag hr hq;go_wp2_with fail
   go_roundg (a % gk)
   case measure=>exact qbS _ (by have:=av.o;omega)
   case rel=>exact⟨gk,qH (hb.o.below HV.o.1),qH HV.o.2,qH ⟨hF.o.2.1,hF.o.1.le (Nat.mod_le _ _),by rw [<-hF.o.2.2,Nat.gcd_comm gk,<-Nat.gcd_rec,Nat.gcd_comm]⟩,qH (hB.o.trans (HV.o.1.mono hB.o.size))⟩
instance stays_mag {v:Value} {x:Nat}:Stays fun W=>MagAt W v x:=⟨fun h E=>h.below E⟩
instance stays_plain {v:Value} {x:Int}:Stays fun W=>qca W v x:=⟨fun h E=>h.below E⟩
instance stays_dig {v:Value} {x N:Nat}:Stays fun W=>DigAt W v x N:=⟨fun h E=>h.below E⟩
def Rows2 (g E:Nat) (o F:Obj) (W:World):Prop:=W.heap[g]? = some o/\W.heap[E]? = some F
theorem qmB {P:Program} {Y:Func} {p q:Tmp} {F:TypeId} (h:Y.results=#[.cell p F,.cell q F]) (E:Array Value) (w:World) (g I:Nat) (t:TypeId) (cs cs':Array Value) (d:TypeDesc)
  (hp:E.getD p undef=.pointer (some ⟨g,0,none⟩)) (hq:E.getD q undef=.pointer (some ⟨I,0,none⟩)) (hg:w.heap[g]? = some (.cells cs t (0,0))) (O:w.heap[I]? = some (.cells cs' t (0,0)))
  (hu:P.underlying F=some d) (Z:(match d with | .struct _ | .array _ _=>true | _=>false)=true) (n:Nat) (hi:(P.info? F).map (·.size)=some n) (J:cs.size=n) (H:cs'.size=n) :
  (results Y E).run P w=.ok (.tuple #[.agg cs,.agg cs']) w:=by
 have U:E[p]?.getD undef=.pointer (some ⟨g,0,none⟩):=by simpa using hp
 have V:E[q]?.getD undef=.pointer (some ⟨I,0,none⟩):=by simpa using hq
 have h1:=run_loadVar_row w g t F cs (0,0) d hg hu Z (by rw [J];exact hi);have h2:=run_loadVar_row w I t F cs' (0,0) d O hu Z (by rw [H];exact hi);simp [results,h,U,V,asAddr,h1,h2,Sem.run_bind,Result.andThen]
theorem kn3 (w:World) (a:Array Value) (t:TypeId) (E:Array Value) (F:TypeId) (b:Array Value) (u:TypeId):∃W,W=((w.alloc (.cells a t)).alloc (.cells E F)).alloc (.cells b u) /\
  Kn (fun W=>Below w.heap.size w W/\W.heap[w.heap.size]? = some (.cells a t (0,0))/\W.heap[w.heap.size+1]? = some (.cells E F (0,0))/\W.heap[w.heap.size+1+1]? = some (.cells b u (0,0))) W :=
 ⟨_,rfl,.of ⟨qb4 (qb4 (qb4 qB qN) qN) qN,
  (qL _ _ _ (by simp only [qab];omega)).trans ((qL _ _ _ (by simp only [qab];omega)).trans (qM _ _ _ rfl)),
  (qL _ _ _ (by simp only [qab];omega)).trans (qM _ _ _ (by simp)),qM _ _ _ (by simp)⟩⟩
theorem sgn_mul (x y:Int):(if (decide (x<0) != decide (y<0))=true then -((x.natAbs*y.natAbs:Nat):Int) else ((x.natAbs*y.natAbs:Nat):Int))=x*y:=by
 have E:(x.natAbs:Int)=if x<0 then -x else x:=by split <;> omega
 have F:(y.natAbs:Int)=if y<0 then -y else y:=by split <;> omega
 rw [Int.natCast_mul,E,F]
 by_cases hx:x<0 <;> by_cases hy:y<0 <;> simp only [hx,hy,decide_true,decide_false,if_true,if_false] <;> simp <;> try grind
theorem qj6 (x y:Int) (K J:Nat) (hK:K+J<=17592186040000) (v u:Value) (w:World) (hv:qca w v x) (hu:qca w u y) (hx:Fit x.natAbs K) (hy:Fit y.natAbs J) :
  Calls prog 100 #[v,u] w fun e w'=>∃p,e=.returned p/\Below w.heap.size w w'/\qca w' p (x*y):=by
 obtain⟨m,rfl,hm⟩:=hv;obtain⟨o,rfl,ho⟩:=hu;have Y:=sgn_mul x y;have HP:=qH fun (W:World) (h:Below w.heap.size w W)=>qfC x.natAbs y.natAbs K J hK m o W ((hm.below h).digs hx) ((ho.below h).digs hy).sec
 have HM:=qH fun (W:World) (q:Value) (h:MagAt W q (x.natAbs*y.natAbs))=>Y▸qdW _ (K+J) (!(decide (x<0) == decide (y<0))) q W (h.digs (hx.mul hy)) (by omega)
 generalize decide (x<0)=b at *;generalize decide (y<0)=c at *;obtain⟨am,bm,om,cm,nm,M,rfl,_,_⟩:=hm;obtain⟨ao,bo,oo,co,no,O,rfl,_,_⟩:=ho;clear Y hx hy;obtain⟨W1,I,E⟩:=kn3 w #[.bool b,.slice am nm cm] 105 #[.bool c,.slice ao no co] 105 #[.bool false,.slice none 0 0] 105;have U:Below (w.heap.size+1+1) W1 W1:=Below.refl _ _;have lt:=(qG E.o.2.2.2).1;have c0:=rowC (B:=w.heap.size+1+1) E.o.2.1 0;have c1:=rowC (B:=w.heap.size+1+1) E.o.2.1 1;have c2:=rowC (B:=w.heap.size+1+1) E.o.2.2.1 0;have c3:=rowC (B:=w.heap.size+1+1) E.o.2.2.1 1;go_enter func100,ntmps100;go_wp2_with fail;rw [<-I];clear I;refine wp_region_held_drew (S:=fun W=>Below (w.heap.size+1+1) W1 W) (by kernel_rfl) U.drew (fun hS0=>?_);refine hT 0 (h:=hT 1 (h:=hT 2 (h:=hT 3 (h:=hT 4 (h:=hT 5 (h:=hT 6 (h:=hT 7 (h:=hT 8 (h:=?_)))))))));refine hC 9 (HP.o _ E.o.1.drew) (h:=?_);rintro e w2 ⟨q,rfl,U,hq⟩;obtain⟨aq,bq,oq,cq,nq,M,rfl,Iq⟩:=id hq;have K2:=E.ond (q:=fun W=>MagAt W _ _) U hq;have F:=hS0.trans (U.mono (qan lt));refine⟨_,rfl,F,hN (h:=?_)⟩;refine hC 10 (HM.o _ _ hq) (h:=?_);rintro e w3 ⟨p,rfl,V,hp⟩;obtain⟨b3,a3,n3,c3,rfl⟩:=hp.shape;have Z:=K2.on (q:=fun W=>qca W _ _) V hp;have H:=F.trans (V.mono (qak (qan lt) U.size));refine⟨_,rfl,H,hN (h:=?_)⟩;refine hSt 11 2 Z.o.1.1.2.2.2 (h:=⟨qS H qN _,?_⟩);go_wp2_with fail;exact qR (v:=.agg #[.bool b3,.slice a3 n3 c3]) (rA_ rfl (w.heap.size+1+1) (qT _ _ _ _ _ _ Z.o.1.1.2.2.2) underlying105 2) rfl ⟨_,rfl,qS Z.o.1.1.1 (by omega) _,qcd hp Z.o.1.1.2.2.2 (nd2 _ _ _ _)⟩
def qcv (W:World) (v:Value) (q:Rat):Prop:=∃m o,v=.agg #[.bool (decide (q.num<0)),m,.bool false,o]/\MagAt W m q.num.natAbs/\MagAt W o q.den
theorem qcv.below {W W':World} {v:Value} {q:Rat} (h:qcv W v q) (E:Below W.heap.size W W'):qcv W' v q:=by
 obtain⟨m,o,F,H,I⟩:=h;exact⟨m,o,F,H.below E,I.below E⟩
theorem qcv.shape {W:World} {v:Value} {q:Rat} (h:qcv W v q):∃(b:Bool) (a:Option Addr) (n c:Nat) (E:Option Addr) (H F:Nat),v=.agg #[.bool b,.slice a n c,.bool false,.slice E H F]:=by
 obtain⟨m,o,rfl,⟨am,bm,I,cm,n,M,rfl,_,_⟩,⟨ao,bo,J,co,no,O,rfl,_,_⟩⟩:=h;exact⟨_,am,n,cm,ao,no,co,rfl⟩
theorem qgJ {W:World} {v:Value} {q:Rat} {g:Nat} {cs cs':Array Value} {t:TypeId} {E:Nat×Nat} (h:qcv W v q) (hg:W.heap[g]? = some (.cells cs t E)) (hne:∀x∈cs.toList,∀d,x≠.int .i64 d):qcv (W.setRow g cs') v q:=by
 obtain⟨m,o,F,H,I⟩:=h;exact⟨m,o,F,qda H hg hne,qda I hg hne⟩
theorem hir_of {B:Nat} {b x b' y:Value} (E:HiS B x) (F:HiS B y):HiR B (.agg #[b,x,b',y]):=fun _ _ _ _ e=>by
 simp only [qaX,qa1,qaV,and_true] at e;rw [<-e.2.1,<-e.2.2.2];exact⟨E,F⟩
theorem qjS {W:World} {b b':Bool} {m o:Value} {q:Rat} {x y:Int} (hx:qca W (.agg #[.bool b,m]) x) (hy:qca W (.agg #[.bool b',o]) y) (E:x=q.num) (F:y=(q.den:Int)):qcv W (.agg #[.bool b,m,.bool b',o]) q:=by
 obtain⟨m',e1,H⟩:=hx;obtain⟨o',e2,I⟩:=hy;simp only [qaX,qa1,qaV,qbA,and_true] at e1 e2;obtain⟨rfl,rfl⟩:=e1;obtain⟨rfl,rfl⟩:=e2;subst E F;refine⟨m,o,?_,H,by simpa using I⟩;rw [qU (show ¬(q.den:Int)<0 by omega)]
theorem low_num (n d:Int) (H:0<d):(if n<0 then -((n.natAbs / (n.natAbs.gcd d.natAbs:Nat):Nat):Int) else ((n.natAbs / (n.natAbs.gcd d.natAbs:Nat):Nat):Int))=(Rat.divInt n d).num/\((d.natAbs / (n.natAbs.gcd d.natAbs:Nat):Nat):Int)=((Rat.divInt n d).den:Int):=by
 obtain⟨E,F⟩:=qkS n d (by omega);rw [E,F,qU (show ¬d<0 by omega)];refine⟨?_,rfl⟩
 by_cases h:n<0
 ·rw [if_pos h,qV h];rfl
 ·rw [if_neg h,qU h];rfl
def LowSt (w:World) (q:Rat) (K:Nat) (W:World) (H:Bool) (E:Option Addr) (O I:Nat) (F:Option Addr) (no J:Nat):Prop :=
 (∃n d:Int,0<d/\Rat.divInt n d=q/\Fit n.natAbs K/\Fit d.natAbs K/\qca W (.agg #[.bool H,.slice E O I]) n/\qca W (.agg #[.bool false,.slice F no J]) d) /\
 Below w.heap.size w W/\W.heap[w.heap.size]? = some (.cells #[.bool H,.slice E O I] 105 (0,0))/\W.heap[w.heap.size+1]? = some (.cells #[.bool false,.slice F no J] 105 (0,0)) /\
  W.heap[w.heap.size+1+1]? = some (.cells #[.bool false,.slice none 0 0,.bool false,.slice none 0 0] 107 (0,0))
