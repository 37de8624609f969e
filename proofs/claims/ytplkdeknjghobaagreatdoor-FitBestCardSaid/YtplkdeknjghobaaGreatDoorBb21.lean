import Derived.Deep.Cut
import Derived.Deep.RegionHeld
import Derived.Test.YtplkdeknjghobaaGreatDoorBb20
set_option maxRecDepth 100000
set_option maxHeartbeats 0
namespace Go.Proofs.YtplkdeknjghobaaGreatDoor.p4
open Go.RowKit Go.Proofs.Tryz
theorem qmB:(Tryz.prog.info? 3).map (fun i=>(i.zero,i.size,i.bytes))=some (some (.int .i64 0),1,8):=by kernel_rfl
def DigAt (W:World) (v:Value) (x N:Nat):Prop:=∃(F:Option Addr) (b off c n:Nat) (L:List Nat),v=.slice F n c/\L.length=n/\n<=c/\n<=N/\Cells W F b off L/\Dig L/\mval L=x
theorem DigAt.below {W W':World} {v:Value} {x N:Nat} (h:DigAt W v x N) (U:Below W.heap.size W W'):DigAt W' v x N:=by
 obtain⟨ao,b,off,c,n,L,rfl,F,H,I,J,O⟩:=h;exact⟨ao,b,off,c,n,L,rfl,F,H,I,J.below U,O⟩
theorem MagAt.digs {W:World} {v:Value} {x K:Nat} (h:MagAt W v x) (hx:Fit x K):DigAt W v x K:=by
 obtain⟨ao,b,off,c,n,L,rfl,F,rfl⟩:=h;exact⟨ao,b,off,c,n,L,rfl,F.len,F.cap,hx.len F,F.cells,F.dig,rfl⟩
theorem qfz {W:World} {B e n N:Nat} {v:Value} {S:List Nat} (h:W.ownsRow B e 1 v n (row64 S)) (I:Dig S) (hN:n<=N):DigAt W v (mval S) N:=by
 have F:S.length=n:=by have:=h.1;rw [qfA] at this;omega
 rcases h.2 with ⟨rfl,rfl⟩ | ⟨g,c,cur,rfl,J,hg,H,O,U,V⟩
 ·rw [qbI.1 F];exact⟨none,0,0,0,0,[],rfl,rfl,qae _,hN,⟨fun h=>absurd h (by simp),fun k h=>absurd h (by simp)⟩,Dig.nil,rfl⟩
 ·exact⟨_,g,0,c,n,S,rfl,F,H,hN,qcO h F,I,rfl⟩
theorem cut_digs (x N:Nat) (v:Value) (w:World) (h:DigAt w v x N) (hN:N<=17592186044416):Calls prog 271 #[v] w fun e O=>∃u,e=.returned u/\O=w/\MagAt w u x:=by
 obtain⟨ao,b,off,c,n,L,rfl,F,H,U,I,J,rfl⟩:=h;exact cut_any ao b off c n L w F (by omega) H I J
theorem qlY (x N:Nat) (v:Value) (w:World) (h:DigAt w v x N) (hN:N<=17592186044416):Calls prog 271 #[v] w fun e O=>∃u,e=.returned u/\O=w/\MagAt w u x/\∀B,HiS B v->HiS B u:=by
 obtain⟨ao,b,off,c,n,L,rfl,F,H,U,I,J,rfl⟩:=h;exact qlZ ao b off c n L w F (by omega) H I J
theorem qfc {J:Array Oper} {rest:List Oper} {o:Oper} {a:Act} {w:World} {Q:Exit->Act->World->Prop} (Z:o.guard=none) (s x:Operand)
  (ho:o.op=.call { callee:=.builtin .append,args:=#[s,x],argTypes:=#[32,32] }) {Y:World} {B:Nat} {v:Value} {n:Nat} {S:List Nat} {d:Nat}
  (hB:Below B Y w) (ag:B=Y.heap.size) (F:w.ownsRow B 3 1 v n (row64 S)) (hs:a.eval s=v) (hx:a.eval x=.slice (some ⟨w.heap.size,0,none⟩) 1 1) (hn:n<17592186044416) {z:Int} (hz:z=(d:Int))
  (h:∀V O,Hu (O.ownsRow B 3 1 V (n+1) (row64 (S++[d])))->Hu (Below B Y O)->wpList prog J Q rest (a.put o.dst V) O) :
  wpList prog J Q (o :: rest) a (w.alloc (.cells #[.int .i64 z] 3)):=by
 subst hz;obtain⟨i0,hi,aa,ae,af⟩:=info_parts qmB;have ah:=hB.size;refine wpList_append_own _ Z s x 32 ho B 3 i0 (.int .i64 0) 1 8 underlying32 hi aa ae af rfl (by decide) v n (row64 S) hs (F.alloc _) ⟨w.heap.size,0,none⟩ 1 1 [.int .i64 (d:Int)] hx rfl ?c1 ?c2 ?c3 ?c4 ?c5 ?_
 case c1 =>
  intro j u U
  match j,U with
  | 0,U=>simp at U;subst U;simp [Addr.add]
 case c2=>intro u hu;simp at hu;subst hu;rfl
 case c3=>unfold maxLen;omega
 case c4=>omega
 case c5=>simp;omega
 intro V O I H _;refine h V O (qH ?_) (qH ?_)
 ·rw [qlx];exact I
 ·exact (hB.alloc (by omega) _).grown H (by simp;omega) (fun k hk=>(F.lt k hk).1)
theorem qlp (W:World) (n:Nat) (F:n<=maxLen):(W.alloc (.cells (madeCells #[.int .i64 0] n) 3)).ownsRow W.heap.size 3 1 (.slice (some ⟨W.heap.size,0,none⟩) n n) n (row64 (List.replicate n 0)) :=
 qia (qgl W n 3) (by simp) qN F
theorem once_any (x K d:Nat) (hK:K<=17592186040000) (Z:0<d) (hd:d<=10000) (vm:Value) (w:World) (hm:DigAt w vm x K) :
  Calls prog 290 #[vm,.int .i64 (d:Int)] w fun e w'=>∃v,e=.returned (.tuple #[v,.int .i64 ((x % d:Nat):Int)])/\Below w.heap.size w w'/\MagAt w' v (x / d)/\HiS w.heap.size v:=by
 obtain⟨am,bm,om,cm,n,M,rfl,lm,ak,aa,CM,DM,rfl⟩:=hm;have hn:n<=17592186040000:=qaj aa hK;have ai:=run_make_row' (P:=prog) 32 3 (.int .i64 0) 8 underlying32 qmB rfl .i64 .i64 n (by omega) (by omega);have F:=qH (qA lm (qA CM DM));have Hd:=qH (qA Z hd);obtain⟨rr,O⟩:=qX (mval M % d);have ae:=qH O;rw [O];have h0:((d:Int) == 0)=false:=by rw [beq_eq_false_iff_ne];omega
 have au:¬d=0:=by omega
 clear CM DM lm aa hK O hd Z;go_enter func290,ntmps290;go_wp2
 go_loopw [7,8] (fun x7 x8 W=>∃(k r:Nat) (z:Int) (R:List Nat),k<=n/\x8=.int .i64 z/\Hu (z+1=k)/\x7=.int .i64 r/\Hu (ShortInv M d k R r)/\Hu (W.ownsRow w.heap.size 3 1 (.slice (some ⟨w.heap.size,0,none⟩) n n) n (row64 R))/\Hu (Below w.heap.size w W)) (fun _ x8 _=>(intOf x8+1).toNat)
 case atStart =>
  refine⟨n,0,_,List.replicate n 0,qae _,rfl,qH (by omega),rfl,qH ?_,qH (qlp w n (by unfold maxLen;omega)),qH (qB.alloc qN _)⟩;have:=ShortInv.start M Hd.o.1
  rwa [F.o.1] at this
 case round =>
  obtain⟨k,r,z,R,hk,rfl,hz,rfl,I,Y,hB⟩:=hrel;clear ai
  by_cases aA:0<k
  ·obtain⟨j,rfl⟩:∃j,k=j+1:=⟨k-1,by omega⟩;obtain rfl:z=(j:Int):=by have:=hz.o;omega
   have az:(j:Int)<n:=by omega
   have ag:=F.o.2.1.addr (by rw [F.o.1];omega);subst ag;have ah:=(F.o.2.1.below hB.o).cell j (by rw [F.o.1];omega);have hm:dg M j<10000:=F.o.2.2 j;obtain⟨m,H⟩:=qX (dg M j);rw [H] at ah hm;have hr:=I.o.rest;have J:R.length=n:=I.o.len.trans F.o.1;have av:wr.cell? ⟨w.heap.size,j,none⟩=some (.int .i64 ((dg R j:Nat):Int)):=(Y.o.cellAt j (by omega)).trans (qi9 R j (by omega));have ay:wr.frozen? ⟨w.heap.size,j,none⟩=false:=Y.o.frozenAt j;have ax:=Hd.o.2;obtain⟨t1,U⟩:=qX (r*10000:Nat);obtain⟨t2,V⟩:=qX (t1+m:Nat);obtain⟨q,hq⟩:=qX (t2 / d:Nat);obtain⟨s,hs⟩:=qX (t2 % d:Nat);have hstep:=I.o.step (by rw [F.o.1];omega) F.o.2.2;have aB:q<10000:=by
    have:=hstep.dig j;rw [qcT (by omega),show M.getD j 0=m from H,U,V,hq] at this;exact this
   rw [show M.getD j 0=m from H,U,V,hq,hs] at hstep;have aC:s<d:=by rw [<-hs];exact qbD _ Hd.o.1
   have r1:(r:Int)*10000=t1:=by omega
   have r4:(t1:Int)+m=t2:=by omega
   have r6:=tdivN t2 d q hq;have r9:=tmodN t2 d s hs;have af:=qH hstep;have aD:(t2:Int)<9000000000:=by omega
   clear hstep U V hq hs J hm H;go_wp2;go_roundw
   case rel=>exact⟨j,s,_,R.set j q,by omega,rfl,qH (by omega),rfl,af,qH (stored64 Y.o j q rfl),qH (hB.o.setCell qN _)⟩
   case measure=>simp [intOf]
  ·obtain rfl:k=0:=by omega
   obtain rfl:z = -1:=by have:=hz.o;omega
   have J:R.length=n:=I.o.len.trans F.o.1;have HD:=qH (qfz (N:=n) Y.o I.o.dig qN);have HH:=own_his Y.o;rw [I.o.done.1] at HD;have aj:r=rr:=by rw [<-ae.o];exact I.o.done.2
   subst aj;clear J
   go_wp2_with (first | (go_at_call 271;refine (qlY _ n _ _ HD.o (by omega)).mono ?_;rintro e w1 ⟨u,rfl,rfl,hu,hh⟩) | fail)
   go_ret2
   exact⟨_,rfl,hB.o,hu,hh _ HH⟩
theorem own_lit (W:World) (d:Nat) (e:TypeId) {B g:Nat} (hg:g=W.heap.size) (F:B<=g):(W.alloc (.cells #[.int .i64 (d:Int)] e)).ownsRow B e 1 (.slice (some ⟨g,0,none⟩) 1 1) 1 (row64 [d]):=by
 subst hg;exact⟨rfl,.inr ⟨W.heap.size,1,_,rfl,F,heap_alloc_new W _,qae _,by decide,rfl,rfl⟩⟩
open Go.Lib
theorem qkB:∀(k j a d:Nat),d<10 ^ k->padk (j+k) (a*10 ^ k+d)=padk j a++padk k d
 | 0,j,a,d,h=>by
  have:d=0:=by simpa using h
  subst this;simp [padk]
 | k+1,j,a,d,h=>by
  have e:a*10 ^ (k+1)=a*10 ^ k*10:=by rw [qaB,qaw]
  show padk (j+k+1) _=_
  rw [padk,padk,e,show (a*10 ^ k*10+d) / 10=a*10 ^ k+d / 10 by omega,show (a*10 ^ k*10+d) % 10=d % 10 by omega,qkB k j a (d / 10) (by rw [qaB] at h;omega),qaI]
def gtx:List Nat->List UInt8
 | []=>[]
 | d :: l=>gtx l++padk 4 d
theorem gtx_eq:∀(L:List Nat),(∀d∈L,d<10000)->gtx L=padk (4*L.length) (mval L)
 | [],_=>rfl
 | d :: L,h=>by
  have F:=qkB 4 (4*L.length) (mval L) d (h d qbS);have e:mval (d :: L)=mval L*10 ^ 4+d:=by
   show d+10000*mval L=mval L*10000+d
   omega
  rw [e]
  show gtx L++padk 4 d=padk (4*L.length+4) _
  rw [F,gtx_eq L (fun x hx=>h x (qbK _ hx))]
theorem gtx_drop {L:List Nat} {j:Nat} (h:j<L.length):gtx (L.drop j)=gtx (L.drop (j+1))++padk 4 (dg L j):=by
 rw [qby h,gtx];unfold dg;rw [qaa,qad h];rfl
theorem pow4 (k:Nat):(10000:Nat) ^ k=10 ^ (4*k):=by rw [Nat.pow_mul]
theorem qmr (L:List Nat):(gtx L).length=4*L.length:=by
 induction L with
 | nil=>rfl
 | cons d L ih=>rw [gtx,qaf,ih,qgm,qbM];omega
def bare (x:Nat):List UInt8:=if x=0 then [] else decDigits x
theorem qms {L:List Nat} (J:Dig L):∃z,gtx L=List.replicate z 48++bare (mval L):=by
 have H:=gtx_eq L J.mem;have I:=J.lt;rw [pow4] at I;unfold bare
 by_cases F:mval L=0
 ·rw [if_pos F];rw [F,qfQ] at H;exact⟨4*L.length,by rw [H,List.append_nil]⟩
 ·rw [if_neg F];have O:0<4*L.length:=by
   rcases qaU L.length with h | h
   ·rw [qbI.1 h] at F;exact absurd rfl F
   ·omega
  exact⟨_,by rw [H,qjT _ _ O I]⟩
theorem qlR {x:Nat} {c:UInt8} {t:List UInt8} (h:bare x=c :: t):c≠48:=by
 unfold bare at h;split at h
 ·cases h
 ·rintro rfl;rename_i F;exact F (qeZ x (by rw [h];rfl))
def qb8 (W:World) (v:Value) (z:Int):Prop:=∃m,v=.agg #[.bool (decide (z<0)),m]/\MagAt W m z.natAbs
theorem qb8.below {W W':World} {v:Value} {z:Int} (h:qb8 W v z) (I:Below W.heap.size W W'):qb8 W' v z:=by
 obtain⟨m,F,H⟩:=h;exact⟨m,F,H.below I⟩
theorem qb8.shape {W:World} {v:Value} {z:Int} (h:qb8 W v z):∃(b:Bool) (a:Option Addr) (n c:Nat),v=.agg #[.bool b,.slice a n c]:=by
 obtain⟨m,rfl,am,bm,I,cm,n,M,rfl,H,F⟩:=h;exact⟨_,am,n,cm,rfl⟩
theorem qlg {W:World} {m:Value} {x:Nat} {neg:Bool} (h:MagAt W m x):qb8 W (.agg #[.bool (neg && !decide (x=0)),m]) (if neg=true then -(x:Int) else x):=by
 have H:(neg && !decide (x=0))=decide ((if neg=true then -(x:Int) else x)<0):=by
  cases neg with
  | false=>rw [Bool.false_and,if_neg (by simp)];exact (qU (by omega)).symm
  | true =>
   rw [if_pos rfl,Bool.true_and]
   by_cases F:x=0
   ·rw [qV F];exact (qU (by omega)).symm
   ·rw [qU F];exact (qV (by omega)).symm
 rw [H];refine⟨m,rfl,?_⟩;cases neg with
 | false=>simpa using h
 | true=>rw [if_pos rfl,qbj,qam];exact h
theorem qks {W:World} {F:Option Addr} {b off c n:Nat} {L:List Nat} (h:IsM W F b off c n L):n=0↔mval L=0:=by rw [h.nrm.zero,h.len]
theorem qmF {W:World} {H:Option Addr} {b off c n g:Nat} {L:List Nat} {cs:Array Value} {t:TypeId} {I:Nat×Nat} (h:IsM W H b off c n L) (hg:W.heap[g]? = some (.cells cs t I)) (hne:∀x∈cs.toList,∀d,x≠.int .i64 d) (J:0<n):b≠g:=by
 rintro rfl;have F:=h.cell 0 J;unfold World.cell? at F;simp only [hg] at F;have O:cs[off+0]? = some (.int .i64 ((dg L 0:Nat):Int)):=by
  simpa using F
 exact hne _ (by rw [Array.mem_toList_iff];exact Array.mem_of_getElem? O) _ rfl
theorem qcp {W W':World} {v:Value} {x g:Nat} {cs:Array Value} {t:TypeId} {H:Nat×Nat} (h:MagAt W v x) (O:W.grownBy W' (some g)) (hg:W.heap[g]? = some (.cells cs t H)) (hne:∀x∈cs.toList,∀d,x≠.int .i64 d):MagAt W' v x:=by
 obtain⟨ao,b,off,c,n,L,rfl,F,J⟩:=h;exact⟨ao,b,off,c,n,L,rfl,⟨F.len,F.cap,qeO O F.cells (fun I=>qmF F hg hne (by rw [<-F.len];exact I)),F.dig,F.nrm⟩,J⟩
theorem qcF {W:World} {v:Value} {x g:Nat} {cs cs':Array Value} {t:TypeId} {F:Nat×Nat} (h:MagAt W v x) (hg:W.heap[g]? = some (.cells cs t F)) (hne:∀x∈cs.toList,∀d,x≠.int .i64 d):MagAt (W.setRow g cs') v x:=qcp h (qci W g cs') hg hne
theorem qlr {W W':World} {v:Value} {z:Int} {g:Nat} {cs:Array Value} {t:TypeId} {F:Nat×Nat} (h:qb8 W v z) (J:W.grownBy W' (some g)) (hg:W.heap[g]? = some (.cells cs t F)) (hne:∀x∈cs.toList,∀d,x≠.int .i64 d):qb8 W' v z:=by
 obtain⟨m,H,I⟩:=h;exact⟨m,H,qcp I J hg hne⟩
theorem qcr {W:World} {v:Value} {z:Int} {g:Nat} {cs cs':Array Value} {t:TypeId} {F:Nat×Nat} (h:qb8 W v z) (hg:W.heap[g]? = some (.cells cs t F)) (hne:∀x∈cs.toList,∀d,x≠.int .i64 d):qb8 (W.setRow g cs') v z:=qlr h (qci W g cs') hg hne
theorem nd2 (b:Bool) (a:Option Addr) (n c:Nat):∀x∈(#[.bool b,.slice a n c]:Array Value).toList,∀d,x≠.int .i64 d:=by
 intro x hx d;rcases qaJ.1 hx with rfl | hx
 ·intro h;cases h
 ·rw [qap.1 hx];intro h;cases h
theorem nd4 (b H:Bool) (a F:Option Addr) (n I c c':Nat):∀x∈(#[.bool b,.slice a n c,.bool H,.slice F I c']:Array Value).toList,∀d,x≠.int .i64 d:=by
 intro x hx d;rcases qaJ.1 hx with rfl | hx
 ·intro h;cases h
 rcases qaJ.1 hx with rfl | hx
 ·intro h;cases h
 rcases qaJ.1 hx with rfl | hx
 ·intro h;cases h
 ·rw [qap.1 hx];intro h;cases h
theorem qmw {B:Nat} {b m:Value} (h:HiS B m):HiP B (.agg #[b,m]):=fun F x e=>by
 simp only [qaP,qaV,qaN,and_true] at e;rw [<-e.2];exact h
theorem qku (x N:Nat) (neg:Bool) (O:Value) (w:World) (hm:DigAt w O x N) (hN:N<=17592186044416) :
  Calls prog 241 #[.bool neg,O] w fun e w'=>∃v,e=.returned v/\Below w.heap.size w w'/\qb8 w' v (if neg=true then -(x:Int) else x)/\∀B,HiS B O->HiP B v:=by
 have hc:=fun (W:World) (h:Below w.heap.size w W)=>qlY x N O W (hm.below h) hN
 obtain⟨ao,b,off,c0,n0,L,rfl,_,_,_,_,_,_⟩:=hm;have HC:=qH hc;have H:Below w.heap.size w (w.alloc (.cells #[.bool false,.slice none 0 0] 180)):=qB.alloc qN _;have F:=qH (qA H (qM w (.cells #[.bool false,.slice none 0 0] 180) _ rfl));clear hc H;go_enter func241,ntmps241
 go_wp2_with (go_at_call 271;refine (HC.o _ F.o.1).mono ?_)
 rintro e w1 ⟨u,rfl,rfl,⟨am,bm,om,c,n,M,rfl,Z,hx⟩,hh⟩;have I:n=0↔x=0:=by rw [qks Z,hx]
 have hM:MagAt (w.alloc (.cells #[.bool false,.slice none 0 0] 180)) (.slice am n c) x:=⟨am,bm,om,c,n,M,rfl,Z,hx⟩;have hP:=fun b=>qcr (cs':=#[.bool b,.slice am n c]) (qlg (neg:=neg) hM) F.o.2 (nd2 false none 0 0)
 have V:=qH hP;have Y:=fun b=>qH (qS F.o.1 qN #[.bool b,.slice am n c])
 have Hn:=qH I;have U:=qH hh;clear hP I hM Z hx hh;cases neg with
 | false =>
  go_wp2_with (with_reducible refine sR_ rfl 180 _ _ rfl (w.heap.size) #[.bool false,.slice am n c] F.o.2 2 ?_)
  refine qR (v:=.agg #[.bool false,.slice am n c]) (rA_ rfl (w.heap.size) (qT _ _ _ _ _ _ F.o.2) underlying180 2) rfl ⟨_,rfl,(Y false).o,?_,fun B h=>qmw (U.o B h)⟩;exact V.o false
 | true =>
  by_cases h0:n=0
  ·subst h0
   go_wp2_with (with_reducible refine sR_ rfl 180 _ _ rfl (w.heap.size) #[.bool false,.slice am 0 c] F.o.2 2 ?_)
   refine qR (v:=.agg #[.bool false,.slice am 0 c]) (rA_ rfl (w.heap.size) (qT _ _ _ _ _ _ F.o.2) underlying180 2) rfl ⟨_,rfl,(Y false).o,?_,fun B h=>qmw (U.o B h)⟩;have aa:x=0:=by simpa using Hn.o
   have:=V.o false
   rwa [show (true && !decide (x=0))=false by rw [aa];rfl] at this
  ·have J:¬x=0:=fun h=>h0 (Hn.o.2 h)
   have Hx:=qH J;clear J;have ae:0<n:=by omega
   clear h0
   go_wp2_with (with_reducible refine sR_ rfl 180 _ _ rfl (w.heap.size) #[.bool true,.slice am n c] F.o.2 2 ?_)
   refine qR (v:=.agg #[.bool true,.slice am n c]) (rA_ rfl (w.heap.size) (qT _ _ _ _ _ _ F.o.2) underlying180 2) rfl ⟨_,rfl,(Y true).o,?_,fun B h=>qmw (U.o B h)⟩;have:=V.o true
   rwa [show (true && !decide (x=0))=true by rw [qU Hx.o];rfl] at this
theorem qhV (x N:Nat) (neg:Bool) (F:Value) (w:World) (U:DigAt w F x N) (hN:N<=17592186044416) :
  Calls prog 241 #[.bool neg,F] w fun e H=>∃v,e=.returned v/\Below w.heap.size w H/\qb8 H v (if neg=true then -(x:Int) else x) :=
 (qku x N neg F w U hN).mono fun _ _ ⟨v,I,J,O,_⟩=>⟨v,I,J,O⟩
end Go.Proofs.YtplkdeknjghobaaGreatDoor.p4
namespace Go.Proofs.YtplkdeknjghobaaGreatDoor.p4
open Go.RowKit Go.Proofs.Tryz
structure IntInv (n m k:Nat) (S:List Nat):Prop where
 len:S.length=k
 dig:Dig S
 val:mval S+10000 ^ k*m=n
 fit:m<10000 ^ (5-k)
theorem IntInv.start {n:Nat} (h:n<100000000000000000000):IntInv n n 0 []:=⟨rfl,Dig.nil,by simp [mval],by simpa using h⟩
theorem IntInv.lt {n m k:Nat} {S:List Nat} (h:IntInv n m k S) (H:k<=5) (F:m≠0):k<5:=by
 rcases qaQ k 5 with h1 | h1
 ·exact h1
 ·obtain rfl:k=5:=by omega
  have:=h.fit;simp at this;omega
theorem IntInv.step {n m k:Nat} {S:List Nat} (h:IntInv n m k S) (I:k<5):IntInv n (m / 10000) (k+1) (S++[m % 10000]):=by
 refine⟨by rw [qaf,h.len];rfl,h.dig.snoc (qbD _ (by decide)),?_,?_⟩
 ·rw [qcW,h.len,<-h.val,qaB,Nat.add_assoc,qaw,<-qaZ]
  congr 2
  exact Nat.mod_add_div _ _
 ·have F:=h.fit;obtain⟨j,H⟩:∃j,5-k=j+1:=⟨4-k,by omega⟩;rw [H,qaB] at F;rw [show 5-(k+1)=j by omega];exact Nat.div_lt_of_lt_mul (by rw [qat];exact F)
theorem IntInv.done {n k:Nat} {S:List Nat} (h:IntInv n 0 k S):mval S=n:=by have:=h.val;simpa using this
theorem qjI (n:Int) (hn:n<0) (hr:-9223372036854775808<=n/\n<=9223372036854775807) (w:World) :
  Calls prog 189 #[.int .i64 n] w fun e w'=>∃v,e=.returned v/\Below w.heap.size w w'/\qb8 w' v n:=by
 obtain⟨U,I⟩:=qY (w.alloc (.cells #[.bool false,.slice none 0 0] 180));have aj:Below w.heap.size w U:=I▸qbU qB qN;have au:U.heap[w.heap.size]? = some (.cells #[.bool false,.slice none 0 0] 180 (0,0)):=by rw [I];exact qM _ _ _ rfl
 obtain⟨N,hN⟩:=qX n.natAbs;have HI:=qH (IntInv.start (n:=N) (by omega));have HN:=qH hN;have O:=qH (qA aj au);have aG:=hr.1;have aH:=hr.2;have aD:decide (n<0)=true:=by exact qV hn
 have aB:n<0:=by omega
 clear hN aj au hr;go_enter func189,ntmps189;go_wp2_with fail;rw [<-I];clear I
 go_loopw [0,3,5] (fun x0 x3 x5 W=>∃(z:Int) (m k:Nat) (S:List Nat),x0=.int .i64 z/\z<=0/\-9223372036854775808<=z/\k<=5/\Hu (z.natAbs=m)/\Hu (IntInv N m k S)/\Hu (W.ownsRow U.heap.size 3 1 x3 k (row64 S))/\Hu (Below U.heap.size U W)) (fun x0 _ _ _=>(intOf x0).natAbs)
 case atStart=>exact⟨n,N,0,[],rfl,by omega,by omega,qal _,HN,HI,qH (World.ownsRow_nil _ _ _ _),qH qB⟩
 case round =>
  obtain⟨z,m,k,S,rfl,aM,aN,hk,hm,hI,hO,hB⟩:=hrel;have aC:=hB.o.size
  by_cases aA:z=0
  ·subst aA;obtain rfl:0=m:=hm.o;have hv:=hI.o.done;have HD:=qH (qfz (N:=5) hO.o hI.o.dig hk);rw [hv] at HD;have Z:=qhV N 5 true _ _ HD.o (by decide);rw [show (if true=true then -(N:Int) else N)=n by rw [<-HN.o];simp;omega] at Z;have HM:=qH Z;clear hv Z;go_wp2_with fail;refine HM.o.mono ?_;rintro e w2 ⟨u,rfl,ak,ag⟩;have V:Below U.heap.size U w2:=hB.o.trans (ak.mono hB.o.size);have F:=(V.block w.heap.size (qG O.o.2).1).trans O.o.2;have H:Below w.heap.size w w2:=O.o.1.trans (V.mono O.o.1.size);obtain⟨b9,a9,n9,c9,rfl⟩:=ag.shape;have av:=qcr (cs':=#[.bool b9,.slice a9 n9 c9]) ag F (nd2 _ _ _ _);have O:=qH (qA F (qA H (qS H qN #[.bool b9,.slice a9 n9 c9])));have HV:=qH av;clear F H av ak ag V
   go_wp2_with (with_reducible refine sR_ rfl 180 _ _ rfl (w.heap.size) #[.bool b9,.slice a9 n9 c9] O.o.1 2 ?_)
   exact qR (v:=.agg #[.bool b9,.slice a9 n9 c9]) (rA_ rfl (w.heap.size) (qT _ _ _ _ _ _ O.o.1) underlying180 2) rfl ⟨_,rfl,O.o.2.2,HV.o⟩
  ·obtain⟨q,hq⟩:=qX (m / 10000);obtain⟨r,ae⟩:=qX (m % 10000);have ay:=hm.o;have J:z = -(m:Int):=by omega
   have t1:z.tmod 10000 = -(r:Int):=by rw [J,Int.neg_tmod,tmodB m r ae]
   have t2:z.tdiv 10000 = -(q:Int):=by rw [J,Int.neg_tdiv,tdivB m q hq]
   have ax:=hI.o.lt hk (by omega);have af:=hI.o.step ax;rw [hq,ae] at af;have ah:=qH af;have aI:r<10000:=by omega
   have aF:q<=922337203685478:=by omega
   have Hq:=qH (show q<m by omega);have ai:=qH J;have aO:z<0:=by omega
   have aP:(z != 0)=true:=by rw [bne_iff_ne];omega
   clear af hq ae J ay
   by_cases az:r=0
   ·subst az
    go_wp2_with (first | (at_builtin;refine qfc (d:=0) rfl _ _ rfl hB.o rfl hO.o rfl rfl (by omega) rfl ?_;intro v' w' aa Y) | fail)
    go_roundw
    case rel=>exact⟨_,q,k+1,S++[0],rfl,by omega,by omega,by omega,qH (by omega),ah,aa,Y⟩
    case measure=>have:=Hq.o;have:=ai.o;simp [intOf];omega
   ·have aJ:-(r:Int)<0:=by omega
    have aK:0<r:=by omega
    have aL:- -(r:Int)=(r:Int):=by omega
    go_wp2_with (first | (at_builtin;refine qfc (d:=r) rfl _ _ rfl hB.o rfl hO.o rfl rfl (by omega) rfl ?_;intro v' w' aa Y) | fail)
    go_roundw
    case rel=>exact⟨_,q,k+1,S++[r],rfl,by omega,by omega,by omega,qH (by omega),ah,aa,Y⟩
    case measure=>have:=Hq.o;have:=ai.o;simp [intOf];omega
theorem qgD (n:Int) (hn:0<=n) (hr:-9223372036854775808<=n/\n<=9223372036854775807) (w:World) :
  Calls prog 189 #[.int .i64 n] w fun e w'=>∃v,e=.returned v/\Below w.heap.size w w'/\qb8 w' v n:=by
 obtain⟨U,I⟩:=qY (w.alloc (.cells #[.bool false,.slice none 0 0] 180));have ae:Below w.heap.size w U:=I▸qbU qB qN;have ag:U.heap[w.heap.size]? = some (.cells #[.bool false,.slice none 0 0] 180 (0,0)):=by rw [I];exact qM _ _ _ rfl
 obtain⟨N,hN⟩:=qX n.natAbs;have HI:=qH (IntInv.start (n:=N) (by omega));have HN:=qH hN;have O:=qH (qA ae ag);have aA:=hr.1;have aB:=hr.2;have az:decide (n<0)=false:=by exact qU (by omega)
 have ax:¬n<0:=by omega
 clear hN ae ag hr;go_enter func189,ntmps189;go_wp2_with fail;rw [<-I];clear I
 go_loopw [0,3,5] (fun x0 x3 x5 W=>∃(z:Int) (m k:Nat) (S:List Nat),x0=.int .i64 z/\0<=z/\z<=9223372036854775807/\k<=5/\Hu (z.natAbs=m)/\Hu (IntInv N m k S)/\Hu (W.ownsRow U.heap.size 3 1 x3 k (row64 S))/\Hu (Below U.heap.size U W)) (fun x0 _ _ _=>(intOf x0).natAbs)
 case atStart=>exact⟨n,N,0,[],rfl,by omega,by omega,qal _,HN,HI,qH (World.ownsRow_nil _ _ _ _),qH qB⟩
 case round =>
  obtain⟨z,m,k,S,rfl,aF,aG,hk,hm,hI,hO,hB⟩:=hrel;have ay:=hB.o.size
  by_cases av:z=0
  ·subst av;obtain rfl:0=m:=hm.o;have hv:=hI.o.done;have HD:=qH (qfz (N:=5) hO.o hI.o.dig hk);rw [hv] at HD;have J:=qhV N 5 false _ _ HD.o (by decide);rw [show (if false=true then -(N:Int) else N)=n by rw [<-HN.o];simp;omega] at J;have HM:=qH J;clear hv J;go_wp2_with fail;refine HM.o.mono ?_;rintro e w2 ⟨u,rfl,af,aa⟩;have V:Below U.heap.size U w2:=hB.o.trans (af.mono hB.o.size);have F:=(V.block w.heap.size (qG O.o.2).1).trans O.o.2;have H:Below w.heap.size w w2:=O.o.1.trans (V.mono O.o.1.size);obtain⟨b9,a9,n9,c9,rfl⟩:=aa.shape;have ah:=qcr (cs':=#[.bool b9,.slice a9 n9 c9]) aa F (nd2 _ _ _ _);have O:=qH (qA F (qA H (qS H qN #[.bool b9,.slice a9 n9 c9])));have HV:=qH ah;clear F H ah af aa V
   go_wp2_with (with_reducible refine sR_ rfl 180 _ _ rfl (w.heap.size) #[.bool b9,.slice a9 n9 c9] O.o.1 2 ?_)
   exact qR (v:=.agg #[.bool b9,.slice a9 n9 c9]) (rA_ rfl (w.heap.size) (qT _ _ _ _ _ _ O.o.1) underlying180 2) rfl ⟨_,rfl,O.o.2.2,HV.o⟩
  ·obtain⟨q,hq⟩:=qX (m / 10000);obtain⟨r,Y⟩:=qX (m % 10000);obtain rfl:z=(m:Int):=by have:=hm.o;omega
   have t1:(m:Int).tmod 10000=(r:Int):=tmodB m r Y;have t2:(m:Int).tdiv 10000=(q:Int):=tdivB m q hq;have t3:(m:Int) % 10000=r:=by omega
   have t4:(m:Int) / 10000=q:=by omega
   have ak:=hI.o.lt hk (by omega);have Z:=hI.o.step ak;rw [hq,Y] at Z;have ai:=qH Z;have aC:r<10000:=by omega
   have Hq:=qH (show q<m by omega);have J:0<m:=by omega
   have aH:((m:Int) != 0)=true:=by rw [bne_iff_ne];omega
   have aD:¬(r:Int)<0:=by omega
   clear Z hq Y
   go_wp2_with (first | (at_builtin;refine qfc (d:=r) rfl _ _ rfl hB.o rfl hO.o rfl rfl (by omega) rfl ?_;intro v' w' au aj) | fail)
   go_roundw
   case rel=>exact⟨_,q,k+1,S++[r],rfl,by omega,by omega,by omega,qH (by omega),ai,au,aj⟩
   case measure=>have:=Hq.o;simp [intOf];omega
theorem qjH (n:Int) (F:-9223372036854775808<=n/\n<=9223372036854775807) (w:World) :
  Calls prog 189 #[.int .i64 n] w fun e H=>∃v,e=.returned v/\Below w.heap.size w H/\qb8 H v n:=by
 rcases Int.lt_or_le n 0 with h | h
 ·exact qjI n h F w
 ·exact qgD n h F w
instance stays_mag {v:Value} {x:Nat}:Stays fun W=>MagAt W v x:=⟨fun h F=>h.below F⟩
instance stays_plain {v:Value} {x:Int}:Stays fun W=>qb8 W v x:=⟨fun h F=>h.below F⟩
def Rows2 (g F:Nat) (o H:Obj) (W:World):Prop:=W.heap[g]? = some o/\W.heap[F]? = some H
theorem qlu {P:Program} {Z:Func} {p q:Tmp} {H:TypeId} (h:Z.results=#[.cell p H,.cell q H]) (F:Array Value) (w:World) (g J:Nat) (t:TypeId) (cs cs':Array Value) (d:TypeDesc)
  (hp:F.getD p undef=.pointer (some ⟨g,0,none⟩)) (hq:F.getD q undef=.pointer (some ⟨J,0,none⟩)) (hg:w.heap[g]? = some (.cells cs t (0,0))) (U:w.heap[J]? = some (.cells cs' t (0,0)))
  (hu:P.underlying H=some d) (hd:(match d with | .struct _ | .array _ _=>true | _=>false)=true) (n:Nat) (hi:(P.info? H).map (·.size)=some n) (O:cs.size=n) (I:cs'.size=n) :
  (results Z F).run P w=.ok (.tuple #[.agg cs,.agg cs']) w:=by
 have V:F[p]?.getD undef=.pointer (some ⟨g,0,none⟩):=by simpa using hp
 have Y:F[q]?.getD undef=.pointer (some ⟨J,0,none⟩):=by simpa using hq
 have h1:=run_loadVar_row w g t H cs (0,0) d hg hu hd (by rw [O];exact hi);have h2:=run_loadVar_row w J t H cs' (0,0) d U hu hd (by rw [I];exact hi);simp [results,h,V,Y,asAddr,h1,h2,Sem.run_bind,Result.andThen]
theorem kn3 (w:World) (a:Array Value) (t:TypeId) (F:Array Value) (H:TypeId) (b:Array Value) (u:TypeId):∃W,W=((w.alloc (.cells a t)).alloc (.cells F H)).alloc (.cells b u) /\
  Kn (fun W=>Below w.heap.size w W/\W.heap[w.heap.size]? = some (.cells a t (0,0))/\W.heap[w.heap.size+1]? = some (.cells F H (0,0))/\W.heap[w.heap.size+1+1]? = some (.cells b u (0,0))) W :=
 ⟨_,rfl,.of ⟨qbU (qbU (qbU qB qN) qN) qN,
  (qL _ _ _ (by simp only [qab];omega)).trans ((qL _ _ _ (by simp only [qab];omega)).trans (qM _ _ _ rfl)),
  (qL _ _ _ (by simp only [qab];omega)).trans (qM _ _ _ (by simp)),qM _ _ _ (by simp)⟩⟩
def qdM (W:World) (v:Value) (q:Rat):Prop:=∃m o,v=.agg #[.bool (decide (q.num<0)),m,.bool false,o]/\MagAt W m q.num.natAbs/\MagAt W o q.den
theorem qdM.shape {W:World} {v:Value} {q:Rat} (h:qdM W v q):∃(b:Bool) (a:Option Addr) (n c:Nat) (F:Option Addr) (H c':Nat),v=.agg #[.bool b,.slice a n c,.bool false,.slice F H c']:=by
 obtain⟨m,o,rfl,⟨am,bm,I,cm,n,M,rfl,_,_⟩,⟨ao,bo,J,co,no,O,rfl,_,_⟩⟩:=h;exact⟨_,am,n,cm,ao,no,co,rfl⟩
theorem qge {W:World} {v:Value} {q:Rat} {g:Nat} {cs cs':Array Value} {t:TypeId} {F:Nat×Nat} (h:qdM W v q) (hg:W.heap[g]? = some (.cells cs t F)) (hne:∀x∈cs.toList,∀d,x≠.int .i64 d):qdM (W.setRow g cs') v q:=by
 obtain⟨m,o,H,I,J⟩:=h;exact⟨m,o,H,qcF I hg hne,qcF J hg hne⟩
theorem hir_of {B:Nat} {b x F y:Value} (H:HiS B x) (I:HiS B y):HiR B (.agg #[b,x,F,y]):=fun _ _ _ _ e=>by
 simp only [qaP,qaV,qaN,and_true] at e;rw [<-e.2.1,<-e.2.2.2];exact⟨H,I⟩
theorem qns {W:World} {b F:Bool} {m o:Value} {q:Rat} {x y:Int} (hx:qb8 W (.agg #[.bool b,m]) x) (hy:qb8 W (.agg #[.bool F,o]) y) (H:x=q.num) (I:y=(q.den:Int)):qdM W (.agg #[.bool b,m,.bool F,o]) q:=by
 obtain⟨m',e1,J⟩:=hx;obtain⟨o',e2,O⟩:=hy;simp only [qaP,qaV,qaN,qbw,and_true] at e1 e2;obtain⟨rfl,rfl⟩:=e1;obtain⟨rfl,rfl⟩:=e2;subst H I;refine⟨m,o,?_,J,by simpa using O⟩;rw [qU (show ¬(q.den:Int)<0 by omega)]
theorem low_num (n d:Int) (I:0<d):(if n<0 then -((n.natAbs / (n.natAbs.gcd d.natAbs:Nat):Nat):Int) else ((n.natAbs / (n.natAbs.gcd d.natAbs:Nat):Nat):Int))=(Rat.divInt n d).num/\((d.natAbs / (n.natAbs.gcd d.natAbs:Nat):Nat):Int)=((Rat.divInt n d).den:Int):=by
 obtain⟨F,H⟩:=qjV n d (by omega);rw [F,H,qU (show ¬d<0 by omega)];refine⟨?_,rfl⟩
 by_cases h:n<0
 ·rw [if_pos h,qV h];rfl
 ·rw [if_neg h,qU h];rfl
def LowSt (w:World) (q:Rat) (K:Nat) (W:World) (I:Bool) (F:Option Addr) (U J:Nat) (H:Option Addr) (no O:Nat):Prop :=
 (∃n d:Int,0<d/\Rat.divInt n d=q/\Fit n.natAbs K/\Fit d.natAbs K/\qb8 W (.agg #[.bool I,.slice F U J]) n/\qb8 W (.agg #[.bool false,.slice H no O]) d) /\
 Below w.heap.size w W/\W.heap[w.heap.size]? = some (.cells #[.bool I,.slice F U J] 180 (0,0))/\W.heap[w.heap.size+1]? = some (.cells #[.bool false,.slice H no O] 180 (0,0)) /\
  W.heap[w.heap.size+1+1]? = some (.cells #[.bool false,.slice none 0 0,.bool false,.slice none 0 0] 182 (0,0))
open Go.Lib
theorem conv4 (F H I J:UInt8) (n0 n1 n2 O:Int) (U:n0=(F.toNat:Nat)) (V:n1=(H.toNat:Nat)) (Y:n2=(I.toNat:Nat)) (Z:O=(J.toNat:Nat)) (W:World) :
  (convert 302 9 (.slice (some ⟨W.heap.size,0,none⟩) 4 4)).run prog (W.alloc (.cells #[.int .u8 n0,.int .u8 n1,.int .u8 n2,.int .u8 O] 5))=.ok (.string ⟨#[F,H,I,J]⟩) (W.alloc (.cells #[.int .u8 n0,.int .u8 n1,.int .u8 n2,.int .u8 O] 5)):=by
 subst U V Y Z;refine run_convert_bytes_back (P:=prog) _ 302 9 5 ⟨W.heap.size,0,none⟩ 4 [F,H,I,J] underlying302 underlying5 underlying9 ?_;intro j hj;have hg:=heap_alloc_new W (.cells #[.int .u8 (F.toNat:Nat),.int .u8 (H.toNat:Nat),.int .u8 (I.toNat:Nat),.int .u8 (J.toNat:Nat)] 5)
 match j,hj with
 | 0,_=>exact qC _ _ 0 _ _ _ hg
 | 1,_=>exact qC _ _ 1 _ _ _ hg
 | 2,_=>exact qC _ _ 2 _ _ _ hg
 | 3,_=>exact qC _ _ 3 _ _ _ hg
def grp (d:Nat):ByteArray:=⟨(padk 4 d).toArray⟩
theorem grp_size (d:Nat):(grp d).size=4:=by
 show (padk 4 d).toArray.size=4
 rw [qbG,qgm]
theorem four_any (d:Nat) (Z:d<10000) (w:World) :
  Calls prog 274 #[.int .i64 (d:Int)] w fun e Y=>e=.returned (.string (grp d))/\Below w.heap.size w Y:=by
 obtain⟨a,O⟩:=qX (d / 1000);obtain⟨b,U⟩:=qX (d / 100);obtain⟨F,H⟩:=qX (b % 10);obtain⟨c,V⟩:=qX (d / 10);obtain⟨c',I⟩:=qX (c % 10);obtain⟨e,he⟩:=qX (d % 10);have hg:grp d=⟨#[UInt8.ofNat (48+a),UInt8.ofNat (48+F),UInt8.ofNat (48+c'),UInt8.ofNat (48+e)]⟩:=by
  unfold grp;simp only [padk];rw [show d / 10 / 10 / 10 % 10=a by omega,show d / 10 / 10 % 10=F by omega,show d / 10 % 10=c' by omega,he]
  rfl
 have J:=conv4 (UInt8.ofNat (48+a)) (UInt8.ofNat (48+F)) (UInt8.ofNat (48+c')) (UInt8.ofNat (48+e)) (48+(a:Int)) (48+(F:Int)) (48+(c':Int)) (48+(e:Int)) (by rw [qcu (by omega)];omega) (by rw [qcu (by omega)];omega) (by rw [qcu (by omega)];omega) (by rw [qcu (by omega)];omega) w;rw [<-hg] at J;have t1:(d:Int) / 1000=a:=by omega
 have t2:(d:Int) / 100=b:=by omega
 have t3:(b:Int) % 10=F:=by omega
 have t4:(d:Int) / 10=c:=by omega
 have t5:(c:Int) % 10=c':=by omega
 have t6:(d:Int) % 10=e:=by omega
 have l1:a<10:=by omega
 have l2:b<100:=by omega
 have l3:c<1000:=by omega
 have l4:F<10:=by omega
 have l5:c'<10:=by omega
 have l6:e<10:=by omega
 clear O U H V I he hg;generalize grp d=G at *;go_enter func274,ntmps274;go_wp2;go_ret;exact⟨rfl,qbU qB qN⟩
theorem ne_empty {a:ByteArray} (h:a.size≠0):a.toList.isEmpty=false:=by
 rw [ByteArray.toList_eq];cases e:a.data.toList with
 | nil=>exact absurd (show a.size=0 by show a.data.size=0;rw [<-qbm,e];rfl) h
 | cons x l=>rfl
theorem text_any (z:Int) (K:Nat) (hK:K<=17592186000000) (v:Value) (w:World) (hv:qb8 w v z) (hz:Fit z.natAbs K) :
  Calls prog 251 #[v] w fun e w'=>e=.returned (.string (qb7 z))/\Below w.heap.size w w':=by
 obtain⟨m,rfl,am,bm,om,cm,n,M,rfl,Im,av⟩:=hv;have hn:n<=K:=by rw [<-av] at hz;exact hz.len Im
 obtain⟨zc,aH⟩:=qms Im.dig;have I:=qmr M;rw [Im.len] at I;have aS:=qeq (z:=z);have aT:=qdb (z:=z);rw [av] at aH;have au:=qH (qA aS aT);obtain⟨WT,az⟩:=qX (qb7 z);rw [az];have ak:=qH az;clear az;have bi:=qH aH;have bg:=qH I;have HM:=qH Im;have O:Below w.heap.size w (w.alloc (.cells #[.bool (decide (z<0)),.slice am n cm] 180)):=qbU qB qN;obtain⟨bz,aA⟩:=qX (decide (z<0));rw [aA] at O ⊢;have aJ:=qH aA;obtain⟨W1,aa⟩:=qY (w.alloc (.cells #[.bool bz,.slice am n cm] 180));have aG:W1.heap[w.heap.size]? = some (.cells #[.bool bz,.slice am n cm] 180 (0,0)):=by rw [aa];exact qM _ _ _ rfl
 rw [<-aa] at O;have HW:=qH (qA O aG);have aN:=Im.below O;have aZ:=qH aN;clear aS aT aH I Im av hz aA O aN;go_enter func251,ntmps251;go_wp2_with fail;rw [<-aa];clear aa;have k1:=qC W1 _ 1 _ _ _ aG;clear aG;go_wp2_with fail
 go_loopw [3,4] (fun x3 x4 W=>∃(k:Nat) (zz:Int) (t:ByteArray),k<=n/\x4=.int .i64 zz/\Hu (zz+1=k)/\x3=.string t/\Hu (t.data.toList=gtx (M.drop k))/\Hu (Below W1.heap.size W1 W)) (fun _ x4 _=>(RowKit.intOf x4+1).toNat)
 case atStart=>exact⟨n,_,⟨#[]⟩,qae _,rfl,qH (by omega),rfl,qH (by rw [qaT (by rw [HM.o.len];exact qae _)];rfl),qH qB⟩
 case round =>
  obtain⟨k,zz,t,hk,rfl,aY,rfl,ht,hB⟩:=hrel;have ae:=(hB.o.block w.heap.size (qG HW.o.2).1).trans HW.o.2;have k1:=qC wr _ 1 _ _ _ ae;have k0:=qC wr _ 0 _ _ _ ae;have bD:=qH ae;clear ae
  by_cases bI:0<k
  ·obtain⟨j,rfl⟩:∃j,k=j+1:=⟨k-1,by omega⟩;obtain rfl:zz=(j:Int):=by have:=aY.o;omega
   have bH:(j:Int)<n:=by omega
   have bu:=HM.o.addr (by omega);subst bu;have bv:=(aZ.o.below hB.o).cell j (by omega);have aB:dg M j<10000:=HM.o.dig j;have aC:=gtx_drop (L:=M) (j:=j) (by rw [HM.o.len];omega);obtain⟨d,hd⟩:=qX (dg M j);rw [hd] at bv aB aC;have af:t.size=4*(n-(j+1)):=by
    have:t.size=t.data.toList.length:=by rw [qbm];rfl
    rw [this,ht.o,qmr,qbd,HM.o.len]
   have HF:=qH (four_any d aB);have bA:=grp_size d;have ag:∀W,(Op.stringOp .add t (grp d)).run prog W=.ok (.string (t++grp d)) W:=fun W=>run_string_add_sum W _ _ (by omega)
   have ai:(t++grp d).data.toList=gtx (M.drop j):=by
    rw [ByteArray.data_append,qbf,ht.o,aC];rfl
   have aL:=qH ai;generalize grp d=G at *;clear ai bA af aC hd aB
   go_wp2_with (go_at_call 274;refine (HF.o _).mono ?_)
   rintro e w2 ⟨rfl,aQ⟩;have bf:=qH aQ;clear aQ;go_wp2;go_roundw
   case rel=>exact⟨j,_,_,by omega,rfl,qH (by omega),rfl,aL,qH (hB.o.trans (bf.o.mono hB.o.size))⟩
   case measure=>simp [RowKit.intOf]
  ·obtain rfl:k=0:=by omega
   obtain rfl:zz = -1:=by have:=aY.o;omega
   have H:=ht.o;rw [List.drop_zero] at H;have af:t.size=4*n:=by
    have:t.size=t.data.toList.length:=by rw [qbm];rfl
    rw [this,H,bg.o]
   rw [bi.o] at H;obtain⟨R,hR⟩:=qX (bare z.natAbs);rw [hR] at H;have ah:zc+R.length=4*n:=by
    have h1:t.size=t.data.toList.length:=by rw [qbm];rfl
    rw [<-af,h1,H,qaf,qaO]
   obtain⟨N4,aO⟩:=qX (4*n);rw [aO] at af ah;have aP:∀i (h:i<t.size),t[i]=(List.replicate zc 48++R).getD i 0:=fun i h=>by
    have:t[i]=t.data.toList[i]'(by rw [qbm];exact h):=rfl;rw [this,<-H,qaa,qad (by rw [qbm];exact h)];rfl
   have Y:t.extract zc N4=⟨R.toArray⟩:=by
    apply ByteArray.ext;rw [ByteArray.data_extract];apply Array.ext';rw [Array.toList_extract,H];simp only [List.extract,List.drop_append,qaO,qaG,List.drop_zero];rw [qaT (by rw [qaO];exact qae _),qbq,qak (by omega)]
   have bE:N4<=70368744000000:=by omega
   have aI:=qH aP;have aK:=qH Y;have HR:=qH hR;have Hl:=qH ah;clear aP Y hR H aO;go_wp2_with fail
   go_loopw [5] (fun x5 W=>∃k:Nat,x5=.int .i64 k/\k<=zc/\W=wr) (fun x5 _=>zc-(RowKit.intOf x5).toNat)
   case atStart=>exact⟨0,rfl,qal _,rfl⟩
   case round =>
    obtain⟨k,rfl,bJ,hW⟩:=hrel;have bq:=hW.symm;clear hW;subst bq
    by_cases aF:k<zc
    ·have Z:k<t.size:=by have:=Hl.o;omega
     have aD:(k:Int)<N4:=by have:=Hl.o;omega
     have bK:(t[k]'Z).toNat=48:=by
      rw [aI.o k Z,qaa,qas (by rw [qaO];exact aF),qbc,if_pos aF];rfl
     go_wp2;go_roundw
     case rel=>exact⟨k+1,by go_num,aF,trivial⟩
     case measure=>simp [RowKit.intOf];omega
    ·obtain rfl:k=zc:=by omega
     by_cases h0:z.natAbs=0
     ·have J:R=[]:=by rw [<-HR.o];unfold bare;rw [if_pos h0]
      subst J;have aD:k=N4:=by have:=Hl.o;simpa using this
      have aW:qb7 z=⟨#[48]⟩:=by
       rw [au.o.2 (by omega),h0];unfold num;rw [qb1 (by decide)];rfl
      have Y:=aK.o;subst aD;rw [ak.o] at aW;subst aW;go_wp2;go_ret;exact⟨rfl,HW.o.1.trans (hB.o.mono HW.o.1.size)⟩
     ·have J:R=decDigits z.natAbs:=by rw [<-HR.o];unfold bare;rw [if_neg h0]
      have ax:R≠[]:=by rw [J];exact qdd _
      have bF:=List.length_pos_iff.2 ax;have aD:(k:Int)<N4:=by have:=Hl.o;omega
      have bC:k<=N4:=by omega
      have Z:k<t.size:=by omega
      obtain⟨c,hc⟩:=qX ((t[k]'Z).toNat);have aR:c≠48:=by
       rintro rfl;obtain⟨x,l,aX⟩:∃x l,R=x :: l:=by
        cases R with
        | nil=>exact absurd rfl ax
        | cons x l=>exact⟨x,l,rfl⟩
       have h1:=aI.o k Z;rw [qaa,qaq (by rw [qaO];exact qae _),qaO,qaG,aX] at h1;replace h1:t[k]=x:=h1;rw [h1] at hc;exact qlR (HR.o.trans aX) (qif hc)
      have bG:((c:Int) == 48)=false:=by rw [beq_eq_false_iff_ne];omega
      have Y:=aK.o;have aj:(⟨R.toArray⟩:ByteArray)=num z.natAbs:=by rw [J];rfl
      rw [aj] at Y;have bB:(num z.natAbs).size=R.length:=by rw [J];rfl
      have hne:=ne_empty (a:=num z.natAbs) (by omega);have aU:=au.o.1;have aV:=au.o.2;have aM:Hu (z<0->qb7 z=⟨#[45]⟩++num z.natAbs):=qH aU;have bn:Hu (¬z<0->qb7 z=num z.natAbs):=qH fun h=>aV (by omega)
      clear aU aV;generalize num z.natAbs=U at *;have ag:∀W,(Op.stringOp .add ⟨#[45]⟩ U).run prog W=.ok (.string (⟨#[45]⟩++U)) W:=fun W=>run_string_add_sum W _ _ (by have:(⟨#[45]⟩:ByteArray).size=1:=rfl;have:=Hl.o;omega)
      obtain⟨V,hV⟩:=qX ((⟨#[45]⟩:ByteArray)++U);rw [hV] at ag aM;clear hV J ax aj aR bB;cases bz with
      | true =>
       have F:z<0:=of_decide_eq_true aJ.o;have ay:V=WT:=by rw [<-ak.o,aM.o F]
       subst ay;clear F;go_wp2;go_ret;exact⟨rfl,HW.o.1.trans (hB.o.mono HW.o.1.size)⟩
      | false =>
       have F:¬z<0:=of_decide_eq_false aJ.o;have ay:U=WT:=by rw [<-ak.o,bn.o F]
       subst ay;clear F;go_wp2;go_ret;exact⟨rfl,HW.o.1.trans (hB.o.mono HW.o.1.size)⟩
theorem qij {z:Int} (h:z<0):(qb7 z).size=(num z.natAbs).size+1:=by
 rw [qeq h,ByteArray.size_append];have:(⟨#[45]⟩:ByteArray).size=1:=rfl;omega
theorem qik {z:Int} (h:¬z<0):(qb7 z).size=(num z.natAbs).size:=by rw [qdb h]
theorem num_fit {x K:Nat} (h:Fit x K) (F:0<K):(num x).size<=4*K:=by
 rw [qdF];refine qcq _ _ (by omega) ?_;rw [<-pow4];exact h
def qlN (w:World) (z:Int) (e:Ending) (F:World):Prop:=((num z.natAbs).size<=600/\e=.returned (.tuple #[.string (qb7 z),.int .i64 0])\/¬(num z.natAbs).size<=600/\e=.returned (.tuple #[.string ⟨#[]⟩,.int .i64 6]))/\Below w.heap.size w F
theorem qnj (z:Int) (K:Nat) (ah:0<K) (hK:K<=17592186000000) (v:Value) (w:World) (hv:qb8 w v z) (hz:Fit z.natAbs K) :
  Calls prog 194 #[v] w fun e w'=>qlN w z e w':=by
 have HT:=qH (fun (W:World) (h:Below w.heap.size w W)=>text_any z K hK v W (hv.below h) hz);have hn:=num_fit hz ah;have F:=qij (z:=z);have H:=qik (z:=z);obtain⟨m,rfl,am,bm,om,cm,nm,M,rfl,_,_⟩:=hv;obtain⟨N,hN⟩:=qX ((num z.natAbs).size);obtain⟨S,hS⟩:=qX (qb7 z);rw [hS] at HT F H;rw [hN] at hn F H;unfold qlN;rw [hN,hS];obtain⟨L,hL⟩:=qX S.size;rw [hL] at F H;obtain⟨b,hb⟩:=qX (decide (z<0));rw [hb] at HT ⊢;obtain⟨W1,O⟩:=qY (w.alloc (.cells #[.bool b,.slice am nm cm] 180));have Z:Below w.heap.size w W1:=O▸qbU qB qN;have aa:W1.heap[w.heap.size]? = some (.cells #[.bool b,.slice am nm cm] 180 (0,0)):=by rw [O];exact qM _ _ _ rfl
 have H1:=qH (qA Z aa);have J:L=if b=true then N+1 else N:=by
  subst hb
  by_cases h:z<0
  ·rw [qV h,if_pos rfl];exact F h
  ·rw [qU h,if_neg (by decide)];exact H h
 clear Z aa F H hS hN hb hz;go_enter func194,ntmps194;go_wp2_with fail;rw [<-O];clear O;refine (HT.o _ H1.o.1).mono ?_;rintro e w2 ⟨rfl,Y⟩;have ae:=zkeep Y _ _ H1.o.2;have k0:=qC w2 _ 0 _ _ _ ae;have HB:=qH (H1.o.1.trans (Y.mono H1.o.1.size));clear Y ae;cases b with
 | true =>
  rw [if_pos rfl] at J;subst J
  by_cases I:N<=600
  ·have V:¬(600:Int)<((N+1:Nat):Int)-1:=by omega
   have af:¬(600:Int)<(N:Int)+1-1:=by omega
   have ag:¬600<N:=by omega
   have U:=qH I;clear I;go_wp2_with fail
   go_ret2
   exact⟨qan ⟨U.o,rfl⟩,HB.o⟩
  ·have V:(600:Int)<((N+1:Nat):Int)-1:=by omega
   have af:(600:Int)<(N:Int)+1-1:=by omega
   have ag:600<N:=by omega
   have U:=qH I;clear I;go_wp2_with fail
   go_ret2
   exact⟨qag ⟨U.o,rfl⟩,HB.o⟩
 | false =>
  rw [if_neg (by decide)] at J;subst J
  by_cases I:L<=600
  ·have V:¬(600:Int)<(L:Int):=by omega
   have U:=qH I;clear I;go_wp2_with fail
   go_ret2
   exact⟨qan ⟨U.o,rfl⟩,HB.o⟩
  ·have V:(600:Int)<(L:Int):=by omega
   have U:=qH I;clear I;go_wp2_with fail
   go_ret2
   exact⟨qag ⟨U.o,rfl⟩,HB.o⟩
theorem qiY {w H:World} {z:Int} {e:Ending} (h:qlN w z e H):∃(T:ByteArray) (c:Int),e=.returned (.tuple #[.string T,.int .i64 c])/\((num z.natAbs).size<=600/\T=qb7 z/\c=0\/¬(num z.natAbs).size<=600/\T=⟨#[]⟩/\c=6)/\Below w.heap.size w H:=by
 obtain⟨h | h,F⟩:=h
 ·exact⟨_,_,h.2,qan ⟨h.1,rfl,rfl⟩,F⟩
 ·exact⟨_,_,h.2,qag ⟨h.1,rfl,rfl⟩,F⟩
theorem rout_any (q:Rat) (K:Nat) (ag:0<K) (hK:K<=17592186000000) (v:Value) (w:World) (hv:qdM w v q) (fn:Fit q.num.natAbs K) (fd:Fit q.den K) :
  Calls prog 132 #[v] w fun e w'=>qgs w q e w':=by
 obtain⟨m,o,rfl,hm,ho⟩:=hv;have aj:∀W,Below w.heap.size w W->qb8 W (.agg #[.bool (decide (q.num<0)),m]) q.num:=fun W h=>⟨m,rfl,hm.below h⟩
 have ai:∀W,Below w.heap.size w W->qb8 W (.agg #[.bool false,o]) (q.den:Int):=fun W h=>⟨o,by rw [qU (by omega)],by simpa using ho.below h⟩
 have HN:=qH (fun (W:World) (h:Below w.heap.size w W)=>qnj q.num K ag hK _ W (aj W h) fn);have HD:=qH (fun (W:World) (h:Below w.heap.size w W)=>qnj (q.den:Int) K ag hK _ W (ai W h) (by simpa using fd));have Z:qb7 (q.den:Int)=num q.den:=by
  rw [qdb (show ¬(q.den:Int)<0 by omega),qam]
 have af:=qH Z;generalize decide (q.num<0)=b at *;obtain⟨am,bm,om,cm,nm,M,rfl,_,_⟩:=hm;obtain⟨ao,bo,oo,co,no,O,rfl,_,_⟩:=ho;clear aj ai fn fd Z;obtain⟨W1,I⟩:=qY ((w.alloc (.cells #[.bool b,.slice am nm cm,.bool false,.slice ao no co] 182)).alloc (.cells #[.string ⟨#[]⟩,.string ⟨#[]⟩] 44));have ah:Below w.heap.size w W1:=I▸qbU (qbU qB qN) qN;have F:W1.heap[w.heap.size]? = some (.cells #[.bool b,.slice am nm cm,.bool false,.slice ao no co] 182 (0,0)):=by rw [I,qL _ _ _ (by simp only [qab];omega)];exact qM _ _ _ rfl
 have ak:W1.heap[w.heap.size+1]? = some (.cells #[.string ⟨#[]⟩,.string ⟨#[]⟩] 44 (0,0)):=by rw [I];exact qM _ _ _ (by simp)
 have k0:=qC W1 _ 0 _ _ _ F;have k1:=qC W1 _ 1 _ _ _ F;have H1:=qH (qA ah (qA F ak));clear ah F ak;go_enter func132,ntmps132;go_wp2_with fail;rw [<-I];clear I;go_wp2_with fail;refine (HN.o _ H1.o.1).mono ?_;intro e w2 Y;obtain⟨T,c,rfl,hT,V⟩:=qiY Y;have F:=zkeep V _ _ H1.o.2.1;have k2:=qC w2 _ 2 _ _ _ F;have k3:=qC w2 _ 3 _ _ _ F;have H2:=qH (qA (H1.o.1.trans (V.mono H1.o.1.size)) (zkeep V _ _ H1.o.2.2));clear V F Y k0 k1;go_wp2_with fail;refine (HD.o _ H2.o.1).mono ?_;intro e w3 h3;obtain⟨T2,c2,rfl,aa,ae⟩:=qiY h3;rw [af.o,qam] at aa;have J:=qH (qA (H2.o.1.trans (ae.mono H2.o.1.size)) (zkeep ae _ _ H2.o.2));clear ae h3 k2 k3;rcases hT with ⟨h1,H,rfl⟩ | ⟨h1,H,rfl⟩
 ·rcases aa with ⟨Y,U,rfl⟩ | ⟨Y,U,rfl⟩
  ·have HS:Hu (Short q):=qH ⟨h1,Y⟩;have HE:Hu (Value.agg #[.string T,.string T2]=fstr q):=qH (by rw [H,U];rfl);clear h1 Y H U
   go_wp2_with (with_reducible refine sR_ rfl 44 _ _ rfl (w.heap.size+1) #[.string T,.string T2] J.o.2 2 ?_)
   exact qR (v:=.tuple #[.agg #[.string T,.string T2],.int .i64 0]) (rB_ rfl (w.heap.size+1) (qT _ _ _ _ _ _ J.o.2) underlying44 2) rfl ⟨qan ⟨HS.o,by rw [HE.o]⟩,qS J.o.1 (by omega) _⟩
  ·have HS:Hu (¬Short q):=qH (fun h=>Y h.2);clear h1 Y H U
   go_wp2_with (with_reducible refine sR_ rfl 44 _ _ rfl (w.heap.size+1) #[.string ⟨#[]⟩,.string ⟨#[]⟩] J.o.2 2 ?_)
   exact qR (v:=.tuple #[.agg #[.string ⟨#[]⟩,.string ⟨#[]⟩],.int .i64 6]) (rB_ rfl (w.heap.size+1) (qT _ _ _ _ _ _ J.o.2) underlying44 2) rfl ⟨qag ⟨HS.o,rfl⟩,qS J.o.1 (by omega) _⟩
 ·have HS:Hu (¬Short q):=qH (fun h=>h1 h.1);clear h1 H aa
  go_wp2_with (with_reducible refine sR_ rfl 44 _ _ rfl (w.heap.size+1) #[.string ⟨#[]⟩,.string ⟨#[]⟩] J.o.2 2 ?_)
  exact qR (v:=.tuple #[.agg #[.string ⟨#[]⟩,.string ⟨#[]⟩],.int .i64 6]) (rB_ rfl (w.heap.size+1) (qT _ _ _ _ _ _ J.o.2) underlying44 2) rfl ⟨qag ⟨HS.o,rfl⟩,qS J.o.1 (by omega) _⟩
