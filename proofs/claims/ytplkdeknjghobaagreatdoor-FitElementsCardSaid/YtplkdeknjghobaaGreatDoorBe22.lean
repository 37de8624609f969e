import Derived.Deep.Cut
import Derived.Deep.RegionHeld
import Derived.Test.YtplkdeknjghobaaGreatDoorBe21
set_option maxRecDepth 100000
set_option maxHeartbeats 0
namespace Go.Proofs.YtplkdeknjghobaaGreatDoor.p4
open Go.RowKit
theorem ql3:(Tryz.prog.info? 3).map (fun i=>(i.zero,i.size,i.bytes))=some (some (.int .i64 0),1,8):=by kernel_rfl
def DigAt (W:World) (v:Value) (x N:Nat):Prop:=∃(ao:Option Addr) (b off c n:Nat) (L:List Nat),v=.slice ao n c/\L.length=n/\n<=c/\n<=N/\Cells W ao b off L/\Dig L/\mval L=x
theorem DigAt.below {W W':World} {v:Value} {x N:Nat} (h:DigAt W v x N) (hb:Below W.heap.size W W'):DigAt W' v x N:=by
 obtain⟨ao,b,off,c,n,L,rfl,h1,h2,h3,h4,h5⟩:=h;exact⟨ao,b,off,c,n,L,rfl,h1,h2,h3,h4.below hb,h5⟩
theorem MagAt.digs {W:World} {v:Value} {x K:Nat} (h:MagAt W v x) (hx:Fit x K):DigAt W v x K:=by
 obtain⟨ao,b,off,c,n,L,rfl,h1,rfl⟩:=h;exact⟨ao,b,off,c,n,L,rfl,h1.len,h1.cap,hx.len h1,h1.cells,h1.dig,rfl⟩
theorem qfx {W:World} {B e n N:Nat} {v:Value} {S:List Nat} (h:W.ownsRow B e 1 v n (row64 S)) (hd:Dig S) (hN:n<=N):DigAt W v (mval S) N:=by
 have hl:S.length=n:=by have:=h.1;rw [qfC] at this;omega
 rcases h.2 with ⟨rfl,rfl⟩ | ⟨g,c,cur,rfl,hb,hg,hnc,hm,hs,ht⟩
 ·rw [qbu.1 hl];exact⟨none,0,0,0,0,[],rfl,rfl,qad _,hN,⟨fun h=>absurd h (by simp),fun k h=>absurd h (by simp)⟩,Dig.nil,rfl⟩
 ·exact⟨_,g,0,c,n,S,rfl,hl,hnc,hN,qcn h hl,hd,rfl⟩
theorem cut_digs (x N:Nat) (v:Value) (w:World) (h:DigAt w v x N) (hN:N<=17592186044416):Calls Tryz.prog 271 #[v] w fun e w'=>∃u,e=.returned u/\w'=w/\MagAt w u x:=by
 obtain⟨ao,b,off,c,n,L,rfl,h1,h2,h3,h4,h5,rfl⟩:=h;exact cut_any ao b off c n L w h1 (by omega) h2 h4 h5
theorem qlq (x N:Nat) (v:Value) (w:World) (h:DigAt w v x N) (hN:N<=17592186044416):Calls Tryz.prog 271 #[v] w fun e w'=>∃u,e=.returned u/\w'=w/\MagAt w u x/\∀B,HiS B v->HiS B u:=by
 obtain⟨ao,b,off,c,n,L,rfl,h1,h2,h3,h4,h5,rfl⟩:=h;exact qlr ao b off c n L w h1 (by omega) h2 h4 h5
theorem qfa {ops:Array Oper} {rest:List Oper} {o:Oper} {a:Act} {w:World} {Q:Exit->Act->World->Prop} (hgd:o.guard=none) (s x:Operand)
  (ho:o.op=.call { callee:=.builtin .append,args:=#[s,x],argTypes:=#[32,32] }) {W0:World} {B:Nat} {v:Value} {n:Nat} {S:List Nat} {d:Nat}
  (hB:Below B W0 w) (hB0:B=W0.heap.size) (hown:w.ownsRow B 3 1 v n (row64 S)) (hs:a.eval s=v) (hx:a.eval x=.slice (some ⟨w.heap.size,0,none⟩) 1 1) (hn:n<17592186044416) {z:Int} (hz:z=(d:Int))
  (h:∀v' w',Hid (w'.ownsRow B 3 1 v' (n+1) (row64 (S++[d])))->Hid (Below B W0 w')->wpList Tryz.prog ops Q rest (a.put o.dst v') w') :
  wpList Tryz.prog ops Q (o :: rest) a (w.alloc (.cells #[.int .i64 z] 3)):=by
 subst hz;obtain⟨i0,hi,hz0,hz1,hz2⟩:=info_parts ql3;have hsz:=hB.size;refine wpList_append_own _ hgd s x 32 ho B 3 i0 (.int .i64 0) 1 8 Tryz.underlying32 hi hz0 hz1 hz2 rfl (by decide) v n (row64 S) hs (hown.alloc _) ⟨w.heap.size,0,none⟩ 1 1 [.int .i64 (d:Int)] hx rfl ?c1 ?c2 ?c3 ?c4 ?c5 ?_
 case c1 =>
  intro j u hj
  match j,hj with
  | 0,hj=>simp at hj;subst hj;simp [Addr.add]
 case c2=>intro u hu;simp at hu;subst hu;rfl
 case c3=>unfold maxLen;omega
 case c4=>omega
 case c5=>simp;omega
 intro v' w' hown' hgrow _;refine h v' w' (qH ?_) (qH ?_)
 ·rw [qkY];exact hown'
 ·exact (hB.alloc (by omega) _).grown hgrow (by simp;omega) (fun k hk=>(hown.lt k hk).1)
theorem qkR (W:World) (n:Nat) (hn:n<=maxLen):(W.alloc (.cells (madeCells #[.int .i64 0] n) 3)).ownsRow W.heap.size 3 1 (.slice (some ⟨W.heap.size,0,none⟩) n n) n (row64 (List.replicate n 0)) :=
 qf4 (qeN W n 3) (by simp) qN hn
theorem once_any (x K d:Nat) (hK:K<=17592186040000) (hd0:0<d) (hd:d<=10000) (vm:Value) (w:World) (hm:DigAt w vm x K) :
  Calls Tryz.prog 290 #[vm,.int .i64 (d:Int)] w fun e w'=>∃v,e=.returned (.tuple #[v,.int .i64 ((x % d:Nat):Int)])/\Below w.heap.size w w'/\MagAt w' v (x / d)/\HiS w.heap.size v:=by
 obtain⟨am,bm,om,cm,n,M,rfl,lm,cpm,hn0,CM,DM,rfl⟩:=hm;have hn:n<=17592186040000:=qaj hn0 hK;have hmk:=run_make_row' (P:=Tryz.prog) 32 3 (.int .i64 0) 8 Tryz.underlying32 ql3 rfl .i64 .i64 n (by omega) (by omega);have HM:=qH (qA lm (qA CM DM));have Hd:=qH (qA hd0 hd);obtain⟨rr,hrr⟩:=qX (mval M % d);have Hrr:=qH hrr;rw [hrr];have h0:((d:Int) == 0)=false:=by rw [beq_eq_false_iff_ne];omega
 have h01:¬d=0:=by omega
 clear CM DM lm hn0 hK hrr hd hd0;go_enter Tryz.func290,Tryz.ntmps290;go_wp2
 go_loopw [7,8] (fun x7 x8 W=>∃(k r:Nat) (z:Int) (R:List Nat),k<=n/\x8=.int .i64 z/\Hid (z+1=k)/\x7=.int .i64 r/\Hid (ShortInv M d k R r)/\Hid (W.ownsRow w.heap.size 3 1 (.slice (some ⟨w.heap.size,0,none⟩) n n) n (row64 R))/\Hid (Below w.heap.size w W)) (fun _ x8 _=>(intOf x8+1).toNat)
 case atStart =>
  refine⟨n,0,_,List.replicate n 0,qad _,rfl,qH (by omega),rfl,qH ?_,qH (qkR w n (by unfold maxLen;omega)),qH (qB.alloc qN _)⟩;have:=ShortInv.start M Hd.out.1
  rwa [HM.out.1] at this
 case round =>
  obtain⟨k,r,z,R,hk,rfl,hz,rfl,hI,hO,hB⟩:=hrel;clear hmk
  by_cases hk0:0<k
  ·obtain⟨j,rfl⟩:∃j,k=j+1:=⟨k-1,by omega⟩;obtain rfl:z=(j:Int):=by have:=hz.out;omega
   have hji:(j:Int)<n:=by omega
   have haw:=HM.out.2.1.addr (by rw [HM.out.1];omega);subst haw;have hcm:=(HM.out.2.1.below hB.out).cell j (by rw [HM.out.1];omega);have hm:dg M j<10000:=HM.out.2.2 j;obtain⟨m,hmm⟩:=qX (dg M j);rw [hmm] at hcm hm;have hr:=hI.out.rest;have hlr:R.length=n:=hI.out.len.trans HM.out.1;have hcr:wr.cell? ⟨w.heap.size,j,none⟩=some (.int .i64 ((dg R j:Nat):Int)):=(hO.out.cellAt j (by omega)).trans (qiU R j (by omega));have hfr:wr.frozen? ⟨w.heap.size,j,none⟩=false:=hO.out.frozenAt j;have hdd:=Hd.out.2;obtain⟨t1,ht1⟩:=qX (r*10000:Nat);obtain⟨t2,ht2⟩:=qX (t1+m:Nat);obtain⟨q,hq⟩:=qX (t2 / d:Nat);obtain⟨s,hs⟩:=qX (t2 % d:Nat);have hstep:=hI.out.step (by rw [HM.out.1];omega) HM.out.2.2;have hql:q<10000:=by
    have:=hstep.dig j;rw [qcQ (by omega),show M.getD j 0=m from hmm,ht1,ht2,hq] at this;exact this
   rw [show M.getD j 0=m from hmm,ht1,ht2,hq,hs] at hstep;have hsl:s<d:=by rw [<-hs];exact qbk _ Hd.out.1
   have r1:(r:Int)*10000=t1:=by omega
   have r4:(t1:Int)+m=t2:=by omega
   have r6:=tdivN t2 d q hq;have r9:=tmodN t2 d s hs;have Hst:=qH hstep;have r10:(t2:Int)<9000000000:=by omega
   clear hstep ht1 ht2 hq hs hlr hm hmm;go_wp2;go_roundw
   case rel=>exact⟨j,s,_,R.set j q,by omega,rfl,qH (by omega),rfl,Hst,qH (stored64 hO.out j q rfl),qH (hB.out.setCell qN _)⟩
   case measure=>simp [intOf]
  ·obtain rfl:k=0:=by omega
   obtain rfl:z = -1:=by have:=hz.out;omega
   have hlr:R.length=n:=hI.out.len.trans HM.out.1;have HD:=qH (qfx (N:=n) hO.out hI.out.dig qN);have HH:=own_his hO.out;rw [hI.out.done.1] at HD;have hre:r=rr:=by rw [<-Hrr.out];exact hI.out.done.2
   subst hre;clear hlr
   go_wp2_with (first | (go_at_call 271;refine (qlq _ n _ _ HD.out (by omega)).mono ?_;rintro e w1 ⟨u,rfl,rfl,hu,hh⟩) | fail)
   go_ret2
   exact⟨_,rfl,hB.out,hu,hh _ HH⟩
theorem own_lit (W:World) (d:Nat) (e:TypeId) {B g:Nat} (hg:g=W.heap.size) (hB:B<=g):(W.alloc (.cells #[.int .i64 (d:Int)] e)).ownsRow B e 1 (.slice (some ⟨g,0,none⟩) 1 1) 1 (row64 [d]):=by
 subst hg;exact⟨rfl,.inr ⟨W.heap.size,1,_,rfl,hB,heap_alloc_new W _,qad _,by decide,rfl,rfl⟩⟩
open Go.Lib
theorem qj8:∀(k j a d:Nat),d<10 ^ k->padk (j+k) (a*10 ^ k+d)=padk j a++padk k d
 | 0,j,a,d,h=>by
  have:d=0:=by simpa using h
  subst this;simp [padk]
 | k+1,j,a,d,h=>by
  have e:a*10 ^ (k+1)=a*10 ^ k*10:=by rw [qaD,qav]
  show padk (j+k+1) _=_
  rw [padk,padk,e,show (a*10 ^ k*10+d) / 10=a*10 ^ k+d / 10 by omega,show (a*10 ^ k*10+d) % 10=d % 10 by omega,qj8 k j a (d / 10) (by rw [qaD] at h;omega),qay]
def gtx:List Nat->List UInt8
 | []=>[]
 | d :: l=>gtx l++padk 4 d
theorem gtx_eq:∀(L:List Nat),(∀d∈L,d<10000)->gtx L=padk (4*L.length) (mval L)
 | [],_=>rfl
 | d :: L,h=>by
  have h1:=qj8 4 (4*L.length) (mval L) d (h d qbQ);have e:mval (d :: L)=mval L*10 ^ 4+d:=by
   show d+10000*mval L=mval L*10000+d
   omega
  rw [e]
  show gtx L++padk 4 d=padk (4*L.length+4) _
  rw [h1,gtx_eq L (fun x hx=>h x (qbG _ hx))]
theorem gtx_drop {L:List Nat} {j:Nat} (h:j<L.length):gtx (L.drop j)=gtx (L.drop (j+1))++padk 4 (dg L j):=by
 rw [qbp h,gtx];unfold dg;rw [qaa,qae h];rfl
theorem pow4 (k:Nat):(10000:Nat) ^ k=10 ^ (4*k):=by rw [Nat.pow_mul]
theorem qlU (L:List Nat):(gtx L).length=4*L.length:=by
 induction L with
 | nil=>rfl
 | cons d L ih=>rw [gtx,qaf,ih,qgw,qbI];omega
def bare (x:Nat):List UInt8:=if x=0 then [] else decDigits x
theorem qlV {L:List Nat} (hd:Dig L):∃z,gtx L=List.replicate z 48++bare (mval L):=by
 have h1:=gtx_eq L hd.mem;have h2:=hd.lt;rw [pow4] at h2;unfold bare
 by_cases h0:mval L=0
 ·rw [if_pos h0];rw [h0,qfX] at h1;exact⟨4*L.length,by rw [h1,List.append_nil]⟩
 ·rw [if_neg h0];have hl:0<4*L.length:=by
   rcases qaK L.length with h | h
   ·rw [qbu.1 h] at h0;exact absurd rfl h0
   ·omega
  exact⟨_,by rw [h1,qjv _ _ hl h2]⟩
theorem qlg {x:Nat} {c:UInt8} {t:List UInt8} (h:bare x=c :: t):c≠48:=by
 unfold bare at h;split at h
 ·cases h
 ·rintro rfl;rename_i h0;exact h0 (qeX x (by rw [h];rfl))
def qb4 (W:World) (v:Value) (z:Int):Prop:=∃m,v=.agg #[.bool (decide (z<0)),m]/\MagAt W m z.natAbs
theorem qb4.below {W W':World} {v:Value} {z:Int} (h:qb4 W v z) (hb:Below W.heap.size W W'):qb4 W' v z:=by
 obtain⟨m,h1,h2⟩:=h;exact⟨m,h1,h2.below hb⟩
theorem qb4.shape {W:World} {v:Value} {z:Int} (h:qb4 W v z):∃(b:Bool) (a:Option Addr) (n c:Nat),v=.agg #[.bool b,.slice a n c]:=by
 obtain⟨m,rfl,am,bm,om,cm,n,M,rfl,Im,hMx⟩:=h;exact⟨_,am,n,cm,rfl⟩
theorem qkL {W:World} {m:Value} {x:Nat} {neg:Bool} (h:MagAt W m x):qb4 W (.agg #[.bool (neg && !decide (x=0)),m]) (if neg=true then -(x:Int) else x):=by
 have hb:(neg && !decide (x=0))=decide ((if neg=true then -(x:Int) else x)<0):=by
  cases neg with
  | false=>rw [Bool.false_and,if_neg (by simp)];exact (qU (by omega)).symm
  | true =>
   rw [if_pos rfl,Bool.true_and]
   by_cases h0:x=0
   ·rw [qV h0];exact (qU (by omega)).symm
   ·rw [qU h0];exact (qV (by omega)).symm
 rw [hb];refine⟨m,rfl,?_⟩;cases neg with
 | false=>simpa using h
 | true=>rw [if_pos rfl,qa9,qal];exact h
theorem qjZ {W:World} {ao:Option Addr} {b off c n:Nat} {L:List Nat} (h:IsM W ao b off c n L):n=0↔mval L=0:=by rw [h.nrm.zero,h.len]
theorem ql6 {W:World} {ao:Option Addr} {b off c n g:Nat} {L:List Nat} {cs:Array Value} {t:TypeId} {fz:Nat×Nat} (h:IsM W ao b off c n L) (hg:W.heap[g]? = some (.cells cs t fz)) (hne:∀x∈cs.toList,∀d,x≠.int .i64 d) (h0:0<n):b≠g:=by
 rintro rfl;have h1:=h.cell 0 h0;unfold World.cell? at h1;simp only [hg] at h1;have h2:cs[off+0]? = some (.int .i64 ((dg L 0:Nat):Int)):=by
  simpa using h1
 exact hne _ (by rw [Array.mem_toList_iff];exact Array.mem_of_getElem? h2) _ rfl
theorem qce {W W':World} {v:Value} {x g:Nat} {cs:Array Value} {t:TypeId} {fz:Nat×Nat} (h:MagAt W v x) (hk:W.grownBy W' (some g)) (hg:W.heap[g]? = some (.cells cs t fz)) (hne:∀x∈cs.toList,∀d,x≠.int .i64 d):MagAt W' v x:=by
 obtain⟨ao,b,off,c,n,L,rfl,h1,h2⟩:=h;exact⟨ao,b,off,c,n,L,rfl,⟨h1.len,h1.cap,qeL hk h1.cells (fun h0=>ql6 h1 hg hne (by rw [<-h1.len];exact h0)),h1.dig,h1.nrm⟩,h2⟩
theorem qcx {W:World} {v:Value} {x g:Nat} {cs cs':Array Value} {t:TypeId} {fz:Nat×Nat} (h:MagAt W v x) (hg:W.heap[g]? = some (.cells cs t fz)) (hne:∀x∈cs.toList,∀d,x≠.int .i64 d):MagAt (W.setRow g cs') v x:=qce h (qb5 W g cs') hg hne
theorem qkT {W W':World} {v:Value} {z:Int} {g:Nat} {cs:Array Value} {t:TypeId} {fz:Nat×Nat} (h:qb4 W v z) (hk:W.grownBy W' (some g)) (hg:W.heap[g]? = some (.cells cs t fz)) (hne:∀x∈cs.toList,∀d,x≠.int .i64 d):qb4 W' v z:=by
 obtain⟨m,h1,h2⟩:=h;exact⟨m,h1,qce h2 hk hg hne⟩
theorem qcr {W:World} {v:Value} {z:Int} {g:Nat} {cs cs':Array Value} {t:TypeId} {fz:Nat×Nat} (h:qb4 W v z) (hg:W.heap[g]? = some (.cells cs t fz)) (hne:∀x∈cs.toList,∀d,x≠.int .i64 d):qb4 (W.setRow g cs') v z:=qkT h (qb5 W g cs') hg hne
theorem nd2 (b:Bool) (a:Option Addr) (n c:Nat):∀x∈(#[.bool b,.slice a n c]:Array Value).toList,∀d,x≠.int .i64 d:=by
 intro x hx d;rcases qaP.1 hx with rfl | hx
 ·intro h;cases h
 ·rw [qap.1 hx];intro h;cases h
theorem nd4 (b b':Bool) (a a':Option Addr) (n n' c c':Nat):∀x∈(#[.bool b,.slice a n c,.bool b',.slice a' n' c']:Array Value).toList,∀d,x≠.int .i64 d:=by
 intro x hx d;rcases qaP.1 hx with rfl | hx
 ·intro h;cases h
 rcases qaP.1 hx with rfl | hx
 ·intro h;cases h
 rcases qaP.1 hx with rfl | hx
 ·intro h;cases h
 ·rw [qap.1 hx];intro h;cases h
theorem qlZ {B:Nat} {b m:Value} (h:HiS B m):HiP B (.agg #[b,m]):=fun b' x e=>by
 simp only [qaJ,qaL,qaH,and_true] at e;rw [<-e.2];exact h
theorem qj1 (x N:Nat) (neg:Bool) (vm:Value) (w:World) (hm:DigAt w vm x N) (hN:N<=17592186044416) :
  Calls Tryz.prog 241 #[.bool neg,vm] w fun e w'=>∃v,e=.returned v/\Below w.heap.size w w'/\qb4 w' v (if neg=true then -(x:Int) else x)/\∀B,HiS B vm->HiP B v:=by
 have hc:=fun (W:World) (h:Below w.heap.size w W)=>qlq x N vm W (hm.below h) hN
 obtain⟨ao,b,off,c0,n0,L,rfl,_,_,_,_,_,_⟩:=hm;have HC:=qH hc;have hba:Below w.heap.size w (w.alloc (.cells #[.bool false,.slice none 0 0] 180)):=qB.alloc qN _;have HA:=qH (qA hba (qM w (.cells #[.bool false,.slice none 0 0] 180) _ rfl));clear hc hba;go_enter Tryz.func241,Tryz.ntmps241
 go_wp2_with (go_at_call 271;refine (HC.out _ HA.out.1).mono ?_)
 rintro e w1 ⟨u,rfl,rfl,⟨am,bm,om,c,n,M,rfl,Im,hx⟩,hh⟩;have hn0:n=0↔x=0:=by rw [qjZ Im,hx]
 have hM:MagAt (w.alloc (.cells #[.bool false,.slice none 0 0] 180)) (.slice am n c) x:=⟨am,bm,om,c,n,M,rfl,Im,hx⟩;have hP:=fun b=>qcr (cs':=#[.bool b,.slice am n c]) (qkL (neg:=neg) hM) HA.out.2 (nd2 false none 0 0)
 have HP:=qH hP;have Hb:=fun b=>qH (qS HA.out.1 qN #[.bool b,.slice am n c])
 have Hn:=qH hn0;have HH:=qH hh;clear hP hn0 hM Im hx hh;cases neg with
 | false =>
  go_wp2_with (with_reducible refine sR_ rfl 180 _ _ rfl (w.heap.size) #[.bool false,.slice am n c] HA.out.2 2 ?_)
  refine qR (v:=.agg #[.bool false,.slice am n c]) (rA_ rfl (w.heap.size) (qT _ _ _ _ _ _ HA.out.2) Tryz.underlying180 2) rfl ⟨_,rfl,(Hb false).out,?_,fun B h=>qlZ (HH.out B h)⟩;exact HP.out false
 | true =>
  by_cases h0:n=0
  ·subst h0
   go_wp2_with (with_reducible refine sR_ rfl 180 _ _ rfl (w.heap.size) #[.bool false,.slice am 0 c] HA.out.2 2 ?_)
   refine qR (v:=.agg #[.bool false,.slice am 0 c]) (rA_ rfl (w.heap.size) (qT _ _ _ _ _ _ HA.out.2) Tryz.underlying180 2) rfl ⟨_,rfl,(Hb false).out,?_,fun B h=>qlZ (HH.out B h)⟩;have hx0:x=0:=by simpa using Hn.out
   have:=HP.out false
   rwa [show (true && !decide (x=0))=false by rw [hx0];rfl] at this
  ·have hx1:¬x=0:=fun h=>h0 (Hn.out.2 h)
   have Hx:=qH hx1;clear hx1;have hni:0<n:=by omega
   clear h0
   go_wp2_with (with_reducible refine sR_ rfl 180 _ _ rfl (w.heap.size) #[.bool true,.slice am n c] HA.out.2 2 ?_)
   refine qR (v:=.agg #[.bool true,.slice am n c]) (rA_ rfl (w.heap.size) (qT _ _ _ _ _ _ HA.out.2) Tryz.underlying180 2) rfl ⟨_,rfl,(Hb true).out,?_,fun B h=>qlZ (HH.out B h)⟩;have:=HP.out true
   rwa [show (true && !decide (x=0))=true by rw [qU Hx.out];rfl] at this
theorem qhS (x N:Nat) (neg:Bool) (vm:Value) (w:World) (hm:DigAt w vm x N) (hN:N<=17592186044416) :
  Calls Tryz.prog 241 #[.bool neg,vm] w fun e w'=>∃v,e=.returned v/\Below w.heap.size w w'/\qb4 w' v (if neg=true then -(x:Int) else x) :=
 (qj1 x N neg vm w hm hN).mono fun _ _ ⟨v,h1,h2,h3,_⟩=>⟨v,h1,h2,h3⟩
end Go.Proofs.YtplkdeknjghobaaGreatDoor.p4
namespace Go.Proofs.YtplkdeknjghobaaGreatDoor.p4
open Go.RowKit
structure IntInv (n m k:Nat) (S:List Nat):Prop where
 len:S.length=k
 dig:Dig S
 val:mval S+10000 ^ k*m=n
 fit:m<10000 ^ (5-k)
theorem IntInv.start {n:Nat} (h:n<100000000000000000000):IntInv n n 0 []:=⟨rfl,Dig.nil,by simp [mval],by simpa using h⟩
theorem IntInv.lt {n m k:Nat} {S:List Nat} (h:IntInv n m k S) (hk:k<=5) (h0:m≠0):k<5:=by
 rcases qaT k 5 with h1 | h1
 ·exact h1
 ·obtain rfl:k=5:=by omega
  have:=h.fit;simp at this;omega
theorem IntInv.step {n m k:Nat} {S:List Nat} (h:IntInv n m k S) (hk:k<5):IntInv n (m / 10000) (k+1) (S++[m % 10000]):=by
 refine⟨by rw [qaf,h.len];rfl,h.dig.snoc (qbk _ (by decide)),?_,?_⟩
 ·rw [qcK,h.len,<-h.val,qaD,Nat.add_assoc,qav,<-qaX]
  congr 2
  exact Nat.mod_add_div _ _
 ·have h1:=h.fit;obtain⟨j,hj⟩:∃j,5-k=j+1:=⟨4-k,by omega⟩;rw [hj,qaD] at h1;rw [show 5-(k+1)=j by omega];exact Nat.div_lt_of_lt_mul (by rw [qau];exact h1)
theorem IntInv.done {n k:Nat} {S:List Nat} (h:IntInv n 0 k S):mval S=n:=by have:=h.val;simpa using this
theorem qjl (n:Int) (hn:n<0) (hr:-9223372036854775808<=n/\n<=9223372036854775807) (w:World) :
  Calls Tryz.prog 189 #[.int .i64 n] w fun e w'=>∃v,e=.returned v/\Below w.heap.size w w'/\qb4 w' v n:=by
 obtain⟨W1,hW1⟩:=qY (w.alloc (.cells #[.bool false,.slice none 0 0] 180));have hb1:Below w.heap.size w W1:=hW1▸qbS qB qN;have hr1:W1.heap[w.heap.size]? = some (.cells #[.bool false,.slice none 0 0] 180 (0,0)):=by rw [hW1];exact qM _ _ _ rfl
 obtain⟨N,hN⟩:=qX n.natAbs;have HI:=qH (IntInv.start (n:=N) (by omega));have HN:=qH hN;have HR:=qH (qA hb1 hr1);have hr2:=hr.1;have hr3:=hr.2;have hnb:decide (n<0)=true:=by exact qV hn
 have hnb2:n<0:=by omega
 clear hN hb1 hr1 hr;go_enter Tryz.func189,Tryz.ntmps189;go_wp2_with fail;rw [<-hW1];clear hW1
 go_loopw [0,3,5] (fun x0 x3 x5 W=>∃(z:Int) (m k:Nat) (S:List Nat),x0=.int .i64 z/\z<=0/\-9223372036854775808<=z/\k<=5/\Hid (z.natAbs=m)/\Hid (IntInv N m k S)/\Hid (W.ownsRow W1.heap.size 3 1 x3 k (row64 S))/\Hid (Below W1.heap.size W1 W)) (fun x0 _ _ _=>(intOf x0).natAbs)
 case atStart=>exact⟨n,N,0,[],rfl,by omega,by omega,qam _,HN,HI,qH (World.ownsRow_nil _ _ _ _),qH qB⟩
 case round =>
  obtain⟨z,m,k,S,rfl,hz1,hz2,hk,hm,hI,hO,hB⟩:=hrel;have Hsz:=hB.out.size
  by_cases hz0:z=0
  ·subst hz0;obtain rfl:0=m:=hm.out;have hv:=hI.out.done;have HD:=qH (qfx (N:=5) hO.out hI.out.dig hk);rw [hv] at HD;have hm0:=qhS N 5 true _ _ HD.out (by decide);rw [show (if true=true then -(N:Int) else N)=n by rw [<-HN.out];simp;omega] at hm0;have HM:=qH hm0;clear hv hm0;go_wp2_with fail;refine HM.out.mono ?_;rintro e w2 ⟨u,rfl,hb9,hu9⟩;have hBW:Below W1.heap.size W1 w2:=hB.out.trans (hb9.mono hB.out.size);have hrow9:=(hBW.block w.heap.size (qG HR.out.2).1).trans HR.out.2;have hbw9:Below w.heap.size w w2:=HR.out.1.trans (hBW.mono HR.out.1.size);obtain⟨b9,a9,n9,c9,rfl⟩:=hu9.shape;have hvs:=qcr (cs':=#[.bool b9,.slice a9 n9 c9]) hu9 hrow9 (nd2 _ _ _ _);have HR:=qH (qA hrow9 (qA hbw9 (qS hbw9 qN #[.bool b9,.slice a9 n9 c9])));have HV:=qH hvs;clear hrow9 hbw9 hvs hb9 hu9 hBW
   go_wp2_with (with_reducible refine sR_ rfl 180 _ _ rfl (w.heap.size) #[.bool b9,.slice a9 n9 c9] HR.out.1 2 ?_)
   exact qR (v:=.agg #[.bool b9,.slice a9 n9 c9]) (rA_ rfl (w.heap.size) (qT _ _ _ _ _ _ HR.out.1) Tryz.underlying180 2) rfl ⟨_,rfl,HR.out.2.2,HV.out⟩
  ·obtain⟨q,hq⟩:=qX (m / 10000);obtain⟨r,hrr⟩:=qX (m % 10000);have hm':=hm.out;have hzm:z = -(m:Int):=by omega
   have t1:z.tmod 10000 = -(r:Int):=by rw [hzm,Int.neg_tmod,tmodB m r hrr]
   have t2:z.tdiv 10000 = -(q:Int):=by rw [hzm,Int.neg_tdiv,tdivB m q hq]
   have hk5:=hI.out.lt hk (by omega);have hst:=hI.out.step hk5;rw [hq,hrr] at hst;have Hst:=qH hst;have hr4:r<10000:=by omega
   have hq4:q<=922337203685478:=by omega
   have Hq:=qH (show q<m by omega);have Hzm:=qH hzm;have hz3:z<0:=by omega
   have hzb:(z != 0)=true:=by rw [bne_iff_ne];omega
   clear hst hq hrr hzm hm'
   by_cases hr0:r=0
   ·subst hr0
    go_wp2_with (first | (at_builtin;refine qfa (d:=0) rfl _ _ rfl hB.out rfl hO.out rfl rfl (by omega) rfl ?_;intro v' w' ho' hb') | fail)
    go_roundw
    case rel=>exact⟨_,q,k+1,S++[0],rfl,by omega,by omega,by omega,qH (by omega),Hst,ho',hb'⟩
    case measure=>have:=Hq.out;have:=Hzm.out;simp [intOf];omega
   ·have hr5:-(r:Int)<0:=by omega
    have hr6:0<r:=by omega
    have hr7:- -(r:Int)=(r:Int):=by omega
    go_wp2_with (first | (at_builtin;refine qfa (d:=r) rfl _ _ rfl hB.out rfl hO.out rfl rfl (by omega) rfl ?_;intro v' w' ho' hb') | fail)
    go_roundw
    case rel=>exact⟨_,q,k+1,S++[r],rfl,by omega,by omega,by omega,qH (by omega),Hst,ho',hb'⟩
    case measure=>have:=Hq.out;have:=Hzm.out;simp [intOf];omega
theorem qgM (n:Int) (hn:0<=n) (hr:-9223372036854775808<=n/\n<=9223372036854775807) (w:World) :
  Calls Tryz.prog 189 #[.int .i64 n] w fun e w'=>∃v,e=.returned v/\Below w.heap.size w w'/\qb4 w' v n:=by
 obtain⟨W1,hW1⟩:=qY (w.alloc (.cells #[.bool false,.slice none 0 0] 180));have hb1:Below w.heap.size w W1:=hW1▸qbS qB qN;have hr1:W1.heap[w.heap.size]? = some (.cells #[.bool false,.slice none 0 0] 180 (0,0)):=by rw [hW1];exact qM _ _ _ rfl
 obtain⟨N,hN⟩:=qX n.natAbs;have HI:=qH (IntInv.start (n:=N) (by omega));have HN:=qH hN;have HR:=qH (qA hb1 hr1);have hr2:=hr.1;have hr3:=hr.2;have hnb:decide (n<0)=false:=by exact qU (by omega)
 have hnb2:¬n<0:=by omega
 clear hN hb1 hr1 hr;go_enter Tryz.func189,Tryz.ntmps189;go_wp2_with fail;rw [<-hW1];clear hW1
 go_loopw [0,3,5] (fun x0 x3 x5 W=>∃(z:Int) (m k:Nat) (S:List Nat),x0=.int .i64 z/\0<=z/\z<=9223372036854775807/\k<=5/\Hid (z.natAbs=m)/\Hid (IntInv N m k S)/\Hid (W.ownsRow W1.heap.size 3 1 x3 k (row64 S))/\Hid (Below W1.heap.size W1 W)) (fun x0 _ _ _=>(intOf x0).natAbs)
 case atStart=>exact⟨n,N,0,[],rfl,by omega,by omega,qam _,HN,HI,qH (World.ownsRow_nil _ _ _ _),qH qB⟩
 case round =>
  obtain⟨z,m,k,S,rfl,hz1,hz2,hk,hm,hI,hO,hB⟩:=hrel;have Hsz:=hB.out.size
  by_cases hz0:z=0
  ·subst hz0;obtain rfl:0=m:=hm.out;have hv:=hI.out.done;have HD:=qH (qfx (N:=5) hO.out hI.out.dig hk);rw [hv] at HD;have hm0:=qhS N 5 false _ _ HD.out (by decide);rw [show (if false=true then -(N:Int) else N)=n by rw [<-HN.out];simp;omega] at hm0;have HM:=qH hm0;clear hv hm0;go_wp2_with fail;refine HM.out.mono ?_;rintro e w2 ⟨u,rfl,hb9,hu9⟩;have hBW:Below W1.heap.size W1 w2:=hB.out.trans (hb9.mono hB.out.size);have hrow9:=(hBW.block w.heap.size (qG HR.out.2).1).trans HR.out.2;have hbw9:Below w.heap.size w w2:=HR.out.1.trans (hBW.mono HR.out.1.size);obtain⟨b9,a9,n9,c9,rfl⟩:=hu9.shape;have hvs:=qcr (cs':=#[.bool b9,.slice a9 n9 c9]) hu9 hrow9 (nd2 _ _ _ _);have HR:=qH (qA hrow9 (qA hbw9 (qS hbw9 qN #[.bool b9,.slice a9 n9 c9])));have HV:=qH hvs;clear hrow9 hbw9 hvs hb9 hu9 hBW
   go_wp2_with (with_reducible refine sR_ rfl 180 _ _ rfl (w.heap.size) #[.bool b9,.slice a9 n9 c9] HR.out.1 2 ?_)
   exact qR (v:=.agg #[.bool b9,.slice a9 n9 c9]) (rA_ rfl (w.heap.size) (qT _ _ _ _ _ _ HR.out.1) Tryz.underlying180 2) rfl ⟨_,rfl,HR.out.2.2,HV.out⟩
  ·obtain⟨q,hq⟩:=qX (m / 10000);obtain⟨r,hrr⟩:=qX (m % 10000);obtain rfl:z=(m:Int):=by have:=hm.out;omega
   have t1:(m:Int).tmod 10000=(r:Int):=tmodB m r hrr;have t2:(m:Int).tdiv 10000=(q:Int):=tdivB m q hq;have t3:(m:Int) % 10000=r:=by omega
   have t4:(m:Int) / 10000=q:=by omega
   have hk5:=hI.out.lt hk (by omega);have hst:=hI.out.step hk5;rw [hq,hrr] at hst;have Hst:=qH hst;have hr4:r<10000:=by omega
   have Hq:=qH (show q<m by omega);have hm0:0<m:=by omega
   have hzb:((m:Int) != 0)=true:=by rw [bne_iff_ne];omega
   have hr5:¬(r:Int)<0:=by omega
   clear hst hq hrr
   go_wp2_with (first | (at_builtin;refine qfa (d:=r) rfl _ _ rfl hB.out rfl hO.out rfl rfl (by omega) rfl ?_;intro v' w' ho' hb') | fail)
   go_roundw
   case rel=>exact⟨_,q,k+1,S++[r],rfl,by omega,by omega,by omega,qH (by omega),Hst,ho',hb'⟩
   case measure=>have:=Hq.out;simp [intOf];omega
theorem qjk (n:Int) (hr:-9223372036854775808<=n/\n<=9223372036854775807) (w:World) :
  Calls Tryz.prog 189 #[.int .i64 n] w fun e w'=>∃v,e=.returned v/\Below w.heap.size w w'/\qb4 w' v n:=by
 rcases Int.lt_or_le n 0 with h | h
 ·exact qjl n h hr w
 ·exact qgM n h hr w
instance stays_mag {v:Value} {x:Nat}:Stays fun W=>MagAt W v x:=⟨fun h hb=>h.below hb⟩
instance stays_plain {v:Value} {x:Int}:Stays fun W=>qb4 W v x:=⟨fun h hb=>h.below hb⟩
def Rows2 (g g':Nat) (o o':Obj) (W:World):Prop:=W.heap[g]? = some o/\W.heap[g']? = some o'
theorem qkV {P:Program} {fn:Func} {p q:Tmp} {ty:TypeId} (h:fn.results=#[.cell p ty,.cell q ty]) (tmps:Array Value) (w:World) (g g':Nat) (t:TypeId) (cs cs':Array Value) (d:TypeDesc)
  (hp:tmps.getD p undef=.pointer (some ⟨g,0,none⟩)) (hq:tmps.getD q undef=.pointer (some ⟨g',0,none⟩)) (hg:w.heap[g]? = some (.cells cs t (0,0))) (hg':w.heap[g']? = some (.cells cs' t (0,0)))
  (hu:P.underlying ty=some d) (hd:(match d with | .struct _ | .array _ _=>true | _=>false)=true) (n:Nat) (hi:(P.info? ty).map (·.size)=some n) (hcs:cs.size=n) (hcs':cs'.size=n) :
  (results fn tmps).run P w=.ok (.tuple #[.agg cs,.agg cs']) w:=by
 have hp':tmps[p]?.getD undef=.pointer (some ⟨g,0,none⟩):=by simpa using hp
 have hq':tmps[q]?.getD undef=.pointer (some ⟨g',0,none⟩):=by simpa using hq
 have h1:=run_loadVar_row w g t ty cs (0,0) d hg hu hd (by rw [hcs];exact hi);have h2:=run_loadVar_row w g' t ty cs' (0,0) d hg' hu hd (by rw [hcs'];exact hi);simp [results,h,hp',hq',asAddr,h1,h2,Sem.run_bind,Result.andThen]
theorem kn3 (w:World) (a:Array Value) (t:TypeId) (a':Array Value) (t':TypeId) (b:Array Value) (u:TypeId):∃W,W=((w.alloc (.cells a t)).alloc (.cells a' t')).alloc (.cells b u) /\
  Kn (fun W=>Below w.heap.size w W/\W.heap[w.heap.size]? = some (.cells a t (0,0))/\W.heap[w.heap.size+1]? = some (.cells a' t' (0,0))/\W.heap[w.heap.size+1+1]? = some (.cells b u (0,0))) W :=
 ⟨_,rfl,.of ⟨qbS (qbS (qbS qB qN) qN) qN,
  (qL _ _ _ (by simp only [qab];omega)).trans ((qL _ _ _ (by simp only [qab];omega)).trans (qM _ _ _ rfl)),
  (qL _ _ _ (by simp only [qab];omega)).trans (qM _ _ _ (by simp)),qM _ _ _ (by simp)⟩⟩
def qdH (W:World) (v:Value) (q:Rat):Prop:=∃m o,v=.agg #[.bool (decide (q.num<0)),m,.bool false,o]/\MagAt W m q.num.natAbs/\MagAt W o q.den
theorem qdH.shape {W:World} {v:Value} {q:Rat} (h:qdH W v q):∃(b:Bool) (a:Option Addr) (n c:Nat) (a':Option Addr) (n' c':Nat),v=.agg #[.bool b,.slice a n c,.bool false,.slice a' n' c']:=by
 obtain⟨m,o,rfl,⟨am,bm,om,cm,n,M,rfl,_,_⟩,⟨ao,bo,oo,co,no,O,rfl,_,_⟩⟩:=h;exact⟨_,am,n,cm,ao,no,co,rfl⟩
theorem qgk {W:World} {v:Value} {q:Rat} {g:Nat} {cs cs':Array Value} {t:TypeId} {fz:Nat×Nat} (h:qdH W v q) (hg:W.heap[g]? = some (.cells cs t fz)) (hne:∀x∈cs.toList,∀d,x≠.int .i64 d):qdH (W.setRow g cs') v q:=by
 obtain⟨m,o,h1,h2,h3⟩:=h;exact⟨m,o,h1,qcx h2 hg hne,qcx h3 hg hne⟩
theorem hir_of {B:Nat} {b x b' y:Value} (h1:HiS B x) (h2:HiS B y):HiR B (.agg #[b,x,b',y]):=fun _ _ _ _ e=>by
 simp only [qaJ,qaL,qaH,and_true] at e;rw [<-e.2.1,<-e.2.2.2];exact⟨h1,h2⟩
theorem qmM {W:World} {b b':Bool} {m o:Value} {q:Rat} {x y:Int} (hx:qb4 W (.agg #[.bool b,m]) x) (hy:qb4 W (.agg #[.bool b',o]) y) (h1:x=q.num) (h2:y=(q.den:Int)):qdH W (.agg #[.bool b,m,.bool b',o]) q:=by
 obtain⟨m',e1,hm⟩:=hx;obtain⟨o',e2,ho⟩:=hy;simp only [qaJ,qaL,qaH,qbm,and_true] at e1 e2;obtain⟨rfl,rfl⟩:=e1;obtain⟨rfl,rfl⟩:=e2;subst h1 h2;refine⟨m,o,?_,hm,by simpa using ho⟩;rw [qU (show ¬(q.den:Int)<0 by omega)]
theorem low_num (n d:Int) (hd:0<d):(if n<0 then -((n.natAbs / (n.natAbs.gcd d.natAbs:Nat):Nat):Int) else ((n.natAbs / (n.natAbs.gcd d.natAbs:Nat):Nat):Int))=(Rat.divInt n d).num/\((d.natAbs / (n.natAbs.gcd d.natAbs:Nat):Nat):Int)=((Rat.divInt n d).den:Int):=by
 obtain⟨h1,h2⟩:=qjw n d (by omega);rw [h1,h2,qU (show ¬d<0 by omega)];refine⟨?_,rfl⟩
 by_cases h:n<0
 ·rw [if_pos h,qV h];rfl
 ·rw [if_neg h,qU h];rfl
def LowSt (w:World) (q:Rat) (K:Nat) (W:World) (b0:Bool) (am:Option Addr) (nm cm:Nat) (ao:Option Addr) (no co:Nat):Prop :=
 (∃n d:Int,0<d/\Rat.divInt n d=q/\Fit n.natAbs K/\Fit d.natAbs K/\qb4 W (.agg #[.bool b0,.slice am nm cm]) n/\qb4 W (.agg #[.bool false,.slice ao no co]) d) /\
 Below w.heap.size w W/\W.heap[w.heap.size]? = some (.cells #[.bool b0,.slice am nm cm] 180 (0,0))/\W.heap[w.heap.size+1]? = some (.cells #[.bool false,.slice ao no co] 180 (0,0)) /\
  W.heap[w.heap.size+1+1]? = some (.cells #[.bool false,.slice none 0 0,.bool false,.slice none 0 0] 182 (0,0))
open Go.Lib
theorem conv4 (q0 q1 q2 q3:UInt8) (n0 n1 n2 n3:Int) (h0:n0=(q0.toNat:Nat)) (h1:n1=(q1.toNat:Nat)) (h2:n2=(q2.toNat:Nat)) (h3:n3=(q3.toNat:Nat)) (W:World) :
  (convert 302 9 (.slice (some ⟨W.heap.size,0,none⟩) 4 4)).run Tryz.prog (W.alloc (.cells #[.int .u8 n0,.int .u8 n1,.int .u8 n2,.int .u8 n3] 5))=.ok (.string ⟨#[q0,q1,q2,q3]⟩) (W.alloc (.cells #[.int .u8 n0,.int .u8 n1,.int .u8 n2,.int .u8 n3] 5)):=by
 subst h0 h1 h2 h3;refine run_convert_bytes_back (P:=Tryz.prog) _ 302 9 5 ⟨W.heap.size,0,none⟩ 4 [q0,q1,q2,q3] Tryz.underlying302 Tryz.underlying5 Tryz.underlying9 ?_;intro j hj;have hg:=heap_alloc_new W (.cells #[.int .u8 (q0.toNat:Nat),.int .u8 (q1.toNat:Nat),.int .u8 (q2.toNat:Nat),.int .u8 (q3.toNat:Nat)] 5)
 match j,hj with
 | 0,_=>exact qC _ _ 0 _ _ _ hg
 | 1,_=>exact qC _ _ 1 _ _ _ hg
 | 2,_=>exact qC _ _ 2 _ _ _ hg
 | 3,_=>exact qC _ _ 3 _ _ _ hg
def grp (d:Nat):ByteArray:=⟨(padk 4 d).toArray⟩
theorem grp_size (d:Nat):(grp d).size=4:=by
 show (padk 4 d).toArray.size=4
 rw [qbD,qgw]
theorem four_any (d:Nat) (hd:d<10000) (w:World) :
  Calls Tryz.prog 274 #[.int .i64 (d:Int)] w fun e w'=>e=.returned (.string (grp d))/\Below w.heap.size w w':=by
 obtain⟨a,ha⟩:=qX (d / 1000);obtain⟨b,hb⟩:=qX (d / 100);obtain⟨b',hb'⟩:=qX (b % 10);obtain⟨c,hc⟩:=qX (d / 10);obtain⟨c',hc'⟩:=qX (c % 10);obtain⟨e,he⟩:=qX (d % 10);have hg:grp d=⟨#[UInt8.ofNat (48+a),UInt8.ofNat (48+b'),UInt8.ofNat (48+c'),UInt8.ofNat (48+e)]⟩:=by
  unfold grp;simp only [padk];rw [show d / 10 / 10 / 10 % 10=a by omega,show d / 10 / 10 % 10=b' by omega,show d / 10 % 10=c' by omega,he]
  rfl
 have hcv:=conv4 (UInt8.ofNat (48+a)) (UInt8.ofNat (48+b')) (UInt8.ofNat (48+c')) (UInt8.ofNat (48+e)) (48+(a:Int)) (48+(b':Int)) (48+(c':Int)) (48+(e:Int)) (by rw [qcs (by omega)];omega) (by rw [qcs (by omega)];omega) (by rw [qcs (by omega)];omega) (by rw [qcs (by omega)];omega) w;rw [<-hg] at hcv;have t1:(d:Int) / 1000=a:=by omega
 have t2:(d:Int) / 100=b:=by omega
 have t3:(b:Int) % 10=b':=by omega
 have t4:(d:Int) / 10=c:=by omega
 have t5:(c:Int) % 10=c':=by omega
 have t6:(d:Int) % 10=e:=by omega
 have l1:a<10:=by omega
 have l2:b<100:=by omega
 have l3:c<1000:=by omega
 have l4:b'<10:=by omega
 have l5:c'<10:=by omega
 have l6:e<10:=by omega
 clear ha hb hb' hc hc' he hg;generalize grp d=G at *;go_enter Tryz.func274,Tryz.ntmps274;go_wp2;go_ret;exact⟨rfl,qbS qB qN⟩
theorem ne_empty {a:ByteArray} (h:a.size≠0):a.toList.isEmpty=false:=by
 rw [ByteArray.toList_eq];cases e:a.data.toList with
 | nil=>exact absurd (show a.size=0 by show a.data.size=0;rw [<-qbr,e];rfl) h
 | cons x l=>rfl
theorem qeQ (z:Int) (K:Nat) (hK:K<=17592186000000) (v:Value) (w:World) (hv:qb4 w v z) (hz:Fit z.natAbs K) :
  Calls Tryz.prog 251 #[v] w fun e w'=>e=.returned (.string (frac.wtxt z))/\Below w.heap.size w w':=by
 obtain⟨m,rfl,am,bm,om,cm,n,M,rfl,Im,hMx⟩:=hv;have hn:n<=K:=by rw [<-hMx] at hz;exact hz.len Im
 obtain⟨zc,hst⟩:=qlV Im.dig;have hglen:=qlU M;rw [Im.len] at hglen;have hsg:=frac.qeV (z:=z);have hsp:=frac.qdE (z:=z);rw [hMx] at hst;have Hsg:=qH (qA hsg hsp);obtain⟨WT,hWT⟩:=qX (frac.wtxt z);rw [hWT];have HWT:=qH hWT;clear hWT;have Hst:=qH hst;have Hgl:=qH hglen;have HM:=qH Im;have hb1:Below w.heap.size w (w.alloc (.cells #[.bool (decide (z<0)),.slice am n cm] 180)):=qbS qB qN;obtain⟨bz,hbz⟩:=qX (decide (z<0));rw [hbz] at hb1 ⊢;have Hbz:=qH hbz;obtain⟨W1,hW1⟩:=qY (w.alloc (.cells #[.bool bz,.slice am n cm] 180));have hr1:W1.heap[w.heap.size]? = some (.cells #[.bool bz,.slice am n cm] 180 (0,0)):=by rw [hW1];exact qM _ _ _ rfl
 rw [<-hW1] at hb1;have HW:=qH (qA hb1 hr1);have hIm:=Im.below hb1;have HM1:=qH hIm;clear hsg hsp hst hglen Im hMx hz hbz hb1 hIm;go_enter Tryz.func251,Tryz.ntmps251;go_wp2_with fail;rw [<-hW1];clear hW1;have k1:=qC W1 _ 1 _ _ _ hr1;clear hr1;go_wp2_with fail
 go_loopw [3,4] (fun x3 x4 W=>∃(k:Nat) (zz:Int) (t:ByteArray),k<=n/\x4=.int .i64 zz/\Hid (zz+1=k)/\x3=.string t/\Hid (t.data.toList=gtx (M.drop k))/\Hid (Below W1.heap.size W1 W)) (fun _ x4 _=>(RowKit.intOf x4+1).toNat)
 case atStart=>exact⟨n,_,⟨#[]⟩,qad _,rfl,qH (by omega),rfl,qH (by rw [qaG (by rw [HM.out.len];exact qad _)];rfl),qH qB⟩
 case round =>
  obtain⟨k,zz,t,hk,rfl,hzz,rfl,ht,hB⟩:=hrel;have hrw:=(hB.out.block w.heap.size (qG HW.out.2).1).trans HW.out.2;have k1:=qC wr _ 1 _ _ _ hrw;have k0:=qC wr _ 0 _ _ _ hrw;have Hrw:=qH hrw;clear hrw
  by_cases hk0:0<k
  ·obtain⟨j,rfl⟩:∃j,k=j+1:=⟨k-1,by omega⟩;obtain rfl:zz=(j:Int):=by have:=hzz.out;omega
   have hji:(j:Int)<n:=by omega
   have haw:=HM.out.addr (by omega);subst haw;have hcm:=(HM1.out.below hB.out).cell j (by omega);have hdm:dg M j<10000:=HM.out.dig j;have hgd:=gtx_drop (L:=M) (j:=j) (by rw [HM.out.len];omega);obtain⟨d,hd⟩:=qX (dg M j);rw [hd] at hcm hdm hgd;have hts:t.size=4*(n-(j+1)):=by
    have:t.size=t.data.toList.length:=by rw [qbr];rfl
    rw [this,ht.out,qlU,qaY,HM.out.len]
   have HF:=qH (four_any d hdm);have hgs:=grp_size d;have hadd:∀W,(Op.stringOp .add t (grp d)).run Tryz.prog W=.ok (.string (t++grp d)) W:=fun W=>run_string_add_sum W _ _ (by omega)
   have hnew:(t++grp d).data.toList=gtx (M.drop j):=by
    rw [ByteArray.data_append,qbf,ht.out,hgd];rfl
   have Hnew:=qH hnew;generalize grp d=G at *;clear hnew hgs hts hgd hd hdm
   go_wp2_with (go_at_call 274;refine (HF.out _).mono ?_)
   rintro e w2 ⟨rfl,hb2⟩;have Hb2:=qH hb2;clear hb2;go_wp2;go_roundw
   case rel=>exact⟨j,_,_,by omega,rfl,qH (by omega),rfl,Hnew,qH (hB.out.trans (Hb2.out.mono hB.out.size))⟩
   case measure=>simp [RowKit.intOf]
  ·obtain rfl:k=0:=by omega
   obtain rfl:zz = -1:=by have:=hzz.out;omega
   have ht2:=ht.out;rw [List.drop_zero] at ht2;have hts:t.size=4*n:=by
    have:t.size=t.data.toList.length:=by rw [qbr];rfl
    rw [this,ht2,Hgl.out]
   rw [Hst.out] at ht2;obtain⟨R,hR⟩:=qX (bare z.natAbs);rw [hR] at ht2;have hlen:zc+R.length=4*n:=by
    have h1:t.size=t.data.toList.length:=by rw [qbr];rfl
    rw [<-hts,h1,ht2,qaf,qaQ]
   obtain⟨N4,hN4⟩:=qX (4*n);rw [hN4] at hts hlen;have hat:∀i (h:i<t.size),t[i]=(List.replicate zc 48++R).getD i 0:=fun i h=>by
    have:t[i]=t.data.toList[i]'(by rw [qbr];exact h):=rfl;rw [this,<-ht2,qaa,qae (by rw [qbr];exact h)];rfl
   have hex:t.extract zc N4=⟨R.toArray⟩:=by
    apply ByteArray.ext;rw [ByteArray.data_extract];apply Array.ext';rw [Array.toList_extract,ht2];simp only [List.extract,List.drop_append,qaQ,qaI,List.drop_zero];rw [qaG (by rw [qaQ];exact qad _),qbq,qak (by omega)]
   have hN5:N4<=70368744000000:=by omega
   have Hat:=qH hat;have Hex:=qH hex;have HR:=qH hR;have Hl:=qH hlen;clear hat hex hR ht2 hN4;go_wp2_with fail
   go_loopw [5] (fun x5 W=>∃k:Nat,x5=.int .i64 k/\k<=zc/\W=wr) (fun x5 _=>zc-(RowKit.intOf x5).toNat)
   case atStart=>exact⟨0,rfl,qam _,rfl⟩
   case round =>
    obtain⟨k,rfl,hkz,hW⟩:=hrel;have hW2:=hW.symm;clear hW;subst hW2
    by_cases hlt:k<zc
    ·have hsz:k<t.size:=by have:=Hl.out;omega
     have hkN:(k:Int)<N4:=by have:=Hl.out;omega
     have hsc:(t[k]'hsz).toNat=48:=by
      rw [Hat.out k hsz,qaa,qaA (by rw [qaQ];exact hlt),qbc,if_pos hlt];rfl
     go_wp2;go_roundw
     case rel=>exact⟨k+1,by go_num,hlt,trivial⟩
     case measure=>simp [RowKit.intOf];omega
    ·obtain rfl:k=zc:=by omega
     by_cases h0:z.natAbs=0
     ·have hRn:R=[]:=by rw [<-HR.out];unfold bare;rw [if_pos h0]
      subst hRn;have hkN:k=N4:=by have:=Hl.out;simpa using this
      have hwz:frac.wtxt z=⟨#[48]⟩:=by
       rw [Hsg.out.2 (by omega),h0];unfold num;rw [qbZ (by decide)];rfl
      have hex:=Hex.out;subst hkN;rw [HWT.out] at hwz;subst hwz;go_wp2;go_ret;exact⟨rfl,HW.out.1.trans (hB.out.mono HW.out.1.size)⟩
     ·have hRn:R=decDigits z.natAbs:=by rw [<-HR.out];unfold bare;rw [if_neg h0]
      have hRl:R≠[]:=by rw [hRn];exact qdg _
      have hR0:=List.length_pos_iff.2 hRl;have hkN:(k:Int)<N4:=by have:=Hl.out;omega
      have hkN2:k<=N4:=by omega
      have hsz:k<t.size:=by omega
      obtain⟨c,hc⟩:=qX ((t[k]'hsz).toNat);have hc48:c≠48:=by
       rintro rfl;obtain⟨x,l,hxl⟩:∃x l,R=x :: l:=by
        cases R with
        | nil=>exact absurd rfl hRl
        | cons x l=>exact⟨x,l,rfl⟩
       have h1:=Hat.out k hsz;rw [qaa,qas (by rw [qaQ];exact qad _),qaQ,qaI,hxl] at h1;replace h1:t[k]=x:=h1;rw [h1] at hc;exact qlg (HR.out.trans hxl) (qib hc)
      have hcb:((c:Int) == 48)=false:=by rw [beq_eq_false_iff_ne];omega
      have hex:=Hex.out;have hnum:(⟨R.toArray⟩:ByteArray)=num z.natAbs:=by rw [hRn];rfl
      rw [hnum] at hex;have hns:(num z.natAbs).size=R.length:=by rw [hRn];rfl
      have hne:=ne_empty (a:=num z.natAbs) (by omega);have hwn:=Hsg.out.1;have hwp:=Hsg.out.2;have Hwn:Hid (z<0->frac.wtxt z=⟨#[45]⟩++num z.natAbs):=qH hwn;have Hwp:Hid (¬z<0->frac.wtxt z=num z.natAbs):=qH fun h=>hwp (by omega)
      clear hwn hwp;generalize num z.natAbs=U at *;have hadd:∀W,(Op.stringOp .add ⟨#[45]⟩ U).run Tryz.prog W=.ok (.string (⟨#[45]⟩++U)) W:=fun W=>run_string_add_sum W _ _ (by have:(⟨#[45]⟩:ByteArray).size=1:=rfl;have:=Hl.out;omega)
      obtain⟨V,hV⟩:=qX ((⟨#[45]⟩:ByteArray)++U);rw [hV] at hadd Hwn;clear hV hRn hRl hnum hc48 hns;cases bz with
      | true =>
       have hlt0:z<0:=of_decide_eq_true Hbz.out;have hVW:V=WT:=by rw [<-HWT.out,Hwn.out hlt0]
       subst hVW;clear hlt0;go_wp2;go_ret;exact⟨rfl,HW.out.1.trans (hB.out.mono HW.out.1.size)⟩
      | false =>
       have hlt0:¬z<0:=of_decide_eq_false Hbz.out;have hVW:U=WT:=by rw [<-HWT.out,Hwp.out hlt0]
       subst hVW;clear hlt0;go_wp2;go_ret;exact⟨rfl,HW.out.1.trans (hB.out.mono HW.out.1.size)⟩
theorem qid {z:Int} (h:z<0):(frac.wtxt z).size=(num z.natAbs).size+1:=by
 rw [frac.qeV h,ByteArray.size_append];have:(⟨#[45]⟩:ByteArray).size=1:=rfl;omega
theorem qie {z:Int} (h:¬z<0):(frac.wtxt z).size=(num z.natAbs).size:=by rw [frac.qdE h]
theorem num_fit {x K:Nat} (h:Fit x K) (hK:0<K):(num x).size<=4*K:=by
 rw [qdb];refine qb9 _ _ (by omega) ?_;rw [<-pow4];exact h
def qlc (w:World) (z:Int) (e:Ending) (w':World):Prop:=((num z.natAbs).size<=600/\e=.returned (.tuple #[.string (frac.wtxt z),.int .i64 0])\/¬(num z.natAbs).size<=600/\e=.returned (.tuple #[.string ⟨#[]⟩,.int .i64 6]))/\Below w.heap.size w w'
theorem qmG (z:Int) (K:Nat) (hK0:0<K) (hK:K<=17592186000000) (v:Value) (w:World) (hv:qb4 w v z) (hz:Fit z.natAbs K) :
  Calls Tryz.prog 194 #[v] w fun e w'=>qlc w z e w':=by
 have HT:=qH (fun (W:World) (h:Below w.heap.size w W)=>qeQ z K hK v W (hv.below h) hz);have hn:=num_fit hz hK0;have hs1:=qid (z:=z);have hs2:=qie (z:=z);obtain⟨m,rfl,am,bm,om,cm,nm,M,rfl,_,_⟩:=hv;obtain⟨N,hN⟩:=qX ((num z.natAbs).size);obtain⟨S,hS⟩:=qX (frac.wtxt z);rw [hS] at HT hs1 hs2;rw [hN] at hn hs1 hs2;unfold qlc;rw [hN,hS];obtain⟨L,hL⟩:=qX S.size;rw [hL] at hs1 hs2;obtain⟨b,hb⟩:=qX (decide (z<0));rw [hb] at HT ⊢;obtain⟨W1,hW1⟩:=qY (w.alloc (.cells #[.bool b,.slice am nm cm] 180));have hb1:Below w.heap.size w W1:=hW1▸qbS qB qN;have hr1:W1.heap[w.heap.size]? = some (.cells #[.bool b,.slice am nm cm] 180 (0,0)):=by rw [hW1];exact qM _ _ _ rfl
 have H1:=qH (qA hb1 hr1);have hLN:L=if b=true then N+1 else N:=by
  subst hb
  by_cases h:z<0
  ·rw [qV h,if_pos rfl];exact hs1 h
  ·rw [qU h,if_neg (by decide)];exact hs2 h
 clear hb1 hr1 hs1 hs2 hS hN hb hz;go_enter Tryz.func194,Tryz.ntmps194;go_wp2_with fail;rw [<-hW1];clear hW1;refine (HT.out _ H1.out.1).mono ?_;rintro e w2 ⟨rfl,hb2⟩;have hr2:=zkeep hb2 _ _ H1.out.2;have k0:=qC w2 _ 0 _ _ _ hr2;have HB:=qH (H1.out.1.trans (hb2.mono H1.out.1.size));clear hb2 hr2;cases b with
 | true =>
  rw [if_pos rfl] at hLN;subst hLN
  by_cases h6:N<=600
  ·have h6i:¬(600:Int)<((N+1:Nat):Int)-1:=by omega
   have h6j:¬(600:Int)<(N:Int)+1-1:=by omega
   have h6k:¬600<N:=by omega
   have H6:=qH h6;clear h6;go_wp2_with fail
   go_ret2
   exact⟨qan ⟨H6.out,rfl⟩,HB.out⟩
  ·have h6i:(600:Int)<((N+1:Nat):Int)-1:=by omega
   have h6j:(600:Int)<(N:Int)+1-1:=by omega
   have h6k:600<N:=by omega
   have H6:=qH h6;clear h6;go_wp2_with fail
   go_ret2
   exact⟨qah ⟨H6.out,rfl⟩,HB.out⟩
 | false =>
  rw [if_neg (by decide)] at hLN;subst hLN
  by_cases h6:L<=600
  ·have h6i:¬(600:Int)<(L:Int):=by omega
   have H6:=qH h6;clear h6;go_wp2_with fail
   go_ret2
   exact⟨qan ⟨H6.out,rfl⟩,HB.out⟩
  ·have h6i:(600:Int)<(L:Int):=by omega
   have H6:=qH h6;clear h6;go_wp2_with fail
   go_ret2
   exact⟨qah ⟨H6.out,rfl⟩,HB.out⟩
theorem qiK {w w':World} {z:Int} {e:Ending} (h:qlc w z e w'):∃(T:ByteArray) (c:Int),e=.returned (.tuple #[.string T,.int .i64 c])/\((num z.natAbs).size<=600/\T=frac.wtxt z/\c=0\/¬(num z.natAbs).size<=600/\T=⟨#[]⟩/\c=6)/\Below w.heap.size w w':=by
 obtain⟨h | h,hb⟩:=h
 ·exact⟨_,_,h.2,qan ⟨h.1,rfl,rfl⟩,hb⟩
 ·exact⟨_,_,h.2,qah ⟨h.1,rfl,rfl⟩,hb⟩
theorem rout_any (q:Rat) (K:Nat) (hK0:0<K) (hK:K<=17592186000000) (v:Value) (w:World) (hv:qdH w v q) (fn:Fit q.num.natAbs K) (fd:Fit q.den K) :
  Calls Tryz.prog 132 #[v] w fun e w'=>qgB w q e w':=by
 obtain⟨m,o,rfl,hm,ho⟩:=hv;have hpn:∀W,Below w.heap.size w W->qb4 W (.agg #[.bool (decide (q.num<0)),m]) q.num:=fun W h=>⟨m,rfl,hm.below h⟩
 have hpd:∀W,Below w.heap.size w W->qb4 W (.agg #[.bool false,o]) (q.den:Int):=fun W h=>⟨o,by rw [qU (by omega)],by simpa using ho.below h⟩
 have HN:=qH (fun (W:World) (h:Below w.heap.size w W)=>qmG q.num K hK0 hK _ W (hpn W h) fn);have HD:=qH (fun (W:World) (h:Below w.heap.size w W)=>qmG (q.den:Int) K hK0 hK _ W (hpd W h) (by simpa using fd));have hden:frac.wtxt (q.den:Int)=num q.den:=by
  rw [frac.qdE (show ¬(q.den:Int)<0 by omega),qal]
 have Hden:=qH hden;generalize decide (q.num<0)=b at *;obtain⟨am,bm,om,cm,nm,M,rfl,_,_⟩:=hm;obtain⟨ao,bo,oo,co,no,O,rfl,_,_⟩:=ho;clear hpn hpd fn fd hden;obtain⟨W1,hW1⟩:=qY ((w.alloc (.cells #[.bool b,.slice am nm cm,.bool false,.slice ao no co] 182)).alloc (.cells #[.string ⟨#[]⟩,.string ⟨#[]⟩] 44));have hb1:Below w.heap.size w W1:=hW1▸qbS (qbS qB qN) qN;have hr1:W1.heap[w.heap.size]? = some (.cells #[.bool b,.slice am nm cm,.bool false,.slice ao no co] 182 (0,0)):=by rw [hW1,qL _ _ _ (by simp only [qab];omega)];exact qM _ _ _ rfl
 have hr2:W1.heap[w.heap.size+1]? = some (.cells #[.string ⟨#[]⟩,.string ⟨#[]⟩] 44 (0,0)):=by rw [hW1];exact qM _ _ _ (by simp)
 have k0:=qC W1 _ 0 _ _ _ hr1;have k1:=qC W1 _ 1 _ _ _ hr1;have H1:=qH (qA hb1 (qA hr1 hr2));clear hb1 hr1 hr2;go_enter Tryz.func132,Tryz.ntmps132;go_wp2_with fail;rw [<-hW1];clear hW1;go_wp2_with fail;refine (HN.out _ H1.out.1).mono ?_;intro e w2 h2;obtain⟨T,c,rfl,hT,hb2⟩:=qiK h2;have hr1:=zkeep hb2 _ _ H1.out.2.1;have k2:=qC w2 _ 2 _ _ _ hr1;have k3:=qC w2 _ 3 _ _ _ hr1;have H2:=qH (qA (H1.out.1.trans (hb2.mono H1.out.1.size)) (zkeep hb2 _ _ H1.out.2.2));clear hb2 hr1 h2 k0 k1;go_wp2_with fail;refine (HD.out _ H2.out.1).mono ?_;intro e w3 h3;obtain⟨T2,c2,rfl,hT2,hb3⟩:=qiK h3;rw [Hden.out,qal] at hT2;have H3:=qH (qA (H2.out.1.trans (hb3.mono H2.out.1.size)) (zkeep hb3 _ _ H2.out.2));clear hb3 h3 k2 k3;rcases hT with ⟨h1,hT1,rfl⟩ | ⟨h1,hT1,rfl⟩
 ·rcases hT2 with ⟨h2,hT3,rfl⟩ | ⟨h2,hT3,rfl⟩
  ·have HS:Hid (Short q):=qH ⟨h1,h2⟩;have HE:Hid (Value.agg #[.string T,.string T2]=fstr q):=qH (by rw [hT1,hT3];rfl);clear h1 h2 hT1 hT3
   go_wp2_with (with_reducible refine sR_ rfl 44 _ _ rfl (w.heap.size+1) #[.string T,.string T2] H3.out.2 2 ?_)
   exact qR (v:=.tuple #[.agg #[.string T,.string T2],.int .i64 0]) (rB_ rfl (w.heap.size+1) (qT _ _ _ _ _ _ H3.out.2) Tryz.underlying44 2) rfl ⟨qan ⟨HS.out,by rw [HE.out]⟩,qS H3.out.1 (by omega) _⟩
  ·have HS:Hid (¬Short q):=qH (fun h=>h2 h.2);clear h1 h2 hT1 hT3
   go_wp2_with (with_reducible refine sR_ rfl 44 _ _ rfl (w.heap.size+1) #[.string ⟨#[]⟩,.string ⟨#[]⟩] H3.out.2 2 ?_)
   exact qR (v:=.tuple #[.agg #[.string ⟨#[]⟩,.string ⟨#[]⟩],.int .i64 6]) (rB_ rfl (w.heap.size+1) (qT _ _ _ _ _ _ H3.out.2) Tryz.underlying44 2) rfl ⟨qah ⟨HS.out,rfl⟩,qS H3.out.1 (by omega) _⟩
 ·have HS:Hid (¬Short q):=qH (fun h=>h1 h.1);clear h1 hT1 hT2
  go_wp2_with (with_reducible refine sR_ rfl 44 _ _ rfl (w.heap.size+1) #[.string ⟨#[]⟩,.string ⟨#[]⟩] H3.out.2 2 ?_)
  exact qR (v:=.tuple #[.agg #[.string ⟨#[]⟩,.string ⟨#[]⟩],.int .i64 6]) (rB_ rfl (w.heap.size+1) (qT _ _ _ _ _ _ H3.out.2) Tryz.underlying44 2) rfl ⟨qah ⟨HS.out,rfl⟩,qS H3.out.1 (by omega) _⟩
