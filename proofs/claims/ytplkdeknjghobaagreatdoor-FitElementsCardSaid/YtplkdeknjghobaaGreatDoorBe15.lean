import Derived.Maps.AppendAt
import Derived.Test.YtplkdeknjghobaaGreatDoorBe14
set_option maxRecDepth 100000
set_option maxHeartbeats 0
namespace Go.Proofs.YtplkdeknjghobaaGreatDoor
open Go.RowKit
def qcH (x:Value):Prop:=∀k d,x≠.int k d
def Rws (w:World) (base:Nat) (e:TypeId) (size:Nat) (v:Value) (n:Nat) (xs:List Value):Prop :=
  xs.length=n*size /\
  ((v=.slice none 0 0/\n=0) \/
   ∃g cap cur,v=.slice (some ⟨g,0,none⟩) n cap/\base<=g/\w.heap[g]? = some (.cells cur e (0,0))/\n<=cap/\cap<=maxLen/\cur.size=cap*size/\cur.toList.take (n*size)=xs/\∀x∈cur.toList,qcH x)
section
variable {w:World} {base:Nat} {e:TypeId} {size:Nat} {v:Value} {n:Nat} {xs:List Value}
theorem Rws.own (h:Rws w base e size v n xs):w.ownsRow base e size v n xs:=by
 refine⟨h.1,?_⟩;rcases h.2 with h | ⟨g,cap,cur,h1,h2,h3,h4,h5,h6,h7,_⟩
 ·exact qan h
 ·exact qah ⟨g,cap,cur,h1,h2,h3,h4,h5,h6,h7⟩
theorem Rws.nil (w:World) (base:Nat) (e:TypeId) (size:Nat):Rws w base e size (.slice none 0 0) 0 []:=⟨by simp,.inl ⟨rfl,rfl⟩⟩
theorem Rws.kept {w':World} {row:Option Nat} (h:Rws w base e size v n xs) (hg:w.grownBy w' row) (hne:v.ownBlock=none\/v.ownBlock≠row):Rws w' base e size v n xs:=by
 refine⟨h.1,?_⟩;rcases h.2 with h | ⟨g,cap,cur,rfl,h2,h3,h4⟩
 ·exact qan h
 ·refine qah ⟨g,cap,cur,rfl,h2,(hg.block g (qG h3).1 ?_).trans h3,h4⟩;rcases hne with hne | hne
  ·cases hne
  ·exact hne
theorem Rws.below {w':World} (h:Rws w base e size v n xs) (hb:Below w.heap.size w w'):Rws w' base e size v n xs:=by
 refine⟨h.1,?_⟩;rcases h.2 with h | ⟨g,cap,cur,rfl,h2,h3,h4⟩
 ·exact qan h
 ·exact qah ⟨g,cap,cur,rfl,h2,(hb.block g (qG h3).1).trans h3,h4⟩
theorem Rws.lt (h:Rws w base e size v n xs):∀k,v.ownBlock=some k->base<=k/\k<w.heap.size:=h.own.lt
theorem Rws.shape (h:Rws w base e size v n xs):∃(ao:Option Addr) (cap:Nat),v=.slice ao n cap:=by
 rcases h.2 with ⟨rfl,rfl⟩ | ⟨g,cap,cur,rfl,_⟩
 ·exact⟨none,0,rfl⟩
 ·exact⟨_,_,rfl⟩
theorem Rws.ne {base':Nat} {e':TypeId} {size':Nat} {v':Value} {n':Nat} {xs':List Value} (h:Rws w base e size v n xs) (h':Rws w base' e' size' v' n' xs') (he:e≠e'):v.ownBlock=none\/v.ownBlock≠v'.ownBlock:=by
 rcases h.2 with ⟨rfl,_⟩ | ⟨g,cap,cur,rfl,_,h3,_⟩
 ·exact qan rfl
 ·refine qah fun e1=>?_
  rcases h'.2 with ⟨rfl,_⟩ | ⟨g',cap',cur',rfl,_,h3',_⟩
  ·cases e1
  ·have:g=g':=qai e1;subst this;have:=h3.symm.trans h3';simp at this;exact he this.2
end
theorem Rws.vcells {w:World} {base:Nat} {e:TypeId} {v:Value} {n:Nat} {xs:List Value} (h:Rws w base e 1 v n xs):∃(ao:Option Addr) (g cap:Nat),v=.slice ao n cap/\VCells w ao g 0 xs/\n<=cap:=by
 have hl:=h.1;rw [Nat.mul_one] at hl;have hown:=h.own;rcases h.2 with ⟨rfl,rfl⟩ | ⟨g,cap,cur,rfl,_,_,hc,_⟩
 ·exact⟨none,0,0,rfl,⟨fun h0=>absurd h0 (by omega),fun k hk=>absurd hk (by omega)⟩,qad _⟩
 ·refine⟨some ⟨g,0,none⟩,g,cap,rfl,⟨fun _=>rfl,fun k hk=>?_⟩,hc⟩;have:=hown.cells (g:=g) rfl k (xs.getD k undef) (by rw [qaa,qae hk];rfl)
  rwa [Addr.add_mid] at this
theorem qeK {w w':World} (h:w.grownBy w' none):Below w.heap.size w w':=⟨h.os,h.tape,h.output,h.size,fun i hi=>h.block i hi (fun e=>by cases e)⟩
section
variable {w w':World} {base:Nat} {e:TypeId} {size:Nat} {v:Value} {n:Nat} {xs:List Value}
theorem qmu {cur:Array Value} (h:∀x∈cur.toList,qcH x):∀x∈cur.toList,∀d,x≠.int .u32 d:=fun x hx d=>h x hx .u32 d
theorem Rws.old (h:Rws w base e size v n xs) (hg:w.grownBy w' v.ownBlock) {a:World} {B:Nat} (hb:Below B a w) (hB:B<=base) (hBw:B<=w.heap.size):Below B a w' :=
 hb.trans ⟨hg.os,hg.tape,hg.output,hg.size,fun i hi=>hg.block i (qag hi hBw) (fun e1=>by
  have:=(h.lt i e1.symm).1;omega)⟩
end
section
variable {P:Program}
theorem qgA {z:Value} (hz:∀x∈z.cells.toList,qcH x) (n:Nat):∀x∈(Builtin.zeroCells z.cells n).toList,qcH x:=by
 intro x hx;obtain⟨i,hi,he⟩:=List.getElem_of_mem hx;have h0:0<z.cells.size:=by
  rcases qaK z.cells.size with h | h
  ·have:=size_zeroCells z.cells n;rw [h,Nat.mul_zero] at this;rw [qbr] at hi;omega
  ·exact h
 have h1:x=z.cells[i % z.cells.size]!:=by
  rw [<-he];simp [Builtin.zeroCells]
 rw [h1,getElem!_pos z.cells _ (qbk _ h0)];exact hz _ (by simp)
theorem qe0 (w:World) (base:Nat) (t ty e:TypeId) (i:TypeInfo) (z:Value) (size bytes:Nat) (ht:P.underlying t=some (.slice e)) (hi:P.info? e=some i) (hz:i.zero=some z)
  (hsize:i.size=size) (hby:i.bytes=bytes) (hzs:z.cells.size=size) (hsz:0<size) (hzn:∀x∈z.cells.toList,qcH x)
  (v:Value) (n:Nat) (xs:List Value) (hown:Rws w base e size v n xs)
  (a:Addr) (m c:Nat) (news:List Value) (hl:news.length=m*size) (hnews:∀j u,news[j]? = some u->w.cell? (a.add j)=some u) (h1:∀u∈news,u.oneCell'=true) (hnn:∀u∈news,qcH u) (hm0:0<m)
  (h63:n+m<=maxLen) (hbytes:(n+m)*bytes<=140737488355328) (hbase:base<=w.heap.size) :
  ∃v' w',(Builtin.append_ #[t,t] ty #[v,.slice (some a) m c]).run P w=.ok v' w'/\Rws w' base e size v' (n+m) (xs++news)/\w.grownBy w' v.ownBlock/\(v'.ownBlock=v.ownBlock\/v'.ownBlock=some w.heap.size):=by
 subst hsize;subst hby;have hsmall:n+m<=9223372036854775807:=by simp only [maxLen] at h63;omega
 have hlen:(xs++news).length=(n+m)*i.size:=by rw [qaf,hown.1,hl,qaB]
 rcases hown.2 with ⟨rfl,rfl⟩ | ⟨g,cap,cur,rfl,hbg,hg,hnc,hcm,hcs,htake,hcn⟩
 ·have hx:xs=[]:=List.eq_nil_of_length_eq_zero (by simpa using hown.1);subst hx;have hr:=run_append_nil (P:=P) w t ty e i z ht hi hz a m c news hl hnews hm0 (by omega) (by have hb:=hbytes;simp only [qaO] at hb;omega);have hge:=grownCap_ge w m 0 e;refine⟨_,_,hr,⟨by simpa using hlen,.inr ⟨w.heap.size,_,_,by rw [qaO],hbase,heap_alloc_new w.drew _,by rw [qaO];exact hge,grownCap_le_maxLen w m 0 e (by simpa using h63),?_,?_,?_⟩⟩,⟨rfl,rfl,rfl,by simp,fun k hk _=>qL w.drew _ k hk⟩,qah rfl⟩
  ·simp only [Array.size_append,qbD,size_zeroCells,hzs,hl,<-qaB]
   congr 1;omega
  ·rw [qaO,qbq,<-hl,qbf];exact List.take_left
  ·intro x hx;rw [qbf] at hx;rcases qaN.1 hx with h | h
   ·exact hnn x h
   ·exact qgA hzn _ x h
 ·by_cases hroom:n+m<=cap
  ·have hfit:n*i.size+news.length<=cur.size:=by rw [hl,hcs,<-qaB];exact qa7 _ hroom
   have hr:=run_append_room (P:=P) w t ty e i ht hi g n cap cur hg a m c news hl hnews h1 hroom hfit;refine⟨_,_,hr,⟨hlen,.inr ⟨g,cap,_,rfl,hbg,qT w g cur _ e _ hg,hroom,hcm,?_,?_,?_⟩⟩,⟨rfl,rfl,rfl,by simp,fun k _ hk=>setRow_other w g k _ (fun e=>hk (by simp [Value.ownBlock,e]))⟩,qan rfl⟩
   ·simp only [qbD,qaf,qar,qaY,qbr];omega
   ·rw [htake,<-hlen];exact List.take_left
   ·intro x hx;rcases qaN.1 hx with h | h
    ·rcases qaN.1 h with h | h
     ·exact hcn x (qbH h)
     ·exact hnn x h
    ·exact hcn x (List.mem_of_mem_drop h)
  ·have holds:∀j u,xs[j]? = some u->w.cell? ((⟨g,0,none⟩:Addr).add j)=some u:=hown.own.cells (g:=g) rfl;have hr:=run_append_grow (P:=P) w t ty e i z ht hi hz ⟨g,0,none⟩ n cap xs hown.1 holds a m c news hl hnews (by omega) (by omega) (growslice_fits (by omega) hbytes);have hge:=grownCap_ge w (n+m) cap e;refine⟨_,_,hr,⟨hlen,.inr ⟨w.heap.size,_,_,rfl,hbase,heap_alloc_new w.drew _,hge,grownCap_le_maxLen w (n+m) cap e h63,?_,?_,?_⟩⟩,⟨rfl,rfl,rfl,by simp,fun k hk _=>qL w.drew _ k hk⟩,qah rfl⟩
   ·simp only [Array.size_append,qbD,size_zeroCells,hzs,hown.1,hl,<-qaB]
    congr 1;omega
   ·simp only [qbf,qay];rw [<-qay,<-hlen];exact List.take_left
   ·intro x hx;rw [qbf,qbf] at hx;rcases qaN.1 hx with h | h
    ·rcases qaN.1 h with h | h
     ·rw [<-htake] at h;exact hcn x (qbH (by simpa using h))
     ·exact hnn x h
    ·exact qgA hzn _ x h
theorem qic {w:World} {o:Oper} {a:Act} {K:Act->World->Prop} {Q:Exit->Act->World->Prop} (s x:Operand) (t:TypeId)
  (ho:o.op=.call { callee:=.builtin .append,args:=#[s,x],argTypes:=#[t,t] })
  (base:Nat) (e:TypeId) (i:TypeInfo) (z:Value) (size bytes:Nat) (ht:P.underlying t=some (.slice e)) (hi:P.info? e=some i) (hz:i.zero=some z)
  (hsize:i.size=size) (hby:i.bytes=bytes) (hzs:z.cells.size=size) (hsz:0<size) (hzn:∀x∈z.cells.toList,qcH x)
  (v:Value) (n:Nat) (xs:List Value) (hs:a.eval s=v) (hown:Rws w base e size v n xs)
  (ad:Addr) (m c:Nat) (news:List Value) (hx:a.eval x=.slice (some ad) m c) (hl:news.length=m*size) (hnews:∀j u,news[j]? = some u->w.cell? (ad.add j)=some u) (h1:∀u∈news,u.oneCell'=true) (hnn:∀u∈news,qcH u) (hm0:0<m)
  (h63:n+m<=maxLen) (hbytes:(n+m)*bytes<=140737488355328) (hbase:base<=w.heap.size)
  (h:∀v' w',Rws w' base e size v' (n+m) (xs++news)->w.grownBy w' v.ownBlock->(v'.ownBlock=v.ownBlock\/v'.ownBlock=some w.heap.size)->K (a.put o.dst v') w') :
  Oper.wp P o a w K Q:=by
 obtain⟨v',w',hr,h2,h3,h4⟩:=qe0 (P:=P) w base t o.type e i z size bytes ht hi hz hsize hby hzs hsz hzn v n xs hown ad m c news hl hnews h1 hnn hm0 h63 hbytes hbase;unfold Oper.wp execOp;simp only [ho,resolve,invoke,builtin,Sem.run_bind,Sem.run_pure,Result.andThen_ok,List.map_toArray,qbt,qbN,hs,hx,hr];exact h v' w' h2 h3 h4
theorem qhb {w:World} {ops:Array Oper} {o:Oper} {a:Act} {K:Act->World->Prop} {Q:Exit->Act->World->Prop} {E:Prop} (hgd:o.guard=none) (s x:Operand) (t:TypeId)
  (ho:o.op=.call { callee:=.builtin .append,args:=#[s,x],argTypes:=#[t,t] })
  (base:Nat) (e:TypeId) (i:TypeInfo) (z:Value) (size bytes:Nat) (ht:P.underlying t=some (.slice e)) (hi:P.info? e=some i) (hz:i.zero=some z)
  (hsize:i.size=size) (hby:i.bytes=bytes) (hzs:z.cells.size=size) (hsz:0<size) (hzn:∀x∈z.cells.toList,qcH x)
  (v:Value) (n:Nat) (xs:List Value) (hs:a.eval s=v) (hown:Rws w base e size v n xs)
  (ad:Addr) (m c:Nat) (news:List Value) (hx:a.eval x=.slice (some ad) m c) (hl:news.length=m*size) (hnews:∀j u,news[j]? = some u->w.cell? (ad.add j)=some u) (h1:∀u∈news,u.oneCell'=true) (hnn:∀u∈news,qcH u) (hm0:0<m)
  (h63:n+m<=maxLen) (hbytes:(n+m)*bytes<=140737488355328) (hbase:base<=w.heap.size)
  (h:∀v' w',Rws w' base e size v' (n+m) (xs++news)->w.grownBy w' v.ownBlock->(v'.ownBlock=v.ownBlock\/v'.ownBlock=some w.heap.size)->K (a.put o.dst v') w') :
  if Region.wanted o (yielded ops a.tmps)=true then Oper.wp P o a w K Q else E:=by
 have hw:Region.wanted o (yielded ops a.tmps)=true:=by simp [Region.wanted,hgd]
 rw [if_pos hw];exact qic s x t ho base e i z size bytes ht hi hz hsize hby hzs hsz hzn v n xs hs hown ad m c news hx hl hnews h1 hnn hm0 h63 hbytes hbase h
theorem qds {w:World} {ops:Array Oper} {rest:List Oper} {o:Oper} {a:Act} {Q:Exit->Act->World->Prop} (hgd:o.guard=none) (s x:Operand) (t:TypeId)
  (ho:o.op=.call { callee:=.builtin .append,args:=#[s,x],argTypes:=#[t,t] })
  (base:Nat) (e:TypeId) (i:TypeInfo) (z:Value) (size bytes:Nat) (ht:P.underlying t=some (.slice e)) (hi:P.info? e=some i) (hz:i.zero=some z)
  (hsize:i.size=size) (hby:i.bytes=bytes) (hzs:z.cells.size=size) (hsz:0<size) (hzn:∀x∈z.cells.toList,qcH x)
  (v:Value) (n:Nat) (xs:List Value) (hs:a.eval s=v) (hown:Rws w base e size v n xs)
  (ad:Addr) (m c:Nat) (news:List Value) (hx:a.eval x=.slice (some ad) m c) (hl:news.length=m*size) (hnews:∀j u,news[j]? = some u->w.cell? (ad.add j)=some u) (h1:∀u∈news,u.oneCell'=true) (hnn:∀u∈news,qcH u) (hm0:0<m)
  (h63:n+m<=maxLen) (hbytes:(n+m)*bytes<=140737488355328) (hbase:base<=w.heap.size)
  (h:∀v' w',Rws w' base e size v' (n+m) (xs++news)->w.grownBy w' v.ownBlock->(v'.ownBlock=v.ownBlock\/v'.ownBlock=some w.heap.size)->wpList P ops Q rest (a.put o.dst v') w') :
  wpList P ops Q (o :: rest) a w:=by
 refine wpList_plain hgd fun K hK=>?_
 obtain⟨v',w',hr,h2,h3,h4⟩:=qe0 (P:=P) w base t o.type e i z size bytes ht hi hz hsize hby hzs hsz hzn v n xs hown ad m c news hl hnews h1 hnn hm0 h63 hbytes hbase;unfold Oper.wp execOp;simp only [ho,resolve,invoke,builtin,Sem.run_bind,Sem.run_pure,Result.andThen_ok,List.map_toArray,qbt,qbN,hs,hx,hr];exact hK _ _ (h v' w' h2 h3 h4)
end
theorem qmx (pt pl pr pc gt ct gl cl k j r c g n:Nat) (a1:Option Addr) (n1 c1:Nat) (b1:Bool) (T:Int) (m:Nat->Int) (K J:Nat) (hKJ:K+J+J<=274877906944) (w:World)
  (h1:w.cell? ⟨pt,0,none⟩=some (.slice (some ⟨gt,0,none⟩) k ct)) (h2:w.cell? ⟨pl,0,none⟩=some (.slice (some ⟨gl,0,none⟩) k cl)) (h3:w.cell? ⟨pr,0,none⟩=some (.int .i64 r)) (h4:w.cell? ⟨pc,0,none⟩=some (.int .i64 c))
  (h5:w.cell? ⟨gt,j*2,none⟩=some (.slice a1 n1 c1)) (h6:w.cell? ⟨gt,j*2+1,none⟩=some (.bool b1)) (h7:IntAt w (.agg #[.slice a1 n1 c1,.bool b1]) T) (h8:w.cell? ⟨gl,j,none⟩=some (rowv g n)) (h9:qcm w g n m)
  (hj:j<k) (_hk:k<=1048576) (hr:r<n) (hc:c<n) (_hn:n<=1048576) (hT:Fit T.natAbs K) (hm:∀i,i<n->Fit (m i).natAbs J) :
  Calls Tryz.prog 252 #[.int .i64 j,.pointer (some ⟨pt,0,none⟩),.pointer (some ⟨pl,0,none⟩),.pointer (some ⟨pr,0,none⟩),.pointer (some ⟨pc,0,none⟩)] w fun e w'=>∃u,e=.returned u/\Below w.heap.size w w'/\IntAt w' u (T*m r*m c):=by
 obtain⟨W1,hW1⟩:=qY (w.alloc (.cells #[.slice none 0 0,.bool false] 242));have hb1:Below w.heap.size w W1:=hW1▸qbS qB qN;have hr1:W1.heap[w.heap.size]? = some (.cells #[.slice none 0 0,.bool false] 242 (0,0)):=by rw [hW1];exact qM _ _ _ rfl
 have hib:qcj W1 w.heap.size 0:=⟨_,_,_,_,hr1,_,rfl,MagAt.nil _⟩;obtain⟨a2,n2,c2,b2,p0,p1,i2⟩:=h9.pair hr;obtain⟨a3,n3,c3,b3,q0,q1,i3⟩:=h9.pair hc;have cellF:∀(p:Addr) (v:Value),w.cell? p=some v->∀W,W1.grownBy W (some w.heap.size)->W.cell? p=some v:=fun p v h W hg=>by
  have hlt:=qac w _ h;exact (qd6 hg (qag hlt hb1.size) (Nat.ne_of_lt hlt)).trans ((hb1.cell hlt).trans h)
 have C1:=cellF _ _ h1;have C2:=cellF _ _ h2;have C3:=cellF _ _ h3;have C4:=cellF _ _ h4;have C5:=cellF _ _ h5;have C6:=cellF _ _ h6;have C8:=cellF _ _ h8;have C9:=cellF _ _ p0;have C10:=cellF _ _ p1;have C11:=cellF _ _ q0;have C12:=cellF _ _ q1;have hji:(j:Int)<k:=by omega
 have hri:(r:Int)<n:=by omega
 have hci:(c:Int)<n:=by omega
 have HP1:=qH (fun W (h:Below W1.heap.size W1 W)=>least.qde T (m r) K J (by omega) _ _ W (h7.below (hb1.trans (h.mono hb1.size))) (i2.below (hb1.trans (h.mono hb1.size))) hT (hm r hr));have hTm:Fit (T*m r).natAbs (K+J):=by rw [qaE];exact hT.mul (hm r hr)
 have HP2:=qH (fun W u (h:Below W1.heap.size W1 W) (hu:IntAt W u (T*m r))=>least.qde (T*m r) (m c) (K+J) J (by omega) u _ W hu (i3.below (hb1.trans (h.mono hb1.size))) hTm (hm c hc));have HB1:=qH (qA hb1 hib);have hst:Below W1.heap.size W1 W1:=Below.refl _ _;have hstD:Below W1.heap.size W1 W1.drew:=hst.drew;clear cellF h1 h2 h3 h4 h5 h6 h7 h8 h9 p0 p1 q0 q1 i2 i3 hTm hT hm hb1 hr1 hib;go_enter Tryz.func252,Tryz.ntmps252;go_wp2_with fail;rw [<-hW1];clear hW1
 go_region_held3 (fun W=>W1.grownBy W (some w.heap.size)) (first | with_reducible exact qcT _ _ | with_reducible exact qb2 _ hstD | with_reducible exact qb2 _ HB5 | with_reducible exact qb2 _ HB6 | exact qbU (qbU (qb2 _ HB6) (least.qbX _ _ _ _)) (least.qbX _ _ _ _)) (first | (go_at_call_of 172 (Value.agg #[.slice a1 n1 c1,.bool b1]);refine (HP1.out _ hstD).mono ?_;rintro e w5 ⟨u5,rfl,hb5,hu5⟩;have HB5:Below W1.heap.size W1 w5:=bjoin hstD hb5;have HU5:=qH hu5;obtain⟨a5,n5,c5,b5,rfl⟩:=least.qbT hu5;clear hb5 hu5) | (go_at_call 172;refine (HP2.out _ _ HB5 HU5.out).mono ?_;rintro e w6 ⟨u6,rfl,hb6,hu6⟩;have HB6:Below W1.heap.size W1 w6:=bjoin HB5 hb6;obtain⟨a6,n6,c6,b6,rfl⟩:=least.qbT hu6;obtain⟨_,_,_,_,⟨z0,z1⟩,⟨f0,f1⟩,_⟩:=(HB1.out.2.below HB6).cells;have HX:=qH ((HB1.out.2.below HB6).row2 hu6);clear hb6 hu6))
 all_goals go_wp2_with fail
 all_goals exact qR (v:=.agg #[.slice a6 n6 c6,.bool b6]) (rA_ rfl w.heap.size HX.out.1 Tryz.underlying242 2) rfl ⟨_,rfl,((HB1.out.1.trans (HB6.mono HB1.out.1.size)).setCell (p:=⟨w.heap.size,0,none⟩) qN _).setCell (p:=⟨w.heap.size,1,none⟩) qN _,HX.out.2⟩
def wnum (wl:List FT) (i:Nat):Nat:=(ival (wl.getD i fd0).1.data.toList).natAbs
def wdn (t:Tbl) (bl wl:List FT) (i:Nat):Nat:=fden (wl.getD i fd0)*flcd (besides t bl i)*flcd (besides t bl i)
def ntop (t:Tbl) (bl wl:List FT) (i:Nat):Nat:=wnum wl i / (wnum wl i).gcd (wdn t bl wl i)
def nden (t:Tbl) (bl wl:List FT) (i:Nat):Nat:=wdn t bl wl i / (wnum wl i).gcd (wdn t bl wl i)
def nkeep (wl:List FT):Nat->List Nat
 | 0=>[]
 | i+1=>if wnum wl i=0 then nkeep wl i else nkeep wl i++[i]
theorem qfu (wl:List FT):∀i,(nkeep wl i).length<=i/\∀x∈nkeep wl i,x<i/\wnum wl x≠0
 | 0=>⟨qad _,fun x hx=>by cases hx⟩
 | i+1=>by
  obtain⟨h1,h2⟩:=qfu wl i
  by_cases e:wnum wl i=0
  ·simp only [nkeep,if_pos e];exact⟨by omega,fun x hx=>⟨by have:=(h2 x hx).1;omega,(h2 x hx).2⟩⟩
  ·simp only [nkeep,if_neg e];refine⟨by rw [qaf,qax];omega,fun x hx=>?_⟩;rcases qaN.1 hx with h | h
   ·exact⟨by have:=(h2 x h).1;omega,(h2 x h).2⟩
   ·rw [qap.1 h];exact⟨by omega,e⟩
theorem ql7 (wl:List FT) {i:Nat} (h:wnum wl i≠0):∀R,i<R->(nkeep wl R).getD (nkeep wl i).length 0=i/\(nkeep wl i).length<(nkeep wl R).length
 | 0,hi=>absurd hi (by omega)
 | R+1,hi=>by
  by_cases e:i=R
  ·subst e;simp only [nkeep,if_neg h];refine⟨?_,by rw [qaf,qax];omega⟩;rw [qaa,qas qN,qaI];rfl
  ·obtain⟨h1,h2⟩:=ql7 wl h R (by omega)
   by_cases e2:wnum wl R=0
   ·simp only [nkeep,if_pos e2];exact⟨h1,h2⟩
   ·simp only [nkeep,if_neg e2];refine⟨?_,by rw [qaf];omega⟩;rw [qaa,qaA h2,<-qaa];exact h1
theorem qgf {S:List Nat} {x p:Nat} (hp:p<S.length):(S++[x]).getD p 0=S.getD p 0:=by
 rw [qaa,qaA hp,<-qaa]
theorem qge {S:List Nat} {x:Nat}:(S++[x]).getD S.length 0=x:=by
 rw [qaa,qas qN,qaI];rfl
theorem qcE {S:List Nat} {p:Nat} (hp:p<S.length):S.getD p 0∈S:=by
 rw [qaa,qae hp];exact List.getElem_mem hp
structure NRow (t:Tbl) (bl wl:List FT) (i:Nat):Prop where
 fa:FAll (besides t bl i)
 len:(besides t bl i).length<=11
 wd:0<fden (wl.getD i fd0)/\Fit (fden (wl.getD i fd0)) 67
 wn:Fit (wnum wl i) 67
 nn:0<=ival (wl.getD i fd0).1.data.toList
theorem NRow.below {t:Tbl} {bl wl:List FT} {i:Nat} (h:NRow t bl wl i):0<flcd (besides t bl i)/\Fit (flcd (besides t bl i)) 738:=⟨qjU h.fa,(qfh h.fa h.len).mono (by omega)⟩
theorem NRow.d {t:Tbl} {bl wl:List FT} {i:Nat} (h:NRow t bl wl i):0<wdn t bl wl i/\Fit (wdn t bl wl i) 1543 :=
 ⟨qbP (qbP h.wd.1 h.below.1) h.below.1,((h.wd.2.mul h.below.2).mul h.below.2).mono (by omega)⟩
theorem NRow.g {t:Tbl} {bl wl:List FT} {i:Nat} (h:NRow t bl wl i):0<(wnum wl i).gcd (wdn t bl wl i)/\Fit ((wnum wl i).gcd (wdn t bl wl i)) 1543 :=
 ⟨qa8 _ h.d.1,h.d.2.le (qbL h.d.1 (qaU _ _))⟩
theorem NRow.den {t:Tbl} {bl wl:List FT} {i:Nat} (h:NRow t bl wl i):0<nden t bl wl i/\Fit (nden t bl wl i) 1543 :=
 ⟨Nat.div_pos (qbL h.d.1 (qaU _ _)) h.g.1,h.d.2.le (qaS _ _)⟩
theorem NRow.top {t:Tbl} {bl wl:List FT} {i:Nat} (h:NRow t bl wl i):Fit (ntop t bl wl i) 67:=h.wn.le (qaS _ _)
theorem NRow.val {t:Tbl} {bl wl:List FT} {i:Nat} (h:NRow t bl wl i):(ntop t bl wl i:Rat)*((flcd (besides t bl i):Nat):Rat)*((flcd (besides t bl i):Nat):Rat)=lval wl i*(nden t bl wl i:Rat):=by
 have hg:=h.g.1;obtain⟨a,ha⟩:=qbJ (wnum wl i) (wdn t bl wl i);obtain⟨b,hb⟩:=qaU (wnum wl i) (wdn t bl wl i);have ea:ntop t bl wl i=a:=by unfold ntop;(conv=>lhs;lhs;rw [ha]);exact qaW _ hg
 have eb:nden t bl wl i=b:=by unfold nden;(conv=>lhs;lhs;rw [hb]);exact qaW _ hg
 rw [ea,eb];have hl:lval wl i=(wnum wl i:Rat) / ((fden (wl.getD i fd0):Nat):Rat):=by
  unfold lval;rw [qhO]
  congr 1
  have:(ival (wl.getD i fd0).1.data.toList:Int)=(wnum wl i:Int):=by have:=h.nn;unfold wnum;omega
  rw [this];rfl
 have hwd:((fden (wl.getD i fd0):Nat):Rat)≠0:=by have:=qbl h.wd.1;exact_mod_cast this
 have hd:((wdn t bl wl i:Nat):Rat)=(fden (wl.getD i fd0):Rat)*(flcd (besides t bl i):Rat)*(flcd (besides t bl i):Rat):=by unfold wdn;push_cast;rfl
 have hga:(wnum wl i:Rat)=((wnum wl i).gcd (wdn t bl wl i):Rat)*a:=by exact_mod_cast ha
 have hgb:((wdn t bl wl i:Nat):Rat)=((wnum wl i).gcd (wdn t bl wl i):Rat)*b:=by exact_mod_cast hb
 have hg0:(((wnum wl i).gcd (wdn t bl wl i):Nat):Rat)≠0:=by have:=qbl hg;exact_mod_cast this
 rw [hl];generalize (((wnum wl i).gcd (wdn t bl wl i):Nat):Rat)=G at *;generalize ((flcd (besides t bl i):Nat):Rat)=F at *;generalize ((fden (wl.getD i fd0):Nat):Rat)=E at *;rw [hd] at hgb;rw [hga];have:E*F*F=G*b:=hgb
 grind
def nall (t:Tbl) (bl wl:List FT) (S:List Nat):Nat:=lcms (S.map (nden t bl wl))
def nfac (t:Tbl) (bl wl:List FT) (S:List Nat) (i:Nat):Int:=(ntop t bl wl i:Int)*((nall t bl wl S / nden t bl wl i:Nat):Int)
def nterm (t:Tbl) (bl wl:List FT) (S:List Nat) (r c i:Nat):Int:=nfac t bl wl S i*ftop (besides t bl i) r*ftop (besides t bl i) c
theorem mapD {S:List Nat} {f:Nat->Nat} {p:Nat} (hp:p<S.length):(S.map f).getD p 0=f (S.getD p 0):=by
 rw [qaa,qaM,qaa,qae hp];rfl
theorem nall_pos {t:Tbl} {bl wl:List FT} {S:List Nat} (h:∀x∈S,NRow t bl wl x):0<nall t bl wl S:=by
 have:=qfo (S.map (nden t bl wl)) (fun k hk=>by rw [qaw] at hk;rw [mapD hk];exact (h _ (qcE hk)).den.1) (S.map (nden t bl wl)).length qN
 rwa [qbi] at this
theorem qhW {t:Tbl} {bl wl:List FT} {S:List Nat} (h:∀x∈S,NRow t bl wl x) (hS:S.length<=40):Fit (nall t bl wl S) 61721:=by
 have:=qfn (S.map (nden t bl wl)) 1543 (fun k hk=>by rw [qaw] at hk;rw [mapD hk];exact (h _ (qcE hk)).den) (S.map (nden t bl wl)).length qN;rw [qbi] at this;refine Fit.mono this ?_;rw [qaw];omega
theorem nall_dvd {t:Tbl} {bl wl:List FT} {S:List Nat} {p:Nat} (hp:p<S.length):nden t bl wl (S.getD p 0)∣nall t bl wl S:=by
 have:=qhR (S.map (nden t bl wl)) (S.map (nden t bl wl)).length p (by rw [qaw];exact hp) qN;rw [qbi,mapD hp] at this;exact this
theorem qj5 {t:Tbl} {bl wl:List FT} {S:List Nat} (h:∀x∈S,NRow t bl wl x) (hS:S.length<=40) {p:Nat} (hp:p<S.length):Fit (nfac t bl wl S (S.getD p 0)).natAbs 61788:=by
 unfold nfac;rw [qaE,qal,qal];exact ((h _ (qcE hp)).top.mul ((qhW h hS).le (qaS _ _))).mono (by omega)
theorem qiH {t:Tbl} {bl wl:List FT} {S:List Nat} (h:∀x∈S,NRow t bl wl x) (hS:S.length<=40) {p r c:Nat} (hp:p<S.length) (hr:r<(besides t bl (S.getD p 0)).length) (hc:c<(besides t bl (S.getD p 0)).length):Fit (nterm t bl wl S r c (S.getD p 0)).natAbs 63398:=by
 have hrow:=h _ (qcE hp);unfold nterm;rw [qaE,qaE];exact (((qj5 h hS hp).mul (qdk hrow.fa hrow.len hr)).mul (qdk hrow.fa hrow.len hc)).mono (by omega)
theorem qmz {t:Tbl} {bl wl:List FT} {S:List Nat} (h:∀x∈S,NRow t bl wl x) {p r c:Nat} (hp:p<S.length) (hr:r<(besides t bl (S.getD p 0)).length) (hc:c<(besides t bl (S.getD p 0)).length) :
  ((nterm t bl wl S r c (S.getD p 0):Int):Rat)=(nall t bl wl S:Rat)*(lval wl (S.getD p 0)*(lval (besides t bl (S.getD p 0)) r*lval (besides t bl (S.getD p 0)) c)):=by
 have hrow:=h _ (qcE hp);obtain⟨q,hq⟩:=nall_dvd (t:=t) (bl:=bl) (wl:=wl) hp;have hd:=hrow.den.1;have e:nall t bl wl S / nden t bl wl (S.getD p 0)=q:=by rw [hq];exact qaW _ hd
 have hv:=hrow.val;unfold nterm nfac;rw [e];have f1:=qfi hrow.fa hr;have f2:=qfi hrow.fa hc
 push_cast
 rw [f1,f2];have hqr:(nall t bl wl S:Rat)=(nden t bl wl (S.getD p 0):Rat)*q:=by exact_mod_cast hq
 rw [hqr];generalize ((flcd (besides t bl (S.getD p 0)):Nat):Rat)=F at *;generalize ((nden t bl wl (S.getD p 0):Nat):Rat)=D at *;generalize ((ntop t bl wl (S.getD p 0):Nat):Rat)=T at *;generalize lval wl (S.getD p 0)=L at *;generalize lval (besides t bl (S.getD p 0)) r=X at *;generalize lval (besides t bl (S.getD p 0)) c=Y at *;have h1:T*q*(F*X)*(F*Y)=(T*F*F)*q*X*Y:=by grind
 rw [h1,hv];grind
def normQ (t:Tbl) (bl wl:List FT) (R:Nat) (r c:Nat):Rat:=sumQ R fun i=>lval wl i*(lval (besides t bl i) r*lval (besides t bl i) c)
theorem qgN (f:Nat->Int):∀k,((isum f k:Int):Rat)=sumQ k fun p=>((f p:Int):Rat)
 | 0=>rfl
 | k+1=>by
  show ((isum f k+f k:Int):Rat)=sumQ k _+_
  rw [<-qgN f k];push_cast;rfl
theorem qjY (wl:List FT) (f:Nat->Rat):∀i,(∀x,x<i->wnum wl x=0->f x=0)->sumQ (nkeep wl i).length (fun p=>f ((nkeep wl i).getD p 0))=sumQ i f
 | 0,_=>rfl
 | i+1,h=>by
  have ih:=qjY wl f i fun x hx=>h x (by omega)
  show _=sumQ i f+f i
  by_cases e:wnum wl i=0
  ·simp only [nkeep,if_pos e];rw [ih,h i (by omega) e];grind
  ·simp only [nkeep,if_neg e];rw [qaf,qax]
   show sumQ (nkeep wl i).length _+f ((nkeep wl i++[i]).getD (nkeep wl i).length 0)=_
   rw [qge,<-ih]
   congr 1
   exact qb0 fun p hp=>by rw [qgf hp]
theorem qiA {wl:List FT} {i:Nat} (h:wnum wl i=0):lval wl i=0:=by
 unfold lval;rw [qhO];have:ival (wl.getD i fd0).1.data.toList=0:=by unfold wnum at h;omega
 rw [this,show ((0:Int):Rat)=0 from rfl];grind
theorem norm_sum {t:Tbl} {bl wl:List FT} {R r c:Nat} (h:∀i,i<R->NRow t bl wl i) (hl:∀i,i<R->r<(besides t bl i).length/\c<(besides t bl i).length) :
  ((isum (fun p=>nterm t bl wl (nkeep wl R) r c ((nkeep wl R).getD p 0)) (nkeep wl R).length:Int):Rat)=(nall t bl wl (nkeep wl R):Rat)*normQ t bl wl R r c:=by
 have hlt:=(qfu wl R).2;rw [qgN];have e1:sumQ (nkeep wl R).length (fun p=>((nterm t bl wl (nkeep wl R) r c ((nkeep wl R).getD p 0):Int):Rat))=sumQ (nkeep wl R).length (fun p=>(fun i=>(nall t bl wl (nkeep wl R):Rat)*(lval wl i*(lval (besides t bl i) r*lval (besides t bl i) c))) ((nkeep wl R).getD p 0)) :=
  qb0 fun p hp=>qmz (fun x hx=>h x (hlt x hx).1) hp (hl _ (hlt _ (qcE hp)).1).1 (hl _ (hlt _ (qcE hp)).1).2
 rw [e1,qjY wl (fun i=>(nall t bl wl (nkeep wl R):Rat)*(lval wl i*(lval (besides t bl i) r*lval (besides t bl i) c))) R (fun x _ hx=>by simp only [qiA hx];grind),qcv]
 rfl
structure Soft (W W':World) (row:Option Nat):Prop where
 grown:W.grownBy W' row
 nn:∀g,row=some g->∃(cs:Array Value) (t:TypeId) (fz:Nat×Nat),W.heap[g]? = some (.cells cs t fz)/\∀x∈cs.toList,qcH x
theorem Soft.ofBelow {W W':World} (h:Below W.heap.size W W'):Soft W W' none:=⟨⟨h.os,h.tape,h.output,h.size,fun i hi _=>h.block i hi⟩,fun g e=>by cases e⟩
theorem Soft.ofSet {W:World} {g:Nat} {cs:Array Value} {t:TypeId} {fz:Nat×Nat} (h:W.heap[g]? = some (.cells cs t fz)) (hn:∀x∈cs.toList,qcH x) (j:Nat) (v:Value):Soft W (W.setCell ⟨g,j,none⟩ v) (some g) :=
 ⟨least.qbX W g j v,fun g' e=>by cases e;exact⟨cs,t,fz,h,hn⟩⟩
theorem Soft.ofRws {W W':World} {base:Nat} {e:TypeId} {size:Nat} {v:Value} {n:Nat} {xs:List Value} (h:Rws W base e size v n xs) (hg:W.grownBy W' v.ownBlock):Soft W W' v.ownBlock:=by
 refine⟨hg,fun g e1=>?_⟩;rcases h.2 with ⟨rfl,_⟩ | ⟨g',cap,cur,rfl,_,h3,_,_,_,_,h4⟩
 ·cases e1
 ·cases e1;exact⟨cur,_,_,h3,h4⟩
section
variable {W W':World} {row:Option Nat}
theorem Soft.mag (s:Soft W W' row) {u:Value} {x:Nat} (hm:MagAt W u x):MagAt W' u x:=by
 cases row with
 | none=>exact hm.below (qeK s.grown)
 | some g =>
  obtain⟨cs,t,fz,h,hn⟩:=s.nn g rfl;exact qce hm s.grown h (qmu hn)
theorem Soft.pairs (s:Soft W W' row) {ps:List (Value×Bool)} {z:Nat->Int} (hm:qct W ps z):qct W' ps z:=fun k hk=>⟨(hm k hk).1,s.mag (hm k hk).2⟩
theorem Soft.mags (s:Soft W W' row) {vs:List Value} {ys:List Nat} (hm:qdD W vs ys):qdD W' vs ys:=⟨hm.1,fun k hk=>s.mag (hm.2 k hk)⟩
theorem Soft.introw (s:Soft W W' row) {g m:Nat} {z:Nat->Int} (hm:qcm W g m z) (hne:row≠some g):qcm W' g m z:=by
 obtain⟨ps,h1,h2,h3⟩:=hm;exact⟨ps,h1,⟨(s.grown.block _ (qG h2.1).1 (fun e=>hne e.symm)).trans h2.1,h2.2⟩,s.pairs h3⟩
theorem Soft.blk (s:Soft W W' row) {g:Nat} {o:Obj} (hr:W.heap[g]? = some o) (hne:row≠some g):W'.heap[g]? = some o :=
 (s.grown.block _ (qG hr).1 (fun e=>hne e.symm)).trans hr
theorem Soft.rws (s:Soft W W' row) {base:Nat} {e:TypeId} {size:Nat} {v:Value} {n:Nat} {xs:List Value} (h:Rws W base e size v n xs) (hne:v.ownBlock=none\/v.ownBlock≠row):Rws W' base e size v n xs:=h.kept s.grown hne
theorem Soft.old (s:Soft W W' row) {a:World} {B:Nat} (hb:Below B a W) (hr:∀k,row=some k->B<=k) (hB:B<=W.heap.size):Below B a W' :=
 hb.trans ⟨s.grown.os,s.grown.tape,s.grown.output,s.grown.size,fun i hi=>s.grown.block i (qag hi hB) (fun e=>by have:=hr i e.symm;omega)⟩
end
theorem Rws.ne_row {w:World} {base:Nat} {e:TypeId} {size:Nat} {v:Value} {n:Nat} {xs:List Value} (h:Rws w base e size v n xs) {g:Nat} {cs:Array Value} {t:TypeId} {fz:Nat×Nat} (hr:w.heap[g]? = some (.cells cs t fz)) (hne:e≠t):v.ownBlock≠some g:=by
 intro e1;rcases h.2 with ⟨rfl,_⟩ | ⟨g',cap,cur,rfl,_,h3,_⟩
 ·cases e1
 ·cases e1;have:=h3.symm.trans hr;simp at this;exact hne this.2.1
theorem Rws.ne_int {w:World} {base:Nat} {e:TypeId} {size:Nat} {v:Value} {n:Nat} {xs:List Value} (h:Rws w base e size v n xs) {g m:Nat} {z:Nat->Int} (hr:qcm w g m z) (hne:e≠242):v.ownBlock≠some g:=by
 obtain⟨ps,_,h2,_⟩:=hr;exact h.ne_row h2.1 hne
theorem Rws.ne_low {w:World} {base:Nat} {e:TypeId} {size:Nat} {v:Value} {n:Nat} {xs:List Value} (h:Rws w base e size v n xs) {g:Nat} (hg:g<base):v.ownBlock≠some g:=fun e1=>by have:=(h.lt g e1).1;omega
theorem or_ne {a b:Option Nat} (h:a≠b):a=none\/a≠b:=qah h
theorem ql2 (ps:List (Value×Bool)):∀(j:Nat) (x:Value×Bool),j<ps.length->iflat (ps.set j x)=((iflat ps).set (j*2) x.1).set (j*2+1) (.bool x.2):=by
 induction ps with
 | nil=>intro j x h;exact absurd h (by simp)
 | cons q ps ih =>
  intro j x h;cases j with
  | zero=>rfl
  | succ j =>
   have e:∀l,iflat (q :: l)=q.1 :: .bool q.2 :: iflat l:=fun _=>rfl
   rw [List.set_cons_succ,e,e,ih j x (by simpa using h),show (j+1)*2=j*2+1+1 by omega];rfl
structure NSt (W:World) (h0:Nat) (t:Tbl) (bl wl:List FT) (n:Nat) (Sl St Sb:List Nat) (vl vt vb:Value) (gs:Nat->Nat) (ps:List (Value×Bool)) (vs:List Value) (T:Nat->Int):Prop where
 cs:W.heap[h0]? = some (.cells #[zs0] 278 (0,0))
 cl:W.heap[h0+1]? = some (.cells #[vl] 276 (0,0))
 ct:W.heap[h0+1+1]? = some (.cells #[vt] 237 (0,0))
 rl:Rws W (h0+1+1+1) 237 1 vl Sl.length (rowvs Sl.length (n+1) gs)
 rt:Rws W (h0+1+1+1) 242 2 vt St.length (iflat ps)
 rb:Rws W (h0+1+1+1) 238 1 vb Sb.length vs
 rows:∀p,p<Sl.length->qcm W (gs p) (n+1) (ftop (besides t bl (Sl.getD p 0)))
 ap:∀p,p<Sl.length->vt.ownBlock≠some (gs p)
 pt:qct W ps T
 pl:ps.length=St.length
 mb:qdD W vs (Sb.map (nden t bl wl))
section
variable {W:World} {h0:Nat} {t:Tbl} {bl wl:List FT} {n:Nat} {Sl St Sb:List Nat} {vl vt vb:Value} {gs:Nat->Nat} {ps:List (Value×Bool)} {vs:List Value} {T:Nat->Int}
theorem NSt.congrT {T':Nat->Int} (h:NSt W h0 t bl wl n Sl St Sb vl vt vb gs ps vs T) (e:∀p,p<St.length->T p=T' p):NSt W h0 t bl wl n Sl St Sb vl vt vb gs ps vs T' :=
 ⟨h.cs,h.cl,h.ct,h.rl,h.rt,h.rb,h.rows,h.ap,fun k hk=>by rw [<-e k (by rw [<-h.pl];exact hk)];exact h.pt k hk,h.pl,h.mb⟩
theorem NSt.top (h:NSt W h0 t bl wl n Sl St Sb vl vt vb gs ps vs T) {j:Nat} (hj:j<St.length):∃(g cap:Nat) (a:Option Addr) (m c:Nat) (b:Bool),vt=.slice (some ⟨g,0,none⟩) St.length cap/\g<W.heap.size/\h0+1+1+1<=g/\W.cell? ⟨g,j*2,none⟩=some (.slice a m c)/\W.cell? ⟨g,j*2+1,none⟩=some (.bool b)/\(∀k,W.frozen? ⟨g,k,none⟩=false)/\IntAt W (.agg #[.slice a m c,.bool b]) (T j):=by
 have hpl:=h.pl;obtain⟨a,m,c,b,e,hi⟩:=qdp h.pt (k:=j) (by omega);rcases h.rt.2 with ⟨_,e0⟩ | ⟨g,cap,cur,e1,hB,hg,_⟩
 ·omega
 ·have hc:=h.rt.own.cells (g:=g) (by rw [e1];rfl);obtain⟨d0,d1⟩:=qfk ps j (.slice a m c,b) (by rw [<-e,qaa,qae (by omega)];rfl);have c0:=hc _ _ d0;have c1:=hc _ _ d1;rw [Addr.add_mid,qaO] at c0 c1;exact⟨g,cap,a,m,c,b,e1,(qG hg).1,hB,c0,c1,fun k=>qF _ _ _ _ _ hg,hi⟩
theorem NSt.below {W':World} (h:NSt W h0 t bl wl n Sl St Sb vl vt vb gs ps vs T) (hb:Below W.heap.size W W'):NSt W' h0 t bl wl n Sl St Sb vl vt vb gs ps vs T :=
 have s:=Soft.ofBelow hb
 ⟨s.blk h.cs (by simp),s.blk h.cl (by simp),s.blk h.ct (by simp),h.rl.below hb,h.rt.below hb,h.rb.below hb,fun p hp=>s.introw (h.rows p hp) (by simp),h.ap,s.pairs h.pt,h.pl,s.mags h.mb⟩
theorem qeO {v:Value} {base:Nat} {e:TypeId} {size n:Nat} {xs:List Value} (h:Rws W base e size v n xs):qcH v:=by
 intro k d e1;rcases h.2 with ⟨rfl,_⟩ | ⟨g,cap,cur,rfl,_⟩
 ·cases e1
 ·cases e1
theorem qgW {v:Value} (h:qcH v):∀x∈(#[v]:Array Value).toList,qcH x:=fun x hx=>by rw [qap.1 hx];exact h
theorem qjy {k n g:Nat} {gs:Nat->Nat}:rowvs (k+1) n (fun p=>if p=k then g else gs p)=rowvs k n gs++[rowv g n]:=by
 unfold rowvs;rw [List.range_succ,qa5]
 congr 1
 ·exact List.map_congr_left fun i hi=>by
   have:=qbg.1 hi;simp only [if_neg (show ¬i=k by omega)]
 ·simp only [qbt,qbN,if_true]
theorem qkZ (k n g:Nat) (gs:Nat->Nat):rowvs (k+1) n (fun p=>if p=k then g else gs p)=rowvs k n gs++[rowv g n]:=by
 unfold rowvs;rw [List.range_succ,qa5]
 congr 1
 ·exact List.map_congr_left fun i hi=>by
   have:=qbg.1 hi;simp only [if_neg (show ¬i=k by omega)]
 ·simp only [qbt,qbN,if_true]
theorem NSt.addL (h:NSt W h0 t bl wl n Sl St Sb vl vt vb gs ps vs T) {g i:Nat} (hg:qcm W g (n+1) (ftop (besides t bl i))) (hne:vt.ownBlock≠some g) {w1:World} {vl':Value}
  (hr:Rws w1 (h0+1+1+1) 237 1 vl' (Sl.length+1) (rowvs Sl.length (n+1) gs++[rowv g (n+1)])) (hgr:W.grownBy w1 vl.ownBlock) :
  NSt (w1.setCell ⟨h0+1,0,none⟩ vl') h0 t bl wl n (Sl++[i]) St Sb vl' vt vb (fun p=>if p=Sl.length then g else gs p) ps vs T:=by
 have s1:=Soft.ofRws h.rl hgr;have c1:=s1.blk h.cl (h.rl.ne_low (by omega));have s2:=Soft.ofSet c1 (qgW (qeO h.rl)) 0 vl';have hlow:∀{base:Nat} {e:TypeId} {size:Nat} {v:Value} {m:Nat} {xs:List Value},Rws w1 (h0+1+1+1) e size v m xs->Rws (w1.setCell ⟨h0+1,0,none⟩ vl') (h0+1+1+1) e size v m xs:=fun r=>s2.rws r (or_ne (r.ne_low (by omega)))
 have hi2:∀{g':Nat} {z:Nat->Int},qcm W g' (n+1) z->qcm (w1.setCell ⟨h0+1,0,none⟩ vl') g' (n+1) z:=fun {g' z} r=>by
  have r1:=s1.introw r (h.rl.ne_int r (by decide));refine s2.introw r1 fun e=>?_
  cases e;obtain⟨ps',_,h2,_⟩:=r1;have:=h2.1.symm.trans c1;simp at this
 refine⟨s2.blk (s1.blk h.cs (h.rl.ne_low (by omega))) (by simp),?_,s2.blk (s1.blk h.ct (h.rl.ne_low (by omega))) (by simp),?_,hlow (base:=0) (s1.rws h.rt (h.rt.ne h.rl (by decide))),hlow (base:=0) (s1.rws h.rb (h.rb.ne h.rl (by decide))),fun p hp=>?_,fun p hp=>?_,s2.pairs (s1.pairs h.pt),h.pl,s2.mags (s1.mags h.mb)⟩
 ·exact heap_setCell_same _ _ 0 _ _ _ c1
 ·rw [qaf,qax,qkZ];exact hlow (base:=0) hr
 ·rw [qaf,qax] at hp
  by_cases e:p=Sl.length
  ·subst e;simp only [if_true];rw [qge];exact hi2 hg
  ·simp only [if_neg e];rw [qgf (by omega)];exact hi2 (h.rows p (by omega))
 ·rw [qaf,qax] at hp
  by_cases e:p=Sl.length
  ·subst e;simp only [if_true];exact hne
  ·simp only [if_neg e];exact h.ap p (by omega)
theorem nst_cl (h:NSt W h0 t bl wl n Sl St Sb vl vt vb gs ps vs T) {w1:World} (hgr:W.grownBy w1 vl.ownBlock):w1.cell? ⟨h0+1,0,none⟩=some vl/\w1.frozen? ⟨h0+1,0,none⟩=false:=by
 have c1:=(Soft.ofRws h.rl hgr).blk h.cl (h.rl.ne_low (by omega));exact⟨qC _ _ 0 _ _ _ c1,qF _ _ 0 _ _ c1⟩
theorem nst_soft (h:NSt W h0 t bl wl n Sl St Sb vl vt vb gs ps vs T) {w1:World} (hgr:W.grownBy w1 vl.ownBlock) (u:Value) :
  (∀v x,MagAt W v x->MagAt (w1.setCell ⟨h0+1,0,none⟩ u) v x)/\∀(a:World) (B:Nat),Below B a W->B<=h0+1->B<=W.heap.size->Below B a (w1.setCell ⟨h0+1,0,none⟩ u):=by
 have s1:=Soft.ofRws h.rl hgr;have c1:=s1.blk h.cl (h.rl.ne_low (by omega));have s2:=Soft.ofSet c1 (qgW (qeO h.rl)) 0 u;exact⟨fun v x hm=>s2.mag (s1.mag hm),fun a B hb h1 h2=>s2.old (s1.old hb (fun k e=>by have:=(h.rl.lt k e).1;omega) h2) (fun k e=>by have:=qai e;omega) (qaj h2 s1.grown.size)⟩
theorem qmw (h:NSt W h0 t bl wl n Sl St Sb vl vt vb gs ps vs T) {w1:World} (hgr:W.grownBy w1 vt.ownBlock) (u:Value) :
  (∀v x,MagAt W v x->MagAt (w1.setCell ⟨h0+1+1,0,none⟩ u) v x)/\∀(a:World) (B:Nat),Below B a W->B<=h0+1->B<=W.heap.size->Below B a (w1.setCell ⟨h0+1+1,0,none⟩ u):=by
 have s1:=Soft.ofRws h.rt hgr;have c1:=s1.blk h.ct (h.rt.ne_low (by omega));have s2:=Soft.ofSet c1 (qgW (qeO h.rt)) 0 u;exact⟨fun v x hm=>s2.mag (s1.mag hm),fun a B hb h1 h2=>s2.old (s1.old hb (fun k e=>by have:=(h.rt.lt k e).1;omega) h2) (fun k e=>by have:=qai e;omega) (qaj h2 s1.grown.size)⟩
theorem nst_ct (h:NSt W h0 t bl wl n Sl St Sb vl vt vb gs ps vs T) {w1:World} (hgr:W.grownBy w1 vt.ownBlock):w1.cell? ⟨h0+1+1,0,none⟩=some vt/\w1.frozen? ⟨h0+1+1,0,none⟩=false:=by
 have c1:=(Soft.ofRws h.rt hgr).blk h.ct (h.rt.ne_low (by omega));exact⟨qC _ _ 0 _ _ _ c1,qF _ _ 0 _ _ c1⟩
theorem NSt.addT (h:NSt W h0 t bl wl n Sl St Sb vl vt vb gs ps vs T) {i:Nat} {m:Value} (hm:MagAt W m (T St.length).natAbs) {w1:World} {vt':Value}
  (hr:Rws w1 (h0+1+1+1) 242 2 vt' (St.length+1) (iflat ps++[m,.bool (decide (T St.length<0))])) (hgr:W.grownBy w1 vt.ownBlock) (ho:vt'.ownBlock=vt.ownBlock\/vt'.ownBlock=some W.heap.size) :
  NSt (w1.setCell ⟨h0+1+1,0,none⟩ vt') h0 t bl wl n Sl (St++[i]) Sb vl vt' vb gs (ps++[(m,decide (T St.length<0))]) vs T:=by
 have s1:=Soft.ofRws h.rt hgr;have c1:=s1.blk h.ct (h.rt.ne_low (by omega));have s2:=Soft.ofSet c1 (qgW (qeO h.rt)) 0 vt';have hlow:∀{e:TypeId} {size:Nat} {v:Value} {m:Nat} {xs:List Value},Rws w1 (h0+1+1+1) e size v m xs->Rws (w1.setCell ⟨h0+1+1,0,none⟩ vt') (h0+1+1+1) e size v m xs:=fun r=>s2.rws r (or_ne (r.ne_low (by omega)))
 refine⟨s2.blk (s1.blk h.cs (h.rt.ne_low (by omega))) (fun e=>by have:=qai e;omega),s2.blk (s1.blk h.cl (h.rt.ne_low (by omega))) (fun e=>by have:=qai e;omega),?_,hlow (s1.rws h.rl (h.rl.ne h.rt (by decide))),?_,hlow (s1.rws h.rb (h.rb.ne h.rt (by decide))),fun p hp=>?_,fun p hp=>?_,?_,?_,s2.mags (s1.mags h.mb)⟩
 ·exact heap_setCell_same _ _ 0 _ _ _ c1
 ·rw [qaf,qax,qfj];exact hlow hr
 ·have r1:=s1.introw (h.rows p hp) (h.ap p hp);refine s2.introw r1 fun e=>?_
  have e2:=qai e;obtain⟨ps',_,h2,_⟩:=r1;rw [<-e2] at h2;have:=h2.1.symm.trans c1;simp at this
 ·rcases ho with e | e
  ·rw [e];exact h.ap p hp
  ·rw [e];intro e2;obtain⟨ps',_,h2,_⟩:=h.rows p hp;have:=(qG h2.1).1;have:=qai e2;omega
 ·have:=(s2.pairs (s1.pairs h.pt)).snoc (v:=m) (by rw [h.pl];exact s2.mag (s1.mag hm));rw [h.pl] at this;exact this
 ·rw [qaf,qaf,h.pl];rfl
theorem NSt.addT2 (h:NSt W h0 t bl wl n Sl St Sb vl vt vb gs ps vs T) {i:Nat} {a:Option Addr} {m c:Nat} {b:Bool} {z:Int} (hz:z=T St.length) (hi:IntAt W (.agg #[.slice a m c,.bool b]) z) {w1:World} {vt':Value}
  (hr:Rws w1 (h0+1+1+1) 242 2 vt' (St.length+1) (iflat ps++[.slice a m c,.bool b])) (hgr:W.grownBy w1 vt.ownBlock) (ho:vt'.ownBlock=vt.ownBlock\/vt'.ownBlock=some W.heap.size) :
  NSt (w1.setCell ⟨h0+1+1,0,none⟩ vt') h0 t bl wl n Sl (St++[i]) Sb vl vt' vb gs (ps++[(.slice a m c,b)]) vs T:=by
 obtain⟨m',e,hm⟩:=hi;simp only [qaJ,qaL,qaH,qbm] at e;obtain⟨e1,e2,_⟩:=e;rw [<-e1,hz] at hm;rw [hz] at e2;rw [e2] at hr ⊢;exact h.addT hm hr hgr ho
theorem NSt.addB (h:NSt W h0 t bl wl n Sl St Sb vl vt vb gs ps vs T) {i:Nat} {m:Value} (hm:MagAt W m (nden t bl wl i)) {w1:World} {vb':Value}
  (hr:Rws w1 (h0+1+1+1) 238 1 vb' (Sb.length+1) (vs++[m])) (hgr:W.grownBy w1 vb.ownBlock) :
  NSt w1 h0 t bl wl n Sl St (Sb++[i]) vl vt vb' gs ps (vs++[m]) T:=by
 have s1:=Soft.ofRws h.rb hgr;refine⟨s1.blk h.cs (h.rb.ne_low (by omega)),s1.blk h.cl (h.rb.ne_low (by omega)),s1.blk h.ct (h.rb.ne_low (by omega)),s1.rws h.rl (h.rl.ne h.rb (by decide)),s1.rws h.rt (h.rt.ne h.rb (by decide)),?_,fun p hp=>s1.introw (h.rows p hp) (h.rb.ne_int (h.rows p hp) (by decide)),h.ap,s1.pairs h.pt,h.pl,?_⟩
 ·rw [qaf,qax];exact hr
 ·rw [qa5];exact (s1.mags h.mb).snoc (s1.mag hm)
theorem NSt.setSoft {g m cap:Nat} (h:NSt W h0 t bl wl n Sl St Sb vl (.slice (some ⟨g,0,none⟩) m cap) vb gs ps vs T) (j j':Nat) (u u':Value):Soft W ((W.setCell ⟨g,j,none⟩ u).setCell ⟨g,j',none⟩ u') (some g):=by
 rcases h.rt.2 with ⟨e,_⟩ | ⟨g',cap',cur,e,hB,hg,hnc,hcm,hcs,htk,hnn⟩
 ·cases e
 simp only [qbE,Option.some.injEq,Addr.mk.injEq] at e;obtain⟨⟨rfl,_⟩,_,rfl⟩:=e;exact⟨qbU (least.qbX _ _ _ _) (least.qbX _ _ _ _),fun g' e=>by cases e;exact⟨_,_,_,hg,hnn⟩⟩
theorem NSt.setT {g cap:Nat} (h:NSt W h0 t bl wl n Sl St Sb vl (.slice (some ⟨g,0,none⟩) St.length cap) vb gs ps vs T) {j:Nat} (hj:j<St.length) {a:Option Addr} {m c:Nat} {b:Bool} {z:Int} (hi:IntAt W (.agg #[.slice a m c,.bool b]) z) :
  NSt ((W.setCell ⟨g,j*2,none⟩ (.slice a m c)).setCell ⟨g,j*2+1,none⟩ (.bool b)) h0 t bl wl n Sl St Sb vl (.slice (some ⟨g,0,none⟩) St.length cap) vb gs (ps.set j (.slice a m c,b)) vs (fun p=>if p=j then z else T p):=by
 obtain⟨hl,hor⟩:=h.rt;rcases hor with ⟨e,_⟩ | ⟨g',cap',cur,e,hB,hg,hnc,hcm,hcs,htk,hnn⟩
 ·cases e
 simp only [qbE,Option.some.injEq,Addr.mk.injEq] at e;obtain⟨⟨rfl,_⟩,_,rfl⟩:=e;have hg2:=heap_setCell_same _ g (j*2+1) _ _ (.bool b) (heap_setCell_same _ g (j*2) _ _ (.slice a m c) hg);have s1:Soft W ((W.setCell ⟨g,j*2,none⟩ (.slice a m c)).setCell ⟨g,j*2+1,none⟩ (.bool b)) (some g):=⟨qbU (least.qbX _ _ _ _) (least.qbX _ _ _ _),fun g' e=>by cases e;exact⟨_,_,_,hg,hnn⟩⟩;have ne:∀{x:Nat},x<h0+1+1+1->(some g:Option Nat)≠some x:=fun hx e=>by have:=qai e;omega
 have hpl:=h.pl;refine⟨s1.blk h.cs (ne (by omega)),s1.blk h.cl (ne (by omega)),s1.blk h.ct (ne (by omega)),s1.rws h.rl (h.rl.ne h.rt (by decide)),⟨by rw [qd5,qbb,hpl],qah ⟨g,cap,_,rfl,hB,hg2,hnc,hcm,by rw [Array.size_setIfInBounds,Array.size_setIfInBounds];exact hcs,?_,?_⟩⟩,s1.rws h.rb (h.rb.ne h.rt (by decide)),fun p hp=>s1.introw (h.rows p hp) (h.ap p hp),h.ap,?_,by rw [qbb];exact hpl,s1.mags h.mb⟩
 ·rw [Array.toList_setIfInBounds,Array.toList_setIfInBounds,List.take_set,List.take_set,htk];exact (ql2 ps j (.slice a m c,b) (by omega)).symm
 ·intro x hx;rw [Array.toList_setIfInBounds,Array.toList_setIfInBounds] at hx;rcases List.mem_or_eq_of_mem_set hx with hx | rfl
  ·rcases List.mem_or_eq_of_mem_set hx with hx | rfl
   ·exact hnn x hx
   ·exact fun k d e=>by cases e
  ·exact fun k d e=>by cases e
 ·intro k hk;rw [qbb] at hk
  by_cases e:k=j
  ·subst e;simp only [if_true];rw [qaa,List.getElem?_set_self (by omega)];obtain⟨m',e,hm⟩:=hi;simp only [qaJ,qaL,qaH,qbm] at e;have hm2:=s1.mag hm;rw [<-e.1] at hm2;exact⟨e.2.1,hm2⟩
  ·simp only [if_neg e];rw [qaa,List.getElem?_set_ne (fun h=>e h.symm),<-qaa];exact s1.pairs h.pt k hk
theorem NSt.soft {W':World} {row:Option Nat} (h:NSt W h0 t bl wl n Sl St Sb vl vt vb gs ps vs T) (s:Soft W W' row) (hr:∀g,row=some g->h0+1+1+1<=g/\vl.ownBlock≠some g/\vt.ownBlock≠some g/\vb.ownBlock≠some g/\∀p,p<Sl.length->gs p≠g):NSt W' h0 t bl wl n Sl St Sb vl vt vb gs ps vs T:=by
 cases row with
 | none=>exact h.below (qeK s.grown)
 | some g =>
  obtain⟨h1,h2,h3,h4,h5⟩:=hr g rfl;have ne:∀{x:Nat},x<h0+1+1+1->(some g:Option Nat)≠some x:=fun hx e=>by have:=qai e;omega
  exact⟨s.blk h.cs (ne (by omega)),s.blk h.cl (ne (by omega)),s.blk h.ct (ne (by omega)),s.rws h.rl (or_ne h2),s.rws h.rt (or_ne h3),s.rws h.rb (or_ne h4),fun p hp=>s.introw (h.rows p hp) (fun e=>h5 p hp (qai e).symm),h.ap,s.pairs h.pt,h.pl,s.mags h.mb⟩
theorem NSt.lt (h:NSt W h0 t bl wl n Sl St Sb vl vt vb gs ps vs T) {g:Nat} (hg:W.heap.size<=g):h0+1+1+1<=g/\vl.ownBlock≠some g/\vt.ownBlock≠some g/\vb.ownBlock≠some g/\∀p,p<Sl.length->gs p≠g:=by
 have h1:=(qG h.ct).1;refine⟨by omega,fun e=>?_,fun e=>?_,fun e=>?_,fun p hp e=>?_⟩
 ·have:=(h.rl.lt g e).2;omega
 ·have:=(h.rt.lt g e).2;omega
 ·have:=(h.rb.lt g e).2;omega
 ·obtain⟨ps',_,h2,_⟩:=h.rows p hp;have:=(qG h2.1).1;omega
theorem qmy {k:Nat} {al at':Option Addr} {cl ct:Nat} (hk:Sl.length=k) (h:NSt W h0 t bl wl n Sl Sl Sl (.slice al k cl) (.slice at' k ct) vb gs ps vs (fun p=>nfac t bl wl Sl (Sl.getD p 0))) (hS:∀x∈Sl,NRow t bl wl x/\(besides t bl x).length=n+1) (hk40:k<=40) {r c p hr hc:Nat} (hp:p<k) (hrn:r<n+1) (hcn:c<n+1) (hn:n<=10)
  (cr:W.cell? ⟨hr,0,none⟩=some (.int .i64 r)) (cc:W.cell? ⟨hc,0,none⟩=some (.int .i64 c)) :
  Calls Tryz.prog 252 #[.int .i64 p,.pointer (some ⟨h0+1+1,0,none⟩),.pointer (some ⟨h0+1,0,none⟩),.pointer (some ⟨hr,0,none⟩),.pointer (some ⟨hc,0,none⟩)] W fun e w'=>∃u,e=.returned u/\Below W.heap.size W w'/\IntAt w' u (nterm t bl wl Sl r c (Sl.getD p 0)):=by
 have hpS:p<Sl.length:=by omega
 have hrow:=hS _ (qcE hpS);obtain⟨gt,capt,a2,m2,d2,b2,et,_,_,t0,t1,_,hit⟩:=h.top hpS;rw [hk] at et;simp only [qbE,true_and] at et;obtain⟨rfl,rfl⟩:=et;obtain⟨ao,gl,capl,el,hvc,_⟩:=h.rl.vcells;rw [hk] at el;simp only [qbE,true_and] at el;obtain⟨rfl,rfl⟩:=el;have hao:=hvc.addr (by rw [qcM];omega);subst hao;have hcl:=hvc.cell p (by rw [qcM];exact hpS);rw [qaO,qaa,qea hpS] at hcl;exact qmx (h0+1+1) (h0+1) hr hc gt ct gl cl k p r c (gs p) (n+1) a2 m2 d2 b2 _ _ 61788 4356 (by omega) W (qC _ _ 0 _ _ _ h.ct) (qC _ _ 0 _ _ _ h.cl) cr cc t0 t1 hit hcl (h.rows p hpS) hp (by omega) hrn hcn (by omega) (qj5 (fun x hx=>(hS x hx).1) (by omega) hpS) (fun i hi=>(qdk hrow.1.fa (m:=63) (by omega) (by omega)).mono (by omega))
end
theorem qiN {W:World} {tb R k n g:Nat} {gs:Nat->Nat} (h:W.heap[tb]? = some (.cells (rowvs k n gs++List.replicate (R-k) zs0).toArray 237 (0,0))) (hk:k<R) :
  (W.setCell ⟨tb,k,none⟩ (rowv g n)).heap[tb]? = some (.cells (rowvs (k+1) n (fun j=>if j=k then g else gs j)++List.replicate (R-(k+1)) zs0).toArray 237 (0,0)):=by
 rw [heap_setCell_same _ tb k _ _ _ h]
 congr 3
 obtain⟨m,hm⟩:∃m,R-k=m+1:=⟨R-k-1,by omega⟩;rw [qaC,hm,qbo,qbd _ _ (by rw [qcM];exact qad _),qcM,qaI,qbn,show R-(k+1)=m by omega];rw [qjy,qay];rfl
theorem qiM {W:World} {tb R k n:Nat} {gs:Nat->Nat} (h:W.heap[tb]? = some (.cells (rowvs k n gs++List.replicate (R-k) zs0).toArray 237 (0,0))) {j:Nat} (hj:j<k):W.cell? ⟨tb,j,none⟩=some (rowv (gs j) n):=by
 refine (qC _ _ _ _ _ _ h).trans ?_;rw [qat,qaA (by rw [qcM];exact hj),qea hj]
