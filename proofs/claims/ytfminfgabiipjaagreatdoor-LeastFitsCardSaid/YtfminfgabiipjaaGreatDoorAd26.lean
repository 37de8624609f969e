/- Ad, part 26: Rws P4s Ra Rb Rc Rd Re Rf -/
import Derived.Maps.AppendAt
import Derived.Test.YtfminfgabiipjaaGreatDoorAd0
import Derived.Test.YtfminfgabiipjaaGreatDoorAd1
import Derived.Test.YtfminfgabiipjaaGreatDoorAd25
set_option maxRecDepth 100000
set_option maxHeartbeats 16000000
namespace Go.Proofs.YtfminfgabiipjaaGreatDoor
open Go.RowKit
def qcg (x:Value):Prop:=∀k d,x≠.int k d
def Rws (w:World) (base:Nat) (e:TypeId) (size:Nat) (v:Value) (n:Nat) (xs:List Value):Prop :=
  xs.length=n*size ∧
  ((v=.slice none 0 0∧n=0) ∨
   ∃g cap cur,v=.slice (some ⟨g,0,none⟩) n cap∧base≤g∧w.heap[g]? = some (.cells cur e (0,0))∧n≤cap∧cap≤maxLen∧cur.size=cap*size∧cur.toList.take (n*size)=xs∧∀x∈cur.toList,qcg x)
section
variable {w:World} {base:Nat} {e:TypeId} {size:Nat} {v:Value} {n:Nat} {xs:List Value}
theorem Rws.own (h:Rws w base e size v n xs):w.ownsRow base e size v n xs:=by
 refine⟨h.1,?_⟩
 rcases h.2 with h | ⟨g,cap,cur,h1,h2,h3,h4,h5,h6,h7,_⟩
 ·exact qau h
 ·exact qaq ⟨g,cap,cur,h1,h2,h3,h4,h5,h6,h7⟩
theorem Rws.nil (w:World) (base:Nat) (e:TypeId) (size:Nat):Rws w base e size (.slice none 0 0) 0 []:=⟨by simp,.inl ⟨rfl,rfl⟩⟩
theorem Rws.kept {w':World} {row:Option Nat} (h:Rws w base e size v n xs) (hg:w.grownBy w' row) (hne:v.ownBlock=none∨v.ownBlock≠row):Rws w' base e size v n xs:=by
 refine⟨h.1,?_⟩
 rcases h.2 with h | ⟨g,cap,cur,rfl,h2,h3,h4⟩
 ·exact qau h
 ·refine qaq ⟨g,cap,cur,rfl,h2,(hg.block g (qG h3).1 ?_).trans h3,h4⟩
  rcases hne with hne | hne
  ·cases hne
  ·exact hne
theorem Rws.below {w':World} (h:Rws w base e size v n xs) (hb:Below w.heap.size w w'):Rws w' base e size v n xs:=by
 refine⟨h.1,?_⟩
 rcases h.2 with h | ⟨g,cap,cur,rfl,h2,h3,h4⟩
 ·exact qau h
 ·exact qaq ⟨g,cap,cur,rfl,h2,(hb.block g (qG h3).1).trans h3,h4⟩
theorem Rws.lt (h:Rws w base e size v n xs):∀k,v.ownBlock=some k→base≤k∧k<w.heap.size:=h.own.lt
theorem Rws.shape (h:Rws w base e size v n xs):∃(ao:Option Addr) (cap:Nat),v=.slice ao n cap:=by
 rcases h.2 with ⟨rfl,rfl⟩ | ⟨g,cap,cur,rfl,_⟩
 ·exact⟨none,0,rfl⟩
 ·exact⟨_,_,rfl⟩
theorem Rws.ne {base':Nat} {e':TypeId} {size':Nat} {v':Value} {n':Nat} {xs':List Value} (h:Rws w base e size v n xs) (h':Rws w base' e' size' v' n' xs') (he:e≠e'):v.ownBlock=none∨v.ownBlock≠v'.ownBlock:=by
 rcases h.2 with ⟨rfl,_⟩ | ⟨g,cap,cur,rfl,_,h3,_⟩
 ·exact qau rfl
 ·refine qaq fun e1=>?_
  rcases h'.2 with ⟨rfl,_⟩ | ⟨g',cap',cur',rfl,_,h3',_⟩
  ·cases e1
  ·have:g=g':=qah e1
   subst this
   have:=h3.symm.trans h3'
   simp at this
   exact he this.2
end
theorem Rws.vcells {w:World} {base:Nat} {e:TypeId} {v:Value} {n:Nat} {xs:List Value} (h:Rws w base e 1 v n xs):∃(ao:Option Addr) (g cap:Nat),v=.slice ao n cap∧VCells w ao g 0 xs∧n≤cap:=by
 have hl:=h.1
 rw [Nat.mul_one] at hl
 have hown:=h.own
 rcases h.2 with ⟨rfl,rfl⟩ | ⟨g,cap,cur,rfl,_,_,hc,_⟩
 ·exact⟨none,0,0,rfl,⟨fun h0=>absurd h0 (by omega),fun k hk=>absurd hk (by omega)⟩,qae _⟩
 ·refine⟨some ⟨g,0,none⟩,g,cap,rfl,⟨fun _=>rfl,fun k hk=>?_⟩,hc⟩
  have:=hown.cells (g:=g) rfl k (xs.getD k undef) (by rw [qaa,qaf hk];rfl)
  rwa [Addr.add_mid] at this
theorem qdt {w w':World} (h:w.grownBy w' none):Below w.heap.size w w':=⟨h.os,h.tape,h.output,h.size,fun i hi=>h.block i hi (fun e=>by cases e)⟩
section
variable {w w':World} {base:Nat} {e:TypeId} {size:Nat} {v:Value} {n:Nat} {xs:List Value}
theorem qlB {cur:Array Value} (h:∀x∈cur.toList,qcg x):∀x∈cur.toList,∀d,x≠.int .u32 d:=fun x hx d=>h x hx .u32 d
theorem Rws.mag (h:Rws w base e size v n xs) (hg:w.grownBy w' v.ownBlock) {u:Value} {x:Nat} (hm:MagAt w u x):MagAt w' u x:=by
 rcases h.2 with ⟨rfl,_⟩ | ⟨g,cap,cur,rfl,_,h3,_,_,_,_,h4⟩
 ·exact hm.below (qdt hg)
 ·exact qcj hm hg h3 (qlB h4)
theorem Rws.pairs (h:Rws w base e size v n xs) (hg:w.grownBy w' v.ownBlock) {ps:List (Value×Bool)} {z:Nat→Int} (hm:qcn w ps z):qcn w' ps z:=fun k hk=>⟨(hm k hk).1,h.mag hg (hm k hk).2⟩
theorem Rws.mags (h:Rws w base e size v n xs) (hg:w.grownBy w' v.ownBlock) {vs:List Value} {ys:List Nat} (hm:qdo w vs ys):qdo w' vs ys:=⟨hm.1,fun k hk=>h.mag hg (hm.2 k hk)⟩
theorem Rws.introw (h:Rws w base e size v n xs) (hg:w.grownBy w' v.ownBlock) {g m:Nat} {z:Nat→Int} (hm:qcd w g m z) (hne:v.ownBlock≠some g):qcd w' g m z:=by
 obtain⟨ps,h1,h2,h3⟩:=hm
 exact⟨ps,h1,⟨(hg.block _ (qG h2.1).1 (fun e=>hne e.symm)).trans h2.1,h2.2⟩,h.pairs hg h3⟩
theorem Rws.row (h:Rws w base e size v n xs) (hg:w.grownBy w' v.ownBlock) {g:Nat} {cs:Array Value} {t:TypeId} {fz:Nat×Nat} (hr:w.heap[g]? = some (.cells cs t fz)) (hne:e≠t):w'.heap[g]? = some (.cells cs t fz):=by
 refine (hg.block _ (qG hr).1 fun e1=>?_).trans hr
 rcases h.2 with ⟨rfl,_⟩ | ⟨g',cap,cur,rfl,_,h3,_⟩
 ·cases e1
 ·have:g=g':=qah e1
  subst this
  have:=h3.symm.trans hr
  simp at this
  exact hne this.2.1
theorem Rws.old (h:Rws w base e size v n xs) (hg:w.grownBy w' v.ownBlock) {a:World} {B:Nat} (hb:Below B a w) (hB:B≤base) (hBw:B≤w.heap.size):Below B a w' :=
 hb.trans ⟨hg.os,hg.tape,hg.output,hg.size,fun i hi=>hg.block i (qaj hi hBw) (fun e1=>by
  have:=(h.lt i e1.symm).1
  omega)⟩
end
section
variable {P:Program}
theorem qj2 {z:Value} (hz:∀x∈z.cells.toList,qcg x) (n:Nat):∀x∈(Builtin.zeroCells z.cells n).toList,qcg x:=by
 intro x hx
 obtain⟨i,hi,he⟩:=List.getElem_of_mem hx
 have h0:0<z.cells.size:=by
  rcases qaJ z.cells.size with h | h
  ·have:=size_zeroCells z.cells n
   rw [h,Nat.mul_zero] at this
   rw [qa6] at hi
   omega
  ·exact h
 have h1:x=z.cells[i % z.cells.size]!:=by
  rw [←he]
  simp [Builtin.zeroCells]
 rw [h1,getElem!_pos z.cells _ (qa9 _ h0)]
 exact hz _ (by simp)
theorem qcl (w:World) (base:Nat) (t ty e:TypeId) (i:TypeInfo) (z:Value) (size bytes:Nat) (ht:P.underlying t=some (.slice e)) (hi:P.info? e=some i) (hz:i.zero=some z)
  (hsize:i.size=size) (hby:i.bytes=bytes) (hzs:z.cells.size=size) (hsz:0<size) (hzn:∀x∈z.cells.toList,qcg x)
  (v:Value) (n:Nat) (xs:List Value) (hown:Rws w base e size v n xs)
  (a:Addr) (m c:Nat) (news:List Value) (hl:news.length=m*size) (hnews:∀j u,news[j]? = some u→w.cell? (a.add j)=some u) (h1:∀u∈news,u.oneCell'=true) (hnn:∀u∈news,qcg u) (hm0:0<m)
  (h63:n+m≤maxLen) (hbytes:(n+m)*bytes≤140737488355328) (hbase:base≤w.heap.size) :
  ∃v' w',(Builtin.append_ #[t,t] ty #[v,.slice (some a) m c]).run P w=.ok v' w'∧Rws w' base e size v' (n+m) (xs++news)∧w.grownBy w' v.ownBlock∧(v'.ownBlock=v.ownBlock∨v'.ownBlock=some w.heap.size):=by
 subst hsize
 subst hby
 have hsmall:n+m≤9223372036854775807:=by simp only [maxLen] at h63;omega
 have hlen:(xs++news).length=(n+m)*i.size:=by rw [qag,hown.1,hl,qaO]
 rcases hown.2 with ⟨rfl,rfl⟩ | ⟨g,cap,cur,rfl,hbg,hg,hnc,hcm,hcs,htake,hcn⟩
 ·have hx:xs=[]:=List.eq_nil_of_length_eq_zero (by simpa using hown.1)
  subst hx
  have hr:=run_append_nil (P:=P) w t ty e i z ht hi hz a m c news hl hnews hm0 (by omega) (by have hb:=hbytes;simp only [qa2] at hb;omega)
  have hge:=grownCap_ge w m 0 e
  refine⟨_,_,hr,⟨by simpa using hlen,.inr ⟨w.heap.size,_,_,by rw [qa2],hbase,heap_alloc_new w.drew _,by rw [qa2];exact hge,grownCap_le_maxLen w m 0 e (by simpa using h63),?_,?_,?_⟩⟩,⟨rfl,rfl,rfl,by simp,fun k hk _=>qL w.drew _ k hk⟩,qaq rfl⟩
  ·simp only [Array.size_append,List.size_toArray,size_zeroCells,hzs,hl,←qaO]
   congr 1;omega
  ·rw [qa2,qbv,←hl,Array.toList_append];exact List.take_left
  ·intro x hx
   rw [Array.toList_append] at hx
   rcases qa8.1 hx with h | h
   ·exact hnn x h
   ·exact qj2 hzn _ x h
 ·by_cases hroom:n+m≤cap
  ·have hfit:n*i.size+news.length≤cur.size:=by rw [hl,hcs,←qaO];exact qaR _ hroom
   have hr:=run_append_room (P:=P) w t ty e i ht hi g n cap cur hg a m c news hl hnews h1 hroom hfit
   refine⟨_,_,hr,⟨hlen,.inr ⟨g,cap,_,rfl,hbg,setRow_heap w g cur _ e _ hg,hroom,hcm,?_,?_,?_⟩⟩,⟨rfl,rfl,rfl,by simp,fun k _ hk=>setRow_other w g k _ (fun e=>hk (by simp [Value.ownBlock,e]))⟩,qau rfl⟩
   ·simp only [List.size_toArray,qag,qao,qaY,qa6]
    omega
   ·rw [htake,←hlen]
    exact List.take_left
   ·intro x hx
    rcases qa8.1 hx with h | h
    ·rcases qa8.1 h with h | h
     ·exact hcn x (qbn h)
     ·exact hnn x h
    ·exact hcn x (List.mem_of_mem_drop h)
  ·have holds:∀j u,xs[j]? = some u→w.cell? ((⟨g,0,none⟩:Addr).add j)=some u:=hown.own.cells (g:=g) rfl
   have hr:=run_append_grow (P:=P) w t ty e i z ht hi hz ⟨g,0,none⟩ n cap xs hown.1 holds a m c news hl hnews (by omega) (by omega) (growslice_fits (by omega) hbytes)
   have hge:=grownCap_ge w (n+m) cap e
   refine⟨_,_,hr,⟨hlen,.inr ⟨w.heap.size,_,_,rfl,hbase,heap_alloc_new w.drew _,hge,grownCap_le_maxLen w (n+m) cap e h63,?_,?_,?_⟩⟩,⟨rfl,rfl,rfl,by simp,fun k hk _=>qL w.drew _ k hk⟩,qaq rfl⟩
   ·simp only [Array.size_append,List.size_toArray,size_zeroCells,hzs,hown.1,hl,←qaO]
    congr 1;omega
   ·simp only [Array.toList_append,qaZ]
    rw [←qaZ,←hlen]
    exact List.take_left
   ·intro x hx
    rw [Array.toList_append,Array.toList_append] at hx
    rcases qa8.1 hx with h | h
    ·rcases qa8.1 h with h | h
     ·rw [←htake] at h
      exact hcn x (qbn (by simpa using h))
     ·exact hnn x h
    ·exact qj2 hzn _ x h
theorem qhY {w:World} {o:Oper} {a:Act} {K:Act→World→Prop} {Q:Exit→Act→World→Prop} (s x:Operand) (t:TypeId)
  (ho:o.op=.call { callee:=.builtin .append,args:=#[s,x],argTypes:=#[t,t] })
  (base:Nat) (e:TypeId) (i:TypeInfo) (z:Value) (size bytes:Nat) (ht:P.underlying t=some (.slice e)) (hi:P.info? e=some i) (hz:i.zero=some z)
  (hsize:i.size=size) (hby:i.bytes=bytes) (hzs:z.cells.size=size) (hsz:0<size) (hzn:∀x∈z.cells.toList,qcg x)
  (v:Value) (n:Nat) (xs:List Value) (hs:a.eval s=v) (hown:Rws w base e size v n xs)
  (ad:Addr) (m c:Nat) (news:List Value) (hx:a.eval x=.slice (some ad) m c) (hl:news.length=m*size) (hnews:∀j u,news[j]? = some u→w.cell? (ad.add j)=some u) (h1:∀u∈news,u.oneCell'=true) (hnn:∀u∈news,qcg u) (hm0:0<m)
  (h63:n+m≤maxLen) (hbytes:(n+m)*bytes≤140737488355328) (hbase:base≤w.heap.size)
  (h:∀v' w',Rws w' base e size v' (n+m) (xs++news)→w.grownBy w' v.ownBlock→(v'.ownBlock=v.ownBlock∨v'.ownBlock=some w.heap.size)→K (a.put o.dst v') w') :
  Oper.wp P o a w K Q:=by
 obtain⟨v',w',hr,h2,h3,h4⟩:=qcl (P:=P) w base t o.type e i z size bytes ht hi hz hsize hby hzs hsz hzn v n xs hown ad m c news hl hnews h1 hnn hm0 h63 hbytes hbase
 unfold Oper.wp execOp
 simp only [ho,resolve,invoke,builtin,Sem.run_bind,Sem.run_pure,Result.andThen_ok,List.map_toArray,qaM,qaW,hs,hx,hr]
 exact h v' w' h2 h3 h4
theorem qgW {w:World} {ops:Array Oper} {o:Oper} {a:Act} {K:Act→World→Prop} {Q:Exit→Act→World→Prop} {E:Prop} (hgd:o.guard=none) (s x:Operand) (t:TypeId)
  (ho:o.op=.call { callee:=.builtin .append,args:=#[s,x],argTypes:=#[t,t] })
  (base:Nat) (e:TypeId) (i:TypeInfo) (z:Value) (size bytes:Nat) (ht:P.underlying t=some (.slice e)) (hi:P.info? e=some i) (hz:i.zero=some z)
  (hsize:i.size=size) (hby:i.bytes=bytes) (hzs:z.cells.size=size) (hsz:0<size) (hzn:∀x∈z.cells.toList,qcg x)
  (v:Value) (n:Nat) (xs:List Value) (hs:a.eval s=v) (hown:Rws w base e size v n xs)
  (ad:Addr) (m c:Nat) (news:List Value) (hx:a.eval x=.slice (some ad) m c) (hl:news.length=m*size) (hnews:∀j u,news[j]? = some u→w.cell? (ad.add j)=some u) (h1:∀u∈news,u.oneCell'=true) (hnn:∀u∈news,qcg u) (hm0:0<m)
  (h63:n+m≤maxLen) (hbytes:(n+m)*bytes≤140737488355328) (hbase:base≤w.heap.size)
  (h:∀v' w',Rws w' base e size v' (n+m) (xs++news)→w.grownBy w' v.ownBlock→(v'.ownBlock=v.ownBlock∨v'.ownBlock=some w.heap.size)→K (a.put o.dst v') w') :
  if Region.wanted o (yielded ops a.tmps)=true then Oper.wp P o a w K Q else E:=by
 have hw:Region.wanted o (yielded ops a.tmps)=true:=by simp [Region.wanted,hgd]
 rw [if_pos hw]
 exact qhY s x t ho base e i z size bytes ht hi hz hsize hby hzs hsz hzn v n xs hs hown ad m c news hx hl hnews h1 hnn hm0 h63 hbytes hbase h
theorem qc0 {w:World} {ops:Array Oper} {rest:List Oper} {o:Oper} {a:Act} {Q:Exit→Act→World→Prop} (hgd:o.guard=none) (s x:Operand) (t:TypeId)
  (ho:o.op=.call { callee:=.builtin .append,args:=#[s,x],argTypes:=#[t,t] })
  (base:Nat) (e:TypeId) (i:TypeInfo) (z:Value) (size bytes:Nat) (ht:P.underlying t=some (.slice e)) (hi:P.info? e=some i) (hz:i.zero=some z)
  (hsize:i.size=size) (hby:i.bytes=bytes) (hzs:z.cells.size=size) (hsz:0<size) (hzn:∀x∈z.cells.toList,qcg x)
  (v:Value) (n:Nat) (xs:List Value) (hs:a.eval s=v) (hown:Rws w base e size v n xs)
  (ad:Addr) (m c:Nat) (news:List Value) (hx:a.eval x=.slice (some ad) m c) (hl:news.length=m*size) (hnews:∀j u,news[j]? = some u→w.cell? (ad.add j)=some u) (h1:∀u∈news,u.oneCell'=true) (hnn:∀u∈news,qcg u) (hm0:0<m)
  (h63:n+m≤maxLen) (hbytes:(n+m)*bytes≤140737488355328) (hbase:base≤w.heap.size)
  (h:∀v' w',Rws w' base e size v' (n+m) (xs++news)→w.grownBy w' v.ownBlock→(v'.ownBlock=v.ownBlock∨v'.ownBlock=some w.heap.size)→wpList P ops Q rest (a.put o.dst v') w') :
  wpList P ops Q (o :: rest) a w:=by
 refine wpList_plain hgd fun K hK=>?_
 obtain⟨v',w',hr,h2,h3,h4⟩:=qcl (P:=P) w base t o.type e i z size bytes ht hi hz hsize hby hzs hsz hzn v n xs hown ad m c news hl hnews h1 hnn hm0 h63 hbytes hbase
 unfold Oper.wp execOp
 simp only [ho,resolve,invoke,builtin,Sem.run_bind,Sem.run_pure,Result.andThen_ok,List.map_toArray,qaM,qaW,hs,hx,hr]
 exact hK _ _ (h v' w' h2 h3 h4)
end
end Go.Proofs.YtfminfgabiipjaaGreatDoor
namespace Go.Proofs.YtfminfgabiipjaaGreatDoor.p4
open Go.RowKit
theorem tdivB (t c:Nat) (h:t / 10000=c):(t:Int).tdiv 10000=c:=tdivN t 10000 c h
theorem tmodB (t c:Nat) (h:t % 10000=c):(t:Int).tmod 10000=c:=tmodN t 10000 c h
def dg (L:List Nat) (k:Nat):Nat:=L.getD k 0
structure Cells (W:World) (ao:Option Addr) (b off:Nat) (L:List Nat):Prop where
 addr:0<L.length→ao=some ⟨b,off,none⟩
 cell:∀k,k<L.length→W.cell? ⟨b,off+k,none⟩=some (.int .i64 ((dg L k:Nat):Int))
theorem Cells.below {W W':World} {ao:Option Addr} {b off:Nat} {L:List Nat} (h:Cells W ao b off L) (hb:Below W.heap.size W W'):Cells W' ao b off L :=
 ⟨h.addr,fun k hk=>(hb.cell (qac W _ (h.cell k hk))).trans (h.cell k hk)⟩
theorem Cells.take {W:World} {ao:Option Addr} {b off:Nat} {L:List Nat} (h:Cells W ao b off L) (n:Nat):Cells W ao b off (L.take n) :=
 ⟨fun h0=>h.addr (by rw [qao] at h0;omega),fun k hk=>by
  rw [qao] at hk
  rw [h.cell k (by omega),dg,dg,qaa,qaa,qaV (by omega)]⟩
structure IsM (W:World) (ao:Option Addr) (b off c n:Nat) (L:List Nat):Prop where
 len:L.length=n
 cap:n≤c
 cells:Cells W ao b off L
 dig:Dig L
 nrm:Nrm L
theorem IsM.below {W W':World} {ao:Option Addr} {b off c n:Nat} {L:List Nat} (h:IsM W ao b off c n L) (hb:Below W.heap.size W W'):IsM W' ao b off c n L:=⟨h.len,h.cap,h.cells.below hb,h.dig,h.nrm⟩
theorem IsM.addr {W:World} {ao:Option Addr} {b off c n:Nat} {L:List Nat} (h:IsM W ao b off c n L):0<n→ao=some ⟨b,off,none⟩:=by rw [←h.len];exact h.cells.addr
theorem IsM.cell {W:World} {ao:Option Addr} {b off c n:Nat} {L:List Nat} (h:IsM W ao b off c n L):∀k,k<n→W.cell? ⟨b,off+k,none⟩=some (.int .i64 ((dg L k:Nat):Int)):=by rw [←h.len];exact h.cells.cell
def HiS (B:Nat) (v:Value):Prop:=∀(a:Addr) (n c:Nat),v=.slice (some a) n c→0<n→B≤a.block
def HiP (B:Nat) (v:Value):Prop:=∀b x,v=.agg #[b,x]→HiS B x
def HiR (B:Nat) (v:Value):Prop:=∀b x b' y,v=.agg #[b,x,b',y]→HiS B x∧HiS B y
theorem HiS.mono {B C:Nat} {v:Value} (h:HiS C v) (hB:B≤C):HiS B v:=fun a n c e h0=>qai hB (h a n c e h0)
theorem HiP.mono {B C:Nat} {v:Value} (h:HiP C v) (hB:B≤C):HiP B v:=fun b x e=>(h b x e).mono hB
theorem HiR.mono {B C:Nat} {v:Value} (h:HiR C v) (hB:B≤C):HiR B v:=fun b x b' y e=>⟨(h b x b' y e).1.mono hB,(h b x b' y e).2.mono hB⟩
theorem qlM {W:World} {B e size n:Nat} {v:Value} {xs:List Value} (h:W.ownsRow B e size v n xs):HiS B v:=fun a m c hv h0=>by
 rcases h.2 with ⟨rfl,_⟩ | ⟨g,cap,cur,rfl,hb,_⟩
 ·cases hv
 ·cases hv;exact hb
def MagAt (W:World) (v:Value) (x:Nat):Prop:=∃(ao:Option Addr) (b off c n:Nat) (L:List Nat),v=.slice ao n c∧IsM W ao b off c n L∧mval L=x
theorem MagAt.below {W W':World} {v:Value} {x:Nat} (h:MagAt W v x) (hb:Below W.heap.size W W'):MagAt W' v x:=by
 obtain⟨ao,b,off,c,n,L,rfl,h1,h2⟩:=h
 exact⟨ao,b,off,c,n,L,rfl,h1.below hb,h2⟩
theorem MagAt.nil (W:World):MagAt W (.slice none 0 0) 0:=⟨none,0,0,0,0,[],rfl,⟨rfl,qae _,⟨fun h=>absurd h (by simp),fun k h=>absurd h (by simp)⟩,Dig.nil,qau rfl⟩,rfl⟩
def Fit (x K:Nat):Prop:=x<10000 ^ K
theorem Fit.le {x y K:Nat} (h:Fit y K) (hx:x≤y):Fit x K:=qbd hx h
theorem Fit.mono {x K M:Nat} (h:Fit x K) (hK:K≤M):Fit x M:=qaj h (qaC (by decide) hK)
theorem Fit.mul {x y K M:Nat} (h:Fit x K) (k:Fit y M):Fit (x*y) (K+M):=by
 unfold Fit at *
 rw [Nat.pow_add]
 exact Nat.mul_lt_mul'' h k
theorem Fit.add {x y K:Nat} (h:Fit x K) (k:Fit y K):Fit (x+y) (K+1):=by
 unfold Fit at *
 rw [qaA];omega
theorem Fit.len {W:World} {ao:Option Addr} {b off c n:Nat} {L:List Nat} {K:Nat} (h:Fit (mval L) K) (k:IsM W ao b off c n L):n≤K:=by
 rw [←k.len];exact k.nrm.len h
def row64 (L:List Nat):List Value:=L.map fun (d:Nat)=>Value.int .i64 (d:Int)
theorem qdd (L:List Nat):(row64 L).length=L.length:=by unfold row64;exact qaD _
theorem ql2 (L:List Nat) (k d:Nat):(row64 L).set k (.int .i64 (d:Int))=row64 (L.set k d):=by unfold row64;rw [List.map_set]
theorem qdZ (L:List Nat) (k:Nat) (h:k<L.length):(row64 L)[k]? = some (.int .i64 ((dg L k:Nat):Int)):=by
 unfold row64 dg
 rw [qaN,qdz h];rfl
theorem qhl (L:List Nat) (d:Nat):row64 (L++[d])=row64 L++[.int .i64 (d:Int)]:=by unfold row64;rw [qbj];rfl
theorem made64 (n:Nat):(madeCells #[Value.int .i64 0] n).toList=row64 (List.replicate n 0):=by
 rw [toList_madeCells_one];unfold row64;rw [List.map_replicate];rfl
theorem qcf {W:World} {B e g n c:Nat} {L:List Nat} (h:W.ownsRow B e 1 (.slice (some ⟨g,0,none⟩) n c) n (row64 L)) (hl:L.length=n):Cells W (some ⟨g,0,none⟩) g 0 L :=
 ⟨fun _=>rfl,fun k hk=>by
  rw [qa2,h.cellAt k (by omega)]
  exact qdZ L k hk⟩
theorem qgn {W:World} {B e g n c:Nat} {R:List Nat} (h:W.ownsRow B e 1 (.slice (some ⟨g,0,none⟩) n c) n (row64 R)) (k:Nat) {s:Int} (d:Nat) (hs:s=(d:Int)) :
  (W.setCell ⟨g,k,none⟩ (.int .i64 s)).ownsRow B e 1 (.slice (some ⟨g,0,none⟩) n c) n (row64 (R.set k d)):=by
 have h1:=(h.stored k (.int .i64 s)).1
 rwa [hs,ql2,←hs] at h1
theorem qdX {a b:World} {g:Nat} {ao:Option Addr} {bo off:Nat} {L:List Nat} (h:a.grownBy b (some g)) (hc:Cells a ao bo off L) (hne:0<L.length→bo≠g):Cells b ao bo off L :=
 ⟨hc.addr,fun k hk=>h.cell (hc.cell k hk) (fun e=>hne (by omega) (qah e))⟩
theorem qeA (W:World) (n:Nat) (e:TypeId):(W.alloc (.cells (madeCells #[.int .i64 0] n) e)).heap[W.heap.size]? = some (.cells (row64 (List.replicate n 0)).toArray e (0,0)):=by
 rw [←made64,Array.toArray_toList];exact heap_alloc_new W _
theorem qfM {W:World} {B e g n:Nat} {L:List Nat} (h:W.heap[g]? = some (.cells (row64 L).toArray e (0,0))) (hl:L.length=n) (hB:B≤g) (hn:n≤maxLen):W.ownsRow B e 1 (.slice (some ⟨g,0,none⟩) n n) n (row64 L):=by
 refine⟨by rw [qdd];omega,.inr ⟨g,n,_,rfl,hB,h,qae _,hn,by simp [qdd,hl],?_⟩⟩
 show (row64 L).take (n*1)=row64 L
 exact qak (by rw [qdd];omega)
theorem qeo {W:World} {ao:Option Addr} {b off c n:Nat} {L:List Nat} (h:IsM W ao b off c n L) (h0:0<n):b<W.heap.size:=qac W ⟨b,off+0,none⟩ (h.cell 0 h0)
theorem ql1 (L:List Nat):∀v∈row64 L,v.oneCell'=true:=by
 intro v hv
 unfold row64 at hv
 obtain⟨d,_,rfl⟩:=List.mem_map.1 hv
 rfl
theorem qhI {W:World} {B e n:Nat} {v:Value} {S:List Nat} (h:W.ownsRow B e 1 v n (row64 S)) (hd:Dig S) (hn:Nrm S):MagAt W v (mval S):=by
 rcases h.2 with ⟨rfl,rfl⟩ | ⟨g,c,cur,rfl,hb,hg,hnc,hm,hs,ht⟩
 ·have h0:S.length=0:=by have:=h.1;rw [qdd] at this;omega
  rw [qa3.1 h0]
  exact MagAt.nil W
 ·have hl:S.length=n:=by have:=h.1;rw [qdd] at this;omega
  exact⟨_,g,0,c,n,S,rfl,⟨hl,hnc,qcf h hl,hd,hn⟩,rfl⟩
theorem qkX (ao:Option Addr) (b off c n:Nat) (L:List Nat) (w:World) (hn:L.length=n) (hlen:n≤17592186044416) (hc:n≤c) (hcells:Cells w ao b off L) :
  Calls Tryz.prog 194 #[.slice ao n c] w fun e w'=>∃m,e=.returned (.slice ao m c)∧w'=w∧m≤n∧Zero L m∧(m=0∨L.getD (m-1) 0≠0):=by
 have hz:Zero L n:=by rw [←hn];exact Zero.all L
 obtain⟨ha,hcell⟩:=hcells
 rw [hn] at ha hcell
 have Ha:=qH ha
 have Hcell:=qH hcell
 have Hz:=qH hz
 clear ha hcell hz hn
 go_enter Tryz.func194,Tryz.ntmps194
 go_wp2
 go_loopw [3] (fun x3 W=>∃m:Nat,x3=.int .i64 m∧W=w∧m≤n∧Hid (Zero L m)) (fun x3 _=>(intOf x3).toNat)
 case atStart=>exact⟨n,rfl,rfl,qae _,Hz⟩
 case round =>
  obtain⟨m,rfl,rfl,hm,hz⟩:=hrel
  by_cases hm0:m=0
  ·subst hm0
   have Hm:=qH hm
   clear hm
   go_wp2_with fail
   go_ret
   exact⟨0,rfl,rfl,qam _,hz.out,qau rfl⟩
  ·have hm1:(0:Int)<m:=by omega
   have haw:=Ha.out (by omega)
   subst haw
   have hcl:=Hcell.out (m-1) (by omega)
   have e1:((m-1:Nat):Int)=(m:Int)-1:=by omega
   by_cases h0:dg L (m-1)=0
   ·rw [h0] at hcl
    have H0:=qH h0
    clear h0
    go_wp2_with fail
    go_roundw
    case rel=>exact⟨m-1,by rw [e1],trivial,by omega,qH (Zero.down (n:=m-1) (by rw [show m-1+1=m by omega];exact hz.out) H0.out)⟩
    case measure=>simp [intOf];omega
   ·have hne:¬((dg L (m-1):Nat):Int)=0:=by omega
    have H0:=qH h0
    clear h0
    go_wp2_with fail
    go_ret
    exact⟨m,rfl,rfl,hm,hz.out,qaq H0.out⟩
theorem qkY (ao:Option Addr) (b off c n:Nat) (L:List Nat) (w:World) (hn:L.length=n) (hlen:n≤17592186044416) (hc:n≤c) (hcells:Cells w ao b off L) (hd:Dig L) :
  Calls Tryz.prog 194 #[.slice ao n c] w fun e w'=>∃v,e=.returned v∧w'=w∧MagAt w v (mval L)∧∀B,HiS B (.slice ao n c)→HiS B v:=by
 refine (qkX ao b off c n L w hn hlen hc hcells).mono ?_
 rintro e w' ⟨m,rfl,rfl,hm,hz,h0⟩
 refine⟨_,rfl,rfl,⟨ao,b,off,c,m,L.take m,rfl,⟨?_,by omega,hcells.take m,hd.take m,?_⟩,qce hz⟩,fun B h a k c' e h0=>by cases e;exact h a n c rfl (by omega)⟩
 ·rw [qao];omega
 ·have hl:(L.take m).length=m:=by rw [qao];omega
  rcases h0 with h0 | h0
  ·exact qau (by rw [hl,h0])
  ·right
   rw [hl]
   by_cases hm0:m=0
   ·subst hm0
    exact absurd (hz _ (qam _)) h0
   ·rw [qaa,qaV (by omega),←qaa];exact h0
theorem qeT (ao:Option Addr) (b off c n:Nat) (L:List Nat) (w:World) (hn:L.length=n) (hlen:n≤17592186044416) (hc:n≤c) (hcells:Cells w ao b off L) (hd:Dig L) :
  Calls Tryz.prog 194 #[.slice ao n c] w fun e w'=>∃v,e=.returned v∧w'=w∧MagAt w v (mval L) :=
 (qkY ao b off c n L w hn hlen hc hcells hd).mono fun _ _ ⟨v,h1,h2,h3,_⟩=>⟨v,h1,h2,h3⟩
def OrdAs (w:World) (x y:Nat) (e:Ending) (w':World):Prop:=∃r:Int,e=.returned (.int .i64 r)∧Below w.heap.size w w'∧(r<0↔x<y)∧(r=0↔x=y)
theorem OrdAs.lt {w w':World} {x y:Nat} {r:Int} (hb:Below w.heap.size w w') (h1:r<0) (h2:x<y):OrdAs w x y (.returned (.int .i64 r)) w':=⟨r,rfl,hb,⟨fun _=>h2,fun _=>h1⟩,⟨fun h=>by omega,fun h=>by omega⟩⟩
theorem OrdAs.gt {w w':World} {x y:Nat} {r:Int} (hb:Below w.heap.size w w') (h1:0<r) (h2:y<x):OrdAs w x y (.returned (.int .i64 r)) w':=⟨r,rfl,hb,⟨fun _=>by omega,fun _=>by omega⟩,⟨fun h=>by omega,fun h=>by omega⟩⟩
theorem qim (x y:Nat) (K:Nat) (hK:K≤17592186044416) (vm vo:Value) (w:World) (hm:MagAt w vm x) (ho:MagAt w vo y) (hx:Fit x K) (hy:Fit y K) :
  Calls Tryz.prog 169 #[vm,vo] w fun e w'=>OrdAs w x y e w':=by
 obtain⟨am,bm,om,cm,n,M,rfl,Im,rfl⟩:=hm
 obtain⟨ao,bo,oo,co,no,O,rfl,Io,rfl⟩:=ho
 have hn:n≤17592186044416:=qai (hx.len Im) hK
 have hno:no≤17592186044416:=qai (hy.len Io) hK
 have HM:=qH Im
 have HO:=qH Io
 clear Im Io hx hy hK
 by_cases hne:n=no
 ·subst hne
  clear hno
  go_enter Tryz.func169,Tryz.ntmps169
  go_wp2
  go_loopw [5] (fun x5 W=>∃(k:Nat) (z:Int),k≤n∧x5=.int .i64 z∧Hid (z+1=k)∧Hid (M.drop k=O.drop k)∧Hid (Below w.heap.size w W)) (fun x5 _=>(intOf x5+1).toNat)
  case atStart=>exact⟨n,_,qae _,rfl,qH (by omega),qH (by rw [qay (by rw [HM.out.len];exact qae _),qay (by rw [HO.out.len];exact qae _)]),qH qB⟩
  case round =>
   obtain⟨k,z,hk,rfl,hz,hI,hB⟩:=hrel
   by_cases hk0:0<k
   ·obtain⟨j,rfl⟩:∃j,k=j+1:=⟨k-1,by omega⟩
    obtain rfl:z=(j:Int):=by have:=hz.out;omega
    have hji:(j:Int)<n:=by omega
    have haw:=HM.out.addr (by omega)
    have hao:=HO.out.addr (by omega)
    subst haw
    subst hao
    have hcm:=(HM.out.below hB.out).cell j (by omega)
    have hco:=(HO.out.below hB.out).cell j (by omega)
    have hlm:=HM.out.len
    have hlo:=HO.out.len
    have hdm:=HM.out.dig j
    have hdo:=HO.out.dig j
    obtain⟨d,hdd⟩:∃d,dg M j=d:=⟨_,rfl⟩
    obtain⟨e,hee⟩:∃e,dg O j=e:=⟨_,rfl⟩
    have hdm':dg M j<10000:=hdm
    have hdo':dg O j<10000:=hdo
    rw [hdd] at hcm hdm'
    rw [hee] at hco hdo'
    have e1:M[j]'(by omega)=d:=by rw [←hdd];unfold dg;rw [qaa,qaf (by omega)];rfl
    have e2:O[j]'(by omega)=e:=by rw [←hee];unfold dg;rw [qaa,qaf (by omega)];rfl
    by_cases hde:d=e
    ·have hb:((d:Int) != (e:Int))=false:=by simp [hde]
     have HD:=qH (show M.drop j=O.drop j by rw [qa1 (show j<M.length by omega),qa1 (show j<O.length by omega),e1,e2,hde,hI.out])
     clear e1 e2 hdd hee hde hdm hdo hlm hlo
     go_wp2_with fail
     go_quiet (fail)
     go_wp2_with fail
     go_roundw
     case rel=>exact⟨j,_,by omega,rfl,qH (by omega),HD,qH (below_drewN hB.out _)⟩
     case measure=>simp [intOf]
    ·have hb:((d:Int) != (e:Int))=true:=by rw [bne_iff_ne];omega
     rcases Nat.lt_or_gt_of_ne hde with hlt | hgt
     ·have HD:=qH (qdB M O j HM.out.dig.mem (by omega) (by omega) (by rw [e1,e2];exact hlt) hI.out)
      clear e1 e2 hdd hee hde hdm hdo hlm hlo
      go_wp2_with fail
      go_quiet (fail)
      go_wp2_with fail
      go_quiet (fail)
      go_wp2_with fail
      go_ret
      exact OrdAs.lt (below_drewN (below_drewN hB.out _) _) (by omega) HD.out
     ·have HD:=qH (qdB O M j HO.out.dig.mem (by omega) (by omega) (by rw [e1,e2];exact hgt) hI.out.symm)
      clear e1 e2 hdd hee hde hdm hdo hlm hlo
      go_wp2_with fail
      go_quiet (fail)
      go_wp2_with fail
      go_quiet (fail)
      go_wp2_with fail
      go_ret
      exact OrdAs.gt (below_drewN (below_drewN hB.out _) _) (by omega) HD.out
   ·obtain rfl:k=0:=by omega
    obtain rfl:z = -1:=by have:=hz.out;omega
    have HD:=qH (show mval M=mval O by have:=hI.out;simp only [List.drop_zero] at this;rw [this])
    go_wp2_with fail
    go_ret
    exact⟨0,rfl,hB.out,⟨fun h=>by omega,fun h=>by have:=HD.out;omega⟩,⟨fun _=>HD.out,fun _=>rfl⟩⟩
 ·have hb:((n:Int) != (no:Int))=true:=by rw [bne_iff_ne];omega
  rcases Nat.lt_or_gt_of_ne hne with hlt | hgt
  ·have HD:=qH (show mval M<mval O by
    have h1:=HM.out.dig.lt
    have h2:=HO.out.nrm.ge (by rw [HO.out.len];omega)
    rw [HM.out.len] at h1
    rw [HO.out.len] at h2
    have h3:10000 ^ n≤10000 ^ (no-1):=qaC (by decide) (by omega)
    omega)
   clear hne
   go_enter Tryz.func169,Tryz.ntmps169
   go_wp2_with fail
   go_ret
   exact OrdAs.lt qB (by omega) HD.out
  ·have HD:=qH (show mval O<mval M by
    have h1:=HO.out.dig.lt
    have h2:=HM.out.nrm.ge (by rw [HM.out.len];omega)
    rw [HO.out.len] at h1
    rw [HM.out.len] at h2
    have h3:10000 ^ no≤10000 ^ (n-1):=qaC (by decide) (by omega)
    omega)
   clear hne
   go_enter Tryz.func169,Tryz.ntmps169
   go_wp2_with fail
   go_ret
   exact OrdAs.gt qB (by omega) HD.out
theorem qeW:(Tryz.prog.info? 3).map (fun i=>(i.zero,i.size,i.bytes))=some (some (.int .i64 0),1,8):=by kernel_rfl
def DigAt (W:World) (v:Value) (x N:Nat):Prop:=∃(ao:Option Addr) (b off c n:Nat) (L:List Nat),v=.slice ao n c∧L.length=n∧n≤c∧n≤N∧Cells W ao b off L∧Dig L∧mval L=x
theorem DigAt.below {W W':World} {v:Value} {x N:Nat} (h:DigAt W v x N) (hb:Below W.heap.size W W'):DigAt W' v x N:=by
 obtain⟨ao,b,off,c,n,L,rfl,h1,h2,h3,h4,h5⟩:=h
 exact⟨ao,b,off,c,n,L,rfl,h1,h2,h3,h4.below hb,h5⟩
theorem MagAt.digs {W:World} {v:Value} {x K:Nat} (h:MagAt W v x) (hx:Fit x K):DigAt W v x K:=by
 obtain⟨ao,b,off,c,n,L,rfl,h1,rfl⟩:=h
 exact⟨ao,b,off,c,n,L,rfl,h1.len,h1.cap,hx.len h1,h1.cells,h1.dig,rfl⟩
theorem qdc {W:World} {B e n N:Nat} {v:Value} {S:List Nat} (h:W.ownsRow B e 1 v n (row64 S)) (hd:Dig S) (hN:n≤N):DigAt W v (mval S) N:=by
 have hl:S.length=n:=by have:=h.1;rw [qdd] at this;omega
 rcases h.2 with ⟨rfl,rfl⟩ | ⟨g,c,cur,rfl,hb,hg,hnc,hm,hs,ht⟩
 ·rw [qa3.1 hl]
  exact⟨none,0,0,0,0,[],rfl,rfl,qae _,hN,⟨fun h=>absurd h (by simp),fun k h=>absurd h (by simp)⟩,Dig.nil,rfl⟩
 ·exact⟨_,g,0,c,n,S,rfl,hl,hnc,hN,qcf h hl,hd,rfl⟩
theorem qgb (x N:Nat) (v:Value) (w:World) (h:DigAt w v x N) (hN:N≤17592186044416):Calls Tryz.prog 194 #[v] w fun e w'=>∃u,e=.returned u∧w'=w∧MagAt w u x:=by
 obtain⟨ao,b,off,c,n,L,rfl,h1,h2,h3,h4,h5,rfl⟩:=h
 exact qeT ao b off c n L w h1 (by omega) h2 h4 h5
theorem qiO (x N:Nat) (v:Value) (w:World) (h:DigAt w v x N) (hN:N≤17592186044416):Calls Tryz.prog 194 #[v] w fun e w'=>∃u,e=.returned u∧w'=w∧MagAt w u x∧∀B,HiS B v→HiS B u:=by
 obtain⟨ao,b,off,c,n,L,rfl,h1,h2,h3,h4,h5,rfl⟩:=h
 exact qkY ao b off c n L w h1 (by omega) h2 h4 h5
theorem PlusInv.full {m o S:List Nat} {k c:Nat} (h:PlusInv m o k S c) (hm:m.length≤k) (ho:o.length≤k) (hc:c=0):mval S=mval m+mval o:=by
 have:=h.val
 rw [qak hm,qak ho,hc] at this
 omega
theorem PlusInv.full_digs {m o S:List Nat} {k c N B e:Nat} {W:World} {v:Value} (h:PlusInv m o k S c) (hO:W.ownsRow B e 1 v k (row64 S)) (hm:m.length≤k) (ho:o.length≤k) (hc:c=0) (hN:k≤N):DigAt W v (mval m+mval o) N:=by
 rw [←h.full hm ho hc]
 exact qdc hO h.dig hN
theorem qhS {m o S:List Nat} {k c x y:Nat} (h:PlusInv m o k S c) (hx:dg m k=x) (hy:dg o k=y) (h1:x<10000) (h2:y<10000):PlusInv m o (k+1) (S++[(c+x+y) % 10000]) ((c+x+y) / 10000):=by
 have hc:=h.carry
 unfold dg at hx hy
 exact h.step (by omega) (by omega) (by omega)
theorem qck {ops:Array Oper} {rest:List Oper} {o:Oper} {a:Act} {w:World} {Q:Exit→Act→World→Prop} (hgd:o.guard=none) (s x:Operand)
  (ho:o.op=.call { callee:=.builtin .append,args:=#[s,x],argTypes:=#[86,86] }) {W0:World} {B:Nat} {v:Value} {n:Nat} {S:List Nat} {d:Nat}
  (hB:Below B W0 w) (hB0:B=W0.heap.size) (hown:w.ownsRow B 3 1 v n (row64 S)) (hs:a.eval s=v) (hx:a.eval x=.slice (some ⟨w.heap.size,0,none⟩) 1 1) (hn:n<17592186044416) {z:Int} (hz:z=(d:Int))
  (h:∀v' w',Hid (w'.ownsRow B 3 1 v' (n+1) (row64 (S++[d])))→Hid (Below B W0 w')→wpList Tryz.prog ops Q rest (a.put o.dst v') w') :
  wpList Tryz.prog ops Q (o :: rest) a (w.alloc (.cells #[.int .i64 z] 3)):=by
 subst hz
 obtain⟨i0,hi,hz0,hz1,hz2⟩:=info_parts qeW
 have hsz:=hB.size
 refine wpList_append_own _ hgd s x 86 ho B 3 i0 (.int .i64 0) 1 8 Tryz.underlying86 hi hz0 hz1 hz2 rfl (by decide) v n (row64 S) hs (hown.alloc _) ⟨w.heap.size,0,none⟩ 1 1 [.int .i64 (d:Int)] hx rfl ?c1 ?c2 ?c3 ?c4 ?c5 ?_
 case c1 =>
  intro j u hj
  match j,hj with
  | 0,hj=>simp at hj;subst hj;simp [Addr.add]
 case c2=>intro u hu;simp at hu;subst hu;rfl
 case c3=>unfold maxLen;omega
 case c4=>omega
 case c5=>simp;omega
 intro v' w' hown' hgrow _
 refine h v' w' (qH ?_) (qH ?_)
 ·rw [qhl];exact hown'
 ·exact (hB.alloc (by omega) _).grown hgrow (by simp;omega) (fun k hk=>(hown.lt k hk).1)
theorem qeZ (x y K:Nat) (hK:K≤17592186040000) (vm vo:Value) (w:World) (hm:DigAt w vm x K) (ho:DigAt w vo y K) :
  Calls Tryz.prog 168 #[vm,vo] w fun e w'=>∃v,e=.returned v∧Below w.heap.size w w'∧DigAt w' v (x+y) (K+1):=by
 obtain⟨i0,hi,hz0,hz1,hz2⟩:=info_parts qeW
 obtain⟨am,bm,om,cm,n,M,rfl,lm,cpm,hn,CM,DM,rfl⟩:=hm
 obtain⟨ao,bo,oo,co,no,O,rfl,lo,cpo,hno,CO,DO,rfl⟩:=ho
 have HM:=qH (qA lm (qA CM DM))
 have HO:=qH (qA lo (qA CO DO))
 have Hz:=qH (qA hi (qA hz0 (qA hz1 hz2)))
 clear CM CO DM DO hz0 hz1 hz2 hi lm lo
 go_enter Tryz.func168,Tryz.ntmps168
 go_wp2
 go_loopw [5,6,7] (fun x5 x6 x7 W=>∃(k c:Nat) (S:List Nat),k≤K+1∧(k≤n∨k≤no∨c=0)∧(k=K+1→c=0)∧c≤1∧x7=.int .i64 k∧x6=.int .i64 c∧Hid (PlusInv M O k S c)∧Hid (W.ownsRow w.heap.size 3 1 x5 k (row64 S))∧Hid (Below w.heap.size w W)) (fun _ _ x7 _=>K+1-(intOf x7).toNat)
 case atStart=>exact⟨0,0,[],qam _,qau (qam _),fun _=>rfl,qam _,rfl,rfl,qH (PlusInv.start M O),qH (qbt _ _ _ _),qH qB⟩
 case round =>
  obtain⟨k,c,S,hk,hor,hkc,hc1,rfl,rfl,hI,hO,hB⟩:=hrel
  have Hsz:=hB.out.size
  by_cases h1:k<n
  ·by_cases h2:k<no
   ·have haw:=HM.out.2.1.addr (by rw [HM.out.1];omega)
    subst haw
    have hcm:=(HM.out.2.1.below hB.out).cell k (by rw [HM.out.1];omega)
    have hdm:dg M k<10000:=HM.out.2.2 k
    have hao:=HO.out.2.1.addr (by rw [HO.out.1];omega)
    subst hao
    have hco:=(HO.out.2.1.below hB.out).cell k (by rw [HO.out.1];omega)
    have hdo:dg O k<10000:=HO.out.2.2 k
    obtain⟨x,hx⟩:∃x,dg M k=x:=⟨_,rfl⟩
    obtain⟨y,hy⟩:∃y,dg O k=y:=⟨_,rfl⟩
    rw [hx] at hdm hcm
    rw [hy] at hdo hco
    have hP:=qH (qhS hI.out hx hy (by omega) (by omega))
    have e1:=tmodB (c+x+y) _ rfl
    have he:((c+x+y:Nat):Int)=(c:Int)+x+y:=by omega
    rw [he] at e1
    clear hx hy he hor hkc
    go_wp2_with (first | (at_builtin;refine qck rfl _ _ rfl hB.out rfl hO.out rfl rfl (by omega) e1 ?_;intro v' w' ho' hb') | fail)
    go_roundw
    case rel=>exact⟨k+1,(c+x+y) / 10000,S++[(c+x+y) % 10000],by omega,by omega,fun h=>by omega,by omega,rfl,congrArg (Value.int .i64) (by omega),hP,ho',hb'⟩
    case measure=>simp [intOf];omega
   ·have haw:=HM.out.2.1.addr (by rw [HM.out.1];omega)
    subst haw
    have hcm:=(HM.out.2.1.below hB.out).cell k (by rw [HM.out.1];omega)
    have hdm:dg M k<10000:=HM.out.2.2 k
    have hdo:dg O k=0:=qcP (by rw [HO.out.1];omega)
    obtain⟨x,hx⟩:∃x,dg M k=x:=⟨_,rfl⟩
    obtain⟨y,hy⟩:∃y,dg O k=y:=⟨_,rfl⟩
    rw [hx] at hdm hcm
    rw [hy] at hdo
    subst hdo
    have hP:=qH (qhS hI.out hx hy (by omega) (by omega))
    have e1:=tmodB (c+x) _ rfl
    have he:((c+x:Nat):Int)=(c:Int)+x:=by omega
    rw [he] at e1
    clear hx hy he hor hkc
    go_wp2_with (first | (at_builtin;refine qck rfl _ _ rfl hB.out rfl hO.out rfl rfl (by omega) e1 ?_;intro v' w' ho' hb') | fail)
    go_roundw
    case rel=>exact⟨k+1,(c+x) / 10000,S++[(c+x) % 10000],by omega,by omega,fun h=>by omega,by omega,rfl,congrArg (Value.int .i64) (by omega),qH (by have:=hP.out;simpa only [qba] using this),ho',hb'⟩
    case measure=>simp [intOf];omega
  ·by_cases h2:k<no
   ·have hdm:dg M k=0:=qcP (by rw [HM.out.1];omega)
    have hao:=HO.out.2.1.addr (by rw [HO.out.1];omega)
    subst hao
    have hco:=(HO.out.2.1.below hB.out).cell k (by rw [HO.out.1];omega)
    have hdo:dg O k<10000:=HO.out.2.2 k
    obtain⟨x,hx⟩:∃x,dg M k=x:=⟨_,rfl⟩
    obtain⟨y,hy⟩:∃y,dg O k=y:=⟨_,rfl⟩
    rw [hx] at hdm
    rw [hy] at hdo hco
    subst hdm
    have hP:=qH (qhS hI.out hx hy (by omega) (by omega))
    have e1:=tmodB (c+y) _ rfl
    have he:((c+y:Nat):Int)=(c:Int)+y:=by omega
    rw [he] at e1
    clear hx hy he hor hkc
    go_wp2_with (first | (at_builtin;refine qck rfl _ _ rfl hB.out rfl hO.out rfl rfl (by omega) e1 ?_;intro v' w' ho' hb') | fail)
    go_roundw
    case rel=>exact⟨k+1,(c+y) / 10000,S++[(c+y) % 10000],by omega,by omega,fun h=>by omega,by omega,rfl,congrArg (Value.int .i64) (by omega),qH (by have:=hP.out;simpa only [qba] using this),ho',hb'⟩
    case measure=>simp [intOf];omega
   ·by_cases h3:c=0
    ·subst h3
     go_wp2_with fail
     go_ret
     exact⟨_,rfl,hB.out,hI.out.full_digs hO.out (by rw [HM.out.1];omega) (by rw [HO.out.1];omega) rfl (by omega)⟩
    ·have hc0:c=1:=by omega
     subst hc0
     have hd:PlusInv M O (k+1) (S++[1]) 0:=hI.out.step (by decide) (by decide) (by rw [qcP (by rw [HM.out.1];omega),qcP (by rw [HO.out.1];omega)])
     go_wp2_with (first | (at_builtin;refine qck (d:=1) rfl _ _ rfl hB.out rfl hO.out rfl rfl (by omega) rfl ?_;intro v' w' ho' hb') | fail)
     go_roundw
     case rel=>exact⟨k+1,0,S++[1],by omega,qaq (qaq rfl),fun _=>rfl,by decide,rfl,rfl,qH hd,ho',hb'⟩
     case measure=>simp [intOf];omega
structure DiffInv (m o:List Nat) (k:Nat) (L:List Nat) (b:Nat):Prop where
 len:L.length=k
 dig:Dig L
 borrow:b≤1
 val:mval L+mval (o.take k)=mval (m.take k)+10000 ^ k*b
theorem DiffInv.start (m o:List Nat):DiffInv m o 0 [] 0:=⟨rfl,Dig.nil,by decide,by simp [mval]⟩
theorem DiffInv.step {m o L:List Nat} {k b s b' x y:Nat} (h:DiffInv m o k L b) (hx:dg m k=x) (hy:dg o k=y) (hs:s<10000) (hb:b'≤1) (e:s+b+y=x+10000*b'):DiffInv m o (k+1) (L++[s]) b':=by
 subst hx hy
 refine⟨by rw [qag,h.len];rfl,h.dig.snoc hs,hb,?_⟩
 have hv:=h.val
 rw [qcI,h.len,qbM,qbM,qaA]
 exact qfi hv e
theorem DiffInv.done {m o L:List Nat} {b:Nat} (h:DiffInv m o m.length L b) (ho:Nrm o) (hm:Dig m) (hle:mval o≤mval m):mval L=mval m-mval o:=by
 have hv:=h.val
 have hol:o.length≤m.length:=ho.len (qbd hle hm.lt)
 rw [qak qN,qak hol] at hv
 have h1:=h.dig.lt
 rw [h.len] at h1
 have h2:=h.borrow
 rcases (show b=0∨b=1 by omega) with rfl | rfl
 ·omega
 ·omega
theorem DiffInv.digs {m o S:List Nat} {b n B e K:Nat} {W:World} {v:Value} (h:DiffInv m o n S b) (hn:m.length=n) (hO:W.ownsRow B e 1 v n (row64 S)) (ho:Nrm o) (hm:Dig m) (hle:mval o≤mval m) (hK:n≤K):DigAt W v (mval m-mval o) K:=by
 subst hn
 rw [←h.done ho hm hle]
 exact qdc hO h.dig hK
theorem qdQ (x y K:Nat) (hK:K≤17592186040000) (vm vo:Value) (w:World) (hm:MagAt w vm x) (ho:MagAt w vo y) (hx:Fit x K) (hle:y≤x) :
  Calls Tryz.prog 170 #[vm,vo] w fun e w'=>∃v,e=.returned v∧Below w.heap.size w w'∧MagAt w' v (x-y):=by
 obtain⟨am,bm,om,cm,n,M,rfl,Im,rfl⟩:=hm
 obtain⟨ao,bo,oo,co,no,O,rfl,Io,rfl⟩:=ho
 have hn:n≤K:=hx.len Im
 have hno:no≤n:=by rw [←Io.len,←Im.len];exact Io.nrm.len (qbd hle Im.dig.lt)
 have HM:=qH Im
 have HO:=qH Io
 have Hle:=qH hle
 clear Im Io hx hle
 go_enter Tryz.func170,Tryz.ntmps170
 go_wp2
 go_loopw [5,6,7,8] (fun x5 x6 x7 x8 W=>∃(k b:Nat) (S:List Nat),k≤n∧b≤1∧x7=.int .i64 k∧x6=.int .i64 b∧Hid (DiffInv M O k S b)∧Hid (W.ownsRow w.heap.size 3 1 x5 k (row64 S))∧Hid (Below w.heap.size w W)) (fun _ _ x7 _ _=>n-(intOf x7).toNat)
 case atStart=>exact⟨0,0,[],qam _,qam _,rfl,rfl,qH (DiffInv.start M O),qH (qbt _ _ _ _),qH qB⟩
 case round =>
  obtain⟨k,b,S,hk,hb1,rfl,rfl,hI,hO,hB⟩:=hrel
  have Hsz:=hB.out.size
  by_cases h1:k<n
  ·have haw:=HM.out.addr (by omega)
   subst haw
   have hcm:=(HM.out.below hB.out).cell k (by omega)
   have hdm:dg M k<10000:=HM.out.dig k
   obtain⟨x,hx⟩:∃x,dg M k=x:=⟨_,rfl⟩
   rw [hx] at hdm hcm
   by_cases h2:k<no
   ·have hao:=HO.out.addr (by omega)
    subst hao
    have hco:=(HO.out.below hB.out).cell k (by omega)
    have hdo:dg O k<10000:=HO.out.dig k
    obtain⟨y,hy⟩:∃y,dg O k=y:=⟨_,rfl⟩
    rw [hy] at hdo hco
    by_cases hneg:(x:Int)-b-y<0
    ·have hP:=qH (hI.out.step (s:=x+10000-b-y) (b':=1) hx hy (by omega) (by decide) (by omega))
     have e1:(x:Int)-b-y+10000=((x+10000-b-y:Nat):Int):=by omega
     clear hx hy
     go_wp2_with (first | (at_builtin;refine qck rfl _ _ rfl hB.out rfl hO.out rfl rfl (by omega) rfl ?_;intro v' w' ho' hb') | fail)
     go_roundw
     case rel=>exact⟨k+1,1,_,by omega,by decide,rfl,rfl,hP,ho',hb'⟩
     case measure=>simp [intOf];omega
    ·have hP:=qH (hI.out.step (s:=x-b-y) (b':=0) hx hy (by omega) (by decide) (by omega))
     have e1:(x:Int)-b-y=((x-b-y:Nat):Int):=by omega
     have hneg':0≤(x:Int)-b-y:=by omega
     clear hx hy
     go_wp2_with (first | (at_builtin;refine qck rfl _ _ rfl hB.out rfl hO.out rfl rfl (by omega) rfl ?_;intro v' w' ho' hb') | fail)
     go_roundw
     case rel=>exact⟨k+1,0,_,by omega,by decide,rfl,rfl,hP,ho',hb'⟩
     case measure=>simp [intOf];omega
   ·have hy:dg O k=0:=qcP (by rw [HO.out.len];omega)
    by_cases hneg:(x:Int)-b<0
    ·have hP:=qH (hI.out.step (s:=x+10000-b) (b':=1) hx hy (by omega) (by decide) (by omega))
     have e1:(x:Int)-b+10000=((x+10000-b:Nat):Int):=by omega
     clear hx hy
     go_wp2_with (first | (at_builtin;refine qck rfl _ _ rfl hB.out rfl hO.out rfl rfl (by omega) rfl ?_;intro v' w' ho' hb') | fail)
     go_roundw
     case rel=>exact⟨k+1,1,_,by omega,by decide,rfl,rfl,hP,ho',hb'⟩
     case measure=>simp [intOf];omega
    ·have hP:=qH (hI.out.step (s:=x-b) (b':=0) hx hy (by omega) (by decide) (by omega))
     have e1:(x:Int)-b=((x-b:Nat):Int):=by omega
     have hneg':0≤(x:Int)-b:=by omega
     clear hx hy
     go_wp2_with (first | (at_builtin;refine qck rfl _ _ rfl hB.out rfl hO.out rfl rfl (by omega) rfl ?_;intro v' w' ho' hb') | fail)
     go_roundw
     case rel=>exact⟨k+1,0,_,by omega,by decide,rfl,rfl,hP,ho',hb'⟩
     case measure=>simp [intOf];omega
  ·obtain rfl:k=n:=by omega
   have HD:=qH (hI.out.digs HM.out.len hO.out HO.out.nrm HM.out.dig Hle.out hn)
   go_wp2_with (first | (go_at_call 194;refine (qgb _ K _ _ HD.out (by omega)).mono ?_;rintro e w1 ⟨u,rfl,rfl,hu⟩) | fail)
   go_ret
   exact⟨_,rfl,hB.out,hu⟩
def Sec (L:List Nat):Prop:=Dig L∨(L.length=1∧dg L 0≤10000)
def SecAt (W:World) (v:Value) (y J:Nat):Prop:=∃(ao:Option Addr) (b off c n:Nat) (L:List Nat),v=.slice ao n c∧L.length=n∧n≤c∧n≤J∧Cells W ao b off L∧Sec L∧mval L=y
theorem SecAt.below {W W':World} {v:Value} {x N:Nat} (h:SecAt W v x N) (hb:Below W.heap.size W W'):SecAt W' v x N:=by
 obtain⟨ao,b,off,c,n,L,rfl,h1,h2,h3,h4,h5⟩:=h
 exact⟨ao,b,off,c,n,L,rfl,h1,h2,h3,h4.below hb,h5⟩
theorem DigAt.sec {W:World} {v:Value} {x N:Nat} (h:DigAt W v x N):SecAt W v x N:=by
 obtain⟨ao,b,off,c,n,L,rfl,h1,h2,h3,h4,h5,h6⟩:=h
 exact⟨ao,b,off,c,n,L,rfl,h1,h2,h3,h4,qau h5,h6⟩
theorem SecAt.one {W:World} {m g e:Nat} (hm:m≤10000) (h:W.heap[g]? = some (.cells #[.int .i64 (m:Int)] e (0,0))):SecAt W (.slice (some ⟨g,0,none⟩) 1 1) m 1:=by
 refine⟨_,g,0,1,1,[m],rfl,rfl,qae _,qae _,⟨fun _=>rfl,fun k hk=>?_⟩,qaq ⟨rfl,hm⟩,by simp [mval]⟩
 match k,hk with
 | 0,_=>exact cell_of_row _ _ 0 _ _ _ h
theorem sec_le {L:List Nat} {j:Nat} (h:Sec L) (hj:j<L.length):dg L j≤10000:=by
 rcases h with h | ⟨h1,h2⟩
 ·exact qar (h j)
 ·obtain rfl:j=0:=by omega
  exact h2
theorem qma {L:List Nat} {j c p d e:Nat} (h:Sec L) (hj:j<L.length) (he:dg L j=e) (h0:j=0→c=0) (hc:c<10000) (hp:p<10000) (hd:d<10000):c+(p+d*e)<100000000:=by
 rcases h with h | ⟨h1,h2⟩
 ·exact qef hc hp hd (by rw [←he];exact h j)
 ·obtain rfl:j=0:=by omega
  rw [he] at h2
  have:=h0 rfl
  have:d*e≤9999*10000:=Nat.mul_le_mul (by omega) h2
  omega
theorem qfG (W:World) (n:Nat) (hn:n≤maxLen):(W.alloc (.cells (madeCells #[.int .i64 0] n) 3)).ownsRow W.heap.size 3 1 (.slice (some ⟨W.heap.size,0,none⟩) n n) n (row64 (List.replicate n 0)) :=
 qfM (qeA W n 3) (by simp) qN hn
theorem qcA (x y K J:Nat) (hK:K+J≤17592186040000) (vm vo:Value) (w:World) (hm:DigAt w vm x K) (ho:SecAt w vo y J) :
  Calls Tryz.prog 171 #[vm,vo] w fun e w'=>∃v,e=.returned v∧Below w.heap.size w w'∧MagAt w' v (x*y):=by
 obtain⟨am,bm,om,cm,n,M,rfl,lm,cpm,hn,CM,DM,rfl⟩:=hm
 obtain⟨ao,bo,oo,co,no,O,rfl,lo,cpo,hno,CO,SO,rfl⟩:=ho
 obtain⟨s,hs⟩:∃s,n+no=s:=⟨_,rfl⟩
 have hsi:(n:Int)+(no:Int)=s:=by omega
 have hmk:=run_make_row' (P:=Tryz.prog) 86 3 (.int .i64 0) 8 Tryz.underlying86 qeW rfl .i64 .i64 s (by omega) (by omega)
 have HM:=qH (qA lm (qA CM DM))
 have HO:=qH (qA lo (qA CO SO))
 have Hs:=qH hs
 have Hsi:=qH hsi
 have hs2:s≤17592186040000:=by omega
 clear CM CO DM SO lm lo hK hs hn hno
 go_enter Tryz.func171,Tryz.ntmps171
 go_wp2
 go_loopw [6] (fun x6 W=>∃(k:Nat) (R:List Nat),k≤n∧x6=.int .i64 k∧Hid (TimesInv M O k 0 R 0)∧Hid (W.ownsRow w.heap.size 3 1 (.slice (some ⟨w.heap.size,0,none⟩) s s) s (row64 R))∧Hid (Below w.heap.size w W)) (fun x6 _=>n-(intOf x6).toNat)
 case atStart =>
  refine⟨0,List.replicate s 0,qam _,rfl,qH ?_,qH (qfG w s (by unfold maxLen;omega)),qH (qB.alloc qN _)⟩
  have:=TimesInv.start M O
  rwa [HM.out.1,HO.out.1,Hs.out] at this
 case round =>
  obtain⟨k,R,hk,rfl,hI,hO,hB⟩:=hrel
  clear hmk hsi
  by_cases hkn:k<n
  ·have hki:(k:Int)<n:=by omega
   have haw:=HM.out.2.1.addr (by rw [HM.out.1];omega)
   subst haw
   have hcm:=(HM.out.2.1.below hB.out).cell k (by rw [HM.out.1];omega)
   have hd:dg M k<10000:=HM.out.2.2 k
   obtain⟨d,hdd⟩:∃d,dg M k=d:=⟨_,rfl⟩
   rw [hdd] at hcm hd
   have Hdd:=qH hdd
   clear hdd
   go_wp2_with fail
   go_loopw [7,8] (fun x7 x8 W=>∃(j c:Nat) (S:List Nat),j≤no∧x8=.int .i64 j∧x7=.int .i64 c∧Hid (j=0→c=0)∧Hid (TimesInv M O k j S c)∧Hid (W.ownsRow w.heap.size 3 1 (.slice (some ⟨w.heap.size,0,none⟩) s s) s (row64 S))∧Hid (Below w.heap.size w W)) (fun _ x8 _=>no-(intOf x8).toNat)
   case atStart=>exact⟨0,0,R,qam _,rfl,rfl,qH (fun _=>rfl),hI,hO,hB⟩
   case round =>
    clear hI hO hB hcm
    obtain⟨j,c,S,hj,rfl,rfl,h0,hI,hO,hB⟩:=hrel
    by_cases hjn:j<no
    ·have hji:(j:Int)<no:=by omega
     have hao:=HO.out.2.1.addr (by rw [HO.out.1];omega)
     subst hao
     have hco:=(HO.out.2.1.below hB.out).cell j (by rw [HO.out.1];omega)
     have hcm:=(HM.out.2.1.below hB.out).cell k (by rw [HM.out.1];omega)
     rw [Hdd.out] at hcm
     obtain⟨e,hee⟩:∃e,dg O j=e:=⟨_,rfl⟩
     have he:e≤10000:=by rw [←hee];exact sec_le HO.out.2.2 (by rw [HO.out.1];omega)
     rw [hee] at hco
     have hlr:S.length=s:=by rw [hI.out.len,HM.out.1,HO.out.1,Hs.out]
     have hcr:wr.cell? ⟨w.heap.size,k+j,none⟩=some (.int .i64 ((dg S (k+j):Nat):Int)):=(hO.out.cellAt (k+j) (by have:=Hs.out;omega)).trans (qdZ S (k+j) (by have:=Hs.out;omega))
     have hfr:wr.frozen? ⟨w.heap.size,k+j,none⟩=false:=hO.out.frozenAt (k+j)
     have hp:dg S (k+j)<10000:=hI.out.dig (k+j)
     obtain⟨p,hpp⟩:∃p,dg S (k+j)=p:=⟨_,rfl⟩
     rw [hpp] at hcr hp
     have hc:=hI.out.carry
     have Hb:=qH (qma HO.out.2.2 (by rw [HO.out.1];omega) hee h0.out hc hp hd)
     obtain⟨q,hq⟩:∃q:Nat,d*e=q:=⟨_,rfl⟩
     rw [hq] at Hb
     have hqi:(d:Int)*(e:Int)=(q:Int):=by rw [←hq,Int.natCast_mul]
     obtain⟨r,hr⟩:∃r:Nat,c+p=r:=⟨_,rfl⟩
     obtain⟨t,ht⟩:∃t:Nat,r+q=t:=⟨_,rfl⟩
     have htl:t<100000000:=by have:=Hb.out;omega
     obtain⟨c1,hc1⟩:∃c1:Nat,t / 10000=c1:=⟨_,rfl⟩
     obtain⟨s1,hs1⟩:∃s1:Nat,t % 10000=s1:=⟨_,rfl⟩
     have r4:(c:Int)+p=r:=by omega
     have r6:(r:Int)+q=t:=by omega
     have r7:(t:Int) / 10000=c1:=by omega
     have r8:(t:Int).tdiv 10000=c1:=tdivB t c1 hc1
     have r9:(t:Int).tmod 10000=s1:=tmodB t s1 hs1
     have Ht:=qH (qA hr (qA ht (qA hc1 hs1)))
     have hkj:(k:Int)+j<s:=by have:=Hs.out;omega
     have hc1l:c1<10000:=by omega
     clear hr ht hc1 hs1
     have Hee:=qH hee
     have Hpp:=qH hpp
     have Hq:=qH hq
     have Hc:=qH hc
     have Hd:=qH hd
     have He:=qH he
     have Hp:=qH hp
     clear hee hpp hq hlr
     go_wp2_with fail
     go_quiet (fail)
     go_wp2_with fail
     go_roundw
     case rel =>
      obtain⟨hr,ht,hc1,hs1⟩:=Ht.out
      exact⟨j+1,c1,S.set (k+j) s1,hjn,by go_num,rfl,qH (fun h=>absurd h (by omega)),qH (hI.out.step (by rw [HM.out.1];exact hkn) (by rw [HO.out.1];exact hjn) (by omega) hc1l (by rw [show S.getD (k+j) 0=p from Hpp.out,show M.getD k 0=d from Hdd.out,show O.getD j 0=e from Hee.out,Hq.out];omega)),qH (qgn (own_drewN hO.out _) (k+j) s1 rfl),qH ((below_drewN hB.out _).setCell qN _)⟩
     case measure=>simp [intOf];omega
    ·obtain rfl:j=no:=by omega
     have hlr:S.length=s:=by rw [hI.out.len,HM.out.1,HO.out.1,Hs.out]
     have hcr:wr.cell? ⟨w.heap.size,k+j,none⟩=some (.int .i64 ((dg S (k+j):Nat):Int)):=(hO.out.cellAt (k+j) (by have:=Hs.out;omega)).trans (qdZ S (k+j) (by have:=Hs.out;omega))
     have hfr:wr.frozen? ⟨w.heap.size,k+j,none⟩=false:=hO.out.frozenAt (k+j)
     have hkj:(k:Int)+j<s:=by have:=Hs.out;omega
     have hc:=hI.out.carry
     have Hc:=qH hc
     have Hd:=qH hd
     clear hlr hc hd
     go_wp2_with fail
     go_roundw
     case rel =>
      have h:=hI.out
      rw [←HO.out.1] at h
      have h2:=h.next (by rw [HM.out.1];exact hkn)
      rw [HO.out.1] at h2
      exact⟨k+1,S.set (k+j) c,hkn,by go_num,qH h2,qH (qgn hO.out (k+j) c rfl),qH (hB.out.setCell qN _)⟩
     case measure=>simp [intOf];omega
  ·obtain rfl:k=n:=by omega
   have hlr:R.length=s:=by rw [hI.out.len,HM.out.1,HO.out.1,Hs.out]
   have hv:mval R=mval M*mval O:=by
    have h1:=hI.out
    rw [←HM.out.1] at h1
    exact h1.done rfl
   have HD:=qH (qdc (N:=s) hO.out hI.out.dig qN)
   rw [hv] at HD
   clear hv hlr
   go_wp2_with (first | (go_at_call 194;refine (qgb _ s _ _ HD.out (by omega)).mono ?_;rintro e w1 ⟨u,rfl,rfl,hu⟩) | fail)
   go_ret
   exact⟨_,rfl,hB.out,hu⟩
theorem once_any (x K d:Nat) (hK:K≤17592186040000) (hd0:0<d) (hd:d≤10000) (vm:Value) (w:World) (hm:DigAt w vm x K) :
  Calls Tryz.prog 201 #[vm,.int .i64 (d:Int)] w fun e w'=>∃v,e=.returned (.tuple #[v,.int .i64 ((x % d:Nat):Int)])∧Below w.heap.size w w'∧MagAt w' v (x / d)∧HiS w.heap.size v:=by
 obtain⟨am,bm,om,cm,n,M,rfl,lm,cpm,hn0,CM,DM,rfl⟩:=hm
 have hn:n≤17592186040000:=qai hn0 hK
 have hmk:=run_make_row' (P:=Tryz.prog) 86 3 (.int .i64 0) 8 Tryz.underlying86 qeW rfl .i64 .i64 n (by omega) (by omega)
 have HM:=qH (qA lm (qA CM DM))
 have Hd:=qH (qA hd0 hd)
 obtain⟨rr,hrr⟩:∃rr,mval M % d=rr:=⟨_,rfl⟩
 have Hrr:=qH hrr
 rw [hrr]
 have h0:((d:Int) == 0)=false:=by rw [beq_eq_false_iff_ne];omega
 have h01:¬d=0:=by omega
 clear CM DM lm hn0 hK hrr hd hd0
 go_enter Tryz.func201,Tryz.ntmps201
 go_wp2
 go_loopw [7,8] (fun x7 x8 W=>∃(k r:Nat) (z:Int) (R:List Nat),k≤n∧x8=.int .i64 z∧Hid (z+1=k)∧x7=.int .i64 r∧Hid (ShortInv M d k R r)∧Hid (W.ownsRow w.heap.size 3 1 (.slice (some ⟨w.heap.size,0,none⟩) n n) n (row64 R))∧Hid (Below w.heap.size w W)) (fun _ x8 _=>(intOf x8+1).toNat)
 case atStart =>
  refine⟨n,0,_,List.replicate n 0,qae _,rfl,qH (by omega),rfl,qH ?_,qH (qfG w n (by unfold maxLen;omega)),qH (qB.alloc qN _)⟩
  have:=ShortInv.start M Hd.out.1
  rwa [HM.out.1] at this
 case round =>
  obtain⟨k,r,z,R,hk,rfl,hz,rfl,hI,hO,hB⟩:=hrel
  clear hmk
  by_cases hk0:0<k
  ·obtain⟨j,rfl⟩:∃j,k=j+1:=⟨k-1,by omega⟩
   obtain rfl:z=(j:Int):=by have:=hz.out;omega
   have hji:(j:Int)<n:=by omega
   have haw:=HM.out.2.1.addr (by rw [HM.out.1];omega)
   subst haw
   have hcm:=(HM.out.2.1.below hB.out).cell j (by rw [HM.out.1];omega)
   have hm:dg M j<10000:=HM.out.2.2 j
   obtain⟨m,hmm⟩:∃m,dg M j=m:=⟨_,rfl⟩
   rw [hmm] at hcm hm
   have hr:=hI.out.rest
   have hlr:R.length=n:=hI.out.len.trans HM.out.1
   have hcr:wr.cell? ⟨w.heap.size,j,none⟩=some (.int .i64 ((dg R j:Nat):Int)):=(hO.out.cellAt j (by omega)).trans (qdZ R j (by omega))
   have hfr:wr.frozen? ⟨w.heap.size,j,none⟩=false:=hO.out.frozenAt j
   have hdd:=Hd.out.2
   obtain⟨t1,ht1⟩:∃t1:Nat,r*10000=t1:=⟨_,rfl⟩
   obtain⟨t2,ht2⟩:∃t2:Nat,t1+m=t2:=⟨_,rfl⟩
   obtain⟨q,hq⟩:∃q:Nat,t2 / d=q:=⟨_,rfl⟩
   obtain⟨s,hs⟩:∃s:Nat,t2 % d=s:=⟨_,rfl⟩
   have hstep:=hI.out.step (by rw [HM.out.1];omega) HM.out.2.2
   have hql:q<10000:=by
    have:=hstep.dig j
    rw [qcL (by omega),show M.getD j 0=m from hmm,ht1,ht2,hq] at this
    exact this
   rw [show M.getD j 0=m from hmm,ht1,ht2,hq,hs] at hstep
   have hsl:s<d:=by rw [←hs];exact qa9 _ Hd.out.1
   have r1:(r:Int)*10000=t1:=by omega
   have r4:(t1:Int)+m=t2:=by omega
   have r6:=tdivN t2 d q hq
   have r9:=tmodN t2 d s hs
   have Hst:=qH hstep
   have r10:(t2:Int)<9000000000:=by omega
   clear hstep ht1 ht2 hq hs hlr hm hmm
   go_wp2_with fail
   go_roundw
   case rel=>exact⟨j,s,_,R.set j q,by omega,rfl,qH (by omega),rfl,Hst,qH (qgn hO.out j q rfl),qH (hB.out.setCell qN _)⟩
   case measure=>simp [intOf]
  ·obtain rfl:k=0:=by omega
   obtain rfl:z = -1:=by have:=hz.out;omega
   have hlr:R.length=n:=hI.out.len.trans HM.out.1
   have HD:=qH (qdc (N:=n) hO.out hI.out.dig qN)
   have HH:=qlM hO.out
   rw [hI.out.done.1] at HD
   have hre:r=rr:=by rw [←Hrr.out];exact hI.out.done.2
   subst hre
   clear hlr
   go_wp2_with (first | (go_at_call 194;refine (qiO _ n _ _ HD.out (by omega)).mono ?_;rintro e w1 ⟨u,rfl,rfl,hu,hh⟩) | fail)
   go_ret2
   exact⟨_,rfl,hB.out,hu,hh _ HH⟩
theorem qf5 {P:Program} {w:World} (base:Nat) (t ty e:TypeId) (i:TypeInfo) (size:Nat) (ht:P.underlying t=some (.slice e)) (hi:P.info? e=some i)
  (v:Value) (n:Nat) (xs:List Value) (hown:w.ownsRow base e size v n xs) (c:Nat):(Builtin.append_ #[t,t] ty #[v,.slice none 0 c]).run P w=.ok v w:=by
 rcases hown.2 with ⟨rfl,rfl⟩ | ⟨g,cap,cur,rfl,hbg,hg,hnc,hcm,hcs,htake⟩
 ·simp [Builtin.append_,run_underlying ht,sizeOf,typeInfo,hi,Builtin.lenOf,Builtin.firstCells]
 ·simp [Builtin.append_,run_underlying ht,sizeOf,typeInfo,hi,Builtin.lenOf,Builtin.firstCells,loadCells,storeCells,hnc]
theorem qe0 {ops:Array Oper} {rest:List Oper} {o:Oper} {a:Act} {w:World} {Q:Exit→Act→World→Prop} (hgd:o.guard=none) (s x:Operand)
  (ho:o.op=.call { callee:=.builtin .append,args:=#[s,x],argTypes:=#[86,86] }) {W0:World} {B:Nat} {v:Value} {n:Nat} {S:List Nat} {ao:Option Addr} {b off m c:Nat} {L:List Nat}
  (hB:Below B W0 w) (hB0:B=W0.heap.size) (hown:w.ownsRow B 3 1 v n (row64 S)) (hc:Cells w ao b off L) (hm:L.length=m) (hs:a.eval s=v) (hx:a.eval x=.slice ao m c) (hn:n+m≤17592186044416)
  (h:∀v' w',Hid (w'.ownsRow B 3 1 v' (n+m) (row64 (S++L)))→Hid (Below B W0 w')→wpList Tryz.prog ops Q rest (a.put o.dst v') w') :
  wpList Tryz.prog ops Q (o :: rest) a w:=by
 obtain⟨i0,hi,hz0,hz1,hz2⟩:=info_parts qeW
 have hsz:=hB.size
 by_cases h0:0<m
 ·have ha:=hc.addr (by omega)
  subst ha
  refine wpList_append_own _ hgd s x 86 ho B 3 i0 (.int .i64 0) 1 8 Tryz.underlying86 hi hz0 hz1 hz2 rfl (by decide) v n (row64 S) hs hown ⟨b,off,none⟩ m c (row64 L) hx (by rw [qdd,hm,Nat.mul_one]) ?c1 (ql1 L) ?c3 ?c4 ?c5 ?_
  case c1 =>
   intro j u hj
   have hjl:j<L.length:=by
    rcases qbb j L.length with h | h
    ·exact h
    ·rw [qa4 (by rw [qdd];exact h)] at hj;exact absurd hj (by simp)
   rw [qdZ L j hjl] at hj
   cases hj
   have hcl:=hc.cell j hjl
   by_cases hj0:j=0
   ·subst hj0;simpa [Addr.add] using hcl
   ·simpa [Addr.add,hj0] using hcl
  case c3=>unfold maxLen;omega
  case c4=>omega
  case c5=>omega
  intro v' w' hown' hgrow _
  refine h v' w' (qH ?_) (qH ?_)
  ·unfold row64 at hown' ⊢
   rw [qbj];exact hown'
  ·exact hB.grown hgrow (by omega) (fun k hk=>(hown.lt k hk).1)
 ·obtain rfl:m=0:=by omega
  obtain rfl:L=[]:=qa3.1 hm
  cases ao with
  | none =>
   refine wpList_plain hgd fun K hK=>?_
   have hrun:=qf5 (P:=Tryz.prog) (w:=w) B 86 o.type 3 i0 1 Tryz.underlying86 hi v n (row64 S) hown c
   unfold Oper.wp
   simp [execOp,ho,resolve,invoke,builtin,hs,hx,hrun,Result.andThen]
   exact hK _ _ (h v w (qH (by rw [List.append_nil];exact hown)) (qH hB))
  | some ad =>
   refine wpList_append_own _ hgd s x 86 ho B 3 i0 (.int .i64 0) 1 8 Tryz.underlying86 hi hz0 hz1 hz2 rfl (by decide) v n (row64 S) hs hown ad 0 c [] hx rfl (fun j u hj=>by simp at hj) (fun u hu=>by simp at hu) (by unfold maxLen;omega) (by omega) (by omega) ?_
   intro v' w' hown' hgrow _
   refine h v' w' (qH ?_) (qH ?_)
   ·rw [List.append_nil]
    rw [List.append_nil] at hown'
    exact hown'
   ·exact hB.grown hgrow (by omega) (fun k hk=>(hown.lt k hk).1)
theorem qlO (W:World) (d:Nat) (e:TypeId) {B g:Nat} (hg:g=W.heap.size) (hB:B≤g):(W.alloc (.cells #[.int .i64 (d:Int)] e)).ownsRow B e 1 (.slice (some ⟨g,0,none⟩) 1 1) 1 (row64 [d]):=by
 subst hg
 exact⟨rfl,.inr ⟨W.heap.size,1,_,rfl,hB,heap_alloc_new W _,qae _,by decide,rfl,rfl⟩⟩
theorem qjJ (W:World) (e:TypeId) {B g:Nat} (hg:g=W.heap.size) (hB:B≤g):(W.alloc (.cells #[] e)).ownsRow B e 1 (.slice (some ⟨g,0,none⟩) 0 0) 0 (row64 []):=by
 subst hg
 exact⟨rfl,.inr ⟨W.heap.size,0,_,rfl,hB,heap_alloc_new W _,qae _,by decide,rfl,rfl⟩⟩
end Go.Proofs.YtfminfgabiipjaaGreatDoor.p4
