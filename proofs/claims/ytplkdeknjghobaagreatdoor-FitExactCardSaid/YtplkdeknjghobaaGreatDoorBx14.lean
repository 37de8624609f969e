import Derived.Maps.AppendAt
import Derived.Test.YtplkdeknjghobaaGreatDoorBx13
set_option maxRecDepth 100000
set_option maxHeartbeats 0
namespace Go.Proofs.YtplkdeknjghobaaGreatDoor
open Go.RowKit
def qcy (x:Value):Prop:=∀k d,x≠.int k d
def Rws (w:World) (base:Nat) (e:TypeId) (size:Nat) (v:Value) (n:Nat) (G:List Value):Prop :=
  G.length=n*size /\
  ((v=.slice none 0 0/\n=0) \/
   ∃g cap F,v=.slice (some ⟨g,0,none⟩) n cap/\base<=g/\w.heap[g]? = some (.cells F e (0,0))/\n<=cap/\cap<=maxLen/\F.size=cap*size/\F.toList.take (n*size)=G/\∀x∈F.toList,qcy x)
section
variable {w:World} {base:Nat} {e:TypeId} {size:Nat} {v:Value} {n:Nat} {xs:List Value}
theorem Rws.own (h:Rws w base e size v n xs):w.ownsRow base e size v n xs:=by
 refine⟨h.1,?_⟩;rcases h.2 with h | ⟨g,cap,cur,F,G,H,I,J,O,U,_⟩
 ·exact qal h
 ·exact qag ⟨g,cap,cur,F,G,H,I,J,O,U⟩
theorem Rws.nil (w:World) (base:Nat) (e:TypeId) (F:Nat):Rws w base e F (.slice none 0 0) 0 []:=⟨by simp,.inl ⟨rfl,rfl⟩⟩
theorem Rws.kept {G:World} {row:Option Nat} (h:Rws w base e size v n xs) (hg:w.grownBy G row) (hne:v.ownBlock=none\/v.ownBlock≠row):Rws G base e size v n xs:=by
 refine⟨h.1,?_⟩;rcases h.2 with h | ⟨g,cap,cur,rfl,H,F,I⟩
 ·exact qal h
 ·refine qag ⟨g,cap,cur,rfl,H,(hg.block g (qG F).1 ?_).trans F,I⟩;rcases hne with hne | hne
  ·cases hne
  ·exact hne
theorem Rws.below {G:World} (h:Rws w base e size v n xs) (J:Below w.heap.size w G):Rws G base e size v n xs:=by
 refine⟨h.1,?_⟩;rcases h.2 with h | ⟨g,cap,cur,rfl,H,F,I⟩
 ·exact qal h
 ·exact qag ⟨g,cap,cur,rfl,H,(J.block g (qG F).1).trans F,I⟩
theorem Rws.lt (h:Rws w base e size v n xs):∀k,v.ownBlock=some k->base<=k/\k<w.heap.size:=h.own.lt
theorem Rws.shape (h:Rws w base e size v n xs):∃(F:Option Addr) (cap:Nat),v=.slice F n cap:=by
 rcases h.2 with ⟨rfl,rfl⟩ | ⟨g,cap,cur,rfl,_⟩
 ·exact⟨none,0,rfl⟩
 ·exact⟨_,_,rfl⟩
theorem Rws.ne {F:Nat} {J:TypeId} {G:Nat} {U:Value} {Z:Nat} {I:List Value} (h:Rws w base e size v n xs) (V:Rws w F J G U Z I) (he:e≠J):v.ownBlock=none\/v.ownBlock≠U.ownBlock:=by
 rcases h.2 with ⟨rfl,_⟩ | ⟨g,cap,cur,rfl,_,Y,_⟩
 ·exact qal rfl
 ·refine qag fun O=>?_
  rcases V.2 with ⟨rfl,_⟩ | ⟨g',cap',cur',rfl,_,H,_⟩
  ·cases O
  ·have:g=g':=qah O;subst this;have:=Y.symm.trans H;simp at this;exact he this.2
end
theorem Rws.vcells {w:World} {base:Nat} {e:TypeId} {v:Value} {n:Nat} {H:List Value} (h:Rws w base e 1 v n H):∃(I:Option Addr) (g cap:Nat),v=.slice I n cap/\VCells w I g 0 H/\n<=cap:=by
 have U:=h.1;rw [qbD] at U;have F:=h.own;rcases h.2 with ⟨rfl,rfl⟩ | ⟨g,cap,cur,rfl,_,_,O,_⟩
 ·exact⟨none,0,0,rfl,⟨fun J=>absurd J (by omega),fun k G=>absurd G (by omega)⟩,qae _⟩
 ·refine⟨some ⟨g,0,none⟩,g,cap,rfl,⟨fun _=>rfl,fun k G=>?_⟩,O⟩;have:=F.cells (g:=g) rfl k (H.getD k undef) (by rw [qaa,qad G];rfl)
  rwa [Addr.add_mid] at this
theorem qeI {w F:World} (h:w.grownBy F none):Below w.heap.size w F:=⟨h.os,h.tape,h.output,h.size,fun i G=>h.block i G (fun e=>by cases e)⟩
section
variable {w w':World} {base:Nat} {e:TypeId} {size:Nat} {v:Value} {n:Nat} {xs:List Value}
theorem qmz {F:Array Value} (h:∀x∈F.toList,qcy x):∀x∈F.toList,∀d,x≠.int .u32 d:=fun x hx d=>h x hx .u32 d
theorem Rws.old (h:Rws w base e size v n xs) (hg:w.grownBy w' v.ownBlock) {a:World} {B:Nat} (H:Below B a w) (J:B<=base) (F:B<=w.heap.size):Below B a w' :=
 H.trans ⟨hg.os,hg.tape,hg.output,hg.size,fun i I=>hg.block i (qai I F) (fun G=>by
  have:=(h.lt i G.symm).1;omega)⟩
end
section
variable {P:Program}
theorem qge {z:Value} (I:∀x∈z.cells.toList,qcy x) (n:Nat):∀x∈(Builtin.zeroCells z.cells n).toList,qcy x:=by
 intro x hx;obtain⟨i,H,he⟩:=List.getElem_of_mem hx;have F:0<z.cells.size:=by
  rcases qaW z.cells.size with h | h
  ·have:=size_zeroCells z.cells n;rw [h,Nat.mul_zero] at this;rw [Array.length_toList] at H;omega
  ·exact h
 have G:x=z.cells[i % z.cells.size]!:=by
  rw [<-he];simp [Builtin.zeroCells]
 rw [G,getElem!_pos z.cells _ (qbA _ F)];exact I _ (by simp)
theorem qeX (w:World) (base:Nat) (t ty e:TypeId) (i:TypeInfo) (z:Value) (size bytes:Nat) (ht:P.underlying t=some (.slice e)) (hi:P.info? e=some i) (hz:i.zero=some z)
  (ag:i.size=size) (av:i.bytes=bytes) (aj:z.cells.size=size) (aB:0<size) (ai:∀x∈z.cells.toList,qcy x)
  (v:Value) (n:Nat) (xs:List Value) (G:Rws w base e size v n xs)
  (a:Addr) (m c:Nat) (F:List Value) (Y:F.length=m*size) (I:∀j u,F[j]? = some u->w.cell? (a.add j)=some u) (h1:∀u∈F,u.oneCell'=true) (af:∀u∈F,qcy u) (az:0<m)
  (Z:n+m<=maxLen) (O:(n+m)*bytes<=140737488355328) (U:base<=w.heap.size) :
  ∃v' w',(Builtin.append_ #[t,t] ty #[v,.slice (some a) m c]).run P w=.ok v' w'/\Rws w' base e size v' (n+m) (xs++F)/\w.grownBy w' v.ownBlock/\(v'.ownBlock=v.ownBlock\/v'.ownBlock=some w.heap.size):=by
 subst ag;subst av;have ak:n+m<=9223372036854775807:=by simp only [maxLen] at Z;omega
 have H:(xs++F).length=(n+m)*i.size:=by rw [qaf,G.1,Y,qaG]
 rcases G.2 with ⟨rfl,rfl⟩ | ⟨g,cap,cur,rfl,au,hg,aA,ax,ay,V,aa⟩
 ·have hx:xs=[]:=List.eq_nil_of_length_eq_zero (by simpa using G.1);subst hx;have hr:=run_append_nil (P:=P) w t ty e i z ht hi hz a m c F Y I az (by omega) (by have hb:=O;simp only [qaH] at hb;omega);have ae:=grownCap_ge w m 0 e;refine⟨_,_,hr,⟨by simpa using H,.inr ⟨w.heap.size,_,_,by rw [qaH],U,heap_alloc_new w.drew _,by rw [qaH];exact ae,grownCap_le_maxLen w m 0 e (by simpa using Z),?_,?_,?_⟩⟩,⟨rfl,rfl,rfl,by simp,fun k hk _=>qL w.drew _ k hk⟩,qag rfl⟩
  ·simp only [Array.size_append,qbJ,size_zeroCells,aj,Y,<-qaG]
   congr 1;omega
  ·rw [qaH,qbh,<-Y,qbk];exact List.take_left
  ·intro x hx;rw [qbk] at hx;rcases qaK.1 hx with h | h
   ·exact af x h
   ·exact qge ai _ x h
 ·by_cases J:n+m<=cap
  ·have ah:n*i.size+F.length<=cur.size:=by rw [Y,ay,<-qaG];exact qa5 _ J
   have hr:=run_append_room (P:=P) w t ty e i ht hi g n cap cur hg a m c F Y I h1 J ah;refine⟨_,_,hr,⟨H,.inr ⟨g,cap,_,rfl,au,qT w g cur _ e _ hg,J,ax,?_,?_,?_⟩⟩,⟨rfl,rfl,rfl,by simp,fun k _ hk=>setRow_other w g k _ (fun e=>hk (by simp [Value.ownBlock,e]))⟩,qal rfl⟩
   ·simp only [qbJ,qaf,qay,qbm,Array.length_toList];omega
   ·rw [V,<-H];exact List.take_left
   ·intro x hx;rcases qaK.1 hx with h | h
    ·rcases qaK.1 h with h | h
     ·exact aa x (qbG h)
     ·exact af x h
    ·exact aa x (List.mem_of_mem_drop h)
  ·have holds:∀j u,xs[j]? = some u->w.cell? ((⟨g,0,none⟩:Addr).add j)=some u:=G.own.cells (g:=g) rfl;have hr:=run_append_grow (P:=P) w t ty e i z ht hi hz ⟨g,0,none⟩ n cap xs G.1 holds a m c F Y I (by omega) (by omega) (growslice_fits (by omega) O);have ae:=grownCap_ge w (n+m) cap e;refine⟨_,_,hr,⟨H,.inr ⟨w.heap.size,_,_,rfl,U,heap_alloc_new w.drew _,ae,grownCap_le_maxLen w (n+m) cap e Z,?_,?_,?_⟩⟩,⟨rfl,rfl,rfl,by simp,fun k hk _=>qL w.drew _ k hk⟩,qag rfl⟩
   ·simp only [Array.size_append,qbJ,size_zeroCells,aj,G.1,Y,<-qaG]
    congr 1;omega
   ·simp only [qbk,qaE];rw [<-qaE,<-H];exact List.take_left
   ·intro x hx;rw [qbk,qbk] at hx;rcases qaK.1 hx with h | h
    ·rcases qaK.1 h with h | h
     ·rw [<-V] at h;exact aa x (qbG (by simpa using h))
     ·exact af x h
    ·exact qge ai _ x h
theorem qie {w:World} {o:Oper} {a:Act} {K:Act->World->Prop} {Q:Exit->Act->World->Prop} (s x:Operand) (t:TypeId)
  (ho:o.op=.call { callee:=.builtin .append,args:=#[s,x],argTypes:=#[t,t] })
  (base:Nat) (e:TypeId) (i:TypeInfo) (z:Value) (size bytes:Nat) (ht:P.underlying t=some (.slice e)) (hi:P.info? e=some i) (hz:i.zero=some z)
  (J:i.size=size) (aa:i.bytes=bytes) (ai:z.cells.size=size) (ag:0<size) (ah:∀x∈z.cells.toList,qcy x)
  (v:Value) (n:Nat) (xs:List Value) (hs:a.eval s=v) (U:Rws w base e size v n xs)
  (Y:Addr) (m c:Nat) (F:List Value) (hx:a.eval x=.slice (some Y) m c) (hl:F.length=m*size) (I:∀j u,F[j]? = some u->w.cell? (Y.add j)=some u) (h1:∀u∈F,u.oneCell'=true) (af:∀u∈F,qcy u) (ae:0<m)
  (Z:n+m<=maxLen) (G:(n+m)*bytes<=140737488355328) (H:base<=w.heap.size)
  (h:∀O V,Rws V base e size O (n+m) (xs++F)->w.grownBy V v.ownBlock->(O.ownBlock=v.ownBlock\/O.ownBlock=some w.heap.size)->K (a.put o.dst O) V) :
  Oper.wp P o a w K Q:=by
 obtain⟨O,V,hr,h2,h3,h4⟩:=qeX (P:=P) w base t o.type e i z size bytes ht hi hz J aa ai ag ah v n xs U Y m c F hl I h1 af ae Z G H;unfold Oper.wp execOp;simp only [ho,resolve,invoke,builtin,Sem.run_bind,Sem.run_pure,Result.andThen_ok,List.map_toArray,qbw,qbL,hs,hx,hr];exact h O V h2 h3 h4
theorem qgW {w:World} {U:Array Oper} {o:Oper} {a:Act} {K:Act->World->Prop} {Q:Exit->Act->World->Prop} {E:Prop} (ae:o.guard=none) (s x:Operand) (t:TypeId)
  (ho:o.op=.call { callee:=.builtin .append,args:=#[s,x],argTypes:=#[t,t] })
  (base:Nat) (e:TypeId) (i:TypeInfo) (z:Value) (size bytes:Nat) (ht:P.underlying t=some (.slice e)) (hi:P.info? e=some i) (hz:i.zero=some z)
  (J:i.size=size) (aa:i.bytes=bytes) (aj:z.cells.size=size) (ah:0<size) (ai:∀x∈z.cells.toList,qcy x)
  (v:Value) (n:Nat) (xs:List Value) (hs:a.eval s=v) (O:Rws w base e size v n xs)
  (Y:Addr) (m c:Nat) (F:List Value) (hx:a.eval x=.slice (some Y) m c) (hl:F.length=m*size) (I:∀j u,F[j]? = some u->w.cell? (Y.add j)=some u) (h1:∀u∈F,u.oneCell'=true) (ag:∀u∈F,qcy u) (af:0<m)
  (Z:n+m<=maxLen) (G:(n+m)*bytes<=140737488355328) (H:base<=w.heap.size)
  (h:∀V w',Rws w' base e size V (n+m) (xs++F)->w.grownBy w' v.ownBlock->(V.ownBlock=v.ownBlock\/V.ownBlock=some w.heap.size)->K (a.put o.dst V) w') :
  if Region.wanted o (yielded U a.tmps)=true then Oper.wp P o a w K Q else E:=by
 have hw:Region.wanted o (yielded U a.tmps)=true:=by simp [Region.wanted,ae]
 rw [if_pos hw];exact qie s x t ho base e i z size bytes ht hi hz J aa aj ah ai v n xs hs O Y m c F hx hl I h1 ag af Z G H h
theorem qdo {w:World} {V:Array Oper} {rest:List Oper} {o:Oper} {a:Act} {Q:Exit->Act->World->Prop} (af:o.guard=none) (s x:Operand) (t:TypeId)
  (ho:o.op=.call { callee:=.builtin .append,args:=#[s,x],argTypes:=#[t,t] })
  (base:Nat) (e:TypeId) (i:TypeInfo) (z:Value) (size bytes:Nat) (ht:P.underlying t=some (.slice e)) (hi:P.info? e=some i) (hz:i.zero=some z)
  (J:i.size=size) (ae:i.bytes=bytes) (ak:z.cells.size=size) (ai:0<size) (aj:∀x∈z.cells.toList,qcy x)
  (v:Value) (n:Nat) (xs:List Value) (hs:a.eval s=v) (U:Rws w base e size v n xs)
  (Z:Addr) (m c:Nat) (F:List Value) (hx:a.eval x=.slice (some Z) m c) (hl:F.length=m*size) (I:∀j u,F[j]? = some u->w.cell? (Z.add j)=some u) (h1:∀u∈F,u.oneCell'=true) (ah:∀u∈F,qcy u) (ag:0<m)
  (aa:n+m<=maxLen) (G:(n+m)*bytes<=140737488355328) (H:base<=w.heap.size)
  (h:∀O Y,Rws Y base e size O (n+m) (xs++F)->w.grownBy Y v.ownBlock->(O.ownBlock=v.ownBlock\/O.ownBlock=some w.heap.size)->wpList P V Q rest (a.put o.dst O) Y) :
  wpList P V Q (o :: rest) a w:=by
 refine wpList_plain af fun K hK=>?_
 obtain⟨O,Y,hr,h2,h3,h4⟩:=qeX (P:=P) w base t o.type e i z size bytes ht hi hz J ae ak ai aj v n xs U Z m c F hl I h1 ah ag aa G H;unfold Oper.wp execOp;simp only [ho,resolve,invoke,builtin,Sem.run_bind,Sem.run_pure,Result.andThen_ok,List.map_toArray,qbw,qbL,hs,hx,hr];exact hK _ _ (h O Y h2 h3 h4)
end
open Tryz
theorem qmC (pt pl pr pc gt ct gl cl k j r c g n:Nat) (a1:Option Addr) (n1 c1:Nat) (b1:Bool) (T:Int) (m:Nat->Int) (K J:Nat) (aB:K+J+J<=274877906944) (w:World)
  (h1:w.cell? ⟨pt,0,none⟩=some (.slice (some ⟨gt,0,none⟩) k ct)) (h2:w.cell? ⟨pl,0,none⟩=some (.slice (some ⟨gl,0,none⟩) k cl)) (h3:w.cell? ⟨pr,0,none⟩=some (.int .i64 r)) (h4:w.cell? ⟨pc,0,none⟩=some (.int .i64 c))
  (h5:w.cell? ⟨gt,j*2,none⟩=some (.slice a1 n1 c1)) (h6:w.cell? ⟨gt,j*2+1,none⟩=some (.bool b1)) (h7:IntAt w (.agg #[.slice a1 n1 c1,.bool b1]) T) (h8:w.cell? ⟨gl,j,none⟩=some (rowv g n)) (h9:qcj w g n m)
  (hj:j<k) (_hk:k<=1048576) (hr:r<n) (hc:c<n) (_hn:n<=1048576) (hT:Fit T.natAbs K) (hm:∀i,i<n->Fit (m i).natAbs J) :
  Calls prog 252 #[.int .i64 j,.pointer (some ⟨pt,0,none⟩),.pointer (some ⟨pl,0,none⟩),.pointer (some ⟨pr,0,none⟩),.pointer (some ⟨pc,0,none⟩)] w fun e w'=>∃u,e=.returned u/\Below w.heap.size w w'/\IntAt w' u (T*m r*m c):=by
 obtain⟨H,V⟩:=qY (w.alloc (.cells #[.slice none 0 0,.bool false] 242));have G:Below w.heap.size w H:=V▸qbS qB qN;have aj:H.heap[w.heap.size]? = some (.cells #[.slice none 0 0,.bool false] 242 (0,0)):=by rw [V];exact qM _ _ _ rfl
 have ai:qcg H w.heap.size 0:=⟨_,_,_,_,aj,_,rfl,MagAt.nil _⟩;obtain⟨a2,n2,c2,b2,p0,p1,i2⟩:=h9.pair hr;obtain⟨a3,n3,c3,b3,q0,q1,i3⟩:=h9.pair hc;have F:∀(p:Addr) (v:Value),w.cell? p=some v->∀W,H.grownBy W (some w.heap.size)->W.cell? p=some v:=fun p v h W hg=>by
  have Z:=qac w _ h;exact (qd2 hg (qai Z G.size) (Nat.ne_of_lt Z)).trans ((G.cell Z).trans h)
 have C1:=F _ _ h1;have C2:=F _ _ h2;have C3:=F _ _ h3;have C4:=F _ _ h4;have C5:=F _ _ h5;have C6:=F _ _ h6;have C8:=F _ _ h8;have C9:=F _ _ p0;have ay:=F _ _ p1;have az:=F _ _ q0;have aA:=F _ _ q1;have aD:(j:Int)<k:=by omega
 have aF:(r:Int)<n:=by omega
 have aC:(c:Int)<n:=by omega
 have ak:=qH (fun W (h:Below H.heap.size H W)=>qcw T (m r) K J (by omega) _ _ W (h7.below (G.trans (h.mono G.size))) (i2.below (G.trans (h.mono G.size))) hT (hm r hr));have af:Fit (T*m r).natAbs (K+J):=by rw [qaD];exact hT.mul (hm r hr)
 have au:=qH (fun W u (h:Below H.heap.size H W) (hu:IntAt W u (T*m r))=>qcw (T*m r) (m c) (K+J) J (by omega) u _ W hu (i3.below (G.trans (h.mono G.size))) af (hm c hc));have U:=qH (qA G ai);have ax:Below H.heap.size H H:=Below.refl _ _;have O:Below H.heap.size H H.drew:=ax.drew;clear F h1 h2 h3 h4 h5 h6 h7 h8 h9 p0 p1 q0 q1 i2 i3 af hT hm G aj ai;go_enter func252,ntmps252;go_wp2_with fail;rw [<-V];clear V
 go_region_held3 (fun W=>H.grownBy W (some w.heap.size)) (first | with_reducible exact qcX _ _ | with_reducible exact qb1 _ O | with_reducible exact qb1 _ Y | with_reducible exact qb1 _ I | exact qbX (qbX (qb1 _ I) (qbT _ _ _ _)) (qbT _ _ _ _)) (first | (go_at_call_of 172 (Value.agg #[.slice a1 n1 c1,.bool b1]);refine (ak.o _ O).mono ?_;rintro e w5 ⟨u5,rfl,ag,aa⟩;have Y:Below H.heap.size H w5:=bjoin O ag;have av:=qH aa;obtain⟨a5,n5,c5,b5,rfl⟩:=qbR aa;clear ag aa) | (go_at_call 172;refine (au.o _ _ Y av.o).mono ?_;rintro e w6 ⟨u6,rfl,ah,ae⟩;have I:Below H.heap.size H w6:=bjoin Y ah;obtain⟨a6,n6,c6,b6,rfl⟩:=qbR ae;obtain⟨_,_,_,_,⟨z0,z1⟩,⟨f0,f1⟩,_⟩:=(U.o.2.below I).cells;have HX:=qH ((U.o.2.below I).row2 ae);clear ah ae))
 all_goals go_wp2_with fail
 all_goals exact qR (v:=.agg #[.slice a6 n6 c6,.bool b6]) (rA_ rfl w.heap.size HX.o.1 underlying242 2) rfl ⟨_,rfl,((U.o.1.trans (I.mono U.o.1.size)).setCell (p:=⟨w.heap.size,0,none⟩) qN _).setCell (p:=⟨w.heap.size,1,none⟩) qN _,HX.o.2⟩
end Go.Proofs.YtplkdeknjghobaaGreatDoor
namespace Go.Proofs.YtplkdeknjghobaaGreatDoor
open Go.RowKit
def wnum (wl:List FT) (i:Nat):Nat:=(ival (wl.getD i fd0).1.data.toList).natAbs
def wdn (t:Tbl) (bl wl:List FT) (i:Nat):Nat:=fden (wl.getD i fd0)*flcd (besides t bl i)*flcd (besides t bl i)
def ntop (t:Tbl) (bl wl:List FT) (i:Nat):Nat:=wnum wl i / (wnum wl i).gcd (wdn t bl wl i)
def nden (t:Tbl) (bl wl:List FT) (i:Nat):Nat:=wdn t bl wl i / (wnum wl i).gcd (wdn t bl wl i)
def nkeep (wl:List FT):Nat->List Nat
 | 0=>[]
 | i+1=>if wnum wl i=0 then nkeep wl i else nkeep wl i++[i]
theorem qft (wl:List FT):∀i,(nkeep wl i).length<=i/\∀x∈nkeep wl i,x<i/\wnum wl x≠0
 | 0=>⟨qae _,fun x hx=>by cases hx⟩
 | i+1=>by
  obtain⟨G,F⟩:=qft wl i
  by_cases e:wnum wl i=0
  ·simp only [nkeep,if_pos e];exact⟨by omega,fun x hx=>⟨by have:=(F x hx).1;omega,(F x hx).2⟩⟩
  ·simp only [nkeep,if_neg e];refine⟨by rw [qaf,qaw];omega,fun x hx=>?_⟩;rcases qaK.1 hx with h | h
   ·exact⟨by have:=(F x h).1;omega,(F x h).2⟩
   ·rw [qas.1 h];exact⟨by omega,e⟩
theorem qmd (wl:List FT) {i:Nat} (h:wnum wl i≠0):∀R,i<R->(nkeep wl R).getD (nkeep wl i).length 0=i/\(nkeep wl i).length<(nkeep wl R).length
 | 0,hi=>absurd hi (by omega)
 | R+1,hi=>by
  by_cases e:i=R
  ·subst e;simp only [nkeep,if_neg h];refine⟨?_,by rw [qaf,qaw];omega⟩;rw [qaa,qao qN,qaJ];rfl
  ·obtain⟨G,H⟩:=qmd wl h R (by omega)
   by_cases F:wnum wl R=0
   ·simp only [nkeep,if_pos F];exact⟨G,H⟩
   ·simp only [nkeep,if_neg F];refine⟨?_,by rw [qaf];omega⟩;rw [qaa,qar H,<-qaa];exact G
theorem qfT {S:List Nat} {x p:Nat} (F:p<S.length):(S++[x]).getD p 0=S.getD p 0:=by
 rw [qaa,qar F,<-qaa]
theorem qfS {S:List Nat} {x:Nat}:(S++[x]).getD S.length 0=x:=by
 rw [qaa,qao qN,qaJ];rfl
theorem qcv {S:List Nat} {p:Nat} (F:p<S.length):S.getD p 0∈S:=by
 rw [qaa,qad F];exact List.getElem_mem F
structure NRow (t:Tbl) (bl wl:List FT) (i:Nat):Prop where
 fa:FAll (besides t bl i)
 len:(besides t bl i).length<=11
 wd:0<fden (wl.getD i fd0)/\Fit (fden (wl.getD i fd0)) 67
 wn:Fit (wnum wl i) 67
 nn:0<=ival (wl.getD i fd0).1.data.toList
theorem NRow.below {t:Tbl} {bl wl:List FT} {i:Nat} (h:NRow t bl wl i):0<flcd (besides t bl i)/\Fit (flcd (besides t bl i)) 738:=⟨qka h.fa,(qfd h.fa h.len).mono (by omega)⟩
theorem NRow.d {t:Tbl} {bl wl:List FT} {i:Nat} (h:NRow t bl wl i):0<wdn t bl wl i/\Fit (wdn t bl wl i) 1543 :=
 ⟨qbQ (qbQ h.wd.1 h.below.1) h.below.1,((h.wd.2.mul h.below.2).mul h.below.2).mono (by omega)⟩
theorem NRow.g {t:Tbl} {bl wl:List FT} {i:Nat} (h:NRow t bl wl i):0<(wnum wl i).gcd (wdn t bl wl i)/\Fit ((wnum wl i).gcd (wdn t bl wl i)) 1543 :=
 ⟨qa9 _ h.d.1,h.d.2.le (qbK h.d.1 (qaS _ _))⟩
theorem NRow.den {t:Tbl} {bl wl:List FT} {i:Nat} (h:NRow t bl wl i):0<nden t bl wl i/\Fit (nden t bl wl i) 1543 :=
 ⟨Nat.div_pos (qbK h.d.1 (qaS _ _)) h.g.1,h.d.2.le (qaO _ _)⟩
theorem NRow.top {t:Tbl} {bl wl:List FT} {i:Nat} (h:NRow t bl wl i):Fit (ntop t bl wl i) 67:=h.wn.le (qaO _ _)
theorem NRow.val {t:Tbl} {bl wl:List FT} {i:Nat} (h:NRow t bl wl i):(ntop t bl wl i:Rat)*((flcd (besides t bl i):Nat):Rat)*((flcd (besides t bl i):Nat):Rat)=lval wl i*(nden t bl wl i:Rat):=by
 have hg:=h.g.1;obtain⟨a,J⟩:=qbN (wnum wl i) (wdn t bl wl i);obtain⟨b,O⟩:=qaS (wnum wl i) (wdn t bl wl i);have U:ntop t bl wl i=a:=by unfold ntop;(conv=>lhs;lhs;rw [J]);exact qaQ _ hg
 have V:nden t bl wl i=b:=by unfold nden;(conv=>lhs;lhs;rw [O]);exact qaQ _ hg
 rw [U,V];have hl:lval wl i=(wnum wl i:Rat) / ((fden (wl.getD i fd0):Nat):Rat):=by
  unfold lval;rw [qhN]
  congr 1
  have:(ival (wl.getD i fd0).1.data.toList:Int)=(wnum wl i:Int):=by have:=h.nn;unfold wnum;omega
  rw [this];rfl
 have aa:((fden (wl.getD i fd0):Nat):Rat)≠0:=by have:=qbj h.wd.1;exact_mod_cast this
 have Y:((wdn t bl wl i:Nat):Rat)=(fden (wl.getD i fd0):Rat)*(flcd (besides t bl i):Rat)*(flcd (besides t bl i):Rat):=by unfold wdn;push_cast;rfl
 have I:(wnum wl i:Rat)=((wnum wl i).gcd (wdn t bl wl i):Rat)*a:=by exact_mod_cast J
 have H:((wdn t bl wl i:Nat):Rat)=((wnum wl i).gcd (wdn t bl wl i):Rat)*b:=by exact_mod_cast O
 have Z:(((wnum wl i).gcd (wdn t bl wl i):Nat):Rat)≠0:=by have:=qbj hg;exact_mod_cast this
 rw [hl];generalize (((wnum wl i).gcd (wdn t bl wl i):Nat):Rat)=G at *;generalize ((flcd (besides t bl i):Nat):Rat)=F at *;generalize ((fden (wl.getD i fd0):Nat):Rat)=E at *;rw [Y] at H;rw [I];have:E*F*F=G*b:=H
 grind
def nall (t:Tbl) (bl wl:List FT) (S:List Nat):Nat:=lcms (S.map (nden t bl wl))
def nfac (t:Tbl) (bl wl:List FT) (S:List Nat) (i:Nat):Int:=(ntop t bl wl i:Int)*((nall t bl wl S / nden t bl wl i:Nat):Int)
def nterm (t:Tbl) (bl wl:List FT) (S:List Nat) (r c i:Nat):Int:=nfac t bl wl S i*ftop (besides t bl i) r*ftop (besides t bl i) c
theorem mapD {S:List Nat} {f:Nat->Nat} {p:Nat} (F:p<S.length):(S.map f).getD p 0=f (S.getD p 0):=by
 rw [qaa,qau,qaa,qad F];rfl
theorem nall_pos {t:Tbl} {bl wl:List FT} {S:List Nat} (h:∀x∈S,NRow t bl wl x):0<nall t bl wl S:=by
 have:=qfo (S.map (nden t bl wl)) (fun k F=>by rw [qat] at F;rw [mapD F];exact (h _ (qcv F)).den.1) (S.map (nden t bl wl)).length qN
 rwa [qbg] at this
theorem qhX {t:Tbl} {bl wl:List FT} {S:List Nat} (h:∀x∈S,NRow t bl wl x) (hS:S.length<=40):Fit (nall t bl wl S) 61721:=by
 have:=qfn (S.map (nden t bl wl)) 1543 (fun k F=>by rw [qat] at F;rw [mapD F];exact (h _ (qcv F)).den) (S.map (nden t bl wl)).length qN;rw [qbg] at this;refine Fit.mono this ?_;rw [qat];omega
theorem nall_dvd {t:Tbl} {bl wl:List FT} {S:List Nat} {p:Nat} (F:p<S.length):nden t bl wl (S.getD p 0)∣nall t bl wl S:=by
 have:=qhS (S.map (nden t bl wl)) (S.map (nden t bl wl)).length p (by rw [qat];exact F) qN;rw [qbg,mapD F] at this;exact this
theorem qkp {t:Tbl} {bl wl:List FT} {S:List Nat} (h:∀x∈S,NRow t bl wl x) (hS:S.length<=40) {p:Nat} (F:p<S.length):Fit (nfac t bl wl S (S.getD p 0)).natAbs 61788:=by
 unfold nfac;rw [qaD,qan,qan];exact ((h _ (qcv F)).top.mul ((qhX h hS).le (qaO _ _))).mono (by omega)
theorem qiW {t:Tbl} {bl wl:List FT} {S:List Nat} (h:∀x∈S,NRow t bl wl x) (hS:S.length<=40) {p r c:Nat} (G:p<S.length) (I:r<(besides t bl (S.getD p 0)).length) (H:c<(besides t bl (S.getD p 0)).length):Fit (nterm t bl wl S r c (S.getD p 0)).natAbs 63398:=by
 have F:=h _ (qcv G);unfold nterm;rw [qaD,qaD];exact (((qkp h hS G).mul (qdd F.fa F.len I)).mul (qdd F.fa F.len H)).mono (by omega)
theorem qmE {t:Tbl} {bl wl:List FT} {S:List Nat} (h:∀x∈S,NRow t bl wl x) {p r c:Nat} (I:p<S.length) (hr:r<(besides t bl (S.getD p 0)).length) (Z:c<(besides t bl (S.getD p 0)).length) :
  ((nterm t bl wl S r c (S.getD p 0):Int):Rat)=(nall t bl wl S:Rat)*(lval wl (S.getD p 0)*(lval (besides t bl (S.getD p 0)) r*lval (besides t bl (S.getD p 0)) c)):=by
 have G:=h _ (qcv I);obtain⟨q,J⟩:=nall_dvd (t:=t) (bl:=bl) (wl:=wl) I;have hd:=G.den.1;have e:nall t bl wl S / nden t bl wl (S.getD p 0)=q:=by rw [J];exact qaQ _ hd
 have hv:=G.val;unfold nterm nfac;rw [e];have O:=qff G.fa hr;have U:=qff G.fa Z
 push_cast
 rw [O,U];have H:(nall t bl wl S:Rat)=(nden t bl wl (S.getD p 0):Rat)*q:=by exact_mod_cast J
 rw [H];generalize ((flcd (besides t bl (S.getD p 0)):Nat):Rat)=F at *;generalize ((nden t bl wl (S.getD p 0):Nat):Rat)=D at *;generalize ((ntop t bl wl (S.getD p 0):Nat):Rat)=T at *;generalize lval wl (S.getD p 0)=L at *;generalize lval (besides t bl (S.getD p 0)) r=X at *;generalize lval (besides t bl (S.getD p 0)) c=Y at *;have V:T*q*(F*X)*(F*Y)=(T*F*F)*q*X*Y:=by grind
 rw [V,hv];grind
def normQ (t:Tbl) (bl wl:List FT) (R:Nat) (r c:Nat):Rat:=sumQ R fun i=>lval wl i*(lval (besides t bl i) r*lval (besides t bl i) c)
theorem qgr (f:Nat->Int):∀k,((isum f k:Int):Rat)=sumQ k fun p=>((f p:Int):Rat)
 | 0=>rfl
 | k+1=>by
  show ((isum f k+f k:Int):Rat)=sumQ k _+_
  rw [<-qgr f k];push_cast;rfl
theorem qkh (wl:List FT) (f:Nat->Rat):∀i,(∀x,x<i->wnum wl x=0->f x=0)->sumQ (nkeep wl i).length (fun p=>f ((nkeep wl i).getD p 0))=sumQ i f
 | 0,_=>rfl
 | i+1,h=>by
  have ih:=qkh wl f i fun x hx=>h x (by omega)
  show _=sumQ i f+f i
  by_cases e:wnum wl i=0
  ·simp only [nkeep,if_pos e];rw [ih,h i (by omega) e];grind
  ·simp only [nkeep,if_neg e];rw [qaf,qaw]
   show sumQ (nkeep wl i).length _+f ((nkeep wl i++[i]).getD (nkeep wl i).length 0)=_
   rw [qfS,<-ih]
   congr 1
   exact qbV fun p F=>by rw [qfT F]
theorem qiJ {wl:List FT} {i:Nat} (h:wnum wl i=0):lval wl i=0:=by
 unfold lval;rw [qhN];have:ival (wl.getD i fd0).1.data.toList=0:=by unfold wnum at h;omega
 rw [this,show ((0:Int):Rat)=0 from rfl];grind
theorem norm_sum {t:Tbl} {bl wl:List FT} {R r c:Nat} (h:∀i,i<R->NRow t bl wl i) (H:∀i,i<R->r<(besides t bl i).length/\c<(besides t bl i).length) :
  ((isum (fun p=>nterm t bl wl (nkeep wl R) r c ((nkeep wl R).getD p 0)) (nkeep wl R).length:Int):Rat)=(nall t bl wl (nkeep wl R):Rat)*normQ t bl wl R r c:=by
 have F:=(qft wl R).2;rw [qgr];have I:sumQ (nkeep wl R).length (fun p=>((nterm t bl wl (nkeep wl R) r c ((nkeep wl R).getD p 0):Int):Rat))=sumQ (nkeep wl R).length (fun p=>(fun i=>(nall t bl wl (nkeep wl R):Rat)*(lval wl i*(lval (besides t bl i) r*lval (besides t bl i) c))) ((nkeep wl R).getD p 0)) :=
  qbV fun p G=>qmE (fun x hx=>h x (F x hx).1) G (H _ (F _ (qcv G)).1).1 (H _ (F _ (qcv G)).1).2
 rw [I,qkh wl (fun i=>(nall t bl wl (nkeep wl R):Rat)*(lval wl i*(lval (besides t bl i) r*lval (besides t bl i) c))) R (fun x _ hx=>by simp only [qiJ hx];grind),qck]
 rfl
open Tryz
structure Soft (W W':World) (row:Option Nat):Prop where
 grown:W.grownBy W' row
 nn:∀g,row=some g->∃(cs:Array Value) (t:TypeId) (fz:Nat×Nat),W.heap[g]? = some (.cells cs t fz)/\∀x∈cs.toList,qcy x
theorem Soft.ofBelow {W W':World} (h:Below W.heap.size W W'):Soft W W' none:=⟨⟨h.os,h.tape,h.output,h.size,fun i F _=>h.block i F⟩,fun g e=>by cases e⟩
theorem Soft.ofSet {W:World} {g:Nat} {cs:Array Value} {t:TypeId} {F:Nat×Nat} (h:W.heap[g]? = some (.cells cs t F)) (G:∀x∈cs.toList,qcy x) (j:Nat) (v:Value):Soft W (W.setCell ⟨g,j,none⟩ v) (some g) :=
 ⟨qbT W g j v,fun H e=>by cases e;exact⟨cs,t,F,h,G⟩⟩
theorem Soft.ofRws {W W':World} {base:Nat} {e:TypeId} {F:Nat} {v:Value} {n:Nat} {J:List Value} (h:Rws W base e F v n J) (hg:W.grownBy W' v.ownBlock):Soft W W' v.ownBlock:=by
 refine⟨hg,fun g G=>?_⟩;rcases h.2 with ⟨rfl,_⟩ | ⟨g',cap,cur,rfl,_,H,_,_,_,_,I⟩
 ·cases G
 ·cases G;exact⟨cur,_,_,H,I⟩
section
variable {W W':World} {row:Option Nat}
theorem Soft.mag (s:Soft W W' row) {u:Value} {x:Nat} (F:MagAt W u x):MagAt W' u x:=by
 cases row with
 | none=>exact F.below (qeI s.grown)
 | some g =>
  obtain⟨cs,t,fz,h,G⟩:=s.nn g rfl;exact qcl F s.grown h (qmz G)
theorem Soft.pairs (s:Soft W W' row) {H:List (Value×Bool)} {z:Nat->Int} (G:qco W H z):qco W' H z:=fun k F=>⟨(G k F).1,s.mag (G k F).2⟩
theorem Soft.mags (s:Soft W W' row) {G:List Value} {H:List Nat} (F:qdy W G H):qdy W' G H:=⟨F.1,fun k I=>s.mag (F.2 k I)⟩
theorem Soft.introw (s:Soft W W' row) {g m:Nat} {z:Nat->Int} (I:qcj W g m z) (hne:row≠some g):qcj W' g m z:=by
 obtain⟨ps,G,F,H⟩:=I;exact⟨ps,G,⟨(s.grown.block _ (qG F.1).1 (fun e=>hne e.symm)).trans F.1,F.2⟩,s.pairs H⟩
theorem Soft.blk (s:Soft W W' row) {g:Nat} {o:Obj} (F:W.heap[g]? = some o) (hne:row≠some g):W'.heap[g]? = some o :=
 (s.grown.block _ (qG F).1 (fun e=>hne e.symm)).trans F
theorem Soft.rws (s:Soft W W' row) {base:Nat} {e:TypeId} {F:Nat} {v:Value} {n:Nat} {G:List Value} (h:Rws W base e F v n G) (hne:v.ownBlock=none\/v.ownBlock≠row):Rws W' base e F v n G:=h.kept s.grown hne
theorem Soft.old (s:Soft W W' row) {a:World} {B:Nat} (G:Below B a W) (I:∀k,row=some k->B<=k) (F:B<=W.heap.size):Below B a W' :=
 G.trans ⟨s.grown.os,s.grown.tape,s.grown.output,s.grown.size,fun i H=>s.grown.block i (qai H F) (fun e=>by have:=I i e.symm;omega)⟩
end
theorem Rws.ne_row {w:World} {base:Nat} {e:TypeId} {F:Nat} {v:Value} {n:Nat} {O:List Value} (h:Rws w base e F v n O) {g:Nat} {cs:Array Value} {t:TypeId} {H:Nat×Nat} (J:w.heap[g]? = some (.cells cs t H)) (hne:e≠t):v.ownBlock≠some g:=by
 intro G;rcases h.2 with ⟨rfl,_⟩ | ⟨g',cap,cur,rfl,_,I,_⟩
 ·cases G
 ·cases G;have:=I.symm.trans J;simp at this;exact hne this.2.1
theorem Rws.ne_int {w:World} {base:Nat} {e:TypeId} {F:Nat} {v:Value} {n:Nat} {I:List Value} (h:Rws w base e F v n I) {g m:Nat} {z:Nat->Int} (H:qcj w g m z) (hne:e≠242):v.ownBlock≠some g:=by
 obtain⟨ps,_,G,_⟩:=H;exact h.ne_row G.1 hne
theorem Rws.ne_low {w:World} {base:Nat} {e:TypeId} {F:Nat} {v:Value} {n:Nat} {H:List Value} (h:Rws w base e F v n H) {g:Nat} (hg:g<base):v.ownBlock≠some g:=fun G=>by have:=(h.lt g G).1;omega
theorem or_ne {a b:Option Nat} (h:a≠b):a=none\/a≠b:=qag h
theorem ql8 (F:List (Value×Bool)):∀(j:Nat) (x:Value×Bool),j<F.length->iflat (F.set j x)=((iflat F).set (j*2) x.1).set (j*2+1) (.bool x.2):=by
 induction F with
 | nil=>intro j x h;exact absurd h (by simp)
 | cons q F ih =>
  intro j x h;cases j with
  | zero=>rfl
  | succ j =>
   have e:∀l,iflat (q :: l)=q.1 :: .bool q.2 :: iflat l:=fun _=>rfl
   rw [List.set_cons_succ,e,e,ih j x (by simpa using h),show (j+1)*2=j*2+1+1 by omega];rfl
structure NSt (W:World) (h0:Nat) (t:Tbl) (bl wl:List FT) (n:Nat) (Sl St Sb:List Nat) (vl vt vb:Value) (gs:Nat->Nat) (ps:List (Value×Bool)) (vs:List Value) (T:Nat->Int):Prop where
 cs:W.heap[h0]? = some (.cells #[zs0] 278 (0,0))
 cl:W.heap[h0+1]? = some (.cells #[vl] 276 (0,0))
 ct:W.heap[h0+1+1]? = some (.cells #[vt] 237 (0,0))
 rl:Rws W (h0+1+1+1) 237 1 vl Sl.length (rowvs Sl.length (n+1) gs)
 rt:Rws W (h0+1+1+1) 242 2 vt St.length (iflat ps)
 rb:Rws W (h0+1+1+1) 238 1 vb Sb.length vs
 rows:∀p,p<Sl.length->qcj W (gs p) (n+1) (ftop (besides t bl (Sl.getD p 0)))
 ap:∀p,p<Sl.length->vt.ownBlock≠some (gs p)
 pt:qco W ps T
 pl:ps.length=St.length
 mb:qdy W vs (Sb.map (nden t bl wl))
section
variable {W:World} {h0:Nat} {t:Tbl} {bl wl:List FT} {n:Nat} {Sl St Sb:List Nat} {vl vt vb:Value} {gs:Nat->Nat} {ps:List (Value×Bool)} {vs:List Value} {T:Nat->Int}
theorem NSt.congrT {T':Nat->Int} (h:NSt W h0 t bl wl n Sl St Sb vl vt vb gs ps vs T) (e:∀p,p<St.length->T p=T' p):NSt W h0 t bl wl n Sl St Sb vl vt vb gs ps vs T' :=
 ⟨h.cs,h.cl,h.ct,h.rl,h.rt,h.rb,h.rows,h.ap,fun k F=>by rw [<-e k (by rw [<-h.pl];exact F)];exact h.pt k F,h.pl,h.mb⟩
theorem NSt.top (h:NSt W h0 t bl wl n Sl St Sb vl vt vb gs ps vs T) {j:Nat} (J:j<St.length):∃(g cap:Nat) (a:Option Addr) (m c:Nat) (b:Bool),vt=.slice (some ⟨g,0,none⟩) St.length cap/\g<W.heap.size/\h0+1+1+1<=g/\W.cell? ⟨g,j*2,none⟩=some (.slice a m c)/\W.cell? ⟨g,j*2+1,none⟩=some (.bool b)/\(∀k,W.frozen? ⟨g,k,none⟩=false)/\IntAt W (.agg #[.slice a m c,.bool b]) (T j):=by
 have I:=h.pl;obtain⟨a,m,c,b,e,H⟩:=qdk h.pt (k:=j) (by omega);rcases h.rt.2 with ⟨_,e0⟩ | ⟨g,cap,cur,e1,G,hg,_⟩
 ·omega
 ·have F:=h.rt.own.cells (g:=g) (by rw [e1];rfl);obtain⟨d0,d1⟩:=qfi ps j (.slice a m c,b) (by rw [<-e,qaa,qad (by omega)];rfl);have c0:=F _ _ d0;have c1:=F _ _ d1;rw [Addr.add_mid,qaH] at c0 c1;exact⟨g,cap,a,m,c,b,e1,(qG hg).1,G,c0,c1,fun k=>qF _ _ _ _ _ hg,H⟩
theorem NSt.below {W':World} (h:NSt W h0 t bl wl n Sl St Sb vl vt vb gs ps vs T) (F:Below W.heap.size W W'):NSt W' h0 t bl wl n Sl St Sb vl vt vb gs ps vs T :=
 have s:=Soft.ofBelow F
 ⟨s.blk h.cs (by simp),s.blk h.cl (by simp),s.blk h.ct (by simp),h.rl.below F,h.rt.below F,h.rb.below F,fun p G=>s.introw (h.rows p G) (by simp),h.ap,s.pairs h.pt,h.pl,s.mags h.mb⟩
theorem qeL {v:Value} {base:Nat} {e:TypeId} {F n:Nat} {H:List Value} (h:Rws W base e F v n H):qcy v:=by
 intro k d G;rcases h.2 with ⟨rfl,_⟩ | ⟨g,cap,cur,rfl,_⟩
 ·cases G
 ·cases G
theorem qgI {v:Value} (h:qcy v):∀x∈(#[v]:Array Value).toList,qcy x:=fun x hx=>by rw [qas.1 hx];exact h
theorem qjP {k n g:Nat} {F:Nat->Nat}:rowvs (k+1) n (fun p=>if p=k then g else F p)=rowvs k n F++[rowv g n]:=by
 unfold rowvs;rw [List.range_succ,qaZ]
 congr 1
 ·exact List.map_congr_left fun i G=>by
   have:=qbb.1 G;simp only [if_neg (show ¬i=k by omega)]
 ·simp only [qbw,qbL,if_true]
theorem qlj (k n g:Nat) (F:Nat->Nat):rowvs (k+1) n (fun p=>if p=k then g else F p)=rowvs k n F++[rowv g n]:=by
 unfold rowvs;rw [List.range_succ,qaZ]
 congr 1
 ·exact List.map_congr_left fun i G=>by
   have:=qbb.1 G;simp only [if_neg (show ¬i=k by omega)]
 ·simp only [qbw,qbL,if_true]
theorem NSt.addL (h:NSt W h0 t bl wl n Sl St Sb vl vt vb gs ps vs T) {g i:Nat} (hg:qcj W g (n+1) (ftop (besides t bl i))) (hne:vt.ownBlock≠some g) {O:World} {F:Value}
  (hr:Rws O (h0+1+1+1) 237 1 F (Sl.length+1) (rowvs Sl.length (n+1) gs++[rowv g (n+1)])) (Y:W.grownBy O vl.ownBlock) :
  NSt (O.setCell ⟨h0+1,0,none⟩ F) h0 t bl wl n (Sl++[i]) St Sb F vt vb (fun p=>if p=Sl.length then g else gs p) ps vs T:=by
 have H:=Soft.ofRws h.rl Y;have c1:=H.blk h.cl (h.rl.ne_low (by omega));have J:=Soft.ofSet c1 (qgI (qeL h.rl)) 0 F;have G:∀{base:Nat} {e:TypeId} {I:Nat} {v:Value} {m:Nat} {xs:List Value},Rws O (h0+1+1+1) e I v m xs->Rws (O.setCell ⟨h0+1,0,none⟩ F) (h0+1+1+1) e I v m xs:=fun r=>J.rws r (or_ne (r.ne_low (by omega)))
 have U:∀{V:Nat} {z:Nat->Int},qcj W V (n+1) z->qcj (O.setCell ⟨h0+1,0,none⟩ F) V (n+1) z:=fun {V z} r=>by
  have r1:=H.introw r (h.rl.ne_int r (by decide));refine J.introw r1 fun e=>?_
  cases e;obtain⟨ps',_,h2,_⟩:=r1;have:=h2.1.symm.trans c1;simp at this
 refine⟨J.blk (H.blk h.cs (h.rl.ne_low (by omega))) (by simp),?_,J.blk (H.blk h.ct (h.rl.ne_low (by omega))) (by simp),?_,G (base:=0) (H.rws h.rt (h.rt.ne h.rl (by decide))),G (base:=0) (H.rws h.rb (h.rb.ne h.rl (by decide))),fun p Z=>?_,fun p Z=>?_,J.pairs (H.pairs h.pt),h.pl,J.mags (H.mags h.mb)⟩
 ·exact heap_setCell_same _ _ 0 _ _ _ c1
 ·rw [qaf,qaw,qlj];exact G (base:=0) hr
 ·rw [qaf,qaw] at Z
  by_cases e:p=Sl.length
  ·subst e;simp only [if_true];rw [qfS];exact U hg
  ·simp only [if_neg e];rw [qfT (by omega)];exact U (h.rows p (by omega))
 ·rw [qaf,qaw] at Z
  by_cases e:p=Sl.length
  ·subst e;simp only [if_true];exact hne
  ·simp only [if_neg e];exact h.ap p (by omega)
theorem nst_cl (h:NSt W h0 t bl wl n Sl St Sb vl vt vb gs ps vs T) {G:World} (F:W.grownBy G vl.ownBlock):G.cell? ⟨h0+1,0,none⟩=some vl/\G.frozen? ⟨h0+1,0,none⟩=false:=by
 have c1:=(Soft.ofRws h.rl F).blk h.cl (h.rl.ne_low (by omega));exact⟨qC _ _ 0 _ _ _ c1,qF _ _ 0 _ _ c1⟩
theorem nst_soft (h:NSt W h0 t bl wl n Sl St Sb vl vt vb gs ps vs T) {H:World} (G:W.grownBy H vl.ownBlock) (u:Value) :
  (∀v x,MagAt W v x->MagAt (H.setCell ⟨h0+1,0,none⟩ u) v x)/\∀(a:World) (B:Nat),Below B a W->B<=h0+1->B<=W.heap.size->Below B a (H.setCell ⟨h0+1,0,none⟩ u):=by
 have F:=Soft.ofRws h.rl G;have c1:=F.blk h.cl (h.rl.ne_low (by omega));have J:=Soft.ofSet c1 (qgI (qeL h.rl)) 0 u;exact⟨fun v x U=>J.mag (F.mag U),fun a B O V I=>J.old (F.old O (fun k e=>by have:=(h.rl.lt k e).1;omega) I) (fun k e=>by have:=qah e;omega) (qaj I F.grown.size)⟩
theorem qmB (h:NSt W h0 t bl wl n Sl St Sb vl vt vb gs ps vs T) {H:World} (G:W.grownBy H vt.ownBlock) (u:Value) :
  (∀v x,MagAt W v x->MagAt (H.setCell ⟨h0+1+1,0,none⟩ u) v x)/\∀(a:World) (B:Nat),Below B a W->B<=h0+1->B<=W.heap.size->Below B a (H.setCell ⟨h0+1+1,0,none⟩ u):=by
 have F:=Soft.ofRws h.rt G;have c1:=F.blk h.ct (h.rt.ne_low (by omega));have J:=Soft.ofSet c1 (qgI (qeL h.rt)) 0 u;exact⟨fun v x U=>J.mag (F.mag U),fun a B O V I=>J.old (F.old O (fun k e=>by have:=(h.rt.lt k e).1;omega) I) (fun k e=>by have:=qah e;omega) (qaj I F.grown.size)⟩
theorem nst_ct (h:NSt W h0 t bl wl n Sl St Sb vl vt vb gs ps vs T) {G:World} (F:W.grownBy G vt.ownBlock):G.cell? ⟨h0+1+1,0,none⟩=some vt/\G.frozen? ⟨h0+1+1,0,none⟩=false:=by
 have c1:=(Soft.ofRws h.rt F).blk h.ct (h.rt.ne_low (by omega));exact⟨qC _ _ 0 _ _ _ c1,qF _ _ 0 _ _ c1⟩
theorem NSt.addT (h:NSt W h0 t bl wl n Sl St Sb vl vt vb gs ps vs T) {i:Nat} {m:Value} (hm:MagAt W m (T St.length).natAbs) {O:World} {F:Value}
  (hr:Rws O (h0+1+1+1) 242 2 F (St.length+1) (iflat ps++[m,.bool (decide (T St.length<0))])) (Y:W.grownBy O vt.ownBlock) (ho:F.ownBlock=vt.ownBlock\/F.ownBlock=some W.heap.size) :
  NSt (O.setCell ⟨h0+1+1,0,none⟩ F) h0 t bl wl n Sl (St++[i]) Sb vl F vb gs (ps++[(m,decide (T St.length<0))]) vs T:=by
 have H:=Soft.ofRws h.rt Y;have c1:=H.blk h.ct (h.rt.ne_low (by omega));have I:=Soft.ofSet c1 (qgI (qeL h.rt)) 0 F;have G:∀{e:TypeId} {size:Nat} {v:Value} {m:Nat} {Z:List Value},Rws O (h0+1+1+1) e size v m Z->Rws (O.setCell ⟨h0+1+1,0,none⟩ F) (h0+1+1+1) e size v m Z:=fun r=>I.rws r (or_ne (r.ne_low (by omega)))
 refine⟨I.blk (H.blk h.cs (h.rt.ne_low (by omega))) (fun e=>by have:=qah e;omega),I.blk (H.blk h.cl (h.rt.ne_low (by omega))) (fun e=>by have:=qah e;omega),?_,G (H.rws h.rl (h.rl.ne h.rt (by decide))),?_,G (H.rws h.rb (h.rb.ne h.rt (by decide))),fun p J=>?_,fun p J=>?_,?_,?_,I.mags (H.mags h.mb)⟩
 ·exact heap_setCell_same _ _ 0 _ _ _ c1
 ·rw [qaf,qaw,qfh];exact G hr
 ·have r1:=H.introw (h.rows p J) (h.ap p J);refine I.introw r1 fun e=>?_
  have V:=qah e;obtain⟨ps',_,U,_⟩:=r1;rw [<-V] at U;have:=U.1.symm.trans c1;simp at this
 ·rcases ho with e | e
  ·rw [e];exact h.ap p J
  ·rw [e];intro V;obtain⟨ps',_,U,_⟩:=h.rows p J;have:=(qG U.1).1;have:=qah V;omega
 ·have:=(I.pairs (H.pairs h.pt)).snoc (v:=m) (by rw [h.pl];exact I.mag (H.mag hm));rw [h.pl] at this;exact this
 ·rw [qaf,qaf,h.pl];rfl
theorem NSt.addT2 (h:NSt W h0 t bl wl n Sl St Sb vl vt vb gs ps vs T) {i:Nat} {a:Option Addr} {m c:Nat} {b:Bool} {z:Int} (O:z=T St.length) (U:IntAt W (.agg #[.slice a m c,.bool b]) z) {H:World} {F:Value}
  (J:Rws H (h0+1+1+1) 242 2 F (St.length+1) (iflat ps++[.slice a m c,.bool b])) (G:W.grownBy H vt.ownBlock) (V:F.ownBlock=vt.ownBlock\/F.ownBlock=some W.heap.size) :
  NSt (H.setCell ⟨h0+1+1,0,none⟩ F) h0 t bl wl n Sl (St++[i]) Sb vl F vb gs (ps++[(.slice a m c,b)]) vs T:=by
 obtain⟨m',e,I⟩:=U;simp only [qaV,qa3,qaU,qbO] at e;obtain⟨e1,e2,_⟩:=e;rw [<-e1,O] at I;rw [O] at e2;rw [e2] at J ⊢;exact h.addT I J G V
theorem NSt.addB (h:NSt W h0 t bl wl n Sl St Sb vl vt vb gs ps vs T) {i:Nat} {m:Value} (O:MagAt W m (nden t bl wl i)) {I:World} {G:Value}
  (U:Rws I (h0+1+1+1) 238 1 G (Sb.length+1) (vs++[m])) (H:W.grownBy I vb.ownBlock) :
  NSt I h0 t bl wl n Sl St (Sb++[i]) vl vt G gs ps (vs++[m]) T:=by
 have F:=Soft.ofRws h.rb H;refine⟨F.blk h.cs (h.rb.ne_low (by omega)),F.blk h.cl (h.rb.ne_low (by omega)),F.blk h.ct (h.rb.ne_low (by omega)),F.rws h.rl (h.rl.ne h.rb (by decide)),F.rws h.rt (h.rt.ne h.rb (by decide)),?_,fun p J=>F.introw (h.rows p J) (h.rb.ne_int (h.rows p J) (by decide)),h.ap,F.pairs h.pt,h.pl,?_⟩
 ·rw [qaf,qaw];exact U
 ·rw [qaZ];exact (F.mags h.mb).snoc (F.mag O)
theorem NSt.setSoft {g m cap:Nat} (h:NSt W h0 t bl wl n Sl St Sb vl (.slice (some ⟨g,0,none⟩) m cap) vb gs ps vs T) (j U:Nat) (u V:Value):Soft W ((W.setCell ⟨g,j,none⟩ u).setCell ⟨g,U,none⟩ V) (some g):=by
 rcases h.rt.2 with ⟨e,_⟩ | ⟨G,cap',cur,e,Y,hg,J,H,I,O,F⟩
 ·cases e
 simp only [qbE,Option.some.injEq,Addr.mk.injEq] at e;obtain⟨⟨rfl,_⟩,_,rfl⟩:=e;exact⟨qbX (qbT _ _ _ _) (qbT _ _ _ _),fun G e=>by cases e;exact⟨_,_,_,hg,F⟩⟩
theorem NSt.setT {g cap:Nat} (h:NSt W h0 t bl wl n Sl St Sb vl (.slice (some ⟨g,0,none⟩) St.length cap) vb gs ps vs T) {j:Nat} (hj:j<St.length) {a:Option Addr} {m c:Nat} {b:Bool} {z:Int} (hi:IntAt W (.agg #[.slice a m c,.bool b]) z) :
  NSt ((W.setCell ⟨g,j*2,none⟩ (.slice a m c)).setCell ⟨g,j*2+1,none⟩ (.bool b)) h0 t bl wl n Sl St Sb vl (.slice (some ⟨g,0,none⟩) St.length cap) vb gs (ps.set j (.slice a m c,b)) vs (fun p=>if p=j then z else T p):=by
 obtain⟨hl,Y⟩:=h.rt;rcases Y with ⟨e,_⟩ | ⟨g',cap',cur,e,hB,hg,V,J,O,Z,H⟩
 ·cases e
 simp only [qbE,Option.some.injEq,Addr.mk.injEq] at e;obtain⟨⟨rfl,_⟩,_,rfl⟩:=e;have U:=heap_setCell_same _ g (j*2+1) _ _ (.bool b) (heap_setCell_same _ g (j*2) _ _ (.slice a m c) hg);have F:Soft W ((W.setCell ⟨g,j*2,none⟩ (.slice a m c)).setCell ⟨g,j*2+1,none⟩ (.bool b)) (some g):=⟨qbX (qbT _ _ _ _) (qbT _ _ _ _),fun g' e=>by cases e;exact⟨_,_,_,hg,H⟩⟩;have ne:∀{x:Nat},x<h0+1+1+1->(some g:Option Nat)≠some x:=fun hx e=>by have:=qah e;omega
 have I:=h.pl;refine⟨F.blk h.cs (ne (by omega)),F.blk h.cl (ne (by omega)),F.blk h.ct (ne (by omega)),F.rws h.rl (h.rl.ne h.rt (by decide)),⟨by rw [qd1,qaC,I],qag ⟨g,cap,_,rfl,hB,U,V,J,by rw [Array.size_setIfInBounds,Array.size_setIfInBounds];exact O,?_,?_⟩⟩,F.rws h.rb (h.rb.ne h.rt (by decide)),fun p hp=>F.introw (h.rows p hp) (h.ap p hp),h.ap,?_,by rw [qaC];exact I,F.mags h.mb⟩
 ·rw [Array.toList_setIfInBounds,Array.toList_setIfInBounds,List.take_set,List.take_set,Z];exact (ql8 ps j (.slice a m c,b) (by omega)).symm
 ·intro x hx;rw [Array.toList_setIfInBounds,Array.toList_setIfInBounds] at hx;rcases List.mem_or_eq_of_mem_set hx with hx | rfl
  ·rcases List.mem_or_eq_of_mem_set hx with hx | rfl
   ·exact H x hx
   ·exact fun k d e=>by cases e
  ·exact fun k d e=>by cases e
 ·intro k hk;rw [qaC] at hk
  by_cases e:k=j
  ·subst e;simp only [if_true];rw [qaa,List.getElem?_set_self (by omega)];obtain⟨m',e,hm⟩:=hi;simp only [qaV,qa3,qaU,qbO] at e;have G:=F.mag hm;rw [<-e.1] at G;exact⟨e.2.1,G⟩
  ·simp only [if_neg e];rw [qaa,qbx (fun h=>e h.symm),<-qaa];exact F.pairs h.pt k hk
theorem NSt.soft {W':World} {row:Option Nat} (h:NSt W h0 t bl wl n Sl St Sb vl vt vb gs ps vs T) (s:Soft W W' row) (O:∀g,row=some g->h0+1+1+1<=g/\vl.ownBlock≠some g/\vt.ownBlock≠some g/\vb.ownBlock≠some g/\∀p,p<Sl.length->gs p≠g):NSt W' h0 t bl wl n Sl St Sb vl vt vb gs ps vs T:=by
 cases row with
 | none=>exact h.below (qeI s.grown)
 | some g =>
  obtain⟨U,G,H,I,J⟩:=O g rfl;have ne:∀{x:Nat},x<h0+1+1+1->(some g:Option Nat)≠some x:=fun hx e=>by have:=qah e;omega
  exact⟨s.blk h.cs (ne (by omega)),s.blk h.cl (ne (by omega)),s.blk h.ct (ne (by omega)),s.rws h.rl (or_ne G),s.rws h.rt (or_ne H),s.rws h.rb (or_ne I),fun p F=>s.introw (h.rows p F) (fun e=>J p F (qah e).symm),h.ap,s.pairs h.pt,h.pl,s.mags h.mb⟩
theorem NSt.lt (h:NSt W h0 t bl wl n Sl St Sb vl vt vb gs ps vs T) {g:Nat} (hg:W.heap.size<=g):h0+1+1+1<=g/\vl.ownBlock≠some g/\vt.ownBlock≠some g/\vb.ownBlock≠some g/\∀p,p<Sl.length->gs p≠g:=by
 have H:=(qG h.ct).1;refine⟨by omega,fun e=>?_,fun e=>?_,fun e=>?_,fun p G e=>?_⟩
 ·have:=(h.rl.lt g e).2;omega
 ·have:=(h.rt.lt g e).2;omega
 ·have:=(h.rb.lt g e).2;omega
 ·obtain⟨ps',_,F,_⟩:=h.rows p G;have:=(qG F.1).1;omega
theorem qmD {k:Nat} {al J:Option Addr} {cl ct:Nat} (hk:Sl.length=k) (h:NSt W h0 t bl wl n Sl Sl Sl (.slice al k cl) (.slice J k ct) vb gs ps vs (fun p=>nfac t bl wl Sl (Sl.getD p 0))) (hS:∀x∈Sl,NRow t bl wl x/\(besides t bl x).length=n+1) (ag:k<=40) {r c p Z U:Nat} (hp:p<k) (aa:r<n+1) (V:c<n+1) (hn:n<=10)
  (cr:W.cell? ⟨Z,0,none⟩=some (.int .i64 r)) (cc:W.cell? ⟨U,0,none⟩=some (.int .i64 c)) :
  Calls prog 252 #[.int .i64 p,.pointer (some ⟨h0+1+1,0,none⟩),.pointer (some ⟨h0+1,0,none⟩),.pointer (some ⟨Z,0,none⟩),.pointer (some ⟨U,0,none⟩)] W fun e w'=>∃u,e=.returned u/\Below W.heap.size W w'/\IntAt w' u (nterm t bl wl Sl r c (Sl.getD p 0)):=by
 have F:p<Sl.length:=by omega
 have H:=hS _ (qcv F);obtain⟨gt,af,a2,m2,d2,b2,et,_,_,t0,t1,_,Y⟩:=h.top F;rw [hk] at et;simp only [qbE,true_and] at et;obtain⟨rfl,rfl⟩:=et;obtain⟨ao,gl,ae,el,I,_⟩:=h.rl.vcells;rw [hk] at el;simp only [qbE,true_and] at el;obtain⟨rfl,rfl⟩:=el;have O:=I.addr (by rw [qcC];omega);subst O;have G:=I.cell p (by rw [qcC];exact F);rw [qaH,qaa,qd4 F] at G;exact qmC (h0+1+1) (h0+1) Z U gt ct gl cl k p r c (gs p) (n+1) a2 m2 d2 b2 _ _ 61788 4356 (by omega) W (qC _ _ 0 _ _ _ h.ct) (qC _ _ 0 _ _ _ h.cl) cr cc t0 t1 Y G (h.rows p F) hp (by omega) aa V (by omega) (qkp (fun x hx=>(hS x hx).1) (by omega) F) (fun i hi=>(qdd H.1.fa (m:=63) (by omega) (by omega)).mono (by omega))
end
theorem qi0 {W:World} {F R k n g:Nat} {G:Nat->Nat} (h:W.heap[F]? = some (.cells (rowvs k n G++List.replicate (R-k) zs0).toArray 237 (0,0))) (I:k<R) :
  (W.setCell ⟨F,k,none⟩ (rowv g n)).heap[F]? = some (.cells (rowvs (k+1) n (fun j=>if j=k then g else G j)++List.replicate (R-(k+1)) zs0).toArray 237 (0,0)):=by
 rw [heap_setCell_same _ F k _ _ _ h]
 congr 3
 obtain⟨m,H⟩:∃m,R-k=m+1:=⟨R-k-1,by omega⟩;rw [qaB,H,qbo,qa6 _ _ (by rw [qcC];exact qae _),qcC,qaJ,qbi,show R-(k+1)=m by omega];rw [qjP,qaE];rfl
theorem qiZ {W:World} {H R k n:Nat} {F:Nat->Nat} (h:W.heap[H]? = some (.cells (rowvs k n F++List.replicate (R-k) zs0).toArray 237 (0,0))) {j:Nat} (G:j<k):W.cell? ⟨H,j,none⟩=some (rowv (F j) n):=by
 refine (qC _ _ _ _ _ _ h).trans ?_;rw [qav,qar (by rw [qcC];exact G),qd4 G]
