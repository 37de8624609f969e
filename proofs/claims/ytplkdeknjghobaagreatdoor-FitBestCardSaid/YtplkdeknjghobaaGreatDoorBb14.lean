import Derived.Maps.AppendAt
import Derived.Test.YtplkdeknjghobaaGreatDoorBb13
set_option maxRecDepth 100000
set_option maxHeartbeats 0
namespace Go.Proofs.YtplkdeknjghobaaGreatDoor
open Go.RowKit
def qcD (x:Value):Prop:=∀k d,x≠.int k d
def Rws (w:World) (base:Nat) (e:TypeId) (size:Nat) (v:Value) (n:Nat) (H:List Value):Prop :=
  H.length=n*size /\
  ((v=.slice none 0 0/\n=0) \/
   ∃g cap F,v=.slice (some ⟨g,0,none⟩) n cap/\base<=g/\w.heap[g]? = some (.cells F e (0,0))/\n<=cap/\cap<=maxLen/\F.size=cap*size/\F.toList.take (n*size)=H/\∀x∈F.toList,qcD x)
section
variable {w:World} {base:Nat} {e:TypeId} {size:Nat} {v:Value} {n:Nat} {xs:List Value}
theorem Rws.own (h:Rws w base e size v n xs):w.ownsRow base e size v n xs:=by
 refine⟨h.1,?_⟩;rcases h.2 with h | ⟨g,cap,cur,F,H,I,J,O,U,V,_⟩
 ·exact qan h
 ·exact qag ⟨g,cap,cur,F,H,I,J,O,U,V⟩
theorem Rws.nil (w:World) (base:Nat) (e:TypeId) (F:Nat):Rws w base e F (.slice none 0 0) 0 []:=⟨by simp,.inl ⟨rfl,rfl⟩⟩
theorem Rws.kept {H:World} {row:Option Nat} (h:Rws w base e size v n xs) (hg:w.grownBy H row) (hne:v.ownBlock=none\/v.ownBlock≠row):Rws H base e size v n xs:=by
 refine⟨h.1,?_⟩;rcases h.2 with h | ⟨g,cap,cur,rfl,I,F,J⟩
 ·exact qan h
 ·refine qag ⟨g,cap,cur,rfl,I,(hg.block g (qG F).1 ?_).trans F,J⟩;rcases hne with hne | hne
  ·cases hne
  ·exact hne
theorem Rws.below {H:World} (h:Rws w base e size v n xs) (O:Below w.heap.size w H):Rws H base e size v n xs:=by
 refine⟨h.1,?_⟩;rcases h.2 with h | ⟨g,cap,cur,rfl,I,F,J⟩
 ·exact qan h
 ·exact qag ⟨g,cap,cur,rfl,I,(O.block g (qG F).1).trans F,J⟩
theorem Rws.lt (h:Rws w base e size v n xs):∀k,v.ownBlock=some k->base<=k/\k<w.heap.size:=h.own.lt
theorem Rws.shape (h:Rws w base e size v n xs):∃(F:Option Addr) (cap:Nat),v=.slice F n cap:=by
 rcases h.2 with ⟨rfl,rfl⟩ | ⟨g,cap,cur,rfl,_⟩
 ·exact⟨none,0,rfl⟩
 ·exact⟨_,_,rfl⟩
theorem Rws.ne {F:Nat} {O:TypeId} {H:Nat} {V:Value} {n':Nat} {J:List Value} (h:Rws w base e size v n xs) (Y:Rws w F O H V n' J) (he:e≠O):v.ownBlock=none\/v.ownBlock≠V.ownBlock:=by
 rcases h.2 with ⟨rfl,_⟩ | ⟨g,cap,cur,rfl,_,Z,_⟩
 ·exact qan rfl
 ·refine qag fun U=>?_
  rcases Y.2 with ⟨rfl,_⟩ | ⟨g',cap',cur',rfl,_,I,_⟩
  ·cases U
  ·have:g=g':=qah U;subst this;have:=Z.symm.trans I;simp at this;exact he this.2
end
theorem Rws.vcells {w:World} {base:Nat} {e:TypeId} {v:Value} {n:Nat} {I:List Value} (h:Rws w base e 1 v n I):∃(J:Option Addr) (g cap:Nat),v=.slice J n cap/\VCells w J g 0 I/\n<=cap:=by
 have V:=h.1;rw [qbO] at V;have F:=h.own;rcases h.2 with ⟨rfl,rfl⟩ | ⟨g,cap,cur,rfl,_,_,U,_⟩
 ·exact⟨none,0,0,rfl,⟨fun O=>absurd O (by omega),fun k H=>absurd H (by omega)⟩,qae _⟩
 ·refine⟨some ⟨g,0,none⟩,g,cap,rfl,⟨fun _=>rfl,fun k H=>?_⟩,U⟩;have:=F.cells (g:=g) rfl k (I.getD k undef) (by rw [qaa,qad H];rfl)
  rwa [Addr.add_mid] at this
theorem qeN {w F:World} (h:w.grownBy F none):Below w.heap.size w F:=⟨h.os,h.tape,h.output,h.size,fun i H=>h.block i H (fun e=>by cases e)⟩
section
variable {w w':World} {base:Nat} {e:TypeId} {size:Nat} {v:Value} {n:Nat} {xs:List Value}
theorem qm6 {F:Array Value} (h:∀x∈F.toList,qcD x):∀x∈F.toList,∀d,x≠.int .u32 d:=fun x hx d=>h x hx .u32 d
theorem Rws.old (h:Rws w base e size v n xs) (hg:w.grownBy w' v.ownBlock) {a:World} {B:Nat} (I:Below B a w) (O:B<=base) (F:B<=w.heap.size):Below B a w' :=
 I.trans ⟨hg.os,hg.tape,hg.output,hg.size,fun i J=>hg.block i (qai J F) (fun H=>by
  have:=(h.lt i H.symm).1;omega)⟩
end
section
variable {P:Program}
theorem qgr {z:Value} (J:∀x∈z.cells.toList,qcD x) (n:Nat):∀x∈(Builtin.zeroCells z.cells n).toList,qcD x:=by
 intro x hx;obtain⟨i,I,he⟩:=List.getElem_of_mem hx;have F:0<z.cells.size:=by
  rcases qaU z.cells.size with h | h
  ·have:=size_zeroCells z.cells n;rw [h,Nat.mul_zero] at this;rw [qbm] at I;omega
  ·exact h
 have H:x=z.cells[i % z.cells.size]!:=by
  rw [<-he];simp [Builtin.zeroCells]
 rw [H,getElem!_pos z.cells _ (qbD _ F)];exact J _ (by simp)
theorem qe2 (w:World) (base:Nat) (t ty e:TypeId) (i:TypeInfo) (z:Value) (size bytes:Nat) (ht:P.underlying t=some (.slice e)) (hi:P.info? e=some i) (hz:i.zero=some z)
  (ah:i.size=size) (ax:i.bytes=bytes) (ak:z.cells.size=size) (aC:0<size) (aj:∀x∈z.cells.toList,qcD x)
  (v:Value) (n:Nat) (xs:List Value) (H:Rws w base e size v n xs)
  (a:Addr) (m c:Nat) (F:List Value) (Z:F.length=m*size) (J:∀j u,F[j]? = some u->w.cell? (a.add j)=some u) (h1:∀u∈F,u.oneCell'=true) (ag:∀u∈F,qcD u) (aA:0<m)
  (aa:n+m<=maxLen) (U:(n+m)*bytes<=140737488355328) (V:base<=w.heap.size) :
  ∃v' w',(Builtin.append_ #[t,t] ty #[v,.slice (some a) m c]).run P w=.ok v' w'/\Rws w' base e size v' (n+m) (xs++F)/\w.grownBy w' v.ownBlock/\(v'.ownBlock=v.ownBlock\/v'.ownBlock=some w.heap.size):=by
 subst ah;subst ax;have au:n+m<=9223372036854775807:=by simp only [maxLen] at aa;omega
 have I:(xs++F).length=(n+m)*i.size:=by rw [qaf,H.1,Z,qaE]
 rcases H.2 with ⟨rfl,rfl⟩ | ⟨g,cap,cur,rfl,av,hg,aB,ay,az,Y,ae⟩
 ·have hx:xs=[]:=List.eq_nil_of_length_eq_zero (by simpa using H.1);subst hx;have hr:=run_append_nil (P:=P) w t ty e i z ht hi hz a m c F Z J aA (by omega) (by have hb:=U;simp only [qaM] at hb;omega);have af:=grownCap_ge w m 0 e;refine⟨_,_,hr,⟨by simpa using I,.inr ⟨w.heap.size,_,_,by rw [qaM],V,heap_alloc_new w.drew _,by rw [qaM];exact af,grownCap_le_maxLen w m 0 e (by simpa using aa),?_,?_,?_⟩⟩,⟨rfl,rfl,rfl,by simp,fun k hk _=>qL w.drew _ k hk⟩,qag rfl⟩
  ·simp only [Array.size_append,qbG,size_zeroCells,ak,Z,<-qaE]
   congr 1;omega
  ·rw [qaM,qbq,<-Z,qbf];exact List.take_left
  ·intro x hx;rw [qbf] at hx;rcases qaK.1 hx with h | h
   ·exact ag x h
   ·exact qgr aj _ x h
 ·by_cases O:n+m<=cap
  ·have ai:n*i.size+F.length<=cur.size:=by rw [Z,az,<-qaE];exact qaH _ O
   have hr:=run_append_room (P:=P) w t ty e i ht hi g n cap cur hg a m c F Z J h1 O ai;refine⟨_,_,hr,⟨I,.inr ⟨g,cap,_,rfl,av,qT w g cur _ e _ hg,O,ay,?_,?_,?_⟩⟩,⟨rfl,rfl,rfl,by simp,fun k _ hk=>setRow_other w g k _ (fun e=>hk (by simp [Value.ownBlock,e]))⟩,qan rfl⟩
   ·simp only [qbG,qaf,qax,qbd,qbm];omega
   ·rw [Y,<-I];exact List.take_left
   ·intro x hx;rcases qaK.1 hx with h | h
    ·rcases qaK.1 h with h | h
     ·exact ae x (qbL h)
     ·exact ag x h
    ·exact ae x (List.mem_of_mem_drop h)
  ·have holds:∀j u,xs[j]? = some u->w.cell? ((⟨g,0,none⟩:Addr).add j)=some u:=H.own.cells (g:=g) rfl;have hr:=run_append_grow (P:=P) w t ty e i z ht hi hz ⟨g,0,none⟩ n cap xs H.1 holds a m c F Z J (by omega) (by omega) (growslice_fits (by omega) U);have af:=grownCap_ge w (n+m) cap e;refine⟨_,_,hr,⟨I,.inr ⟨w.heap.size,_,_,rfl,V,heap_alloc_new w.drew _,af,grownCap_le_maxLen w (n+m) cap e aa,?_,?_,?_⟩⟩,⟨rfl,rfl,rfl,by simp,fun k hk _=>qL w.drew _ k hk⟩,qag rfl⟩
   ·simp only [Array.size_append,qbG,size_zeroCells,ak,H.1,Z,<-qaE]
    congr 1;omega
   ·simp only [qbf,qaI];rw [<-qaI,<-I];exact List.take_left
   ·intro x hx;rw [qbf,qbf] at hx;rcases qaK.1 hx with h | h
    ·rcases qaK.1 h with h | h
     ·rw [<-Y] at h;exact ae x (qbL (by simpa using h))
     ·exact ag x h
    ·exact qgr aj _ x h
theorem qig {w:World} {o:Oper} {a:Act} {K:Act->World->Prop} {Q:Exit->Act->World->Prop} (s x:Operand) (t:TypeId)
  (ho:o.op=.call { callee:=.builtin .append,args:=#[s,x],argTypes:=#[t,t] })
  (base:Nat) (e:TypeId) (i:TypeInfo) (z:Value) (size bytes:Nat) (ht:P.underlying t=some (.slice e)) (hi:P.info? e=some i) (hz:i.zero=some z)
  (O:i.size=size) (ae:i.bytes=bytes) (aj:z.cells.size=size) (ah:0<size) (ai:∀x∈z.cells.toList,qcD x)
  (v:Value) (n:Nat) (xs:List Value) (hs:a.eval s=v) (V:Rws w base e size v n xs)
  (Z:Addr) (m c:Nat) (F:List Value) (hx:a.eval x=.slice (some Z) m c) (hl:F.length=m*size) (J:∀j u,F[j]? = some u->w.cell? (Z.add j)=some u) (h1:∀u∈F,u.oneCell'=true) (ag:∀u∈F,qcD u) (af:0<m)
  (aa:n+m<=maxLen) (H:(n+m)*bytes<=140737488355328) (I:base<=w.heap.size)
  (h:∀U Y,Rws Y base e size U (n+m) (xs++F)->w.grownBy Y v.ownBlock->(U.ownBlock=v.ownBlock\/U.ownBlock=some w.heap.size)->K (a.put o.dst U) Y) :
  Oper.wp P o a w K Q:=by
 obtain⟨U,Y,hr,h2,h3,h4⟩:=qe2 (P:=P) w base t o.type e i z size bytes ht hi hz O ae aj ah ai v n xs V Z m c F hl J h1 ag af aa H I;unfold Oper.wp execOp;simp only [ho,resolve,invoke,builtin,Sem.run_bind,Sem.run_pure,Result.andThen_ok,List.map_toArray,qbv,qbQ,hs,hx,hr];exact h U Y h2 h3 h4
theorem qg8 {w:World} {V:Array Oper} {o:Oper} {a:Act} {K:Act->World->Prop} {Q:Exit->Act->World->Prop} {E:Prop} (af:o.guard=none) (s x:Operand) (t:TypeId)
  (ho:o.op=.call { callee:=.builtin .append,args:=#[s,x],argTypes:=#[t,t] })
  (base:Nat) (e:TypeId) (i:TypeInfo) (z:Value) (size bytes:Nat) (ht:P.underlying t=some (.slice e)) (hi:P.info? e=some i) (hz:i.zero=some z)
  (O:i.size=size) (ae:i.bytes=bytes) (ak:z.cells.size=size) (ai:0<size) (aj:∀x∈z.cells.toList,qcD x)
  (v:Value) (n:Nat) (xs:List Value) (hs:a.eval s=v) (U:Rws w base e size v n xs)
  (Z:Addr) (m c:Nat) (F:List Value) (hx:a.eval x=.slice (some Z) m c) (hl:F.length=m*size) (J:∀j u,F[j]? = some u->w.cell? (Z.add j)=some u) (h1:∀u∈F,u.oneCell'=true) (ah:∀u∈F,qcD u) (ag:0<m)
  (aa:n+m<=maxLen) (H:(n+m)*bytes<=140737488355328) (I:base<=w.heap.size)
  (h:∀Y w',Rws w' base e size Y (n+m) (xs++F)->w.grownBy w' v.ownBlock->(Y.ownBlock=v.ownBlock\/Y.ownBlock=some w.heap.size)->K (a.put o.dst Y) w') :
  if Region.wanted o (yielded V a.tmps)=true then Oper.wp P o a w K Q else E:=by
 have hw:Region.wanted o (yielded V a.tmps)=true:=by simp [Region.wanted,af]
 rw [if_pos hw];exact qig s x t ho base e i z size bytes ht hi hz O ae ak ai aj v n xs hs U Z m c F hx hl J h1 ah ag aa H I h
theorem qds {w:World} {Y:Array Oper} {rest:List Oper} {o:Oper} {a:Act} {Q:Exit->Act->World->Prop} (af:o.guard=none) (s x:Operand) (t:TypeId)
  (ho:o.op=.call { callee:=.builtin .append,args:=#[s,x],argTypes:=#[t,t] })
  (base:Nat) (e:TypeId) (i:TypeInfo) (z:Value) (size bytes:Nat) (ht:P.underlying t=some (.slice e)) (hi:P.info? e=some i) (hz:i.zero=some z)
  (O:i.size=size) (ae:i.bytes=bytes) (ak:z.cells.size=size) (ai:0<size) (aj:∀x∈z.cells.toList,qcD x)
  (v:Value) (n:Nat) (xs:List Value) (hs:a.eval s=v) (V:Rws w base e size v n xs)
  (ad:Addr) (m c:Nat) (F:List Value) (hx:a.eval x=.slice (some ad) m c) (hl:F.length=m*size) (J:∀j u,F[j]? = some u->w.cell? (ad.add j)=some u) (h1:∀u∈F,u.oneCell'=true) (ah:∀u∈F,qcD u) (ag:0<m)
  (aa:n+m<=maxLen) (H:(n+m)*bytes<=140737488355328) (I:base<=w.heap.size)
  (h:∀U Z,Rws Z base e size U (n+m) (xs++F)->w.grownBy Z v.ownBlock->(U.ownBlock=v.ownBlock\/U.ownBlock=some w.heap.size)->wpList P Y Q rest (a.put o.dst U) Z) :
  wpList P Y Q (o :: rest) a w:=by
 refine wpList_plain af fun K hK=>?_
 obtain⟨U,Z,hr,h2,h3,h4⟩:=qe2 (P:=P) w base t o.type e i z size bytes ht hi hz O ae ak ai aj v n xs V ad m c F hl J h1 ah ag aa H I;unfold Oper.wp execOp;simp only [ho,resolve,invoke,builtin,Sem.run_bind,Sem.run_pure,Result.andThen_ok,List.map_toArray,qbv,qbQ,hs,hx,hr];exact hK _ _ (h U Z h2 h3 h4)
end
open Go.Proofs.Tryz
theorem qna (pt pl pr pc gt ct gl cl k j r c g n:Nat) (a1:Option Addr) (n1 c1:Nat) (b1:Bool) (T:Int) (m:Nat->Int) (K J:Nat) (aC:K+J+J<=274877906944) (w:World)
  (h1:w.cell? ⟨pt,0,none⟩=some (.slice (some ⟨gt,0,none⟩) k ct)) (h2:w.cell? ⟨pl,0,none⟩=some (.slice (some ⟨gl,0,none⟩) k cl)) (h3:w.cell? ⟨pr,0,none⟩=some (.int .i64 r)) (h4:w.cell? ⟨pc,0,none⟩=some (.int .i64 c))
  (h5:w.cell? ⟨gt,j*2,none⟩=some (.slice a1 n1 c1)) (h6:w.cell? ⟨gt,j*2+1,none⟩=some (.bool b1)) (h7:IntAt w (.agg #[.slice a1 n1 c1,.bool b1]) T) (h8:w.cell? ⟨gl,j,none⟩=some (rowv g n)) (h9:qco w g n m)
  (hj:j<k) (_hk:k<=1048576) (hr:r<n) (hc:c<n) (_hn:n<=1048576) (hT:Fit T.natAbs K) (hm:∀i,i<n->Fit (m i).natAbs J) :
  Calls prog 252 #[.int .i64 j,.pointer (some ⟨pt,0,none⟩),.pointer (some ⟨pl,0,none⟩),.pointer (some ⟨pr,0,none⟩),.pointer (some ⟨pc,0,none⟩)] w fun e w'=>∃u,e=.returned u/\Below w.heap.size w w'/\IntAt w' u (T*m r*m c):=by
 obtain⟨I,Y⟩:=qY (w.alloc (.cells #[.slice none 0 0,.bool false] 242));have H:Below w.heap.size w I:=Y▸qbU qB qN;have ak:I.heap[w.heap.size]? = some (.cells #[.slice none 0 0,.bool false] 242 (0,0)):=by rw [Y];exact qM _ _ _ rfl
 have aj:qcm I w.heap.size 0:=⟨_,_,_,_,ak,_,rfl,MagAt.nil _⟩;obtain⟨a2,n2,c2,b2,p0,p1,i2⟩:=h9.pair hr;obtain⟨a3,n3,c3,b3,q0,q1,i3⟩:=h9.pair hc;have F:∀(p:Addr) (v:Value),w.cell? p=some v->∀W,I.grownBy W (some w.heap.size)->W.cell? p=some v:=fun p v h W hg=>by
  have aa:=qac w _ h;exact (qea hg (qai aa H.size) (Nat.ne_of_lt aa)).trans ((H.cell aa).trans h)
 have C1:=F _ _ h1;have C2:=F _ _ h2;have C3:=F _ _ h3;have C4:=F _ _ h4;have C5:=F _ _ h5;have C6:=F _ _ h6;have C8:=F _ _ h8;have C9:=F _ _ p0;have az:=F _ _ p1;have aA:=F _ _ q0;have aB:=F _ _ q1;have aF:(j:Int)<k:=by omega
 have aG:(r:Int)<n:=by omega
 have aD:(c:Int)<n:=by omega
 have au:=qH (fun W (h:Below I.heap.size I W)=>qcC T (m r) K J (by omega) _ _ W (h7.below (H.trans (h.mono H.size))) (i2.below (H.trans (h.mono H.size))) hT (hm r hr));have ag:Fit (T*m r).natAbs (K+J):=by rw [qaF];exact hT.mul (hm r hr)
 have av:=qH (fun W u (h:Below I.heap.size I W) (hu:IntAt W u (T*m r))=>qcC (T*m r) (m c) (K+J) J (by omega) u _ W hu (i3.below (H.trans (h.mono H.size))) ag (hm c hc));have V:=qH (qA H aj);have ay:Below I.heap.size I I:=Below.refl _ _;have U:Below I.heap.size I I.drew:=ay.drew;clear F h1 h2 h3 h4 h5 h6 h7 h8 h9 p0 p1 q0 q1 i2 i3 ag hT hm H ak aj;go_enter func252,ntmps252;go_wp2_with fail;rw [<-Y];clear Y
 go_region_held3 (fun W=>I.grownBy W (some w.heap.size)) (first | with_reducible exact qc5 _ _ | with_reducible exact qb5 _ U | with_reducible exact qb5 _ Z | with_reducible exact qb5 _ O | exact qbZ (qbZ (qb5 _ O) (qbW _ _ _ _)) (qbW _ _ _ _)) (first | (go_at_call_of 172 (Value.agg #[.slice a1 n1 c1,.bool b1]);refine (au.o _ U).mono ?_;rintro e w5 ⟨u5,rfl,ah,ae⟩;have Z:Below I.heap.size I w5:=bjoin U ah;have ax:=qH ae;obtain⟨a5,n5,c5,b5,rfl⟩:=qbV ae;clear ah ae) | (go_at_call 172;refine (av.o _ _ Z ax.o).mono ?_;rintro e w6 ⟨u6,rfl,ai,af⟩;have O:Below I.heap.size I w6:=bjoin Z ai;obtain⟨a6,n6,c6,b6,rfl⟩:=qbV af;obtain⟨_,_,_,_,⟨z0,z1⟩,⟨f0,f1⟩,_⟩:=(V.o.2.below O).cells;have HX:=qH ((V.o.2.below O).row2 af);clear ai af))
 all_goals go_wp2_with fail
 all_goals exact qR (v:=.agg #[.slice a6 n6 c6,.bool b6]) (rA_ rfl w.heap.size HX.o.1 underlying242 2) rfl ⟨_,rfl,((V.o.1.trans (O.mono V.o.1.size)).setCell (p:=⟨w.heap.size,0,none⟩) qN _).setCell (p:=⟨w.heap.size,1,none⟩) qN _,HX.o.2⟩
def wnum (wl:List FT) (i:Nat):Nat:=(ival (wl.getD i fd0).1.data.toList).natAbs
def wdn (t:Tbl) (bl wl:List FT) (i:Nat):Nat:=fden (wl.getD i fd0)*flcd (besides t bl i)*flcd (besides t bl i)
def ntop (t:Tbl) (bl wl:List FT) (i:Nat):Nat:=wnum wl i / (wnum wl i).gcd (wdn t bl wl i)
def nden (t:Tbl) (bl wl:List FT) (i:Nat):Nat:=wdn t bl wl i / (wnum wl i).gcd (wdn t bl wl i)
def nkeep (wl:List FT):Nat->List Nat
 | 0=>[]
 | i+1=>if wnum wl i=0 then nkeep wl i else nkeep wl i++[i]
theorem qfx (wl:List FT):∀i,(nkeep wl i).length<=i/\∀x∈nkeep wl i,x<i/\wnum wl x≠0
 | 0=>⟨qae _,fun x hx=>by cases hx⟩
 | i+1=>by
  obtain⟨H,F⟩:=qfx wl i
  by_cases e:wnum wl i=0
  ·simp only [nkeep,if_pos e];exact⟨by omega,fun x hx=>⟨by have:=(F x hx).1;omega,(F x hx).2⟩⟩
  ·simp only [nkeep,if_neg e];refine⟨by rw [qaf,qaz];omega,fun x hx=>?_⟩;rcases qaK.1 hx with h | h
   ·exact⟨by have:=(F x h).1;omega,(F x h).2⟩
   ·rw [qap.1 h];exact⟨by omega,e⟩
theorem qmG (wl:List FT) {i:Nat} (h:wnum wl i≠0):∀R,i<R->(nkeep wl R).getD (nkeep wl i).length 0=i/\(nkeep wl i).length<(nkeep wl R).length
 | 0,hi=>absurd hi (by omega)
 | R+1,hi=>by
  by_cases e:i=R
  ·subst e;simp only [nkeep,if_neg h];refine⟨?_,by rw [qaf,qaz];omega⟩;rw [qaa,qaq qN,qaG];rfl
  ·obtain⟨H,I⟩:=qmG wl h R (by omega)
   by_cases F:wnum wl R=0
   ·simp only [nkeep,if_pos F];exact⟨H,I⟩
   ·simp only [nkeep,if_neg F];refine⟨?_,by rw [qaf];omega⟩;rw [qaa,qas I,<-qaa];exact H
theorem qf8 {S:List Nat} {x p:Nat} (F:p<S.length):(S++[x]).getD p 0=S.getD p 0:=by
 rw [qaa,qas F,<-qaa]
theorem qf7 {S:List Nat} {x:Nat}:(S++[x]).getD S.length 0=x:=by
 rw [qaa,qaq qN,qaG];rfl
theorem qcB {S:List Nat} {p:Nat} (F:p<S.length):S.getD p 0∈S:=by
 rw [qaa,qad F];exact List.getElem_mem F
structure NRow (t:Tbl) (bl wl:List FT) (i:Nat):Prop where
 fa:FAll (besides t bl i)
 len:(besides t bl i).length<=11
 wd:0<fden (wl.getD i fd0)/\Fit (fden (wl.getD i fd0)) 67
 wn:Fit (wnum wl i) 67
 nn:0<=ival (wl.getD i fd0).1.data.toList
theorem NRow.below {t:Tbl} {bl wl:List FT} {i:Nat} (h:NRow t bl wl i):0<flcd (besides t bl i)/\Fit (flcd (besides t bl i)) 738:=⟨qkl h.fa,(qfj h.fa h.len).mono (by omega)⟩
theorem NRow.d {t:Tbl} {bl wl:List FT} {i:Nat} (h:NRow t bl wl i):0<wdn t bl wl i/\Fit (wdn t bl wl i) 1543 :=
 ⟨qbT (qbT h.wd.1 h.below.1) h.below.1,((h.wd.2.mul h.below.2).mul h.below.2).mono (by omega)⟩
theorem NRow.g {t:Tbl} {bl wl:List FT} {i:Nat} (h:NRow t bl wl i):0<(wnum wl i).gcd (wdn t bl wl i)/\Fit ((wnum wl i).gcd (wdn t bl wl i)) 1543 :=
 ⟨qba _ h.d.1,h.d.2.le (qbP h.d.1 (qaW _ _))⟩
theorem NRow.den {t:Tbl} {bl wl:List FT} {i:Nat} (h:NRow t bl wl i):0<nden t bl wl i/\Fit (nden t bl wl i) 1543 :=
 ⟨Nat.div_pos (qbP h.d.1 (qaW _ _)) h.g.1,h.d.2.le (qaR _ _)⟩
theorem NRow.top {t:Tbl} {bl wl:List FT} {i:Nat} (h:NRow t bl wl i):Fit (ntop t bl wl i) 67:=h.wn.le (qaR _ _)
theorem NRow.val {t:Tbl} {bl wl:List FT} {i:Nat} (h:NRow t bl wl i):(ntop t bl wl i:Rat)*((flcd (besides t bl i):Nat):Rat)*((flcd (besides t bl i):Nat):Rat)=lval wl i*(nden t bl wl i:Rat):=by
 have hg:=h.g.1;obtain⟨a,J⟩:=qbN (wnum wl i) (wdn t bl wl i);obtain⟨b,O⟩:=qaW (wnum wl i) (wdn t bl wl i);have U:ntop t bl wl i=a:=by unfold ntop;(conv=>lhs;lhs;rw [J]);exact qaY _ hg
 have V:nden t bl wl i=b:=by unfold nden;(conv=>lhs;lhs;rw [O]);exact qaY _ hg
 rw [U,V];have hl:lval wl i=(wnum wl i:Rat) / ((fden (wl.getD i fd0):Nat):Rat):=by
  unfold lval;rw [qhR]
  congr 1
  have:(ival (wl.getD i fd0).1.data.toList:Int)=(wnum wl i:Int):=by have:=h.nn;unfold wnum;omega
  rw [this];rfl
 have aa:((fden (wl.getD i fd0):Nat):Rat)≠0:=by have:=qbl h.wd.1;exact_mod_cast this
 have Y:((wdn t bl wl i:Nat):Rat)=(fden (wl.getD i fd0):Rat)*(flcd (besides t bl i):Rat)*(flcd (besides t bl i):Rat):=by unfold wdn;push_cast;rfl
 have I:(wnum wl i:Rat)=((wnum wl i).gcd (wdn t bl wl i):Rat)*a:=by exact_mod_cast J
 have H:((wdn t bl wl i:Nat):Rat)=((wnum wl i).gcd (wdn t bl wl i):Rat)*b:=by exact_mod_cast O
 have Z:(((wnum wl i).gcd (wdn t bl wl i):Nat):Rat)≠0:=by have:=qbl hg;exact_mod_cast this
 rw [hl];generalize (((wnum wl i).gcd (wdn t bl wl i):Nat):Rat)=G at *;generalize ((flcd (besides t bl i):Nat):Rat)=F at *;generalize ((fden (wl.getD i fd0):Nat):Rat)=E at *;rw [Y] at H;rw [I];have:E*F*F=G*b:=H
 grind
def nall (t:Tbl) (bl wl:List FT) (S:List Nat):Nat:=lcms (S.map (nden t bl wl))
def nfac (t:Tbl) (bl wl:List FT) (S:List Nat) (i:Nat):Int:=(ntop t bl wl i:Int)*((nall t bl wl S / nden t bl wl i:Nat):Int)
def nterm (t:Tbl) (bl wl:List FT) (S:List Nat) (r c i:Nat):Int:=nfac t bl wl S i*ftop (besides t bl i) r*ftop (besides t bl i) c
theorem mapD {S:List Nat} {f:Nat->Nat} {p:Nat} (F:p<S.length):(S.map f).getD p 0=f (S.getD p 0):=by
 rw [qaa,qay,qaa,qad F];rfl
theorem nall_pos {t:Tbl} {bl wl:List FT} {S:List Nat} (h:∀x∈S,NRow t bl wl x):0<nall t bl wl S:=by
 have:=qfs (S.map (nden t bl wl)) (fun k F=>by rw [qav] at F;rw [mapD F];exact (h _ (qcB F)).den.1) (S.map (nden t bl wl)).length qN
 rwa [qbh] at this
theorem qh1 {t:Tbl} {bl wl:List FT} {S:List Nat} (h:∀x∈S,NRow t bl wl x) (hS:S.length<=40):Fit (nall t bl wl S) 61721:=by
 have:=qfr (S.map (nden t bl wl)) 1543 (fun k F=>by rw [qav] at F;rw [mapD F];exact (h _ (qcB F)).den) (S.map (nden t bl wl)).length qN;rw [qbh] at this;refine Fit.mono this ?_;rw [qav];omega
theorem nall_dvd {t:Tbl} {bl wl:List FT} {S:List Nat} {p:Nat} (F:p<S.length):nden t bl wl (S.getD p 0)∣nall t bl wl S:=by
 have:=qhU (S.map (nden t bl wl)) (S.map (nden t bl wl)).length p (by rw [qav];exact F) qN;rw [qbh,mapD F] at this;exact this
theorem qky {t:Tbl} {bl wl:List FT} {S:List Nat} (h:∀x∈S,NRow t bl wl x) (hS:S.length<=40) {p:Nat} (F:p<S.length):Fit (nfac t bl wl S (S.getD p 0)).natAbs 61788:=by
 unfold nfac;rw [qaF,qam,qam];exact ((h _ (qcB F)).top.mul ((qh1 h hS).le (qaR _ _))).mono (by omega)
theorem qiU {t:Tbl} {bl wl:List FT} {S:List Nat} (h:∀x∈S,NRow t bl wl x) (hS:S.length<=40) {p r c:Nat} (H:p<S.length) (J:r<(besides t bl (S.getD p 0)).length) (I:c<(besides t bl (S.getD p 0)).length):Fit (nterm t bl wl S r c (S.getD p 0)).natAbs 63398:=by
 have F:=h _ (qcB H);unfold nterm;rw [qaF,qaF];exact (((qky h hS H).mul (qdi F.fa F.len J)).mul (qdi F.fa F.len I)).mono (by omega)
theorem qnc {t:Tbl} {bl wl:List FT} {S:List Nat} (h:∀x∈S,NRow t bl wl x) {p r c:Nat} (J:p<S.length) (hr:r<(besides t bl (S.getD p 0)).length) (hc:c<(besides t bl (S.getD p 0)).length) :
  ((nterm t bl wl S r c (S.getD p 0):Int):Rat)=(nall t bl wl S:Rat)*(lval wl (S.getD p 0)*(lval (besides t bl (S.getD p 0)) r*lval (besides t bl (S.getD p 0)) c)):=by
 have H:=h _ (qcB J);obtain⟨q,O⟩:=nall_dvd (t:=t) (bl:=bl) (wl:=wl) J;have hd:=H.den.1;have e:nall t bl wl S / nden t bl wl (S.getD p 0)=q:=by rw [O];exact qaY _ hd
 have hv:=H.val;unfold nterm nfac;rw [e];have U:=qfk H.fa hr;have V:=qfk H.fa hc
 push_cast
 rw [U,V];have I:(nall t bl wl S:Rat)=(nden t bl wl (S.getD p 0):Rat)*q:=by exact_mod_cast O
 rw [I];generalize ((flcd (besides t bl (S.getD p 0)):Nat):Rat)=F at *;generalize ((nden t bl wl (S.getD p 0):Nat):Rat)=D at *;generalize ((ntop t bl wl (S.getD p 0):Nat):Rat)=T at *;generalize lval wl (S.getD p 0)=L at *;generalize lval (besides t bl (S.getD p 0)) r=X at *;generalize lval (besides t bl (S.getD p 0)) c=Y at *;have Z:T*q*(F*X)*(F*Y)=(T*F*F)*q*X*Y:=by grind
 rw [Z,hv];grind
def normQ (t:Tbl) (bl wl:List FT) (R:Nat) (r c:Nat):Rat:=sumQ R fun i=>lval wl i*(lval (besides t bl i) r*lval (besides t bl i) c)
theorem qgE (f:Nat->Int):∀k,((isum f k:Int):Rat)=sumQ k fun p=>((f p:Int):Rat)
 | 0=>rfl
 | k+1=>by
  show ((isum f k+f k:Int):Rat)=sumQ k _+_
  rw [<-qgE f k];push_cast;rfl
theorem qkr (wl:List FT) (f:Nat->Rat):∀i,(∀x,x<i->wnum wl x=0->f x=0)->sumQ (nkeep wl i).length (fun p=>f ((nkeep wl i).getD p 0))=sumQ i f
 | 0,_=>rfl
 | i+1,h=>by
  have ih:=qkr wl f i fun x hx=>h x (by omega)
  show _=sumQ i f+f i
  by_cases e:wnum wl i=0
  ·simp only [nkeep,if_pos e];rw [ih,h i (by omega) e];grind
  ·simp only [nkeep,if_neg e];rw [qaf,qaz]
   show sumQ (nkeep wl i).length _+f ((nkeep wl i++[i]).getD (nkeep wl i).length 0)=_
   rw [qf7,<-ih]
   congr 1
   exact qbX fun p F=>by rw [qf8 F]
theorem qiI {wl:List FT} {i:Nat} (h:wnum wl i=0):lval wl i=0:=by
 unfold lval;rw [qhR];have:ival (wl.getD i fd0).1.data.toList=0:=by unfold wnum at h;omega
 rw [this,show ((0:Int):Rat)=0 from rfl];grind
theorem norm_sum {t:Tbl} {bl wl:List FT} {R r c:Nat} (h:∀i,i<R->NRow t bl wl i) (I:∀i,i<R->r<(besides t bl i).length/\c<(besides t bl i).length) :
  ((isum (fun p=>nterm t bl wl (nkeep wl R) r c ((nkeep wl R).getD p 0)) (nkeep wl R).length:Int):Rat)=(nall t bl wl (nkeep wl R):Rat)*normQ t bl wl R r c:=by
 have F:=(qfx wl R).2;rw [qgE];have J:sumQ (nkeep wl R).length (fun p=>((nterm t bl wl (nkeep wl R) r c ((nkeep wl R).getD p 0):Int):Rat))=sumQ (nkeep wl R).length (fun p=>(fun i=>(nall t bl wl (nkeep wl R):Rat)*(lval wl i*(lval (besides t bl i) r*lval (besides t bl i) c))) ((nkeep wl R).getD p 0)) :=
  qbX fun p H=>qnc (fun x hx=>h x (F x hx).1) H (I _ (F _ (qcB H)).1).1 (I _ (F _ (qcB H)).1).2
 rw [J,qkr wl (fun i=>(nall t bl wl (nkeep wl R):Rat)*(lval wl i*(lval (besides t bl i) r*lval (besides t bl i) c))) R (fun x _ hx=>by simp only [qiI hx];grind),qcb]
 rfl
structure Soft (W W':World) (row:Option Nat):Prop where
 grown:W.grownBy W' row
 nn:∀g,row=some g->∃(cs:Array Value) (t:TypeId) (fz:Nat×Nat),W.heap[g]? = some (.cells cs t fz)/\∀x∈cs.toList,qcD x
theorem Soft.ofBelow {W W':World} (h:Below W.heap.size W W'):Soft W W' none:=⟨⟨h.os,h.tape,h.output,h.size,fun i F _=>h.block i F⟩,fun g e=>by cases e⟩
theorem Soft.ofSet {W:World} {g:Nat} {cs:Array Value} {t:TypeId} {F:Nat×Nat} (h:W.heap[g]? = some (.cells cs t F)) (H:∀x∈cs.toList,qcD x) (j:Nat) (v:Value):Soft W (W.setCell ⟨g,j,none⟩ v) (some g) :=
 ⟨qbW W g j v,fun I e=>by cases e;exact⟨cs,t,F,h,H⟩⟩
theorem Soft.ofRws {W W':World} {base:Nat} {e:TypeId} {F:Nat} {v:Value} {n:Nat} {O:List Value} (h:Rws W base e F v n O) (hg:W.grownBy W' v.ownBlock):Soft W W' v.ownBlock:=by
 refine⟨hg,fun g H=>?_⟩;rcases h.2 with ⟨rfl,_⟩ | ⟨g',cap,cur,rfl,_,I,_,_,_,_,J⟩
 ·cases H
 ·cases H;exact⟨cur,_,_,I,J⟩
section
variable {W W':World} {row:Option Nat}
theorem Soft.mag (s:Soft W W' row) {u:Value} {x:Nat} (F:MagAt W u x):MagAt W' u x:=by
 cases row with
 | none=>exact F.below (qeN s.grown)
 | some g =>
  obtain⟨cs,t,fz,h,H⟩:=s.nn g rfl;exact qcp F s.grown h (qm6 H)
theorem Soft.pairs (s:Soft W W' row) {I:List (Value×Bool)} {z:Nat->Int} (H:qcv W I z):qcv W' I z:=fun k F=>⟨(H k F).1,s.mag (H k F).2⟩
theorem Soft.mags (s:Soft W W' row) {H:List Value} {I:List Nat} (F:qdD W H I):qdD W' H I:=⟨F.1,fun k J=>s.mag (F.2 k J)⟩
theorem Soft.introw (s:Soft W W' row) {g m:Nat} {z:Nat->Int} (J:qco W g m z) (hne:row≠some g):qco W' g m z:=by
 obtain⟨ps,H,F,I⟩:=J;exact⟨ps,H,⟨(s.grown.block _ (qG F.1).1 (fun e=>hne e.symm)).trans F.1,F.2⟩,s.pairs I⟩
theorem Soft.blk (s:Soft W W' row) {g:Nat} {o:Obj} (F:W.heap[g]? = some o) (hne:row≠some g):W'.heap[g]? = some o :=
 (s.grown.block _ (qG F).1 (fun e=>hne e.symm)).trans F
theorem Soft.rws (s:Soft W W' row) {base:Nat} {e:TypeId} {F:Nat} {v:Value} {n:Nat} {H:List Value} (h:Rws W base e F v n H) (hne:v.ownBlock=none\/v.ownBlock≠row):Rws W' base e F v n H:=h.kept s.grown hne
theorem Soft.old (s:Soft W W' row) {a:World} {B:Nat} (H:Below B a W) (J:∀k,row=some k->B<=k) (F:B<=W.heap.size):Below B a W' :=
 H.trans ⟨s.grown.os,s.grown.tape,s.grown.output,s.grown.size,fun i I=>s.grown.block i (qai I F) (fun e=>by have:=J i e.symm;omega)⟩
end
theorem Rws.ne_row {w:World} {base:Nat} {e:TypeId} {F:Nat} {v:Value} {n:Nat} {U:List Value} (h:Rws w base e F v n U) {g:Nat} {cs:Array Value} {t:TypeId} {I:Nat×Nat} (O:w.heap[g]? = some (.cells cs t I)) (hne:e≠t):v.ownBlock≠some g:=by
 intro H;rcases h.2 with ⟨rfl,_⟩ | ⟨g',cap,cur,rfl,_,J,_⟩
 ·cases H
 ·cases H;have:=J.symm.trans O;simp at this;exact hne this.2.1
theorem Rws.ne_int {w:World} {base:Nat} {e:TypeId} {F:Nat} {v:Value} {n:Nat} {J:List Value} (h:Rws w base e F v n J) {g m:Nat} {z:Nat->Int} (I:qco w g m z) (hne:e≠242):v.ownBlock≠some g:=by
 obtain⟨ps,_,H,_⟩:=I;exact h.ne_row H.1 hne
theorem Rws.ne_low {w:World} {base:Nat} {e:TypeId} {F:Nat} {v:Value} {n:Nat} {I:List Value} (h:Rws w base e F v n I) {g:Nat} (hg:g<base):v.ownBlock≠some g:=fun H=>by have:=(h.lt g H).1;omega
theorem or_ne {a b:Option Nat} (h:a≠b):a=none\/a≠b:=qag h
theorem qmz (F:List (Value×Bool)):∀(j:Nat) (x:Value×Bool),j<F.length->iflat (F.set j x)=((iflat F).set (j*2) x.1).set (j*2+1) (.bool x.2):=by
 induction F with
 | nil=>intro j x h;exact absurd h (by simp)
 | cons q F ih =>
  intro j x h;cases j with
  | zero=>rfl
  | succ j =>
   have e:∀l,iflat (q :: l)=q.1 :: .bool q.2 :: iflat l:=fun _=>rfl
   rw [List.set_cons_succ,e,e,ih j x (by simpa using h),show (j+1)*2=j*2+1+1 by omega];rfl
structure NSt (W:World) (h0:Nat) (t:Tbl) (bl wl:List FT) (n:Nat) (Sl St Sb:List Nat) (vl vt vb:Value) (gs:Nat->Nat) (ps:List (Value×Bool)) (vs:List Value) (T:Nat->Int):Prop where
 cs:W.heap[h0]? = some (.cells #[zs0] 278 (0,0))
 cl:W.heap[h0+1]? = some (.cells #[vl] 276 (0,0))
 ct:W.heap[h0+1+1]? = some (.cells #[vt] 237 (0,0))
 rl:Rws W (h0+1+1+1) 237 1 vl Sl.length (rowvs Sl.length (n+1) gs)
 rt:Rws W (h0+1+1+1) 242 2 vt St.length (iflat ps)
 rb:Rws W (h0+1+1+1) 238 1 vb Sb.length vs
 rows:∀p,p<Sl.length->qco W (gs p) (n+1) (ftop (besides t bl (Sl.getD p 0)))
 ap:∀p,p<Sl.length->vt.ownBlock≠some (gs p)
 pt:qcv W ps T
 pl:ps.length=St.length
 mb:qdD W vs (Sb.map (nden t bl wl))
section
variable {W:World} {h0:Nat} {t:Tbl} {bl wl:List FT} {n:Nat} {Sl St Sb:List Nat} {vl vt vb:Value} {gs:Nat->Nat} {ps:List (Value×Bool)} {vs:List Value} {T:Nat->Int}
theorem NSt.congrT {T':Nat->Int} (h:NSt W h0 t bl wl n Sl St Sb vl vt vb gs ps vs T) (e:∀p,p<St.length->T p=T' p):NSt W h0 t bl wl n Sl St Sb vl vt vb gs ps vs T' :=
 ⟨h.cs,h.cl,h.ct,h.rl,h.rt,h.rb,h.rows,h.ap,fun k F=>by rw [<-e k (by rw [<-h.pl];exact F)];exact h.pt k F,h.pl,h.mb⟩
theorem NSt.top (h:NSt W h0 t bl wl n Sl St Sb vl vt vb gs ps vs T) {j:Nat} (O:j<St.length):∃(g cap:Nat) (a:Option Addr) (m c:Nat) (b:Bool),vt=.slice (some ⟨g,0,none⟩) St.length cap/\g<W.heap.size/\h0+1+1+1<=g/\W.cell? ⟨g,j*2,none⟩=some (.slice a m c)/\W.cell? ⟨g,j*2+1,none⟩=some (.bool b)/\(∀k,W.frozen? ⟨g,k,none⟩=false)/\IntAt W (.agg #[.slice a m c,.bool b]) (T j):=by
 have J:=h.pl;obtain⟨a,m,c,b,e,I⟩:=qdo h.pt (k:=j) (by omega);rcases h.rt.2 with ⟨_,e0⟩ | ⟨g,cap,cur,e1,H,hg,_⟩
 ·omega
 ·have F:=h.rt.own.cells (g:=g) (by rw [e1];rfl);obtain⟨d0,d1⟩:=qfn ps j (.slice a m c,b) (by rw [<-e,qaa,qad (by omega)];rfl);have c0:=F _ _ d0;have c1:=F _ _ d1;rw [Addr.add_mid,qaM] at c0 c1;exact⟨g,cap,a,m,c,b,e1,(qG hg).1,H,c0,c1,fun k=>qF _ _ _ _ _ hg,I⟩
theorem NSt.below {W':World} (h:NSt W h0 t bl wl n Sl St Sb vl vt vb gs ps vs T) (F:Below W.heap.size W W'):NSt W' h0 t bl wl n Sl St Sb vl vt vb gs ps vs T :=
 have s:=Soft.ofBelow F
 ⟨s.blk h.cs (by simp),s.blk h.cl (by simp),s.blk h.ct (by simp),h.rl.below F,h.rt.below F,h.rb.below F,fun p H=>s.introw (h.rows p H) (by simp),h.ap,s.pairs h.pt,h.pl,s.mags h.mb⟩
theorem qeR {v:Value} {base:Nat} {e:TypeId} {F n:Nat} {I:List Value} (h:Rws W base e F v n I):qcD v:=by
 intro k d H;rcases h.2 with ⟨rfl,_⟩ | ⟨g,cap,cur,rfl,_⟩
 ·cases H
 ·cases H
theorem qgS {v:Value} (h:qcD v):∀x∈(#[v]:Array Value).toList,qcD x:=fun x hx=>by rw [qap.1 hx];exact h
theorem qjX {k n g:Nat} {F:Nat->Nat}:rowvs (k+1) n (fun p=>if p=k then g else F p)=rowvs k n F++[rowv g n]:=by
 unfold rowvs;rw [List.range_succ,qa3]
 congr 1
 ·exact List.map_congr_left fun i H=>by
   have:=qbg.1 H;simp only [if_neg (show ¬i=k by omega)]
 ·simp only [qbv,qbQ,if_true]
theorem qlz (k n g:Nat) (F:Nat->Nat):rowvs (k+1) n (fun p=>if p=k then g else F p)=rowvs k n F++[rowv g n]:=by
 unfold rowvs;rw [List.range_succ,qa3]
 congr 1
 ·exact List.map_congr_left fun i H=>by
   have:=qbg.1 H;simp only [if_neg (show ¬i=k by omega)]
 ·simp only [qbv,qbQ,if_true]
theorem NSt.addL (h:NSt W h0 t bl wl n Sl St Sb vl vt vb gs ps vs T) {g i:Nat} (hg:qco W g (n+1) (ftop (besides t bl i))) (hne:vt.ownBlock≠some g) {U:World} {F:Value}
  (hr:Rws U (h0+1+1+1) 237 1 F (Sl.length+1) (rowvs Sl.length (n+1) gs++[rowv g (n+1)])) (Z:W.grownBy U vl.ownBlock) :
  NSt (U.setCell ⟨h0+1,0,none⟩ F) h0 t bl wl n (Sl++[i]) St Sb F vt vb (fun p=>if p=Sl.length then g else gs p) ps vs T:=by
 have I:=Soft.ofRws h.rl Z;have c1:=I.blk h.cl (h.rl.ne_low (by omega));have O:=Soft.ofSet c1 (qgS (qeR h.rl)) 0 F;have H:∀{base:Nat} {e:TypeId} {J:Nat} {v:Value} {m:Nat} {xs:List Value},Rws U (h0+1+1+1) e J v m xs->Rws (U.setCell ⟨h0+1,0,none⟩ F) (h0+1+1+1) e J v m xs:=fun r=>O.rws r (or_ne (r.ne_low (by omega)))
 have V:∀{Y:Nat} {z:Nat->Int},qco W Y (n+1) z->qco (U.setCell ⟨h0+1,0,none⟩ F) Y (n+1) z:=fun {Y z} r=>by
  have r1:=I.introw r (h.rl.ne_int r (by decide));refine O.introw r1 fun e=>?_
  cases e;obtain⟨ps',_,h2,_⟩:=r1;have:=h2.1.symm.trans c1;simp at this
 refine⟨O.blk (I.blk h.cs (h.rl.ne_low (by omega))) (by simp),?_,O.blk (I.blk h.ct (h.rl.ne_low (by omega))) (by simp),?_,H (base:=0) (I.rws h.rt (h.rt.ne h.rl (by decide))),H (base:=0) (I.rws h.rb (h.rb.ne h.rl (by decide))),fun p hp=>?_,fun p hp=>?_,O.pairs (I.pairs h.pt),h.pl,O.mags (I.mags h.mb)⟩
 ·exact heap_setCell_same _ _ 0 _ _ _ c1
 ·rw [qaf,qaz,qlz];exact H (base:=0) hr
 ·rw [qaf,qaz] at hp
  by_cases e:p=Sl.length
  ·subst e;simp only [if_true];rw [qf7];exact V hg
  ·simp only [if_neg e];rw [qf8 (by omega)];exact V (h.rows p (by omega))
 ·rw [qaf,qaz] at hp
  by_cases e:p=Sl.length
  ·subst e;simp only [if_true];exact hne
  ·simp only [if_neg e];exact h.ap p (by omega)
theorem nst_cl (h:NSt W h0 t bl wl n Sl St Sb vl vt vb gs ps vs T) {H:World} (F:W.grownBy H vl.ownBlock):H.cell? ⟨h0+1,0,none⟩=some vl/\H.frozen? ⟨h0+1,0,none⟩=false:=by
 have c1:=(Soft.ofRws h.rl F).blk h.cl (h.rl.ne_low (by omega));exact⟨qC _ _ 0 _ _ _ c1,qF _ _ 0 _ _ c1⟩
theorem nst_soft (h:NSt W h0 t bl wl n Sl St Sb vl vt vb gs ps vs T) {I:World} (H:W.grownBy I vl.ownBlock) (u:Value) :
  (∀v x,MagAt W v x->MagAt (I.setCell ⟨h0+1,0,none⟩ u) v x)/\∀(a:World) (B:Nat),Below B a W->B<=h0+1->B<=W.heap.size->Below B a (I.setCell ⟨h0+1,0,none⟩ u):=by
 have F:=Soft.ofRws h.rl H;have c1:=F.blk h.cl (h.rl.ne_low (by omega));have O:=Soft.ofSet c1 (qgS (qeR h.rl)) 0 u;exact⟨fun v x V=>O.mag (F.mag V),fun a B U Y J=>O.old (F.old U (fun k e=>by have:=(h.rl.lt k e).1;omega) J) (fun k e=>by have:=qah e;omega) (qaj J F.grown.size)⟩
theorem qm9 (h:NSt W h0 t bl wl n Sl St Sb vl vt vb gs ps vs T) {I:World} (H:W.grownBy I vt.ownBlock) (u:Value) :
  (∀v x,MagAt W v x->MagAt (I.setCell ⟨h0+1+1,0,none⟩ u) v x)/\∀(a:World) (B:Nat),Below B a W->B<=h0+1->B<=W.heap.size->Below B a (I.setCell ⟨h0+1+1,0,none⟩ u):=by
 have F:=Soft.ofRws h.rt H;have c1:=F.blk h.ct (h.rt.ne_low (by omega));have O:=Soft.ofSet c1 (qgS (qeR h.rt)) 0 u;exact⟨fun v x V=>O.mag (F.mag V),fun a B U Y J=>O.old (F.old U (fun k e=>by have:=(h.rt.lt k e).1;omega) J) (fun k e=>by have:=qah e;omega) (qaj J F.grown.size)⟩
theorem nst_ct (h:NSt W h0 t bl wl n Sl St Sb vl vt vb gs ps vs T) {H:World} (F:W.grownBy H vt.ownBlock):H.cell? ⟨h0+1+1,0,none⟩=some vt/\H.frozen? ⟨h0+1+1,0,none⟩=false:=by
 have c1:=(Soft.ofRws h.rt F).blk h.ct (h.rt.ne_low (by omega));exact⟨qC _ _ 0 _ _ _ c1,qF _ _ 0 _ _ c1⟩
theorem NSt.addT (h:NSt W h0 t bl wl n Sl St Sb vl vt vb gs ps vs T) {i:Nat} {m:Value} (hm:MagAt W m (T St.length).natAbs) {U:World} {F:Value}
  (hr:Rws U (h0+1+1+1) 242 2 F (St.length+1) (iflat ps++[m,.bool (decide (T St.length<0))])) (Z:W.grownBy U vt.ownBlock) (ho:F.ownBlock=vt.ownBlock\/F.ownBlock=some W.heap.size) :
  NSt (U.setCell ⟨h0+1+1,0,none⟩ F) h0 t bl wl n Sl (St++[i]) Sb vl F vb gs (ps++[(m,decide (T St.length<0))]) vs T:=by
 have I:=Soft.ofRws h.rt Z;have c1:=I.blk h.ct (h.rt.ne_low (by omega));have J:=Soft.ofSet c1 (qgS (qeR h.rt)) 0 F;have H:∀{e:TypeId} {size:Nat} {v:Value} {m:Nat} {xs:List Value},Rws U (h0+1+1+1) e size v m xs->Rws (U.setCell ⟨h0+1+1,0,none⟩ F) (h0+1+1+1) e size v m xs:=fun r=>J.rws r (or_ne (r.ne_low (by omega)))
 refine⟨J.blk (I.blk h.cs (h.rt.ne_low (by omega))) (fun e=>by have:=qah e;omega),J.blk (I.blk h.cl (h.rt.ne_low (by omega))) (fun e=>by have:=qah e;omega),?_,H (I.rws h.rl (h.rl.ne h.rt (by decide))),?_,H (I.rws h.rb (h.rb.ne h.rt (by decide))),fun p O=>?_,fun p O=>?_,?_,?_,J.mags (I.mags h.mb)⟩
 ·exact heap_setCell_same _ _ 0 _ _ _ c1
 ·rw [qaf,qaz,qfm];exact H hr
 ·have r1:=I.introw (h.rows p O) (h.ap p O);refine J.introw r1 fun e=>?_
  have Y:=qah e;obtain⟨ps',_,V,_⟩:=r1;rw [<-Y] at V;have:=V.1.symm.trans c1;simp at this
 ·rcases ho with e | e
  ·rw [e];exact h.ap p O
  ·rw [e];intro Y;obtain⟨ps',_,V,_⟩:=h.rows p O;have:=(qG V.1).1;have:=qah Y;omega
 ·have:=(J.pairs (I.pairs h.pt)).snoc (v:=m) (by rw [h.pl];exact J.mag (I.mag hm));rw [h.pl] at this;exact this
 ·rw [qaf,qaf,h.pl];rfl
theorem NSt.addT2 (h:NSt W h0 t bl wl n Sl St Sb vl vt vb gs ps vs T) {i:Nat} {a:Option Addr} {m c:Nat} {b:Bool} {z:Int} (U:z=T St.length) (V:IntAt W (.agg #[.slice a m c,.bool b]) z) {I:World} {F:Value}
  (O:Rws I (h0+1+1+1) 242 2 F (St.length+1) (iflat ps++[.slice a m c,.bool b])) (H:W.grownBy I vt.ownBlock) (Y:F.ownBlock=vt.ownBlock\/F.ownBlock=some W.heap.size) :
  NSt (I.setCell ⟨h0+1+1,0,none⟩ F) h0 t bl wl n Sl (St++[i]) Sb vl F vb gs (ps++[(.slice a m c,b)]) vs T:=by
 obtain⟨m',e,J⟩:=V;simp only [qaP,qaV,qaN,qbw] at e;obtain⟨e1,e2,_⟩:=e;rw [<-e1,U] at J;rw [U] at e2;rw [e2] at O ⊢;exact h.addT J O H Y
theorem NSt.addB (h:NSt W h0 t bl wl n Sl St Sb vl vt vb gs ps vs T) {i:Nat} {m:Value} (U:MagAt W m (nden t bl wl i)) {J:World} {H:Value}
  (V:Rws J (h0+1+1+1) 238 1 H (Sb.length+1) (vs++[m])) (I:W.grownBy J vb.ownBlock) :
  NSt J h0 t bl wl n Sl St (Sb++[i]) vl vt H gs ps (vs++[m]) T:=by
 have F:=Soft.ofRws h.rb I;refine⟨F.blk h.cs (h.rb.ne_low (by omega)),F.blk h.cl (h.rb.ne_low (by omega)),F.blk h.ct (h.rb.ne_low (by omega)),F.rws h.rl (h.rl.ne h.rb (by decide)),F.rws h.rt (h.rt.ne h.rb (by decide)),?_,fun p O=>F.introw (h.rows p O) (h.rb.ne_int (h.rows p O) (by decide)),h.ap,F.pairs h.pt,h.pl,?_⟩
 ·rw [qaf,qaz];exact V
 ·rw [qa3];exact (F.mags h.mb).snoc (F.mag U)
theorem NSt.setSoft {g m cap:Nat} (h:NSt W h0 t bl wl n Sl St Sb vl (.slice (some ⟨g,0,none⟩) m cap) vb gs ps vs T) (j V:Nat) (u Y:Value):Soft W ((W.setCell ⟨g,j,none⟩ u).setCell ⟨g,V,none⟩ Y) (some g):=by
 rcases h.rt.2 with ⟨e,_⟩ | ⟨H,cap',cur,e,Z,hg,O,I,J,U,F⟩
 ·cases e
 simp only [qbH,Option.some.injEq,Addr.mk.injEq] at e;obtain⟨⟨rfl,_⟩,_,rfl⟩:=e;exact⟨qbZ (qbW _ _ _ _) (qbW _ _ _ _),fun H e=>by cases e;exact⟨_,_,_,hg,F⟩⟩
theorem NSt.setT {g cap:Nat} (h:NSt W h0 t bl wl n Sl St Sb vl (.slice (some ⟨g,0,none⟩) St.length cap) vb gs ps vs T) {j:Nat} (hj:j<St.length) {a:Option Addr} {m c:Nat} {b:Bool} {z:Int} (hi:IntAt W (.agg #[.slice a m c,.bool b]) z) :
  NSt ((W.setCell ⟨g,j*2,none⟩ (.slice a m c)).setCell ⟨g,j*2+1,none⟩ (.bool b)) h0 t bl wl n Sl St Sb vl (.slice (some ⟨g,0,none⟩) St.length cap) vb gs (ps.set j (.slice a m c,b)) vs (fun p=>if p=j then z else T p):=by
 obtain⟨hl,Z⟩:=h.rt;rcases Z with ⟨e,_⟩ | ⟨g',cap',cur,e,hB,hg,Y,O,U,aa,I⟩
 ·cases e
 simp only [qbH,Option.some.injEq,Addr.mk.injEq] at e;obtain⟨⟨rfl,_⟩,_,rfl⟩:=e;have V:=heap_setCell_same _ g (j*2+1) _ _ (.bool b) (heap_setCell_same _ g (j*2) _ _ (.slice a m c) hg);have F:Soft W ((W.setCell ⟨g,j*2,none⟩ (.slice a m c)).setCell ⟨g,j*2+1,none⟩ (.bool b)) (some g):=⟨qbZ (qbW _ _ _ _) (qbW _ _ _ _),fun g' e=>by cases e;exact⟨_,_,_,hg,I⟩⟩;have ne:∀{x:Nat},x<h0+1+1+1->(some g:Option Nat)≠some x:=fun hx e=>by have:=qah e;omega
 have J:=h.pl;refine⟨F.blk h.cs (ne (by omega)),F.blk h.cl (ne (by omega)),F.blk h.ct (ne (by omega)),F.rws h.rl (h.rl.ne h.rt (by decide)),⟨by rw [qd9,qa6,J],qag ⟨g,cap,_,rfl,hB,V,Y,O,by rw [Array.size_setIfInBounds,Array.size_setIfInBounds];exact U,?_,?_⟩⟩,F.rws h.rb (h.rb.ne h.rt (by decide)),fun p hp=>F.introw (h.rows p hp) (h.ap p hp),h.ap,?_,by rw [qa6];exact J,F.mags h.mb⟩
 ·rw [Array.toList_setIfInBounds,Array.toList_setIfInBounds,List.take_set,List.take_set,aa];exact (qmz ps j (.slice a m c,b) (by omega)).symm
 ·intro x hx;rw [Array.toList_setIfInBounds,Array.toList_setIfInBounds] at hx;rcases List.mem_or_eq_of_mem_set hx with hx | rfl
  ·rcases List.mem_or_eq_of_mem_set hx with hx | rfl
   ·exact I x hx
   ·exact fun k d e=>by cases e
  ·exact fun k d e=>by cases e
 ·intro k hk;rw [qa6] at hk
  by_cases e:k=j
  ·subst e;simp only [if_true];rw [qaa,List.getElem?_set_self (by omega)];obtain⟨m',e,hm⟩:=hi;simp only [qaP,qaV,qaN,qbw] at e;have H:=F.mag hm;rw [<-e.1] at H;exact⟨e.2.1,H⟩
  ·simp only [if_neg e];rw [qaa,List.getElem?_set_ne (fun h=>e h.symm),<-qaa];exact F.pairs h.pt k hk
theorem NSt.soft {W':World} {row:Option Nat} (h:NSt W h0 t bl wl n Sl St Sb vl vt vb gs ps vs T) (s:Soft W W' row) (U:∀g,row=some g->h0+1+1+1<=g/\vl.ownBlock≠some g/\vt.ownBlock≠some g/\vb.ownBlock≠some g/\∀p,p<Sl.length->gs p≠g):NSt W' h0 t bl wl n Sl St Sb vl vt vb gs ps vs T:=by
 cases row with
 | none=>exact h.below (qeN s.grown)
 | some g =>
  obtain⟨V,H,I,J,O⟩:=U g rfl;have ne:∀{x:Nat},x<h0+1+1+1->(some g:Option Nat)≠some x:=fun hx e=>by have:=qah e;omega
  exact⟨s.blk h.cs (ne (by omega)),s.blk h.cl (ne (by omega)),s.blk h.ct (ne (by omega)),s.rws h.rl (or_ne H),s.rws h.rt (or_ne I),s.rws h.rb (or_ne J),fun p F=>s.introw (h.rows p F) (fun e=>O p F (qah e).symm),h.ap,s.pairs h.pt,h.pl,s.mags h.mb⟩
theorem NSt.lt (h:NSt W h0 t bl wl n Sl St Sb vl vt vb gs ps vs T) {g:Nat} (hg:W.heap.size<=g):h0+1+1+1<=g/\vl.ownBlock≠some g/\vt.ownBlock≠some g/\vb.ownBlock≠some g/\∀p,p<Sl.length->gs p≠g:=by
 have I:=(qG h.ct).1;refine⟨by omega,fun e=>?_,fun e=>?_,fun e=>?_,fun p H e=>?_⟩
 ·have:=(h.rl.lt g e).2;omega
 ·have:=(h.rt.lt g e).2;omega
 ·have:=(h.rb.lt g e).2;omega
 ·obtain⟨ps',_,F,_⟩:=h.rows p H;have:=(qG F.1).1;omega
theorem qnb {k:Nat} {al O:Option Addr} {cl ct:Nat} (hk:Sl.length=k) (h:NSt W h0 t bl wl n Sl Sl Sl (.slice al k cl) (.slice O k ct) vb gs ps vs (fun p=>nfac t bl wl Sl (Sl.getD p 0))) (hS:∀x∈Sl,NRow t bl wl x/\(besides t bl x).length=n+1) (ag:k<=40) {r c p hr V:Nat} (hp:p<k) (aa:r<n+1) (Y:c<n+1) (hn:n<=10)
  (cr:W.cell? ⟨hr,0,none⟩=some (.int .i64 r)) (cc:W.cell? ⟨V,0,none⟩=some (.int .i64 c)) :
  Calls prog 252 #[.int .i64 p,.pointer (some ⟨h0+1+1,0,none⟩),.pointer (some ⟨h0+1,0,none⟩),.pointer (some ⟨hr,0,none⟩),.pointer (some ⟨V,0,none⟩)] W fun e w'=>∃u,e=.returned u/\Below W.heap.size W w'/\IntAt w' u (nterm t bl wl Sl r c (Sl.getD p 0)):=by
 have F:p<Sl.length:=by omega
 have I:=hS _ (qcB F);obtain⟨gt,af,a2,m2,d2,b2,et,_,_,t0,t1,_,Z⟩:=h.top F;rw [hk] at et;simp only [qbH,true_and] at et;obtain⟨rfl,rfl⟩:=et;obtain⟨ao,gl,ae,el,J,_⟩:=h.rl.vcells;rw [hk] at el;simp only [qbH,true_and] at el;obtain⟨rfl,rfl⟩:=el;have U:=J.addr (by rw [qcI];omega);subst U;have H:=J.cell p (by rw [qcI];exact F);rw [qaM,qaa,qec F] at H;exact qna (h0+1+1) (h0+1) hr V gt ct gl cl k p r c (gs p) (n+1) a2 m2 d2 b2 _ _ 61788 4356 (by omega) W (qC _ _ 0 _ _ _ h.ct) (qC _ _ 0 _ _ _ h.cl) cr cc t0 t1 Z H (h.rows p F) hp (by omega) aa Y (by omega) (qky (fun x hx=>(hS x hx).1) (by omega) F) (fun i hi=>(qdi I.1.fa (m:=63) (by omega) (by omega)).mono (by omega))
end
theorem qi1 {W:World} {F R k n g:Nat} {H:Nat->Nat} (h:W.heap[F]? = some (.cells (rowvs k n H++List.replicate (R-k) zs0).toArray 237 (0,0))) (J:k<R) :
  (W.setCell ⟨F,k,none⟩ (rowv g n)).heap[F]? = some (.cells (rowvs (k+1) n (fun j=>if j=k then g else H j)++List.replicate (R-(k+1)) zs0).toArray 237 (0,0)):=by
 rw [heap_setCell_same _ F k _ _ _ h]
 congr 3
 obtain⟨m,I⟩:∃m,R-k=m+1:=⟨R-k-1,by omega⟩;rw [qaA,I,qbn,qa8 _ _ (by rw [qcI];exact qae _),qcI,qaG,qbk,show R-(k+1)=m by omega];rw [qjX,qaI];rfl
theorem qi0 {W:World} {I R k n:Nat} {F:Nat->Nat} (h:W.heap[I]? = some (.cells (rowvs k n F++List.replicate (R-k) zs0).toArray 237 (0,0))) {j:Nat} (H:j<k):W.cell? ⟨I,j,none⟩=some (rowv (F j) n):=by
 refine (qC _ _ _ _ _ _ h).trans ?_;rw [qau,qas (by rw [qcI];exact H),qec H]
