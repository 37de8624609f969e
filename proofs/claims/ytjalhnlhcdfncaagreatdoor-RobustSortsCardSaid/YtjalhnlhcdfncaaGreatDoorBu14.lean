import Derived.Maps.AppendAt
import Derived.Test.YtjalhnlhcdfncaaGreatDoorBu13
set_option maxRecDepth 100000
set_option maxHeartbeats 0
namespace Go.Proofs.YtjalhnlhcdfncaaGreatDoor
open Go.RowKit
def qcL (x:Value):Prop:=∀k d,x≠.int k d
def Rws (w:World) (base:Nat) (e:TypeId) (size:Nat) (v:Value) (n:Nat) (E:List Value):Prop :=
  E.length=n*size /\
  ((v=.slice none 0 0/\n=0) \/
   ∃g cap cur,v=.slice (some ⟨g,0,none⟩) n cap/\base<=g/\w.heap[g]? = some (.cells cur e (0,0))/\n<=cap/\cap<=maxLen/\cur.size=cap*size/\cur.toList.take (n*size)=E/\∀x∈cur.toList,qcL x)
section
variable {w:World} {base:Nat} {e:TypeId} {size:Nat} {v:Value} {n:Nat} {xs:List Value}
theorem Rws.own (h:Rws w base e size v n xs):w.ownsRow base e size v n xs:=by
 refine⟨h.1,?_⟩;rcases h.2 with h | ⟨g,cap,cur,E,F,G,H,I,J,O,_⟩
 ·exact qax h
 ·exact qam ⟨g,cap,cur,E,F,G,H,I,J,O⟩
theorem Rws.nil (w:World) (base:Nat) (e:TypeId) (E:Nat):Rws w base e E (.slice none 0 0) 0 []:=⟨by simp,.inl ⟨rfl,rfl⟩⟩
theorem Rws.kept {F:World} {row:Option Nat} (h:Rws w base e size v n xs) (hg:w.grownBy F row) (hne:v.ownBlock=none\/v.ownBlock≠row):Rws F base e size v n xs:=by
 refine⟨h.1,?_⟩;rcases h.2 with h | ⟨g,cap,cur,rfl,G,E,H⟩
 ·exact qax h
 ·refine qam ⟨g,cap,cur,rfl,G,(hg.block g (qG E).1 ?_).trans E,H⟩;rcases hne with hne | hne
  ·cases hne
  ·exact hne
theorem Rws.below {F:World} (h:Rws w base e size v n xs) (I:Below w.heap.size w F):Rws F base e size v n xs:=by
 refine⟨h.1,?_⟩;rcases h.2 with h | ⟨g,cap,cur,rfl,G,E,H⟩
 ·exact qax h
 ·exact qam ⟨g,cap,cur,rfl,G,(I.block g (qG E).1).trans E,H⟩
theorem Rws.lt (h:Rws w base e size v n xs):∀k,v.ownBlock=some k->base<=k/\k<w.heap.size:=h.own.lt
theorem Rws.shape (h:Rws w base e size v n xs):∃(E:Option Addr) (cap:Nat),v=.slice E n cap:=by
 rcases h.2 with ⟨rfl,rfl⟩ | ⟨g,cap,cur,rfl,_⟩
 ·exact⟨none,0,rfl⟩
 ·exact⟨_,_,rfl⟩
theorem Rws.ne {E:Nat} {I:TypeId} {F:Nat} {O:Value} {Y:Nat} {H:List Value} (h:Rws w base e size v n xs) (U:Rws w E I F O Y H) (he:e≠I):v.ownBlock=none\/v.ownBlock≠O.ownBlock:=by
 rcases h.2 with ⟨rfl,_⟩ | ⟨g,cap,cur,rfl,_,V,_⟩
 ·exact qax rfl
 ·refine qam fun J=>?_
  rcases U.2 with ⟨rfl,_⟩ | ⟨g',cap',cur',rfl,_,G,_⟩
  ·cases J
  ·have:g=g':=qag J;subst this;have:=V.symm.trans G;simp at this;exact he this.2
end
theorem Rws.vcells {w:World} {base:Nat} {e:TypeId} {v:Value} {n:Nat} {G:List Value} (h:Rws w base e 1 v n G):∃(H:Option Addr) (g cap:Nat),v=.slice H n cap/\VCells w H g 0 G/\n<=cap:=by
 have O:=h.1;rw [qbO] at O;have E:=h.own;rcases h.2 with ⟨rfl,rfl⟩ | ⟨g,cap,cur,rfl,_,_,J,_⟩
 ·exact⟨none,0,0,rfl,⟨fun I=>absurd I (by omega),fun k F=>absurd F (by omega)⟩,qae _⟩
 ·refine⟨some ⟨g,0,none⟩,g,cap,rfl,⟨fun _=>rfl,fun k F=>?_⟩,J⟩;have:=E.cells (g:=g) rfl k (G.getD k undef) (by rw [qaa,qad F];rfl)
  rwa [Addr.add_mid] at this
theorem qfN {w E:World} (h:w.grownBy E none):Below w.heap.size w E:=⟨h.os,h.tape,h.output,h.size,fun i F=>h.block i F (fun e=>by cases e)⟩
section
variable {w w':World} {base:Nat} {e:TypeId} {size:Nat} {v:Value} {n:Nat} {xs:List Value}
theorem qm7 {cur:Array Value} (h:∀x∈cur.toList,qcL x):∀x∈cur.toList,∀d,x≠.int .u32 d:=fun x hx d=>h x hx .u32 d
theorem Rws.old (h:Rws w base e size v n xs) (hg:w.grownBy w' v.ownBlock) {a:World} {B:Nat} (G:Below B a w) (hB:B<=base) (E:B<=w.heap.size):Below B a w' :=
 G.trans ⟨hg.os,hg.tape,hg.output,hg.size,fun i H=>hg.block i (qak H E) (fun F=>by
  have:=(h.lt i F.symm).1;omega)⟩
end
section
variable {P:Program}
theorem qgn {z:Value} (H:∀x∈z.cells.toList,qcL x) (n:Nat):∀x∈(Builtin.zeroCells z.cells n).toList,qcL x:=by
 intro x hx;obtain⟨i,G,he⟩:=List.getElem_of_mem hx;have E:0<z.cells.size:=by
  rcases qaU z.cells.size with h | h
  ·have:=size_zeroCells z.cells n;rw [h,Nat.mul_zero] at this;rw [qbq] at G;omega
  ·exact h
 have F:x=z.cells[i % z.cells.size]!:=by
  rw [<-he];simp [Builtin.zeroCells]
 rw [F,getElem!_pos z.cells _ (qbR _ E)];exact H _ (by simp)
theorem qe0 (w:World) (base:Nat) (t ty e:TypeId) (i:TypeInfo) (z:Value) (size bytes:Nat) (ht:P.underlying t=some (.slice e)) (hi:P.info? e=some i) (hz:i.zero=some z)
  (ae:i.size=size) (ak:i.bytes=bytes) (ah:z.cells.size=size) (az:0<size) (ag:∀x∈z.cells.toList,qcL x)
  (v:Value) (n:Nat) (xs:List Value) (F:Rws w base e size v n xs)
  (a:Addr) (m c:Nat) (E:List Value) (U:E.length=m*size) (H:∀j u,E[j]? = some u->w.cell? (a.add j)=some u) (h1:∀u∈E,u.oneCell'=true) (aa:∀u∈E,qcL u) (ax:0<m)
  (V:n+m<=maxLen) (J:(n+m)*bytes<=140737488355328) (O:base<=w.heap.size) :
  ∃v' w',(Builtin.append_ #[t,t] ty #[v,.slice (some a) m c]).run P w=.ok v' w'/\Rws w' base e size v' (n+m) (xs++E)/\w.grownBy w' v.ownBlock/\(v'.ownBlock=v.ownBlock\/v'.ownBlock=some w.heap.size):=by
 subst ae;subst ak;have ai:n+m<=9223372036854775807:=by simp only [maxLen] at V;omega
 have G:(xs++E).length=(n+m)*i.size:=by rw [qaf,F.1,U,qaF]
 rcases F.2 with ⟨rfl,rfl⟩ | ⟨g,cap,cur,rfl,aj,hg,ay,au,av,htake,Y⟩
 ·have hx:xs=[]:=List.eq_nil_of_length_eq_zero (by simpa using F.1);subst hx;have hr:=run_append_nil (P:=P) w t ty e i z ht hi hz a m c E U H ax (by omega) (by have hb:=J;simp only [qaR] at hb;omega);have Z:=grownCap_ge w m 0 e;refine⟨_,_,hr,⟨by simpa using G,.inr ⟨w.heap.size,_,_,by rw [qaR],O,heap_alloc_new w.drew _,by rw [qaR];exact Z,grownCap_le_maxLen w m 0 e (by simpa using V),?_,?_,?_⟩⟩,⟨rfl,rfl,rfl,by simp,fun k hk _=>qL w.drew _ k hk⟩,qam rfl⟩
  ·simp only [Array.size_append,qbQ,size_zeroCells,ah,U,<-qaF]
   congr 1;omega
  ·rw [qaR,qbj,<-U,qbl];exact qbV
  ·intro x hx;rw [qbl] at hx;rcases qaI.1 hx with h | h
   ·exact aa x h
   ·exact qgn ag _ x h
 ·by_cases I:n+m<=cap
  ·have af:n*i.size+E.length<=cur.size:=by rw [U,av,<-qaF];exact qaP _ I
   have hr:=run_append_room (P:=P) w t ty e i ht hi g n cap cur hg a m c E U H h1 I af;refine⟨_,_,hr,⟨G,.inr ⟨g,cap,_,rfl,aj,qT w g cur _ e _ hg,I,au,?_,?_,?_⟩⟩,⟨rfl,rfl,rfl,by simp,fun k _ hk=>setRow_other w g k _ (fun e=>hk (by simp [Value.ownBlock,e]))⟩,qax rfl⟩
   ·simp only [qbQ,qaf,qao,qbi,qbq];omega
   ·rw [htake,<-G];exact qbV
   ·intro x hx;rcases qaI.1 hx with h | h
    ·rcases qaI.1 h with h | h
     ·exact Y x (qbd h)
     ·exact aa x h
    ·exact Y x (List.mem_of_mem_drop h)
  ·have holds:∀j u,xs[j]? = some u->w.cell? ((⟨g,0,none⟩:Addr).add j)=some u:=F.own.cells (g:=g) rfl;have hr:=run_append_grow (P:=P) w t ty e i z ht hi hz ⟨g,0,none⟩ n cap xs F.1 holds a m c E U H (by omega) (by omega) (growslice_fits (by omega) J);have Z:=grownCap_ge w (n+m) cap e;refine⟨_,_,hr,⟨G,.inr ⟨w.heap.size,_,_,rfl,O,heap_alloc_new w.drew _,Z,grownCap_le_maxLen w (n+m) cap e V,?_,?_,?_⟩⟩,⟨rfl,rfl,rfl,by simp,fun k hk _=>qL w.drew _ k hk⟩,qam rfl⟩
   ·simp only [Array.size_append,qbQ,size_zeroCells,ah,F.1,U,<-qaF]
    congr 1;omega
   ·simp only [qbl,qaE];rw [<-qaE,<-G];exact qbV
   ·intro x hx;rw [qbl,qbl] at hx;rcases qaI.1 hx with h | h
    ·rcases qaI.1 h with h | h
     ·rw [<-htake] at h;exact Y x (qbd (by simpa using h))
     ·exact aa x h
    ·exact qgn ag _ x h
theorem qif {w:World} {o:Oper} {a:Act} {K:Act->World->Prop} {Q:Exit->Act->World->Prop} (s x:Operand) (t:TypeId)
  (ho:o.op=.call { callee:=.builtin .append,args:=#[s,x],argTypes:=#[t,t] })
  (base:Nat) (e:TypeId) (i:TypeInfo) (z:Value) (size bytes:Nat) (ht:P.underlying t=some (.slice e)) (hi:P.info? e=some i) (hz:i.zero=some z)
  (I:i.size=size) (Z:i.bytes=bytes) (ah:z.cells.size=size) (af:0<size) (ag:∀x∈z.cells.toList,qcL x)
  (v:Value) (n:Nat) (xs:List Value) (hs:a.eval s=v) (O:Rws w base e size v n xs)
  (V:Addr) (m c:Nat) (E:List Value) (hx:a.eval x=.slice (some V) m c) (hl:E.length=m*size) (H:∀j u,E[j]? = some u->w.cell? (V.add j)=some u) (h1:∀u∈E,u.oneCell'=true) (ae:∀u∈E,qcL u) (aa:0<m)
  (Y:n+m<=maxLen) (F:(n+m)*bytes<=140737488355328) (G:base<=w.heap.size)
  (h:∀J U,Rws U base e size J (n+m) (xs++E)->w.grownBy U v.ownBlock->(J.ownBlock=v.ownBlock\/J.ownBlock=some w.heap.size)->K (a.put o.dst J) U) :
  Oper.wp P o a w K Q:=by
 obtain⟨J,U,hr,h2,h3,h4⟩:=qe0 (P:=P) w base t o.type e i z size bytes ht hi hz I Z ah af ag v n xs O V m c E hl H h1 ae aa Y F G;unfold Oper.wp execOp;simp only [ho,resolve,invoke,builtin,Sem.run_bind,Sem.run_pure,Result.andThen_ok,List.map_toArray,List.map_cons,List.map_nil,hs,hx,hr];exact h J U h2 h3 h4
theorem qg5 {w:World} {U:Array Oper} {o:Oper} {a:Act} {K:Act->World->Prop} {Q:Exit->Act->World->Prop} {E:Prop} (ae:o.guard=none) (s x:Operand) (t:TypeId)
  (ho:o.op=.call { callee:=.builtin .append,args:=#[s,x],argTypes:=#[t,t] })
  (base:Nat) (e:TypeId) (i:TypeInfo) (z:Value) (size bytes:Nat) (ht:P.underlying t=some (.slice e)) (hi:P.info? e=some i) (hz:i.zero=some z)
  (J:i.size=size) (aa:i.bytes=bytes) (aj:z.cells.size=size) (ah:0<size) (ai:∀x∈z.cells.toList,qcL x)
  (v:Value) (n:Nat) (xs:List Value) (hs:a.eval s=v) (O:Rws w base e size v n xs)
  (Y:Addr) (m c:Nat) (F:List Value) (hx:a.eval x=.slice (some Y) m c) (hl:F.length=m*size) (I:∀j u,F[j]? = some u->w.cell? (Y.add j)=some u) (h1:∀u∈F,u.oneCell'=true) (ag:∀u∈F,qcL u) (af:0<m)
  (Z:n+m<=maxLen) (G:(n+m)*bytes<=140737488355328) (H:base<=w.heap.size)
  (h:∀V w',Rws w' base e size V (n+m) (xs++F)->w.grownBy w' v.ownBlock->(V.ownBlock=v.ownBlock\/V.ownBlock=some w.heap.size)->K (a.put o.dst V) w') :
  if Region.wanted o (yielded U a.tmps)=true then Oper.wp P o a w K Q else E:=by
 have hw:Region.wanted o (yielded U a.tmps)=true:=by simp [Region.wanted,ae]
 rw [if_pos hw];exact qif s x t ho base e i z size bytes ht hi hz J aa aj ah ai v n xs hs O Y m c F hx hl I h1 ag af Z G H h
theorem qds {w:World} {U:Array Oper} {rest:List Oper} {o:Oper} {a:Act} {Q:Exit->Act->World->Prop} (ae:o.guard=none) (s x:Operand) (t:TypeId)
  (ho:o.op=.call { callee:=.builtin .append,args:=#[s,x],argTypes:=#[t,t] })
  (base:Nat) (e:TypeId) (i:TypeInfo) (z:Value) (size bytes:Nat) (ht:P.underlying t=some (.slice e)) (hi:P.info? e=some i) (hz:i.zero=some z)
  (I:i.size=size) (aa:i.bytes=bytes) (aj:z.cells.size=size) (ah:0<size) (ai:∀x∈z.cells.toList,qcL x)
  (v:Value) (n:Nat) (xs:List Value) (hs:a.eval s=v) (O:Rws w base e size v n xs)
  (Y:Addr) (m c:Nat) (E:List Value) (hx:a.eval x=.slice (some Y) m c) (hl:E.length=m*size) (H:∀j u,E[j]? = some u->w.cell? (Y.add j)=some u) (h1:∀u∈E,u.oneCell'=true) (ag:∀u∈E,qcL u) (af:0<m)
  (Z:n+m<=maxLen) (F:(n+m)*bytes<=140737488355328) (G:base<=w.heap.size)
  (h:∀J V,Rws V base e size J (n+m) (xs++E)->w.grownBy V v.ownBlock->(J.ownBlock=v.ownBlock\/J.ownBlock=some w.heap.size)->wpList P U Q rest (a.put o.dst J) V) :
  wpList P U Q (o :: rest) a w:=by
 refine wpList_plain ae fun K hK=>?_
 obtain⟨J,V,hr,h2,h3,h4⟩:=qe0 (P:=P) w base t o.type e i z size bytes ht hi hz I aa aj ah ai v n xs O Y m c E hl H h1 ag af Z F G;unfold Oper.wp execOp;simp only [ho,resolve,invoke,builtin,Sem.run_bind,Sem.run_pure,Result.andThen_ok,List.map_toArray,List.map_cons,List.map_nil,hs,hx,hr];exact hK _ _ (h J V h2 h3 h4)
end
open Go.Proofs.Tryz
theorem infoFs:(Tryz.prog.info? 22).map (fun i=>(i.zero,i.size,i.bytes))=some (some (.slice none 0 0),1,24):=by kernel_rfl
theorem qdI {W:World} {B:Nat} {v:Value} {n:Nat} {l:List FT} (h:Rws W B 27 2 v n (fflat l)) (Y:l.length=n):∃(H:Option Addr) (g cap:Nat),v=.slice H n cap/\FCells W H g 0 l/\n<=cap:=by
 have E:=h.own;rcases h.2 with ⟨rfl,rfl⟩ | ⟨g,cap,cur,rfl,_,_,V,_⟩
 ·exact⟨none,0,0,rfl,⟨fun J=>absurd J (by omega),fun k G=>absurd G (by omega)⟩,qae _⟩
 ·refine⟨some ⟨g,0,none⟩,g,cap,rfl,⟨fun _=>rfl,fun k G=>?_⟩,V⟩;have hx:l[k]? = some (l.getD k fd0):=by rw [qaa,qad G];rfl
  obtain⟨O,U⟩:=qfi l k _ hx;have I:=E.cells (g:=g) rfl _ _ O;have F:=E.cells (g:=g) rfl _ _ U;rw [Addr.add_mid] at I F;refine⟨I,?_⟩;rw [<-Nat.add_assoc] at F;exact F
theorem qdZ (x:ByteArray):qcL (.string x):=fun k d h=>by cases h
theorem qem {O:Array Oper} {rest:List Oper} {o:Oper} {a:Act} {w:World} {Q:Exit->Act->World->Prop} (aa:o.guard=none) (s x:Operand)
  (ho:o.op=.call { callee:=.builtin .append,args:=#[s,x],argTypes:=#[22,22] }) {Y:World} {B:Nat} {v:Value} {n:Nat} {l:List FT} {x1 x2:ByteArray}
  (hB:Below B Y w) (ai:B=Y.heap.size) (J:Rws w B 27 2 v n (fflat l)) (hs:a.eval s=v) {g:Nat} (hx:a.eval x=.slice (some ⟨g,0,none⟩) 1 1) (ae:g=w.heap.size) (hn:n<1000000)
  (h:∀V U,Hu (Rws U B 27 2 V (n+1) (fflat (l++[(x1,x2)])))->Hu (Below B Y U)->wpList prog O Q rest (a.put o.dst V) U) :
  wpList prog O Q (o :: rest) a (w.alloc (.cells #[.string x1,.string x2] 27)):=by
 subst ae;obtain⟨i0,hi,af,ag,ah⟩:=info_parts infoF;have aj:=hB.size;have Z:Below w.heap.size w (w.alloc (.cells #[.string x1,.string x2] 27)):=qbY qB qN;have E:=J.below Z;have hg:=heap_alloc_new w (.cells #[.string x1,.string x2] 27);refine qds aa s x 22 ho B 27 i0 _ 2 32 underlying22 hi af ag ah rfl (by decide) ?nz v n (fflat l) hs E ⟨w.heap.size,0,none⟩ 1 1 [.string x1,.string x2] hx rfl ?c1 ?c2 ?c3 (by decide) (by unfold maxLen;omega) (by omega) (by simp only [qab];omega) ?_
 case nz =>
  intro y hy;rcases qav.1 (show y∈[Value.string ⟨#[]⟩,Value.string ⟨#[]⟩] from hy) with rfl | hy
  ·exact qdZ _
  ·rw [qan.1 hy];exact qdZ _
 case c1 =>
  intro j u I;rw [Addr.add_mid]
  match j,I with
  | 0,I=>exact (qC _ _ _ _ _ _ hg).trans I
  | 1,I=>exact (qC _ _ _ _ _ _ hg).trans I
 case c2 =>
  intro u H;rcases qav.1 H with rfl | H
  ·rfl
  ·rw [qan.1 H];rfl
 case c3 =>
  intro u H;rcases qav.1 H with rfl | H
  ·exact qdZ _
  ·rw [qan.1 H];exact qdZ _
 intro V U G F _;refine h V U (qH ?_) (qH ?_)
 ·rw [qd0];exact G
 ·exact E.old F (hB.alloc (by omega) _) qN (by simp only [qab];omega)
section
variable {P:Program} {ops:Array Oper} {Q:Exit->Act->World->Prop} {md:Region.Mode} {S:World->Prop}
def nthOp:List Oper->Nat->Option Oper
 | [],_=>none
 | o :: _,0=>some o
 | _ :: l,n+1=>nthOp l n
theorem qhB:∀{l:List Oper} {i:Nat} {o:Oper},nthOp l i=some o->l.toArray[i]? = some o
 | [],_,_,h=>by cases h
 | _ :: _,0,_,h=>by rw [qaC];exact h
 | _ :: l,n+1,_,h=>by
  have:=qhB (l:=l) h;rw [qaC] at this ⊢;exact this
theorem qeP {E:Array Oper} {i:Nat} {o:Oper} (h:nthOp E.toList i=some o):E[i]? = some o:=qhB (l:=E.toList) h
theorem qmx {T:World->Prop} (hT:∀W,T W->S W):∀(E:Nat) (F:Array Bool) (a:Act) (w:World),wpAnyH P md ops Q T E F a w->wpAnyH P md ops Q S E F a w
 | 0,_,_,_,h=>h
 | E+1,_,_,_,h=>⟨h.1,fun i H=>wpOp_mono (fun _ _ G=>⟨hT _ G.1,qmx hT E _ _ _ G.2⟩) (h.2 i H)⟩
theorem hd_take (i:Nat) {o:Oper} {v:Value} {F:Nat} {E:Array Bool} {a:Act} {w:World} (G:nthOp ops.toList i=some o)
  (hB:(Region.noSelect ops && (Region.free md ops E i && (Region.ready md ops E).contains i))=true) (hQ:∀c a w,Q (.panic c) (a.put o.dst v) w->Q (.panic c) a w) (hS:S w)
  (I:Region.wanted o (yielded ops a.tmps)=true) (hy:∀w,S w->(execOp a.eval o).run P w=.ok (.value v) w)
  (h:wpAnyH P md ops Q S F (E.setIfInBounds i true) (a.put o.dst v) w):wpAnyH P md ops Q S (F+1) E a w:=by
 have H:=qeP G;rw [qay,qay] at hB;exact wpAnyH_take H hB.1 hB.2.1 hB.2.2 hQ (qax ⟨I,hy⟩) hS h
def Way (P:Program) (H:Region.Mode) (G:Array Oper) (Q:Exit->Act->World->Prop) (S:World->Prop) (F:Nat) (E:Array Bool) (K:Act->World->Prop):Prop :=
 Shut (∀(T:World->Prop) (a:Act) (w:World),(∀W,T W->S W)->T w->wpAnyH P H G Q T F E a w->K a w)
theorem hd_step {i:Nat} {o:Oper} {F:Nat} {E:Array Bool} {a:Act} {w:World} (U:ops[i]? = some o)
  (h:∀K:Act->World->Prop,Way P md ops Q S F (E.setIfInBounds i true) K->if Region.wanted o (yielded ops a.tmps)=true then Oper.wp P o a w K Q else K (a.put o.dst undef) w) :
  wpOp P ops Q i (fun I G=>S G/\wpAnyH P md ops Q S F (E.setIfInBounds i true) I G) a w :=
 wpOp_step U fun H J=>h H fun _T a w hT V O=>J a w ⟨hT w V,qmx hT _ _ _ _ O⟩
theorem qho (i:Nat) {o:Oper} {F:Nat} {E:Array Bool} {a:Act} {w:World} (G:nthOp ops.toList i=some o) (hr:decide (Region.ready md ops E=[i])=true)
  (h:∀K:Act->World->Prop,Way P md ops Q S F (E.setIfInBounds i true) K->if Region.wanted o (yielded ops a.tmps)=true then Oper.wp P o a w K Q else K (a.put o.dst undef) w) :
  wpAnyH P md ops Q S (F+1) E a w:=by
 refine wpAnyH_all (of_decide_eq_true hr) (by simp) fun j H=>?_
 rw [qan] at H;subst H;exact hd_step (qeP G) h
theorem Way.on {F:Nat} {E:Array Bool} {K:Act->World->Prop} (h:Way P md ops Q S F E K) (T:World->Prop) (a:Act) (w:World) (hT:∀W,T W->S W) (G:T w) (k:T w->wpAnyH P md ops Q T F E a w):K a w :=
 h.out T a w hT G (k G)
end
def pf (a:Act) (v:Nat->Value):List (Nat×Tmp)->Act
 | []=>a
 | p :: D=>(pf a v D).put (some p.2) (v p.1)
def upd {α:Type} (v:Nat->α) (i:Nat) (x:α):Nat->α:=fun k=>if k=i then x else v k
theorem upd_same {α:Type} (v:Nat->α) (i:Nat) (x:α):upd v i x i=x:=if_pos rfl
theorem qb8 {α:Type} (v:Nat->α) {i k:Nat} (x:α) (h:k≠i):upd v i x k=v k:=if_neg h
theorem put_put (a:Act) (d:Tmp) (x y:Value):(a.put (some d) x).put (some d) y=a.put (some d) y:=by
 simp [Act.put]
theorem qeQ (a:Act) (v:Nat->Value) (i:Nat) (x:Value):∀D:List (Nat×Tmp),(∀p∈D,p.1≠i)->pf a (upd v i x) D=pf a v D
 | [],_=>rfl
 | p :: D,h=>by
  show (pf a (upd v i x) D).put _ (upd v i x p.1)=(pf a v D).put _ (v p.1)
  rw [qeQ a v i x D fun q E=>h q (qbh _ E),qb8 _ _ (h p (qa8 ..))]
theorem qnj (a:Act) (v:Nat->Value) {i:Nat} {d:Tmp} (x:Value):∀D:List (Nat×Tmp),(D.map (·.1)).Nodup->(D.map (·.2)).Nodup->(i,d)∈D->(pf a v D).put (some d) x=pf a (upd v i x) D
 | [],_,_,h=>by cases h
 | p :: D,E,F,h=>by
  rw [List.map_cons,List.nodup_cons] at E F;rcases qav.1 h with e | h
  ·subst e
   show ((pf a v D).put (some d) (v i)).put (some d) x=(pf a (upd v i x) D).put (some d) (upd v i x i)
   rw [put_put,upd_same,qeQ a v i x D fun q I e=>E.1 (qbe.2 ⟨q,I,e⟩)]
  ·have hne:p.1≠i:=fun e=>E.1 (qbe.2 ⟨_,h,e.symm⟩)
   have G:p.2≠d:=fun e=>F.1 (qbe.2 ⟨_,h,e.symm⟩)
   show ((pf a v D).put (some p.2) (v p.1)).put (some d) x=(pf a (upd v i x) D).put (some p.2) (upd v i x p.1)
   rw [qb8 _ _ hne,<-qnj a v x D E.2 F.2 h];exact Act.put_comm _ _ _ fun e he H=>G (by cases he;cases H;rfl)
theorem qjX (a:Act) (v:Nat->Value):∀D:List (Nat×Tmp),(∀p∈D,v p.1=a.tmps.getD p.2 undef/\p.2<a.tmps.size)->pf a v D=a
 | [],_=>rfl
 | p :: D,h=>by
  show (pf a v D).put (some p.2) (v p.1)=a
  obtain⟨E,F⟩:=h p (qa8 ..);rw [qjX a v D fun q G=>h q (qbh _ G),E]
  show { a with tmps:=a.tmps.setIfInBounds p.2 _ }=a
  congr 1
  apply Array.ext_getElem?;intro j;rw [Array.getElem?_setIfInBounds];split
  ·next e=>subst e;simp [F]
  ·rfl
def arr (n:Nat) (L:Nat->Bool):Array Bool:=((List.range n).map L).toArray
theorem qfL (n:Nat) (L:Nat->Bool) (i:Nat) (b:Bool):(arr n L).getD i b=if i<n then L i else b:=by
 unfold arr;rw [Array.getD_eq_getD_getElem?,qaC,qaN]
 by_cases h:i<n
 ·rw [qbG h,if_pos h];rfl
 ·rw [qaO (by rw [qbs];omega),if_neg h];rfl
theorem qjt (n:Nat) (L:Nat->Bool) (i:Nat):(arr n L).setIfInBounds i true=arr n (upd L i true):=by
 unfold arr;rw [qaL]
 congr 1
 apply List.ext_getElem?;intro k
 by_cases e:k=i
 ·subst e
  by_cases h:k<n
  ·rw [List.getElem?_set_self (by simpa using h),qaN,qbG h]
   show some true=some (upd L k true k)
   rw [upd_same]
  ·rw [qaO (by simp;omega),qaO (by simp;omega)]
 ·rw [qbL (by omega),qaN,qaN];cases hk:(List.range n)[k]? with
  | none=>rfl
  | some j =>
   have:j=k:=by
    obtain⟨h,e2⟩:=List.getElem?_eq_some_iff.1 hk;rw [List.getElem_range] at e2;exact e2.symm
   subst this
   show some (L j)=some (upd L i true j)
   rw [qb8 _ _ e]
section
variable {P:Program} {ops:Array Oper} {Q:Exit->Act->World->Prop} {md:Region.Mode} {S:World->Prop}
theorem qfE (n:Nat) (L:Nat->Bool) (J:n=ops.size) (i:Nat):i∈Region.ready md ops (arr n L)↔i<n/\L i=false/\∃o,ops[i]? = some o/\(o.after.all fun e=>!Region.binds md e || (decide (e.on<n) && L e.on))=true:=by
 have H:∀o:Oper,(o.after.all fun e=>!Region.binds md e || (arr n L).getD e.on false)=(o.after.all fun e=>!Region.binds md e || (decide (e.on<n) && L e.on)):=fun o=>congrArg (fun f=>o.after.all f) (funext fun e=>by
  rw [qfL]
  by_cases h:e.on<n
  ·rw [if_pos h,qV h,Bool.true_and]
  ·rw [if_neg h,qU h,Bool.false_and])
 unfold Region.ready;rw [List.mem_filter,qas,<-J]
 constructor
 ·rintro ⟨F,G⟩;rw [qay] at G;refine⟨F,?_,?_⟩
  ·have:=G.1;rw [qfL,if_pos F] at this;simpa using this
  ·have E:=G.2;cases e:ops[i]? with
   | none=>rw [e] at E;exact absurd E (by simp)
   | some o =>
    rw [e] at E;exact⟨o,rfl,(H o).symm.trans E⟩
 ·rintro ⟨F,G,o,E,I⟩;refine⟨F,?_⟩;rw [qay];refine⟨by rw [qfL,if_pos F,G];rfl,?_⟩;rw [E];exact (H o).trans I
def waits (E:Region.Mode) (o:Oper):List Nat:=(o.after.toList.filter fun e=>Region.binds E e).map (·.on)
theorem qjk {o:Oper} {n:Nat} {L:Nat->Bool} (h:(o.after.all fun e=>!Region.binds md e || (decide (e.on<n) && L e.on))=true):∀k∈waits md o,k<n/\L k=true:=by
 intro k G;obtain⟨e,he,rfl⟩:=qbe.1 G;obtain⟨he,E⟩:=List.mem_filter.1 he;obtain⟨j,F,rfl⟩:=Array.getElem_of_mem (Array.mem_toList_iff.1 he);have:=(Array.all_eq_true.1 h) j F;rw [E] at this
 simpa using this
def dagB (F:Region.Mode) (E:Array Oper):Bool:=(List.range E.size).all fun i=>((nthOp E.toList i).map fun o=>(waits F o).all fun k=>decide (k<i)).getD true
theorem qkD:∀{l:List Oper} {i:Nat} {o:Oper},l[i]? = some o->nthOp l i=some o
 | [],_,_,h=>by simp at h
 | _ :: _,0,_,h=>by simpa [nthOp] using h
 | _ :: l,n+1,_,h=>by
  show nthOp l n=_
  exact qkD (by simpa using h)
theorem qcI {i:Nat} {o:Oper} (h:ops[i]? = some o):nthOp ops.toList i=some o:=qkD (by rw [<-qaC];exact h)
theorem qhz {L:Nat->Bool} (O:dagB md ops=true) (h:Region.ready md ops (arr ops.size L)=[]):∀i,i<ops.size->L i=true:=by
 intro i
 induction i using Nat.strongRecOn with
 | ind i ih =>
  intro F;apply Classical.byContradiction;intro I;have H:ops[i]? = some ops[i]:=Array.getElem?_eq_getElem F;have E:=(qaA.1 O) i (qas.2 F);rw [qcI H] at E;have E:(waits md ops[i]).all (fun k=>decide (k<i))=true:=E;have:i∈Region.ready md ops (arr ops.size L):=(qfE _ L rfl i).2 ⟨F,by simpa using I,_,H,Array.all_eq_true.2 fun j U=>by
   cases J:Region.binds md ops[i].after[j] with
   | false=>rfl
   | true =>
    have V:ops[i].after[j].on∈waits md ops[i]:=qbe.2 ⟨_,List.mem_filter.2 ⟨Array.mem_toList_iff.2 (Array.getElem_mem U),J⟩,rfl⟩;have G:=of_decide_eq_true ((qaA.1 E) _ V);rw [ih _ G (by omega)];simp;omega⟩
  rw [h] at this;cases this
def leftN (n:Nat) (L:Nat->Bool):Nat:=((List.range n).filter fun k=>!L k).length
theorem qgF {n:Nat} {L:Nat->Bool} {i:Nat} (F:i<n) (H:L i=false):leftN n (upd L i true)<leftN n L:=by
 have E:∀l:List Nat,(∀x∈l,x=i->False)\/i∈l->((l.filter fun k=>!upd L i true k).length<=(l.filter fun k=>!L k).length)/\(i∈l->(l.filter fun k=>!upd L i true k).length<(l.filter fun k=>!L k).length):=by
  intro l _
  induction l with
  | nil=>exact⟨qae _,fun h=>by cases h⟩
  | cons x l ih =>
   have ih:=ih (by by_cases h:i∈l;exact qam h;exact qax fun y hy e=>h (e▸hy))
   by_cases e:x=i
   ·subst e;rw [List.filter_cons_of_neg (by rw [upd_same];simp),List.filter_cons_of_pos (by rw [H];rfl),qbz];exact⟨by omega,fun _=>by omega⟩
   ·have G:upd L i true x=L x:=qb8 _ _ e;cases hx:L x with
    | true =>
     rw [List.filter_cons_of_neg (by rw [G,hx];simp),List.filter_cons_of_neg (by rw [hx];simp)];exact⟨ih.1,fun h=>ih.2 (by rcases qav.1 h with h | h;exact absurd h.symm e;exact h)⟩
    | false =>
     rw [List.filter_cons_of_pos (by rw [G,hx];rfl),List.filter_cons_of_pos (by rw [hx];rfl),qbz,qbz];exact⟨by omega,fun h=>by
      have:=ih.2 (by rcases qav.1 h with h | h;exact absurd h.symm e;exact h);omega⟩
 exact (E _ (qam (qas.2 F))).2 (qas.2 F)
theorem qhs {n:Nat} {L:Nat->Bool} (h:leftN n L=0):∀i,i<n->L i=true:=fun i F=>by
 have:=List.eq_nil_of_length_eq_zero h;cases hL:L i with
 | true=>rfl
 | false =>
  have E:i∈(List.range n).filter fun k=>!L k:=List.mem_filter.2 ⟨qas.2 F,by rw [hL];rfl⟩
  rw [this] at E;cases E
def dstB (E:Array Oper) (D:List (Nat×Tmp)) (T:List Nat):Bool:=(List.range E.size).all fun i=>T.contains i || ((nthOp E.toList i).map fun o=>match o.dst with | none=>!(D.map (·.1)).contains i | some d=>D.contains (i,d)).getD true
end
section
variable {P:Program} {ops:Array Oper} {Q:Exit->Act->World->Prop} {md:Region.Mode} {S:World->Prop}
def dep (E:List (Nat×List Nat)) (i:Nat):List Nat:=(E.lookup i).getD []
theorem qgE {n:Nat} {L M:Nat->Bool} (h:∀i,i<n->L i=M i):leftN n L=leftN n M:=by
 unfold leftN
 congr 1
 exact List.filter_congr fun i E=>by rw [h i (qas.1 E)]
section
variable {dl:List (Nat×List Nat)} {F:Nat->Value->List Nat->World->Prop} {w0:World} {i:Nat} {gs:Nat->List Nat} {w:World} {A:Act} {d:Option Tmp} {K:Act->World->Prop}
end
end
class Stays (p:World->Prop):Prop where
 go:∀{W W':World},p W->Below W.heap.size W W'->p W'
instance stays_and {p q:World->Prop} [hp:Stays p] [hq:Stays q]:Stays fun W=>p W/\q W:=⟨fun h E=>⟨hp.go h.1 E,hq.go h.2 E⟩⟩
instance stays_const {p:Prop}:Stays fun _=>p:=⟨fun h _=>h⟩
instance stays_old {w:World}:Stays fun W=>Below w.heap.size w W:=⟨fun h E=>h.trans (E.mono h.size)⟩
instance stays_row {g:Nat} {o:Obj}:Stays fun W=>W.heap[g]? = some o:=⟨fun h E=>(E.block g (qG h).1).trans h⟩
instance stays_ex {α:Type} {p:α->World->Prop} [hp:∀x,Stays (p x)]:Stays fun W=>∃x,p x W:=⟨fun⟨x,h⟩ hb=>⟨x,(hp x).go h hb⟩⟩
def Kn (p:World->Prop) (W:World):Prop:=Hu (p W)
theorem Kn.o {p:World->Prop} {W:World} (k:Kn p W):p W:=Hu.o k
theorem Kn.of {p:World->Prop} {W:World} (h:p W):Kn p W:=qH h
theorem Kn.below {p:World->Prop} [hp:Stays p] {W W':World} (k:Kn p W) (E:Below W.heap.size W W'):Kn p W':=.of (hp.go k.o E)
theorem Kn.on {p q:World->Prop} [hp:Stays p] {W W':World} (k:Kn p W) (E:Below W.heap.size W W') (h:q W'):Kn (fun W=>p W/\q W) W':=.of ⟨hp.go k.o E,h⟩
theorem Kn.also {p q:World->Prop} {W:World} (k:Kn p W) (h:q W):Kn (fun W=>p W/\q W) W:=.of ⟨k.o,h⟩
section
variable {P:Program} {ops:Array Oper} {Q:Exit->Act->World->Prop} {md:Region.Mode} {S:World->Prop}
def growB (F:Region.Mode) (E:Array Oper) (rl:List (Nat×List Nat)) (T:List Nat) (n0:Nat):Bool :=
 ((List.range n0).all fun i=>T.contains i || (((nthOp E.toList i).map fun o=>(dep rl i).all fun k=>(waits F o).contains k && (!T.contains k && decide (k<n0))).getD false)) &&
 ((decide (E.size<=n0) || (List.range n0).all fun k=>T.contains k || (List.range (n0+1)).any fun j=>decide (k<j) && ((nthOp E.toList j).map fun o=>(waits F o).contains k).getD false) &&
 (!T.contains n0 && (List.range E.size).all fun i=>decide (i<=n0) || (T.contains i || ((nthOp E.toList i).map fun o=>(waits F o).any fun k=>decide (n0<=k) && !T.contains k).getD false)))
section
variable {ops:Array Oper} {md:Region.Mode}
theorem qk5 {rl:List (Nat×List Nat)} {T:List Nat} {n0:Nat} (h:growB md ops rl T n0=true) {i:Nat} {o:Oper} (G:i<n0) (hT:i∉T) (I:nthOp ops.toList i=some o):∀k∈dep rl i,k∈waits md o/\k∉T/\k<n0:=by
 intro k H;unfold growB at h;rw [qay] at h;have E:=(qaA.1 h.1) i (qas.2 G);rw [qa6,I] at E;rcases E with E | E
 ·exact absurd (qai.1 E) hT
 ·have F:=(qaA.1 (show ((dep rl i).all fun k=>(waits md o).contains k && (!T.contains k && decide (k<n0)))=true from E)) k H;simp only [qay,decide_eq_true_eq,qbP] at F;refine⟨qai.1 F.1,fun e=>?_,F.2.2⟩;rw [qai.2 e] at F;exact absurd F.2.1 (by decide)
theorem qk6 {rl:List (Nat×List Nat)} {T:List Nat} {n0:Nat} (h:growB md ops rl T n0=true) (I:n0<ops.size) {k:Nat} (H:k<n0) (hT:k∉T):∃j o,k<j/\j<=n0/\nthOp ops.toList j=some o/\k∈waits md o:=by
 unfold growB at h;rw [qay,qay,qa6,decide_eq_true_eq] at h;have F:=(qaA.1 (h.2.1.resolve_left (by omega))) k (qas.2 H);rw [qa6] at F;rcases F with F | F
 ·exact absurd (qai.1 F) hT
 obtain⟨j,G,E⟩:=List.any_eq_true.1 F;rw [qay,decide_eq_true_eq] at E;have G:=qas.1 G;cases e:nthOp ops.toList j with
 | none=>rw [e] at E;exact absurd E.2 (by simp)
 | some o=>rw [e] at E;exact⟨j,o,E.1,by omega,e,qai.1 E.2⟩
theorem qk4 {rl:List (Nat×List Nat)} {T:List Nat} {n0:Nat} (h:growB md ops rl T n0=true) {i:Nat} {o:Oper} (J:n0<i) (hT:i∉T) (I:i<ops.size) (H:nthOp ops.toList i=some o):∃k∈waits md o,n0<=k/\k∉T:=by
 unfold growB at h;rw [qay,qay,qay] at h;have F:=(qaA.1 h.2.2.2) i (qas.2 I);rw [qa6,decide_eq_true_eq,qa6,H] at F;rcases F with F | F | F
 ·omega
 ·exact absurd (qai.1 F) hT
 ·obtain⟨k,G,E⟩:=List.any_eq_true.1 (show ((waits md o).any fun k=>decide (n0<=k) && !T.contains k)=true from F);rw [qay,decide_eq_true_eq,qbP] at E;exact⟨k,G,E.1,fun e=>by rw [qai.2 e] at E;cases E.2⟩
theorem growB_own {rl:List (Nat×List Nat)} {T:List Nat} {n0:Nat} (h:growB md ops rl T n0=true):n0∉T:=fun e=>by
 unfold growB at h;rw [qay,qay,qay,qbP] at h;have:=h.2.2.1;rw [qai.2 e] at this;cases this
end
def pv:Value->Nat
 | .pointer (some a)=>a.block
 | .slice (some a) _ _=>a.block
 | _=>0
structure Grown (md:Region.Mode) (ops:Array Oper) (T E:List Nat) (n0:Nat) (F:Nat->Value->World->Prop) (w0:World) (L:Nat->Bool) (v:Nat->Value) (w:World):Prop where
 old:Below w0.heap.size w0 w
 top:∀i,n0<=i->i∉T->L i=false
 took:∀k∈T,L k=true
 shut:∀j o,nthOp ops.toList j=some o->L j=true->∀k∈waits md o,L k=true
 fact:∀i,i<n0->i∉T->L i=true->F i (v i) w
 lt:∀i∈E,L i=true->pv (v i)<w.heap.size
 apart:∀i∈E,∀j∈E,L i=true->L j=true->i≠j->pv (v i)≠pv (v j)
def Grows (F:Nat->Value->World->Prop) (E:List Nat) (i:Nat) (w:World) (A:Act) (d:Option Tmp) (K:Act->World->Prop):Prop :=
 Shut (∀(x:Value) (H:Act) (G:World),H=A.put d x->F i x G->(E.contains i=true->w.heap.size<=pv x/\pv x<G.heap.size)->Below w.heap.size w G->K H G)
theorem Grows.to {F:Nat->Value->World->Prop} {E:List Nat} {i:Nat} {w:World} {A:Act} {d:Option Tmp} {K:Act->World->Prop} (h:Grows F E i w A d K) (x:Value) (H:Act) (G:World) (I:H=A.put d x) (J:F i x G) (hE:E.contains i=true->w.heap.size<=pv x/\pv x<G.heap.size) (O:Below w.heap.size w G):K H G:=h.out x H G I J hE O
theorem qj7 (a:Act) (D:List (Nat×Tmp)) (rl:List (Nat×List Nat)) (T E:List Nat) (n0:Nat) (F:Nat->Value->World->Prop) (w0:World) (T2:List Nat)
  (ay:∀i x w w',F i x w->Below w.heap.size w w'->F i x w')
  (ak:dagB md ops=true) (h1:(D.map (·.1)).Nodup) (h2:(D.map (·.2)).Nodup) (au:dstB ops D T2=true) (aA:∀k,k<n0->k∈T2->k∈T) (hB:growB md ops rl T n0=true) (hn:n0<=ops.size) (kl:Nat) (aD:leftN ops.size (fun i=>decide (i<n0) || T.contains i)=kl)
  (hS:∀w,Below w0.heap.size w0 w->S w)
  (hstep:∀i o,nthOp ops.toList i=some o->i<n0->i∉T->∀(v:Nat->Value) (w:World),Below w0.heap.size w0 w->(∀k∈dep rl i,F k (v k) w) ->
   ∀A,A=pf a v D->∀K,Grows F E i w A o.dst K->if Region.wanted o (yielded ops A.tmps)=true then Oper.wp P o A w K Q else K (A.put o.dst undef) w)
  (hend:∀v w,Grown md ops T E n0 F w0 (fun i=>decide (i<n0) || T.contains i) v w->∀A,A=pf a v D->∀f,wpAnyH P md ops Q S (f+kl) (arr ops.size fun i=>decide (i<n0) || T.contains i) A w) :
  ∀(G:Nat) (L:Nat->Bool) (v:Nat->Value) (w:World),leftN ops.size L<=G->Grown md ops T E n0 F w0 L v w->wpAnyH P md ops Q S G (arr ops.size L) (pf a v D) w:=by
 have ai:∀(G:Nat) (L:Nat->Bool) (v:Nat->Value) (w:World),leftN ops.size L<=G->Grown md ops T E n0 F w0 L v w->(∀i,i<n0->L i=true)->wpAnyH P md ops Q S G (arr ops.size L) (pf a v D) w:=by
  intro G L v w hf H J;have az:L=fun i=>decide (i<n0) || T.contains i:=funext fun i=>by
   by_cases h:i<n0
   ·rw [J i h,qV h];rfl
   ·by_cases h2:i∈T
    ·rw [H.took i h2,qai.2 h2,Bool.or_true]
    ·rw [H.top i (by omega) h2,qU h,Bool.false_or];exact (Bool.not_eq_true _▸fun e=>h2 (qai.1 e):T.contains i=false).symm
  subst az;rw [aD] at hf;obtain⟨f,rfl⟩:∃f,G=f+kl:=⟨G-kl,by omega⟩;exact hend v w H _ rfl f
 intro G
 induction G with
 | zero =>
  intro L v w hf H;exact ai 0 L v w hf H fun i hi=>qhs (Nat.le_zero.1 hf) i (by omega)
 | succ G ih =>
  intro L v w hf H
  by_cases J:∀i,i<n0->L i=true
  ·exact ai (G+1) L v w hf H J
  refine⟨fun h0=>absurd (fun i hi=>qhz ak h0 i (by omega)) J,fun i hi=>?_⟩;obtain⟨af,hL,o,ho,hd⟩:=(qfE _ L rfl i).1 hi;have hw:∀k∈waits md o,L k=true:=fun k U=>(qjk hd k U).2
  have Y:i<n0:=by
   apply Classical.byContradiction;intro aG;rcases qaB n0 i with hgt | hle
   ·obtain⟨k,U,aB,aC⟩:=qk4 hB hgt (fun h=>by have:=H.took i h;rw [hL] at this;cases this) af (qcI ho);have:=hw k U;rw [H.top k aB aC] at this;cases this
   ·obtain rfl:i=n0:=by omega
    refine J fun k U=>?_
    have aF:∀m k,k<i->i-k=m->L k=true:=by
     intro m
     induction m using Nat.strongRecOn with
     | ind m ihm =>
      intro k U hm
      by_cases av:k∈T
      ·exact H.took k av
      obtain⟨j,p,h1,h2,h3,h4⟩:=qk6 hB af U av;rcases qaB j i with h | h
      ·exact H.shut j p h3 (ihm (i-j) (by omega) j h rfl) k h4
      ·obtain rfl:j=i:=by omega
       rw [qcI ho] at h3;cases h3;exact hw k h4
    exact aF _ k U rfl
  have ae:i∉T:=fun h=>by have:=H.took i h;rw [hL] at this;cases this
  refine wpOp_step ho fun K' hK=>hstep i o (qcI ho) Y ae v w H.old (fun k U=>by obtain⟨a1,a2,a3⟩:=qk5 hB Y ae (qcI ho) k U;exact H.fact k a3 a2 (hw k a1)) _ rfl K' fun x A' w' hA hF ag O=>?_
  have aj:Below w0.heap.size w0 w':=H.old.trans (O.mono H.old.size);refine hK _ _ ⟨hS _ aj,?_⟩;rw [qjt];have ax:A'=pf a (upd v i x) D:=by
   rw [hA];have O:=(qaA.1 au) i (qas.2 af);rw [qa6,qcI ho] at O;rcases O with O | O
   ·exact absurd (aA i Y (qai.1 O)) ae
   ·cases e:o.dst with
    | none =>
     show pf a v D=_
     refine (qeQ a v i x D fun p hp Z=>?_).symm;have O:(!(D.map (·.1)).contains i)=true:=by
      have:(match o.dst with | none=>!(D.map (·.1)).contains i | some d=>D.contains (i,d))=true:=O;rw [e] at this;exact this
     rw [qbP,<-Bool.not_eq_true] at O;exact O (qai.2 (qbe.2 ⟨p,hp,Z⟩))
    | some d =>
     have O:D.contains (i,d)=true:=by
      have:(match o.dst with | none=>!(D.map (·.1)).contains i | some d=>D.contains (i,d))=true:=O;rw [e] at this;exact this
     exact qnj a v x D h1 h2 (qai.1 O)
  rw [ax];refine ih _ _ _ (by have:=qgF af hL;omega) ⟨aj,fun j V ah=>?_,fun k U=>?_,fun j p hp V k U=>?_,fun j V ah I=>?_,fun j V I=>?_,fun j V m hm I aa hne=>?_⟩
  ·rw [qb8 _ _ (by omega)];exact H.top j V ah
  ·rw [qb8 _ _ (by rintro rfl;exact ae U)];exact H.took k U
  ·by_cases e:k=i
   ·rw [e,upd_same]
   ·rw [qb8 _ _ e]
    by_cases Z:j=i
    ·subst Z;rw [qcI ho] at hp;cases hp;exact hw k U
    ·rw [qb8 _ _ Z] at V;exact H.shut j p hp V k U
  ·by_cases e:j=i
   ·subst e;rw [upd_same];exact hF
   ·rw [qb8 _ _ e] at I ⊢;exact ay _ _ _ _ (H.fact j V ah I) O
  ·by_cases e:j=i
   ·subst e;rw [upd_same];exact (ag (qai.2 V)).2
   ·rw [qb8 _ _ e] at I ⊢;exact qak (H.lt j V I) O.size
  ·by_cases e:j=i
   ·subst e;have Z:m≠j:=fun e=>hne e.symm
    rw [qb8 _ _ Z] at aa;rw [upd_same,qb8 _ _ Z];have h1:=H.lt m hm aa;have h2:=(ag (qai.2 V)).1;omega
   ·rw [qb8 _ _ e] at I ⊢
    by_cases Z:m=i
    ·subst Z;rw [upd_same];have h1:=H.lt j V I;have h2:=(ag (qai.2 hm)).1;omega
    ·rw [qb8 _ _ Z] at aa ⊢;exact H.apart j V m hm I aa hne
theorem qk9 {I:Nat} {G:Array Bool} {a:Act} {O:World} (D:List (Nat×Tmp)) (rl:List (Nat×List Nat)) (T C E:List Nat) (n0:Nat) (F:Nat->Value->World->Prop) (kl m:Nat) (Lz:Array Bool) (hm:a.tmps.size=m)
  (au:∀i x,Stays (F i x))
  (hB:(dagB md ops && (decide ((D.map (·.1)).Nodup) && (decide ((D.map (·.2)).Nodup) && (dstB ops D (T++(List.range ops.size).filter fun k=>decide (n0<=k)) && ((D.all fun p=>decide (D.lookup p.1=some p.2) && decide (p.2<m)) && (decide (G.size=ops.size) && (decide (leftN ops.size (fun k=>G.getD k false)<=I) &&
   (growB md ops rl T n0 && (decide (n0<=ops.size) && (decide (leftN ops.size (fun i=>decide (i<n0) || T.contains i)=kl) && (decide (G=arr ops.size fun k=>T.contains k) && ((T.all fun k=>((nthOp ops.toList k).map fun o=>(waits md o).all fun j=>T.contains j).getD false) && (decide (Lz=arr ops.size fun i=>decide (i<n0) || T.contains i) && ((List.range n0).all (fun i=>T.contains i || C.contains i) && E.all fun i=>decide (i<n0) && !T.contains i))))))))))))))=true)
  (hS:∀w,Below O.heap.size O w->S w)
  (hstep:∀i∈C,∀o,nthOp ops.toList i=some o->∀(v:Nat->Value) (w:World),Below O.heap.size O w->(∀k∈dep rl i,F k (v k) w) ->
   ∀A,A=pf a v D->∀K,Grows F E i w A o.dst K->if Region.wanted o (yielded ops A.tmps)=true then Oper.wp P o A w K Q else K (A.put o.dst undef) w)
  (hend:∀(v:Nat->Value) (w:World),Below O.heap.size O w->(∀i,i<n0->i∉T->F i (v i) w)->(∀i∈E,∀j∈E,i≠j->pv (v i)≠pv (v j))->∀A,A=pf a v D->∀f,wpAnyH P md ops Q S (f+kl) Lz A w):wpAnyH P md ops Q S I G a O:=by
 simp only [qay,decide_eq_true_eq] at hB;obtain⟨Z,h1,h2,aa,hD,av,hf,ae,hn,ak,J,ah,ag,hC,hE⟩:=hB;have V:pf a (fun i=>a.tmps.getD ((D.lookup i).getD 0) undef) D=a:=qjX a _ D fun p hp=>by
  have:=(qaA.1 hD) p hp;simp only [qay,decide_eq_true_eq] at this;exact⟨by rw [this.1];rfl,by rw [hm];exact this.2⟩
 have U:∀i∈E,i<n0/\¬T.contains i=true:=fun i H=>by
  have:=(qaA.1 hE) i H;rw [qay,decide_eq_true_eq] at this;exact⟨this.1,by simpa using this.2⟩
 have h0:Grown md ops T E n0 F O (fun k=>T.contains k) (fun i=>a.tmps.getD ((D.lookup i).getD 0) undef) O :=
  ⟨Below.refl _ _,fun i _ H=>by
   rw [<-Bool.not_eq_true];intro h;exact H (qai.1 h),fun k hk=>qai.2 hk,fun j o ho hj k hk=>by
   have:=(qaA.1 ah) j (qai.1 hj);rw [ho] at this;exact (qaA.1 (show ((waits md o).all fun j=>T.contains j)=true from this)) k hk,fun i _ h Y=>absurd (qai.1 Y) h,fun i H Y=>absurd Y (U i H).2,fun i H _ _ Y=>absurd Y (U i H).2⟩
 have af:=qj7 (P:=P) (Q:=Q) (S:=S) a D rl T E n0 F O (T++(List.range ops.size).filter fun k=>decide (n0<=k)) (fun i x w w' h hb=>(au i x).go h hb) Z h1 h2 aa (fun k hk aj=>by
  rcases qaI.1 aj with h | h
  ·exact h
  ·have:=of_decide_eq_true (List.mem_filter.1 h).2;omega) ae hn kl ak hS (fun i o ho H ai=>hstep i (by
   have:=(qaA.1 hC) i (qas.2 H);rw [qa6] at this;rcases this with h | h
   ·exact absurd (qai.1 h) ai
   ·exact qai.1 h) o ho) (fun v w h A hA f=>by
   rw [<-ag];exact hend v w h.old (fun i H hT=>h.fact i H hT (by rw [qV H];rfl)) (fun i H j hj=>h.apart i H j hj (by rw [qV (U i H).1];rfl) (by rw [qV (U j hj).1];rfl)) A hA f) I _ _ _ (by rw [qgE (M:=fun k=>G.getD k false)];exact hf;intro i H;rw [J,qfL,if_pos H]) h0
 rw [V,<-J] at af;exact af
end
theorem qn1 {P:Program} {o:Oper} {a:Act} {w:World} {next:Act->World->Prop} {Q:Exit->Act->World->Prop} {f:FuncId} {F:Array Value} {R:Ending->World->Prop} (he:(execOp a.eval o).run P w=.ok (.enter f F) w) (hC:Calls P f F w R)
  (h:∀e E,R e E->∃v,e=.returned v/\next (a.put o.dst v) E):o.wp P a w next Q:=by
 unfold Oper.wp;rw [he,Oper.upon_enter];exact hC.mono fun e E r=>by obtain⟨v,rfl,h⟩:=h e E r;exact h
theorem rowC {B:Nat} {E:World} {g:Nat} {cs:Array Value} {t:TypeId} (h:E.heap[g]? = some (.cells cs t (0,0))) (i:Nat) {x:Value} (hx:cs[i]? = some x:=by rfl) (hg:g<B:=by omega):∀W,Below B E W->W.cell? ⟨g,i,none⟩=some x :=
 fun _ F=>(F.cell (p:=⟨g,i,none⟩) hg).trans ((qC _ _ i _ _ _ h).trans hx)
def fl2:List (Nat×(Value->World->Prop))->Nat->Value->World->Prop
 | [],_=>fun _ _=>True
 | (j,p) :: l,i=>if i=j then p else fl2 l i
instance stays_nil {i:Nat} {x:Value}:Stays (fl2 [] i x):=⟨fun _ _=>trivial⟩
instance stays_cons {i j:Nat} {x:Value} {p:Value->World->Prop} {l:List (Nat×(Value->World->Prop))} [hp:∀x,Stays (p x)] [hl:Stays (fl2 l i x)]:Stays (fl2 ((j,p) :: l) i x):=⟨fun {_ _} h hb=>by
 have E:fl2 ((j,p) :: l) i=if i=j then p else fl2 l i:=rfl
 rw [E] at h ⊢
 by_cases e:i=j
 ·rw [if_pos e] at h ⊢;exact (hp x).go h hb
 ·rw [if_neg e] at h ⊢;exact hl.go h hb⟩
theorem rowG {E:World} {g0 g:Nat} {cs:Array Value} {t:TypeId} (h:E.heap[g]? = some (.cells cs t (0,0))) (i:Nat) {x:Value} (hx:cs[i]? = some x:=by rfl) (hne:g≠g0:=by omega):∀W,E.grownBy W (some g0)->W.cell? ⟨g,i,none⟩=some x :=
 fun _ F=>F.cell ((qC _ _ i _ _ _ h).trans hx) (fun e=>hne (qag e))
def ZC (B:Nat) (cs:Array Value) (t:TypeId) (x:Value) (W:World):Prop:=∃g,W.heap[g]? = some (.cells cs t (0,0))/\x=.pointer (some ⟨g,0,none⟩)/\B<=g
instance stays_zc {B:Nat} {cs:Array Value} {t:TypeId} {x:Value}:Stays (ZC B cs t x):=⟨fun⟨g,E,F,G⟩ hb=>⟨g,(hb.block g (qG E).1).trans E,F,G⟩⟩
theorem ZC.new {B:Nat} {cs:Array Value} {t:TypeId} {w:World} (h:B<=w.heap.size):ZC B cs t (.pointer (some ⟨w.heap.size,0,none⟩)) (w.alloc (.cells cs t))/\Below w.heap.size w (w.alloc (.cells cs t)) :=
 ⟨⟨w.heap.size,qM _ _ _ rfl,rfl,h⟩,qB.alloc qN _⟩
section
variable {P:Program} {ops:Array Oper} {Q:Exit->Act->World->Prop} {md:Region.Mode} {S:World->Prop} {fuel:Nat} {listed:Array Bool} {a a':Act} {w:World} {o:Oper}
theorem hT (i:Nat) {v:Value} (F:nthOp ops.toList i=some o:=by rfl)
  (hB:(Region.noSelect ops && (Region.free md ops listed i && (Region.ready md ops listed).contains i))=true:=by kernel_rfl) (hQ:∀c a w,Q (.panic c) (a.put o.dst v) w->Q (.panic c) a w:=by exact fun _ _ _ h=>h) (hS:S w:=by assumption)
  (H:Region.wanted o (yielded ops a.tmps)=true:=by rfl) (hy:∀w,S w->(execOp a.eval o).run P w=.ok (.value v) w:=by (intro w E;(try dsimp only at E);go_simp <;> with_reducible rfl))
  (G:a.put o.dst v=a':=by (simp only [Act.put,qaL,qbp,List.set_cons_succ];with_reducible rfl))
  (h:wpAnyH P md ops Q S fuel (listed.setIfInBounds i true) a' w):wpAnyH P md ops Q S (fuel+1) listed a w :=
 hd_take i F hB hQ hS H hy (by rw [G];exact h)
theorem hU (i:Nat) (E:nthOp ops.toList i=some o:=by rfl)
  (hB:(Region.noSelect ops && (Region.free md ops listed i && (Region.ready md ops listed).contains i))=true:=by kernel_rfl) (hQ:∀c a w,Q (.panic c) (a.put o.dst undef) w->Q (.panic c) a w:=by exact fun _ _ _ h=>h) (hS:S w:=by assumption)
  (G:Region.wanted o (yielded ops a.tmps)=false:=by rfl)
  (F:a.put o.dst undef=a':=by (simp only [Act.put,qaL,qbp,List.set_cons_succ];with_reducible rfl))
  (h:wpAnyH P md ops Q S fuel (listed.setIfInBounds i true) a' w):wpAnyH P md ops Q S (fuel+1) listed a w:=by
 rw [qay,qay] at hB;exact wpAnyH_take (qeP E) hB.1 hB.2.1 hB.2.2 hQ (qam ⟨G,rfl⟩) hS (by rw [F];exact h)
theorem hC (i:Nat) {f:FuncId} {G:Array Value} {R:Ending->World->Prop} (O:Calls P f G w R) (F:nthOp ops.toList i=some o:=by rfl) (hr:decide (Region.ready md ops listed=[i])=true:=by kernel_rfl)
  (U:Region.wanted o (yielded ops a.tmps)=true:=by rfl) (he:(execOp a.eval o).run P w=.ok (.enter f G) w:=by (go_simp <;> with_reducible rfl))
  (h:∀e E,R e E->∃v,e=.returned v/\S E/\wpAnyH P md ops Q S fuel (listed.setIfInBounds i true) (a.put o.dst v) E):wpAnyH P md ops Q S (fuel+1) listed a w :=
 qho i F hr fun K J=>by
  rw [if_pos U];refine qn1 he O fun e E r=>?_
  obtain⟨v,rfl,H,I⟩:=h e E r;exact⟨v,rfl,J.on S _ _ (fun _ h=>h) H fun _=>I⟩
theorem hN {d:Option Tmp} {v:Value} (E:a.put d v=a':=by (simp only [Act.put,qaL,qbp,List.set_cons_succ];with_reducible rfl)) (h:wpAnyH P md ops Q S fuel listed a' w):wpAnyH P md ops Q S fuel listed (a.put d v) w:=by rw [E];exact h
theorem qn2 {P:Program} {o:Oper} {a:Act} {w E:World} {next:Act->World->Prop} {Q:Exit->Act->World->Prop} {v:Value} (he:(execOp a.eval o).run P w=.ok (.value v) E) (h:next (a.put o.dst v) E):o.wp P a w next Q:=by
 unfold Oper.wp;rw [he,Oper.upon_value];exact h
theorem hSg (i:Nat) {F:World} (E:nthOp ops.toList i=some o:=by rfl) (hr:decide (Region.ready md ops listed=[i])=true:=by kernel_rfl) (I:Region.wanted o (yielded ops a.tmps)=true:=by rfl) (H:o.dst=none:=by rfl)
  (he:(execOp a.eval o).run P w=.ok .skip F:=by (go_simp <;> with_reducible rfl)) (h:S F/\wpAnyH P md ops Q S fuel (listed.setIfInBounds i true) a F):wpAnyH P md ops Q S (fuel+1) listed a w :=
 qho i E hr fun K G=>by
  rw [if_pos I];unfold Oper.wp;rw [he,Oper.upon_skip,H];exact G.on S _ _ (fun _ h=>h) h.1 fun _=>h.2
theorem hE (i:Nat) {F:World} {v:Value} (E:nthOp ops.toList i=some o:=by rfl) (hr:decide (Region.ready md ops listed=[i])=true:=by kernel_rfl) (H:Region.wanted o (yielded ops a.tmps)=true:=by rfl)
  (he:(execOp a.eval o).run P w=.ok (.value v) F:=by (go_simp <;> first | with_reducible rfl | exact⟨rfl,rfl⟩ | rfl)) (h:S F/\wpAnyH P md ops Q S fuel (listed.setIfInBounds i true) (a.put o.dst v) F):wpAnyH P md ops Q S (fuel+1) listed a w :=
 qho i E hr fun K G=>by
  rw [if_pos H];exact qn2 he (G.on S _ _ (fun _ h=>h) h.1 fun _=>h.2)
theorem qnv {P:Program} {o:Oper} {E:Operand->Value} {w I:World} {s x:Operand} {t G:TypeId} {v u H:Value} (J:o.op=.call { callee:=.builtin .append,args:=#[s,x],argTypes:=#[t,t] }) (F:o.type=G) (O:E s=v) (hx:E x=u)
  (hr:(Builtin.append_ #[t,t] G #[v,u]).run P w=.ok H I):(execOp E o).run P w=.ok (.value H) I:=by
 subst F;unfold execOp;simp only [J,resolve,invoke,builtin,Sem.run_bind,Sem.run_pure,Result.andThen_ok,List.map_toArray,List.map_cons,List.map_nil,O,hx,hr]
theorem hSn (i:Nat) (n:Nat) {H:TypeId} {x y:Operand} {g:Nat} {cells old:Array Value} {t:TypeId} (hg:w.heap[g]? = some (.cells old t (0,0))) (G:nthOp ops.toList i=some o:=by rfl) (hr:decide (Region.ready md ops listed=[i])=true:=by kernel_rfl)
  (Z:Region.wanted o (yielded ops a.tmps)=true:=by rfl) (V:o.op=.store H x y:=by rfl) (O:o.dst=none:=by rfl) (hx:a.eval x=.pointer (some ⟨g,0,none⟩):=by rfl) (hy:a.eval y=.agg cells:=by rfl)
  (U:(P.info? H).map (·.size)=some n:=by kernel_rfl) (F:old.size=n:=by rfl) (E:cells.size=n:=by rfl) (I:cells.toList.all (·.oneCell')=true:=by rfl)
  (h:S (w.setRow g cells)/\wpAnyH P md ops Q S fuel (listed.setIfInBounds i true) a (w.setRow g cells)):wpAnyH P md ops Q S (fuel+1) listed a w :=
 qho i G hr fun K J=>by
  rw [if_pos Z];refine wp_store_row H x y V g cells hx hy t old hg (by rw [E];exact U) (by rw [F,E]) (Array.all_eq_true_iff_forall_mem.2 (fun v Y=>qaA.1 I v (by simpa using Y))) ?_;refine J.on S _ _ (fun _ h=>h) h.1 fun _=>?_
  rw [O];exact h.2
theorem hSt (i:Nat) (n:Nat) {H:TypeId} {x y:Operand} {g:Nat} {cells old:Array Value} {t:TypeId} (hg:w.heap[g]? = some (.cells old t (0,0))) (G:nthOp ops.toList i=some o:=by rfl) (hr:decide (Region.ready md ops listed=[i])=true:=by kernel_rfl)
  (hw:Region.wanted o (yielded ops a.tmps)=true:=by rfl) (Y:o.op=.store H x y:=by rfl) (O:o.dst=none:=by rfl) (hx:a.eval x=.pointer (some ⟨g,0,none⟩):=by rfl) (hy:a.eval y=.agg cells:=by rfl)
  (U:(P.info? H).map (·.size)=some n:=by kernel_rfl) (F:old.size=n:=by rfl) (E:cells.size=n:=by rfl) (I:cells.toList.all (·.oneCell')=true:=by rfl) (V:decide (Region.ready md ops (listed.setIfInBounds i true)=[])=true:=by kernel_rfl)
  (h:S (w.setRow g cells)/\Q .normal a (w.setRow g cells)):wpAnyH P md ops Q S (fuel+1) listed a w :=
 qho i G hr fun K J=>by
  rw [if_pos hw];refine wp_store_row H x y Y g cells hx hy t old hg (by rw [E];exact U) (by rw [F,E]) (Array.all_eq_true_iff_forall_mem.2 (fun v Z=>qaA.1 I v (by simpa using Z))) ?_;refine J.on S _ _ (fun _ h=>h) h.1 fun _=>?_
  rw [O];exact wpAnyH_done (of_decide_eq_true V) h.2 _
def AllC (p:Nat->Prop):List Nat->Prop
 | []=>True
 | i :: l=>p i/\AllC p l
theorem AllC.get {p:Nat->Prop}:∀{l:List Nat},AllC p l->∀i∈l,p i
 | i :: _,h,j,hj=>by
  rcases qav.1 hj with rfl | hj
  ·exact h.1
  ·exact AllC.get h.2 j hj
theorem gr (D:List (Nat×Tmp)) (rl:List (Nat×List Nat)) (T C E:List Nat) (n0 N:Nat) (F:Nat->Value->World->Prop) (A:(Nat->Value)->Act) (O:Nat) {m:Nat} (hm:a.tmps.size=m:=by rfl) (U:∀v,pf a v D=A v:=by (intro v;simp only [pf,Act.put,qaL,qbp,List.set_cons_succ];with_reducible rfl))
  (J:∀i x,Stays (F i x):=by intro i x;infer_instance)
  (hB:(dagB md ops && (decide ((D.map (·.1)).Nodup) && (decide ((D.map (·.2)).Nodup) && (dstB ops D (T++(List.range ops.size).filter fun k=>decide (n0<=k)) && ((D.all fun p=>decide (D.lookup p.1=some p.2) && decide (p.2<m)) && (decide (listed.size=ops.size) && (decide (leftN ops.size (fun k=>listed.getD k false)<=fuel) &&
   (growB md ops rl T n0 && (decide (n0<=ops.size) && (decide (leftN ops.size (fun i=>decide (i<n0) || T.contains i)=O) && (decide (listed=arr ops.size fun k=>T.contains k) && ((T.all fun k=>((nthOp ops.toList k).map fun o=>(waits md o).all fun j=>T.contains j).getD false) && (decide (arr N (fun i=>decide (i<n0) || T.contains i)=arr ops.size fun i=>decide (i<n0) || T.contains i) && ((List.range n0).all (fun i=>T.contains i || C.contains i) && E.all fun i=>decide (i<n0) && !T.contains i))))))))))))))=true:=by kernel_rfl)
  (hS:∀G,Below w.heap.size w G->S G)
  (hstep:AllC (fun i=>∃o,nthOp ops.toList i=some o/\∀(v:Nat->Value) (G:World),Below w.heap.size w G->AllC (fun k=>F k (v k) G) (dep rl i)->∀K,Grows F E i G (A v) o.dst K->if Region.wanted o (yielded ops (A v).tmps)=true then Oper.wp P o (A v) G K Q else K ((A v).put o.dst undef) G) C)
  (hend:∀(v:Nat->Value) (G:World),Below w.heap.size w G->(∀i,i<n0->i∉T->F i (v i) G)->(∀i∈E,∀j∈E,i≠j->pv (v i)≠pv (v j))->∀f,wpAnyH P md ops Q S (f+O) (arr N fun i=>decide (i<n0) || T.contains i) (A v) G):wpAnyH P md ops Q S fuel listed a w:=by
 refine qk9 D rl T C E n0 F O m (arr N fun i=>decide (i<n0) || T.contains i) hm J hB hS (fun i hi o Y v G I H B hB K V=>?_) fun v G I H hE B hB f=>?_
 ·obtain⟨p,Z,h⟩:=hstep.get i hi;rw [Z] at Y;cases Y;rw [U] at hB;subst hB;refine h v G I ?_ K V;generalize dep rl i=l at H;clear h Z V
  induction l with
  | nil=>exact trivial
  | cons k l ih=>exact⟨H k (qa8 ..),ih fun j hj=>H j (qbh _ hj)⟩
 ·rw [U] at hB;subst hB;exact hend v G I H hE f
theorem gC {F:Nat->Value->World->Prop} {E:List Nat} {i:Nat} {K:Act->World->Prop} (O:Grows F E i w a o.dst K) {f:FuncId} {H:Array Value} {R:Ending->World->Prop} (U:Calls P f H w R) (V:Region.wanted o (yielded ops a.tmps)=true:=by rfl) (he:(execOp a.eval o).run P w=.ok (.enter f H) w:=by (go_simp <;> with_reducible rfl))
  (hE:E.contains i=false:=by rfl) (h:∀e G,R e G->∃v,e=.returned v/\F i v G/\Below w.heap.size w G):if Region.wanted o (yielded ops a.tmps)=true then Oper.wp P o a w K Q else K (a.put o.dst undef) w:=by
 rw [if_pos V];exact qn1 he U fun e G r=>by obtain⟨v,rfl,I,J⟩:=h e G r;exact⟨v,rfl,O.to _ _ _ rfl I (fun h=>by rw [hE] at h;cases h) J⟩
theorem gW {F:Nat->Value->World->Prop} {E:List Nat} {i:Nat} {K:Act->World->Prop} (H:Grows F E i w a o.dst K) {v:Value} {G:World} (I:Region.wanted o (yielded ops a.tmps)=true:=by rfl) (he:(execOp a.eval o).run P w=.ok (.value v) G:=by (go_simp <;> first | with_reducible rfl | exact⟨rfl,rfl⟩ | rfl))
  (hE:E.contains i=true->w.heap.size<=pv v/\pv v<G.heap.size:=by exact fun _=>⟨qae _,by rw [qab];exact Nat.lt_succ_self _⟩) (h:F i v G/\Below w.heap.size w G):if Region.wanted o (yielded ops a.tmps)=true then Oper.wp P o a w K Q else K (a.put o.dst undef) w:=by
 rw [if_pos I];unfold Oper.wp;rw [he,Oper.upon_value];exact H.to _ _ _ rfl h.1 hE h.2
theorem gV {F:Nat->Value->World->Prop} {E:List Nat} {i:Nat} {K:Act->World->Prop} (H:Grows F E i w a o.dst K) {v:Value} (G:F i v w) (I:Region.wanted o (yielded ops a.tmps)=true:=by rfl) (he:(execOp a.eval o).run P w=.ok (.value v) w:=by (go_simp <;> with_reducible rfl)) (hE:E.contains i=false:=by rfl) :
  if Region.wanted o (yielded ops a.tmps)=true then Oper.wp P o a w K Q else K (a.put o.dst undef) w:=by
 rw [if_pos I];exact qn2 he (H.to _ _ _ rfl G (fun h=>by rw [hE] at h;cases h) qB)
end
theorem nw1 (w:World) (a:Array Value) (t:TypeId):∃W,W=w.alloc (.cells a t)/\Kn (fun W=>Below w.heap.size w W/\W.heap[w.heap.size]? = some (.cells a t (0,0))) W :=
 ⟨_,rfl,.of ⟨qB.alloc qN _,qM _ _ _ rfl⟩⟩
theorem nw2 (w:World) (a:Array Value) (t:TypeId) (b:Array Value) (u:TypeId):∃W,W=(w.alloc (.cells a t)).alloc (.cells b u) /\
  Kn (fun W=>Below w.heap.size w W/\W.heap[w.heap.size]? = some (.cells a t (0,0))/\W.heap[w.heap.size+1]? = some (.cells b u (0,0))) W :=
 ⟨_,rfl,.of ⟨(qB.alloc qN _).alloc (by simp) _,
  (qL _ _ _ (by simp only [qab];omega)).trans (qM _ _ _ rfl),qM _ _ _ (by simp)⟩⟩
theorem nw3 (w:World) (a:Array Value) (t:TypeId) (b:Array Value) (u:TypeId) (c:Array Value) (v:TypeId):∃W,W=((w.alloc (.cells a t)).alloc (.cells b u)).alloc (.cells c v) /\
  Kn (fun W=>Below w.heap.size w W/\W.heap[w.heap.size]? = some (.cells a t (0,0))/\W.heap[w.heap.size+1]? = some (.cells b u (0,0))/\W.heap[w.heap.size+1+1]? = some (.cells c v (0,0))) W :=
 ⟨_,rfl,.of ⟨((qB.alloc qN _).alloc (by simp) _).alloc (by simp;omega) _,
  (qL _ _ _ (by simp only [qab];omega)).trans ((qL _ _ _ (by simp only [qab];omega)).trans (qM _ _ _ rfl)),
  (qL _ _ _ (by simp only [qab];omega)).trans (qM _ _ _ (by simp)),qM _ _ _ (by simp)⟩⟩
section
variable {P:Program} {ops:Array Oper} {Q:Exit->Act->World->Prop} {md:Region.Mode} {S:World->Prop} {fuel:Nat} {listed:Array Bool} {a a':Act} {w:World} {o:Oper}
theorem hCx (i:Nat) {f:FuncId} {H:Array Value} {R:Ending->World->Prop} (U:Calls P f H w R) (G:nthOp ops.toList i=some o:=by rfl) (hr:decide (Region.ready md ops listed=[i])=true:=by kernel_rfl)
  (V:Region.wanted o (yielded ops a.tmps)=true:=by rfl) (he:(execOp a.eval o).run P w=.ok (.enter f H) w:=by (go_simp <;> with_reducible rfl))
  (h:∀e E,R e E->(∃v,e=.returned v/\S E/\wpAnyH P md ops Q S fuel (listed.setIfInBounds i true) (a.put o.dst v) E)\/∃F,e=.panicked F/\Q (.panic F) a E):wpAnyH P md ops Q S (fuel+1) listed a w :=
 qho i G hr fun K O=>by
  rw [if_pos V];unfold Oper.wp;rw [he,Oper.upon_enter];refine U.mono fun e E r=>?_
  rcases h e E r with ⟨v,rfl,I,J⟩ | ⟨F,rfl,h⟩
  ·exact O.on S _ _ (fun _ h=>h) I fun _=>J
  ·exact h
end
theorem keepB {a b:World} {g:Nat} (h:Below a.heap.size a b):a.grownBy b (some g):=qb6 g h
theorem qks {a b:World} {g:Nat} (h:Below a.drew.heap.size a.drew b):a.grownBy b (some g):=qb6 g (qcg h)
section
variable {P:Program}
theorem qhh (w:World) (base:Nat) (t ty e:TypeId) (i:TypeInfo) (z:Value) (size bytes:Nat) (ht:P.underlying t=some (.slice e)) (hi:P.info? e=some i) (hz:i.zero=some z)
  (ae:i.size=size) (ak:i.bytes=bytes) (ah:z.cells.size=size) (az:0<size) (ag:∀x∈z.cells.toList,qcL x)
  (v:Value) (n:Nat) (xs:List Value) (F:Rws w base e size v n xs)
  (a:Addr) (m c:Nat) (E:List Value) (U:E.length=m*size) (H:∀j u,E[j]? = some u->w.cell? (a.add j)=some u) (h1:∀u∈E,u.oneCell'=true) (aa:∀u∈E,qcL u) (ax:0<m)
  (V:n+m<=maxLen) (J:(n+m)*bytes<=140737488355328) (O:base<=w.heap.size) :
  ∃v' w',(Builtin.append_ #[t,t] ty #[v,.slice (some a) m c]).run P w=.ok v' w'/\Rws w' base e size v' (n+m) (xs++E)/\(v'.ownBlock=v.ownBlock/\w.grownBy w' v.ownBlock\/v'.ownBlock=some w.heap.size/\w.grownBy w' none):=by
 subst ae;subst ak;have ai:n+m<=9223372036854775807:=by simp only [maxLen] at V;omega
 have G:(xs++E).length=(n+m)*i.size:=by rw [qaf,F.1,U,qaF]
 rcases F.2 with ⟨rfl,rfl⟩ | ⟨g,cap,cur,rfl,aj,hg,ay,au,av,htake,Y⟩
 ·have hx:xs=[]:=List.eq_nil_of_length_eq_zero (by simpa using F.1);subst hx;have hr:=run_append_nil (P:=P) w t ty e i z ht hi hz a m c E U H ax (by omega) (by have hb:=J;simp only [qaR] at hb;omega);have Z:=grownCap_ge w m 0 e;refine⟨_,_,hr,⟨by simpa using G,.inr ⟨w.heap.size,_,_,by rw [qaR],O,heap_alloc_new w.drew _,by rw [qaR];exact Z,grownCap_le_maxLen w m 0 e (by simpa using V),?_,?_,?_⟩⟩,qam ⟨rfl,rfl,rfl,rfl,by simp,fun k hk _=>qL w.drew _ k hk⟩⟩
  ·simp only [Array.size_append,qbQ,size_zeroCells,ah,U,<-qaF]
   congr 1;omega
  ·rw [qaR,qbj,<-U,qbl];exact qbV
  ·intro x hx;rw [qbl] at hx;rcases qaI.1 hx with h | h
   ·exact aa x h
   ·exact qgn ag _ x h
 ·by_cases I:n+m<=cap
  ·have af:n*i.size+E.length<=cur.size:=by rw [U,av,<-qaF];exact qaP _ I
   have hr:=run_append_room (P:=P) w t ty e i ht hi g n cap cur hg a m c E U H h1 I af;refine⟨_,_,hr,⟨G,.inr ⟨g,cap,_,rfl,aj,qT w g cur _ e _ hg,I,au,?_,?_,?_⟩⟩,qax ⟨rfl,rfl,rfl,rfl,by simp,fun k _ hk=>setRow_other w g k _ (fun e=>hk (by simp [Value.ownBlock,e]))⟩⟩
   ·simp only [qbQ,qaf,qao,qbi,qbq];omega
   ·rw [htake,<-G];exact qbV
   ·intro x hx;rcases qaI.1 hx with h | h
    ·rcases qaI.1 h with h | h
     ·exact Y x (qbd h)
     ·exact aa x h
    ·exact Y x (List.mem_of_mem_drop h)
  ·have holds:∀j u,xs[j]? = some u->w.cell? ((⟨g,0,none⟩:Addr).add j)=some u:=F.own.cells (g:=g) rfl;have hr:=run_append_grow (P:=P) w t ty e i z ht hi hz ⟨g,0,none⟩ n cap xs F.1 holds a m c E U H (by omega) (by omega) (growslice_fits (by omega) J);have Z:=grownCap_ge w (n+m) cap e;refine⟨_,_,hr,⟨G,.inr ⟨w.heap.size,_,_,rfl,O,heap_alloc_new w.drew _,Z,grownCap_le_maxLen w (n+m) cap e V,?_,?_,?_⟩⟩,qam ⟨rfl,rfl,rfl,rfl,by simp,fun k hk _=>qL w.drew _ k hk⟩⟩
   ·simp only [Array.size_append,qbQ,size_zeroCells,ah,F.1,U,<-qaF]
    congr 1;omega
   ·simp only [qbl,qaE];rw [<-qaE,<-G];exact qbV
   ·intro x hx;rw [qbl,qbl] at hx;rcases qaI.1 hx with h | h
    ·rcases qaI.1 h with h | h
     ·rw [<-htake] at h;exact Y x (qbd (by simpa using h))
     ·exact aa x h
    ·exact qgn ag _ x h
end
theorem frac_not:∀y∈(Value.agg #[.string ⟨#[]⟩,.string ⟨#[]⟩]).cells.toList,qcL y:=by
 intro y hy;rcases qav.1 (show y∈[Value.string ⟨#[]⟩,Value.string ⟨#[]⟩] from hy) with rfl | hy
 ·exact qdZ _
 ·rw [qan.1 hy];exact qdZ _
theorem qmh (l:List FT):∀u∈fflat l,qcL u:=fun u E=>by
 unfold fflat at E;obtain⟨x,_,hx⟩:=List.mem_flatMap.1 E;rcases qav.1 hx with rfl | hx
 ·exact qdZ _
 ·rw [qan.1 hx];exact qdZ _
theorem qgX {w:World} {B:Nat} {v:Value} {n m c b H:Nat} {l l2:List FT} {V:Option Addr} (Z:TypeId) (G:Rws w B 27 2 v n (fflat l)) (hB:B<=w.heap.size) (Y:FCells w V b H l2) (hm:l2.length=m) (I:0<m) (hn:n+m<=1000000) :
  ∃E F,(Builtin.append_ #[22,22] Z #[v,.slice V m c]).run prog w=.ok E F/\Rws F B 27 2 E (n+m) (fflat (l++l2))/\(E.ownBlock=v.ownBlock/\w.grownBy F v.ownBlock\/E.ownBlock=some w.heap.size/\w.grownBy F none):=by
 obtain⟨i0,hi,J,O,U⟩:=info_parts infoF;have ha:=Y.addr (by omega);subst ha;obtain⟨E,F,hr,h2,h3⟩:=qhh (P:=prog) w B 22 Z 27 i0 _ 2 32 underlying22 hi J O U rfl (by decide) frac_not v n (fflat l) G ⟨b,H,none⟩ m c (fflat l2) (by rw [qcv,hm]) Y.src (qiy _) (qmh _) I (by unfold maxLen;omega) (by omega) hB;exact⟨E,F,hr,by rw [qd0];exact h2,h3⟩
theorem fc_row {W:World} {g:Nat} {x1 x2:ByteArray} (hg:W.heap[g]? = some (.cells #[.string x1,.string x2] 27 (0,0))):FCells W (some ⟨g,0,none⟩) g 0 [(x1,x2)] :=
 ⟨fun _=>rfl,fun k E=>by
  obtain rfl:k=0:=by simp at E;omega
  exact⟨qC _ _ 0 _ _ _ hg,qC _ _ 1 _ _ _ hg⟩⟩
theorem qnw {W:World} {B g:Nat} {x1 x2:ByteArray} (hg:W.heap[g]? = some (.cells #[.string x1,.string x2] 27 (0,0))) (hB:B<=g):Rws W B 27 2 (.slice (some ⟨g,0,none⟩) 1 1) 1 (fflat [(x1,x2)]) :=
 ⟨rfl,qam ⟨g,1,_,rfl,hB,hg,qae _,by decide,rfl,rfl,fun x hx=>by
  rcases qav.1 (show x∈[Value.string x1,Value.string x2] from hx) with rfl | hx
  ·exact qdZ _
  ·rw [qan.1 hx];exact qdZ _⟩⟩
theorem qea {P:Program} {E:Array Oper} {rest:List Oper} {o:Oper} {a:Act} {w H:World} {Q:Exit->Act->World->Prop} (F:o.guard=none) (s x:Operand) (t:TypeId) (J:o.op=.call { callee:=.builtin .append,args:=#[s,x],argTypes:=#[t,t] }) {v u G:Value} (O:a.eval s=v) (hx:a.eval x=u)
  (hr:(Builtin.append_ #[t,t] o.type #[v,u]).run P w=.ok G H) (h:wpList P E Q rest (a.put o.dst G) H):wpList P E Q (o :: rest) a w :=
 wpList_plain F fun _K I=>qn2 (qnv J rfl O hx hr) (I _ _ h)
structure NCells (W:World) (ao:Option Addr) (b off:Nat) (l:List Int):Prop where
 addr:0<l.length->ao=some ⟨b,off,none⟩
 cell:∀k,k<l.length->W.cell? ⟨b,off+k,none⟩=some (.int .i64 (l.getD k 0))
theorem NCells.below {W W':World} {F:Option Addr} {b E:Nat} {l:List Int} (h:NCells W F b E l) (H:Below W.heap.size W W'):NCells W' F b E l :=
 ⟨h.addr,fun k G=>(H.cell (qac W _ (h.cell k G))).trans (h.cell k G)⟩
structure Pt where
 name:ByteArray
 dev:List Int
 l0:Int
 l1:Int
 l2:Int
def Pt.lab (p:Pt) (c:Nat):Int:=if c=0 then p.l0 else if c=1 then p.l1 else p.l2
def pt0:Pt:=⟨⟨#[]⟩,[],0,0,0⟩
structure PCells (W:World) (ao:Option Addr) (b off:Nat) (l:List Pt):Prop where
 addr:0<l.length->ao=some ⟨b,off,none⟩
 cell:∀k,k<l.length->W.cell? ⟨b,off+k*5,none⟩=some (.string (l.getD k pt0).name) /\
  (∃(ra:Option Addr) (rb ro rc:Nat),W.cell? ⟨b,off+k*5+1,none⟩=some (.slice ra (l.getD k pt0).dev.length rc)/\NCells W ra rb ro (l.getD k pt0).dev) /\
  W.cell? ⟨b,off+k*5+2,none⟩=some (.int .i64 (l.getD k pt0).l0)/\W.cell? ⟨b,off+k*5+3,none⟩=some (.int .i64 (l.getD k pt0).l1)/\W.cell? ⟨b,off+k*5+4,none⟩=some (.int .i64 (l.getD k pt0).l2)
theorem PCells.below {W W':World} {G:Option Addr} {b F:Nat} {l:List Pt} (h:PCells W G b F l) (E:Below W.heap.size W W'):PCells W' G b F l :=
 ⟨h.addr,fun k Y=>by
  obtain⟨H,⟨ra,rb,ro,rc,I,V⟩,J,O,U⟩:=h.cell k Y;exact⟨(E.cell (qac W _ H)).trans H,⟨ra,rb,ro,rc,(E.cell (qac W _ I)).trans I,V.below E⟩,
   (E.cell (qac W _ J)).trans J,(E.cell (qac W _ O)).trans O,(E.cell (qac W _ U)).trans U⟩⟩
def qdx (c:UInt8):Bool:=decide (65<=c.toNat/\c.toNat<=90) || decide (97<=c.toNat/\c.toNat<=122) || decide (48<=c.toNat/\c.toNat<=57) || decide (c.toNat=45) || decide (c.toNat=95)
def qkb (s:ByteArray):Prop:=1<=s.size/\s.size<=12/\∀k (h:k<s.size),qdx s[k]=true
def qeV (d:List Int):Prop:=∀k,k<d.length->0<=d.getD k 0/\d.getD k 0<=10000
structure PtOk (p:Pt):Prop where
 name:qkb p.name
 n1:1<=p.dev.length
 n4:p.dev.length<=4
 vals:qeV p.dev
 l0:0<=p.l0/\p.l0<=10000
 l1:-12800<=p.l1/\p.l1<=12700
 l2:-12800<=p.l2/\p.l2<=12700
def chans (l:List Pt):Nat:=(l.getD 0 pt0).dev.length
structure PtsOk (l:List Pt):Prop where
 r1:1<=l.length
 r2:l.length<=40
 rows:∀k,k<l.length->PtOk (l.getD k pt0)/\(l.getD k pt0).dev.length=chans l
 apart:∀i k,k<i->i<l.length->(l.getD k pt0).name≠(l.getD i pt0).name
theorem PtsOk.n1 {l:List Pt} (h:PtsOk l):1<=chans l:=(h.rows 0 h.r1).1.n1
theorem PtsOk.n4 {l:List Pt} (h:PtsOk l):chans l<=4:=(h.rows 0 h.r1).1.n4
def many (kind n:Nat):Nat:=if kind=1 then 1+n else if kind=2 then 1+2*n else 2 ^ n
def dq (d:List Int) (k:Nat):Rat:=(d.getD k 0:Rat) / 10000
def prods (d:List Int):Nat->List Rat
 | 0=>[1]
 | n+1=>prods d n++(prods d n).map fun p=>p*dq d n
def termL (kind:Nat) (d:List Int):List Rat :=
 if kind=1 then 1 :: (List.range d.length).map (dq d) else if kind=2 then 1 :: (List.range d.length).map (dq d)++(List.range d.length).map (fun k=>dq d k*dq d k) else prods d d.length
def termQ (kind:Nat) (d:List Int) (j:Nat):Rat:=(termL kind d).getD j 0
theorem qez (d:List Int):∀n,(prods d n).length=2 ^ n
 | 0=>rfl
 | n+1=>by
  show (prods d n++_).length=_
  rw [qaf,qaD,qez d n,qaH];omega
theorem qhb (kind:Nat) (d:List Int):(termL kind d).length=many kind d.length:=by
 unfold termL many;split
 ·simp;omega
 ·split
  ·simp;omega
  ·exact qez d _
section
variable {P:Program}
theorem qgW (w:World) (base:Nat) (t ty e:TypeId) (i:TypeInfo) (z:Value) (size bytes:Nat) (ht:P.underlying t=some (.slice e)) (hi:P.info? e=some i) (hz:i.zero=some z)
  (Z:i.size=size) (ah:i.bytes=bytes) (ae:z.cells.size=size) (av:0<size)
  (v:Value) (n:Nat) (xs:List Value) (F:w.ownsRow base e size v n xs)
  (a:Addr) (m c:Nat) (E:List Value) (U:E.length=m*size) (H:∀j u,E[j]? = some u->w.cell? (a.add j)=some u) (h1:∀u∈E,u.oneCell'=true) (ak:0<m)
  (V:n+m<=maxLen) (J:(n+m)*bytes<=140737488355328) (O:base<=w.heap.size) :
  ∃v' w',(Builtin.append_ #[t,t] ty #[v,.slice (some a) m c]).run P w=.ok v' w'/\w'.ownsRow base e size v' (n+m) (xs++E)/\(v'.ownBlock=v.ownBlock/\w.grownBy w' v.ownBlock\/v'.ownBlock=some w.heap.size/\w.grownBy w' none):=by
 subst Z;subst ah;have af:n+m<=9223372036854775807:=by simp only [maxLen] at V;omega
 have G:(xs++E).length=(n+m)*i.size:=by rw [qaf,F.1,U,qaF]
 rcases F.2 with ⟨rfl,rfl⟩ | ⟨g,cap,cur,rfl,ag,hg,au,ai,aj,htake⟩
 ·have hx:xs=[]:=List.eq_nil_of_length_eq_zero (by simpa using F.1);subst hx;have hr:=run_append_nil (P:=P) w t ty e i z ht hi hz a m c E U H ak (by omega) (by have hb:=J;simp only [qaR] at hb;omega);have Y:=grownCap_ge w m 0 e;refine⟨_,_,hr,⟨by simpa using G,.inr ⟨w.heap.size,_,_,by rw [qaR],O,heap_alloc_new w.drew _,by rw [qaR];exact Y,grownCap_le_maxLen w m 0 e (by simpa using V),?_,?_⟩⟩,qam ⟨rfl,rfl,rfl,rfl,by simp,fun k hk _=>qL w.drew _ k hk⟩⟩
  ·simp only [Array.size_append,qbQ,size_zeroCells,ae,U,<-qaF]
   congr 1;omega
  ·rw [qaR,qbj,<-U,qbl];exact qbV
 ·by_cases I:n+m<=cap
  ·have aa:n*i.size+E.length<=cur.size:=by rw [U,aj,<-qaF];exact qaP _ I
   have hr:=run_append_room (P:=P) w t ty e i ht hi g n cap cur hg a m c E U H h1 I aa;refine⟨_,_,hr,⟨G,.inr ⟨g,cap,_,rfl,ag,qT w g cur _ e _ hg,I,ai,?_,?_⟩⟩,qax ⟨rfl,rfl,rfl,rfl,by simp,fun k _ hk=>setRow_other w g k _ (fun e=>hk (by simp [Value.ownBlock,e]))⟩⟩
   ·simp only [qbQ,qaf,qao,qbi,qbq];omega
   ·rw [htake,<-G];exact qbV
  ·have holds:∀j u,xs[j]? = some u->w.cell? ((⟨g,0,none⟩:Addr).add j)=some u:=F.cells (g:=g) rfl;have hr:=run_append_grow (P:=P) w t ty e i z ht hi hz ⟨g,0,none⟩ n cap xs F.1 holds a m c E U H (by omega) (by omega) (growslice_fits (by omega) J);have Y:=grownCap_ge w (n+m) cap e;refine⟨_,_,hr,⟨G,.inr ⟨w.heap.size,_,_,rfl,O,heap_alloc_new w.drew _,Y,grownCap_le_maxLen w (n+m) cap e V,?_,?_⟩⟩,qam ⟨rfl,rfl,rfl,rfl,by simp,fun k hk _=>qL w.drew _ k hk⟩⟩
   ·simp only [Array.size_append,qbQ,size_zeroCells,ae,F.1,U,<-qaF]
    congr 1;omega
   ·simp only [qbl,qaE];rw [<-qaE,<-G];exact qbV
end
def IOwn (W:World) (B:Nat) (v:Value) (l:List Int):Prop:=W.ownsRow B 3 1 v l.length (l.map fun z=>.int .i64 z)
theorem infoI8:(Tryz.prog.info? 3).map (fun i=>(i.zero,i.size,i.bytes))=some (some (.int .i64 0),1,8):=by kernel_rfl
theorem qkp (l:List Int):∀u∈l.map (fun z=>Value.int .i64 z),u.oneCell'=true:=fun u E=>by
 obtain⟨z,_,rfl⟩:=qbe.1 E;rfl
theorem qkF {w I:World} {J:Nat} {O:TypeId} {Y V:Nat} {v H x:Value} {E:List Value} (hx:w.ownsRow J O Y x V E) (hne:x.ownBlock=none\/x.ownBlock≠v.ownBlock) (h:H.ownBlock=v.ownBlock/\w.grownBy I v.ownBlock\/H.ownBlock=some w.heap.size/\w.grownBy I none) :
  I.ownsRow J O Y x V E/\(x.ownBlock=none\/x.ownBlock≠H.ownBlock):=by
 rcases h with ⟨F,G⟩ | ⟨F,G⟩
 ·exact⟨hx.kept G hne,by rw [F];exact hne⟩
 ·refine⟨hx.kept G ?_,?_⟩
  ·rcases hne with h | h
   ·exact qax h
   ·cases e:x.ownBlock with
    | none=>exact qax rfl
    | some k=>exact qam (by simp)
  ·cases e:x.ownBlock with
   | none=>exact qax rfl
   | some k =>
    refine qam fun U=>?_
    rw [F] at U;have:=(hx.lt k e).2;have:=qag U;omega
theorem own_below {w F:World} {B:Nat} {e:TypeId} {s n:Nat} {x:Value} {G:List Value} (hx:w.ownsRow B e s x n G) (J:Below w.heap.size w F):F.ownsRow B e s x n G:=by
 refine⟨hx.1,?_⟩;rcases hx.2 with h | ⟨g,cap,cur,rfl,H,E,I⟩
 ·exact qax h
 ·exact qam ⟨g,cap,cur,rfl,H,(J.block g (qG E).1).trans E,I⟩
theorem IOwn.below {W E:World} {B:Nat} {v:Value} {l:List Int} (h:IOwn W B v l) (F:Below W.heap.size W E):IOwn E B v l:=own_below h F
theorem qnh {w:World} {B:Nat} {e:TypeId} {s n:Nat} {x:Value} {F:List Value} (hx:w.ownsRow B e s x n F):∃(E:Option Addr) (cap:Nat),x=.slice E n cap:=by
 rcases hx.2 with ⟨rfl,rfl⟩ | ⟨g,cap,cur,rfl,_⟩
 ·exact⟨none,0,rfl⟩
 ·exact⟨_,_,rfl⟩
theorem qe8 {w:World} {B g:Nat} {e:TypeId} {cs:Array Value} {n:Nat} (hg:w.heap[g]? = some (.cells cs e (0,0))) (hB:B<=g) (F:cs.size=n) (E:n<=maxLen):w.ownsRow B e 1 (.slice (some ⟨g,0,none⟩) n n) n cs.toList:=by
 subst F;refine⟨by simp,qam ⟨g,_,cs,rfl,hB,hg,qae _,E,by omega,?_⟩⟩;rw [qbO,qah (by simp)]
theorem IOwn.cells {W:World} {B:Nat} {v:Value} {l:List Int} (h:IOwn W B v l) (G:0<l.length):∃g c,v=.slice (some ⟨g,0,none⟩) l.length c/\NCells W (some ⟨g,0,none⟩) g 0 l:=by
 have E:=h;rcases h.2 with ⟨_,h⟩ | ⟨g,cap,cur,rfl,_,_,_⟩
 ·omega
 ·refine⟨g,cap,rfl,fun _=>rfl,fun k F=>?_⟩;have:=World.ownsRow.cells E (g:=g) rfl k (.int .i64 (l.getD k 0)) (by rw [qaN,qaa,qad F];rfl)
  rwa [Addr.add_mid] at this
theorem IOwn.set {W:World} {B:Nat} {F:Option Addr} {n c:Nat} {l:List Int} (h:IOwn W B (.slice F n c) l) {i:Nat} (J:i<l.length) (z:Int):∃g,F=some ⟨g,0,none⟩/\B<=g/\(W.cell? ⟨g,i,none⟩=some (.int .i64 (l.getD i 0))/\W.frozen? ⟨g,i,none⟩=false)/\IOwn (W.setCell ⟨g,i,none⟩ (.int .i64 z)) B (.slice F n c) (l.set i z):=by
 have E:=h;rcases h.2 with ⟨_,V⟩ | ⟨g,cap,cur,e,hB,hg,U,O,G,H⟩
 ·omega
 ·injection e with e1 e2 e3;subst e1 e3;have I:=World.ownsRow.cells (g:=g) E rfl i (.int .i64 (l.getD i 0)) (by rw [qaN,qad J,qaa,qad J];rfl);rw [Addr.add_mid,qaR] at I;refine⟨g,rfl,hB,⟨I,qF _ _ _ _ _ hg⟩,by simp,.inr ⟨g,c,_,by rw [qa7,e2],hB,heap_setCell_same _ g i _ _ (.int .i64 z) hg,by rw [qa7];exact U,O,by rw [Array.size_setIfInBounds];exact G,?_⟩⟩;rw [qa7,Array.toList_setIfInBounds,List.take_set,H,List.map_set]
theorem ints_row {W:World} {g:Nat} {q:List Int} {t:TypeId} (h:W.heap[g]? = some (.cells (q.map fun z=>Value.int .i64 z).toArray t (0,0))) (E:Nat):NCells W (some ⟨g,E,none⟩) g E (q.drop E) :=
 ⟨fun _=>rfl,fun k F=>by
  rw [qbi] at F;refine (qC _ _ _ _ _ _ h).trans ?_;rw [qaC,qaN,qaa,List.getElem?_drop,qad (by omega)];rfl⟩
theorem qhY (n:Nat) (I:n<=1000) (w:World):(Instr.makeSlice 30 (.int .i64 (n:Int)) (.int .i64 (n:Int))).run prog w=.ok (.slice (some ⟨w.heap.size,0,none⟩) n n) (w.alloc (.cells (madeCells #[.int .i64 0] n) 3)):=by
 obtain⟨i,H,E,F,G⟩:=info_parts infoI8;have h:=run_make (P:=prog) w 30 3 i _ underlying30 H E .i64 .i64 (n:Int) (n:Int) (by omega) (Int.le_refl _) (by rw [G];omega) (by omega);rw [F,Int.toNat_natCast,qbO] at h;exact h
theorem qjo {W:World} {g B n:Nat} (hg:W.heap[g]? = some (.cells (madeCells #[.int .i64 0] n) 3 (0,0))) (hB:B<=g) (F:n<=1000):IOwn W B (.slice (some ⟨g,0,none⟩) n n) (List.replicate n 0):=by
 have e:(madeCells #[.int .i64 0] n).toList=(List.replicate n 0).map fun z=>Value.int .i64 z:=by
  rw [List.map_replicate,<-toList_madeCells_one]
 have E:(List.replicate n (0:Int)).length=n:=qaS;unfold IOwn;rw [E];refine⟨by simp,.inr ⟨g,n,_,rfl,hB,hg,qae _,by unfold maxLen;omega,by rw [<-qbq,e];simp,?_⟩⟩;rw [e,qbO];exact qah (by simp)
theorem own_ne {w:World} {B H:Nat} {e F:TypeId} {s O n J:Nat} {x y:Value} {U V:List Value} (hx:w.ownsRow B e s x n U) (hy:w.ownsRow H F O y J V) (he:e≠F):x.ownBlock=none\/x.ownBlock≠y.ownBlock:=by
 rcases hx.2 with ⟨rfl,_⟩ | ⟨g,cap,cur,rfl,_,I,_⟩
 ·exact qax rfl
 ·refine qam fun G=>?_
  rcases hy.2 with ⟨rfl,_⟩ | ⟨g',cap',cur',rfl,_,E,_⟩
  ·cases G
  ·have:g=g':=qag G;subst this;have:=I.symm.trans E;simp at this;exact he this.2
theorem qnb (pt pl pr pc gt ct gl cl k j r c g n:Nat) (a1:Option Addr) (n1 c1:Nat) (b1:Bool) (T:Int) (m:Nat->Int) (K J:Nat) (aA:K+J+J<=274877906944) (w:World)
  (h1:w.cell? ⟨pt,0,none⟩=some (.slice (some ⟨gt,0,none⟩) k ct)) (h2:w.cell? ⟨pl,0,none⟩=some (.slice (some ⟨gl,0,none⟩) k cl)) (h3:w.cell? ⟨pr,0,none⟩=some (.int .i64 r)) (h4:w.cell? ⟨pc,0,none⟩=some (.int .i64 c))
  (h5:w.cell? ⟨gt,j*2,none⟩=some (.slice a1 n1 c1)) (h6:w.cell? ⟨gt,j*2+1,none⟩=some (.bool b1)) (h7:IntAt w (.agg #[.slice a1 n1 c1,.bool b1]) T) (h8:w.cell? ⟨gl,j,none⟩=some (rowv g n)) (h9:qcm w g n m)
  (hj:j<k) (_hk:k<=1048576) (hr:r<n) (hc:c<n) (_hn:n<=1048576) (hT:Fit T.natAbs K) (hm:∀i,i<n->Fit (m i).natAbs J) :
  Calls prog 239 #[.int .i64 j,.pointer (some ⟨pt,0,none⟩),.pointer (some ⟨pl,0,none⟩),.pointer (some ⟨pr,0,none⟩),.pointer (some ⟨pc,0,none⟩)] w fun e w'=>∃u,e=.returned u/\Below w.heap.size w w'/\IntAt w' u (T*m r*m c):=by
 obtain⟨G,U⟩:=qY (w.alloc (.cells #[.slice none 0 0,.bool false] 217));have F:Below w.heap.size w G:=U▸qbY qB qN;have ai:G.heap[w.heap.size]? = some (.cells #[.slice none 0 0,.bool false] 217 (0,0)):=by rw [U];exact qM _ _ _ rfl
 have ah:qcj G w.heap.size 0:=⟨_,_,_,_,ai,_,rfl,MagAt.nil _⟩;obtain⟨a2,n2,c2,b2,p0,p1,i2⟩:=h9.pair hr;obtain⟨a3,n3,c3,b3,q0,q1,i3⟩:=h9.pair hc;have E:∀(p:Addr) (v:Value),w.cell? p=some v->∀W,G.grownBy W (some w.heap.size)->W.cell? p=some v:=fun p v h W hg=>by
  have Y:=qac w _ h;exact (qd5 hg (qak Y F.size) (Nat.ne_of_lt Y)).trans ((F.cell Y).trans h)
 have C1:=E _ _ h1;have C2:=E _ _ h2;have C3:=E _ _ h3;have C4:=E _ _ h4;have C5:=E _ _ h5;have C6:=E _ _ h6;have C8:=E _ _ h8;have C9:=E _ _ p0;have ax:=E _ _ p1;have ay:=E _ _ q0;have az:=E _ _ q1;have aC:(j:Int)<k:=by omega
 have aD:(r:Int)<n:=by omega
 have aB:(c:Int)<n:=by omega
 have aj:=qH (fun W (h:Below G.heap.size G W)=>qcJ T (m r) K J (by omega) _ _ W (h7.below (F.trans (h.mono F.size))) (i2.below (F.trans (h.mono F.size))) hT (hm r hr));have ae:Fit (T*m r).natAbs (K+J):=by rw [qaK];exact hT.mul (hm r hr)
 have ak:=qH (fun W u (h:Below G.heap.size G W) (hu:IntAt W u (T*m r))=>qcJ (T*m r) (m c) (K+J) J (by omega) u _ W hu (i3.below (F.trans (h.mono F.size))) ae (hm c hc));have O:=qH (qA F ah);have av:Below G.heap.size G G:=Below.refl _ _;have I:Below G.heap.size G G.drew:=av.drew;clear E h1 h2 h3 h4 h5 h6 h7 h8 h9 p0 p1 q0 q1 i2 i3 ae hT hm F ai ah;go_enter func239,ntmps239;go_wp2_with fail;rw [<-U];clear U
 go_region_held3 (fun W=>G.grownBy W (some w.heap.size)) (first | with_reducible exact qcs _ _ | with_reducible exact qb6 _ I | with_reducible exact qb6 _ V | with_reducible exact qb6 _ H | exact qbX (qbX (qb6 _ H) (qb0 _ _ _ _)) (qb0 _ _ _ _)) (first | (go_at_call_of 153 (Value.agg #[.slice a1 n1 c1,.bool b1]);refine (aj.o _ I).mono ?_;rintro e w5 ⟨u5,rfl,af,Z⟩;have V:Below G.heap.size G w5:=bjoin I af;have au:=qH Z;obtain⟨a5,n5,c5,b5,rfl⟩:=qbZ Z;clear af Z) | (go_at_call 153;refine (ak.o _ _ V au.o).mono ?_;rintro e w6 ⟨u6,rfl,ag,aa⟩;have H:Below G.heap.size G w6:=bjoin V ag;obtain⟨a6,n6,c6,b6,rfl⟩:=qbZ aa;obtain⟨_,_,_,_,⟨z0,z1⟩,⟨f0,f1⟩,_⟩:=(O.o.2.below H).cells;have HX:=qH ((O.o.2.below H).row2 aa);clear ag aa))
 all_goals go_wp2_with fail
 all_goals exact qR (v:=.agg #[.slice a6 n6 c6,.bool b6]) (rA_ rfl w.heap.size HX.o.1 underlying217 2) rfl ⟨_,rfl,((O.o.1.trans (H.mono O.o.1.size)).setCell (p:=⟨w.heap.size,0,none⟩) qN _).setCell (p:=⟨w.heap.size,1,none⟩) qN _,HX.o.2⟩
def wnum (wl:List FT) (i:Nat):Nat:=(ival (wl.getD i fd0).1.data.toList).natAbs
def wdn (t:Tbl) (bl wl:List FT) (i:Nat):Nat:=fden (wl.getD i fd0)*flcd (besides t bl i)*flcd (besides t bl i)
def ntop (t:Tbl) (bl wl:List FT) (i:Nat):Nat:=wnum wl i / (wnum wl i).gcd (wdn t bl wl i)
def nden (t:Tbl) (bl wl:List FT) (i:Nat):Nat:=wdn t bl wl i / (wnum wl i).gcd (wdn t bl wl i)
def nkeep (wl:List FT):Nat->List Nat
 | 0=>[]
 | i+1=>if wnum wl i=0 then nkeep wl i else nkeep wl i++[i]
theorem qfy (wl:List FT):∀i,(nkeep wl i).length<=i/\∀x∈nkeep wl i,x<i/\wnum wl x≠0
 | 0=>⟨qae _,fun x hx=>by cases hx⟩
 | i+1=>by
  obtain⟨F,E⟩:=qfy wl i
  by_cases e:wnum wl i=0
  ·simp only [nkeep,if_pos e];exact⟨by omega,fun x hx=>⟨by have:=(E x hx).1;omega,(E x hx).2⟩⟩
  ·simp only [nkeep,if_neg e];refine⟨by rw [qaf,qaG];omega,fun x hx=>?_⟩;rcases qaI.1 hx with h | h
   ·exact⟨by have:=(E x h).1;omega,(E x h).2⟩
   ·rw [qan.1 h];exact⟨by omega,e⟩
theorem qmK (wl:List FT) {i:Nat} (h:wnum wl i≠0):∀R,i<R->(nkeep wl R).getD (nkeep wl i).length 0=i/\(nkeep wl i).length<(nkeep wl R).length
 | 0,hi=>absurd hi (by omega)
 | R+1,hi=>by
  by_cases e:i=R
  ·subst e;simp only [nkeep,if_neg h];refine⟨?_,by rw [qaf,qaG];omega⟩;rw [qaa,qau qN,qaM];rfl
  ·obtain⟨F,G⟩:=qmK wl h R (by omega)
   by_cases E:wnum wl R=0
   ·simp only [nkeep,if_pos E];exact⟨F,G⟩
   ·simp only [nkeep,if_neg E];refine⟨?_,by rw [qaf];omega⟩;rw [qaa,qaz G,<-qaa];exact F
theorem qf5 {S:List Nat} {x p:Nat} (E:p<S.length):(S++[x]).getD p 0=S.getD p 0:=by
 rw [qaa,qaz E,<-qaa]
theorem qf4 {S:List Nat} {x:Nat}:(S++[x]).getD S.length 0=x:=by
 rw [qaa,qau qN,qaM];rfl
theorem qcH {S:List Nat} {p:Nat} (E:p<S.length):S.getD p 0∈S:=by
 rw [qaa,qad E];exact qbM E
structure NRow (t:Tbl) (bl wl:List FT) (i:Nat):Prop where
 fa:FAll (besides t bl i)
 len:(besides t bl i).length<=11
 wd:0<fden (wl.getD i fd0)/\Fit (fden (wl.getD i fd0)) 67
 wn:Fit (wnum wl i) 67
 nn:0<=ival (wl.getD i fd0).1.data.toList
theorem NRow.below {t:Tbl} {bl wl:List FT} {i:Nat} (h:NRow t bl wl i):0<flcd (besides t bl i)/\Fit (flcd (besides t bl i)) 738:=⟨qkk h.fa,(qfl h.fa h.len).mono (by omega)⟩
theorem NRow.d {t:Tbl} {bl wl:List FT} {i:Nat} (h:NRow t bl wl i):0<wdn t bl wl i/\Fit (wdn t bl wl i) 1543 :=
 ⟨qbW (qbW h.wd.1 h.below.1) h.below.1,((h.wd.2.mul h.below.2).mul h.below.2).mono (by omega)⟩
theorem NRow.g {t:Tbl} {bl wl:List FT} {i:Nat} (h:NRow t bl wl i):0<(wnum wl i).gcd (wdn t bl wl i)/\Fit ((wnum wl i).gcd (wdn t bl wl i)) 1543 :=
 ⟨qba _ h.d.1,h.d.2.le (qbT h.d.1 (qaZ _ _))⟩
theorem NRow.den {t:Tbl} {bl wl:List FT} {i:Nat} (h:NRow t bl wl i):0<nden t bl wl i/\Fit (nden t bl wl i) 1543 :=
 ⟨Nat.div_pos (qbT h.d.1 (qaZ _ _)) h.g.1,h.d.2.le (qaV _ _)⟩
theorem NRow.top {t:Tbl} {bl wl:List FT} {i:Nat} (h:NRow t bl wl i):Fit (ntop t bl wl i) 67:=h.wn.le (qaV _ _)
theorem NRow.val {t:Tbl} {bl wl:List FT} {i:Nat} (h:NRow t bl wl i):(ntop t bl wl i:Rat)*((flcd (besides t bl i):Nat):Rat)*((flcd (besides t bl i):Nat):Rat)=lval wl i*(nden t bl wl i:Rat):=by
 have hg:=h.g.1;obtain⟨a,J⟩:=qbN (wnum wl i) (wdn t bl wl i);obtain⟨b,O⟩:=qaZ (wnum wl i) (wdn t bl wl i);have U:ntop t bl wl i=a:=by unfold ntop;(conv=>lhs;lhs;rw [J]);exact qa2 _ hg
 have V:nden t bl wl i=b:=by unfold nden;(conv=>lhs;lhs;rw [O]);exact qa2 _ hg
 rw [U,V];have hl:lval wl i=(wnum wl i:Rat) / ((fden (wl.getD i fd0):Nat):Rat):=by
  unfold lval;rw [qhR]
  congr 1
  have:(ival (wl.getD i fd0).1.data.toList:Int)=(wnum wl i:Int):=by have:=h.nn;unfold wnum;omega
  rw [this];rfl
 have aa:((fden (wl.getD i fd0):Nat):Rat)≠0:=by have:=qbo h.wd.1;exact_mod_cast this
 have Y:((wdn t bl wl i:Nat):Rat)=(fden (wl.getD i fd0):Rat)*(flcd (besides t bl i):Rat)*(flcd (besides t bl i):Rat):=by unfold wdn;push_cast;rfl
 have I:(wnum wl i:Rat)=((wnum wl i).gcd (wdn t bl wl i):Rat)*a:=by exact_mod_cast J
 have H:((wdn t bl wl i:Nat):Rat)=((wnum wl i).gcd (wdn t bl wl i):Rat)*b:=by exact_mod_cast O
 have Z:(((wnum wl i).gcd (wdn t bl wl i):Nat):Rat)≠0:=by have:=qbo hg;exact_mod_cast this
 rw [hl];generalize (((wnum wl i).gcd (wdn t bl wl i):Nat):Rat)=G at *;generalize ((flcd (besides t bl i):Nat):Rat)=F at *;generalize ((fden (wl.getD i fd0):Nat):Rat)=E at *;rw [Y] at H;rw [I];have:E*F*F=G*b:=H
 grind
def nall (t:Tbl) (bl wl:List FT) (S:List Nat):Nat:=lcms (S.map (nden t bl wl))
def nfac (t:Tbl) (bl wl:List FT) (S:List Nat) (i:Nat):Int:=(ntop t bl wl i:Int)*((nall t bl wl S / nden t bl wl i:Nat):Int)
def nterm (t:Tbl) (bl wl:List FT) (S:List Nat) (r c i:Nat):Int:=nfac t bl wl S i*ftop (besides t bl i) r*ftop (besides t bl i) c
theorem mapD {S:List Nat} {f:Nat->Nat} {p:Nat} (E:p<S.length):(S.map f).getD p 0=f (S.getD p 0):=by
 rw [qaa,qaN,qaa,qad E];rfl
theorem nall_pos {t:Tbl} {bl wl:List FT} {S:List Nat} (h:∀x∈S,NRow t bl wl x):0<nall t bl wl S:=by
 have:=qft (S.map (nden t bl wl)) (fun k E=>by rw [qaD] at E;rw [mapD E];exact (h _ (qcH E)).den.1) (S.map (nden t bl wl)).length qN
 rwa [qbf] at this
theorem qh3 {t:Tbl} {bl wl:List FT} {S:List Nat} (h:∀x∈S,NRow t bl wl x) (hS:S.length<=40):Fit (nall t bl wl S) 61721:=by
 have:=qfs (S.map (nden t bl wl)) 1543 (fun k E=>by rw [qaD] at E;rw [mapD E];exact (h _ (qcH E)).den) (S.map (nden t bl wl)).length qN;rw [qbf] at this;refine Fit.mono this ?_;rw [qaD];omega
theorem nall_dvd {t:Tbl} {bl wl:List FT} {S:List Nat} {p:Nat} (E:p<S.length):nden t bl wl (S.getD p 0)∣nall t bl wl S:=by
 have:=qhU (S.map (nden t bl wl)) (S.map (nden t bl wl)).length p (by rw [qaD];exact E) qN;rw [qbf,mapD E] at this;exact this
theorem qkC {t:Tbl} {bl wl:List FT} {S:List Nat} (h:∀x∈S,NRow t bl wl x) (hS:S.length<=40) {p:Nat} (E:p<S.length):Fit (nfac t bl wl S (S.getD p 0)).natAbs 61788:=by
 unfold nfac;rw [qaK,qar,qar];exact ((h _ (qcH E)).top.mul ((qh3 h hS).le (qaV _ _))).mono (by omega)
theorem qiV {t:Tbl} {bl wl:List FT} {S:List Nat} (h:∀x∈S,NRow t bl wl x) (hS:S.length<=40) {p r c:Nat} (F:p<S.length) (hr:r<(besides t bl (S.getD p 0)).length) (G:c<(besides t bl (S.getD p 0)).length):Fit (nterm t bl wl S r c (S.getD p 0)).natAbs 63398:=by
 have E:=h _ (qcH F);unfold nterm;rw [qaK,qaK];exact (((qkC h hS F).mul (qdc E.fa E.len hr)).mul (qdc E.fa E.len G)).mono (by omega)
theorem qnd {t:Tbl} {bl wl:List FT} {S:List Nat} (h:∀x∈S,NRow t bl wl x) {p r c:Nat} (H:p<S.length) (hr:r<(besides t bl (S.getD p 0)).length) (V:c<(besides t bl (S.getD p 0)).length) :
  ((nterm t bl wl S r c (S.getD p 0):Int):Rat)=(nall t bl wl S:Rat)*(lval wl (S.getD p 0)*(lval (besides t bl (S.getD p 0)) r*lval (besides t bl (S.getD p 0)) c)):=by
 have E:=h _ (qcH H);obtain⟨q,I⟩:=nall_dvd (t:=t) (bl:=bl) (wl:=wl) H;have Z:=E.den.1;have e:nall t bl wl S / nden t bl wl (S.getD p 0)=q:=by rw [I];exact qa2 _ Z
 have hv:=E.val;unfold nterm nfac;rw [e];have J:=qfm E.fa hr;have O:=qfm E.fa V
 push_cast
 rw [J,O];have G:(nall t bl wl S:Rat)=(nden t bl wl (S.getD p 0):Rat)*q:=by exact_mod_cast I
 rw [G];generalize ((flcd (besides t bl (S.getD p 0)):Nat):Rat)=F at *;generalize ((nden t bl wl (S.getD p 0):Nat):Rat)=D at *;generalize ((ntop t bl wl (S.getD p 0):Nat):Rat)=T at *;generalize lval wl (S.getD p 0)=L at *;generalize lval (besides t bl (S.getD p 0)) r=X at *;generalize lval (besides t bl (S.getD p 0)) c=Y at *;have U:T*q*(F*X)*(F*Y)=(T*F*F)*q*X*Y:=by grind
 rw [U,hv];grind
def normQ (t:Tbl) (bl wl:List FT) (R:Nat) (r c:Nat):Rat:=sumQ R fun i=>lval wl i*(lval (besides t bl i) r*lval (besides t bl i) c)
theorem qgC (f:Nat->Int):∀k,((isum f k:Int):Rat)=sumQ k fun p=>((f p:Int):Rat)
 | 0=>rfl
 | k+1=>by
  show ((isum f k+f k:Int):Rat)=sumQ k _+_
  rw [<-qgC f k];push_cast;rfl
theorem qkv (wl:List FT) (f:Nat->Rat):∀i,(∀x,x<i->wnum wl x=0->f x=0)->sumQ (nkeep wl i).length (fun p=>f ((nkeep wl i).getD p 0))=sumQ i f
 | 0,_=>rfl
 | i+1,h=>by
  have ih:=qkv wl f i fun x hx=>h x (by omega)
  show _=sumQ i f+f i
  by_cases e:wnum wl i=0
  ·simp only [nkeep,if_pos e];rw [ih,h i (by omega) e];grind
  ·simp only [nkeep,if_neg e];rw [qaf,qaG]
   show sumQ (nkeep wl i).length _+f ((nkeep wl i++[i]).getD (nkeep wl i).length 0)=_
   rw [qf4,<-ih]
   congr 1
   exact qb4 fun p E=>by rw [qf5 E]
theorem qiI {wl:List FT} {i:Nat} (h:wnum wl i=0):lval wl i=0:=by
 unfold lval;rw [qhR];have:ival (wl.getD i fd0).1.data.toList=0:=by unfold wnum at h;omega
 rw [this,show ((0:Int):Rat)=0 from rfl];grind
theorem norm_sum {t:Tbl} {bl wl:List FT} {R r c:Nat} (h:∀i,i<R->NRow t bl wl i) (G:∀i,i<R->r<(besides t bl i).length/\c<(besides t bl i).length) :
  ((isum (fun p=>nterm t bl wl (nkeep wl R) r c ((nkeep wl R).getD p 0)) (nkeep wl R).length:Int):Rat)=(nall t bl wl (nkeep wl R):Rat)*normQ t bl wl R r c:=by
 have E:=(qfy wl R).2;rw [qgC];have H:sumQ (nkeep wl R).length (fun p=>((nterm t bl wl (nkeep wl R) r c ((nkeep wl R).getD p 0):Int):Rat))=sumQ (nkeep wl R).length (fun p=>(fun i=>(nall t bl wl (nkeep wl R):Rat)*(lval wl i*(lval (besides t bl i) r*lval (besides t bl i) c))) ((nkeep wl R).getD p 0)) :=
  qb4 fun p F=>qnd (fun x hx=>h x (E x hx).1) F (G _ (E _ (qcH F)).1).1 (G _ (E _ (qcH F)).1).2
 rw [H,qkv wl (fun i=>(nall t bl wl (nkeep wl R):Rat)*(lval wl i*(lval (besides t bl i) r*lval (besides t bl i) c))) R (fun x _ hx=>by simp only [qiI hx];grind),qcr]
 rfl
structure Soft (W W':World) (row:Option Nat):Prop where
 grown:W.grownBy W' row
 nn:∀g,row=some g->∃(cs:Array Value) (t:TypeId) (fz:Nat×Nat),W.heap[g]? = some (.cells cs t fz)/\∀x∈cs.toList,qcL x
theorem Soft.ofBelow {W W':World} (h:Below W.heap.size W W'):Soft W W' none:=⟨⟨h.os,h.tape,h.output,h.size,fun i E _=>h.block i E⟩,fun g e=>by cases e⟩
theorem Soft.ofSet {W:World} {g:Nat} {cs:Array Value} {t:TypeId} {E:Nat×Nat} (h:W.heap[g]? = some (.cells cs t E)) (F:∀x∈cs.toList,qcL x) (j:Nat) (v:Value):Soft W (W.setCell ⟨g,j,none⟩ v) (some g) :=
 ⟨qb0 W g j v,fun G e=>by cases e;exact⟨cs,t,E,h,F⟩⟩
theorem Soft.ofRws {W W':World} {base:Nat} {e:TypeId} {E:Nat} {v:Value} {n:Nat} {I:List Value} (h:Rws W base e E v n I) (hg:W.grownBy W' v.ownBlock):Soft W W' v.ownBlock:=by
 refine⟨hg,fun g F=>?_⟩;rcases h.2 with ⟨rfl,_⟩ | ⟨g',cap,cur,rfl,_,G,_,_,_,_,H⟩
 ·cases F
 ·cases F;exact⟨cur,_,_,G,H⟩
section
variable {W W':World} {row:Option Nat}
theorem Soft.mag (s:Soft W W' row) {u:Value} {x:Nat} (E:MagAt W u x):MagAt W' u x:=by
 cases row with
 | none=>exact E.below (qfN s.grown)
 | some g =>
  obtain⟨cs,t,fz,h,F⟩:=s.nn g rfl;exact qcq E s.grown h (qm7 F)
theorem Soft.pairs (s:Soft W W' row) {G:List (Value×Bool)} {z:Nat->Int} (F:qcu W G z):qcu W' G z:=fun k E=>⟨(F k E).1,s.mag (F k E).2⟩
theorem Soft.mags (s:Soft W W' row) {F:List Value} {G:List Nat} (E:qdD W F G):qdD W' F G:=⟨E.1,fun k H=>s.mag (E.2 k H)⟩
theorem Soft.introw (s:Soft W W' row) {g m:Nat} {z:Nat->Int} (H:qcm W g m z) (hne:row≠some g):qcm W' g m z:=by
 obtain⟨ps,F,E,G⟩:=H;exact⟨ps,F,⟨(s.grown.block _ (qG E.1).1 (fun e=>hne e.symm)).trans E.1,E.2⟩,s.pairs G⟩
theorem Soft.blk (s:Soft W W' row) {g:Nat} {o:Obj} (hr:W.heap[g]? = some o) (hne:row≠some g):W'.heap[g]? = some o :=
 (s.grown.block _ (qG hr).1 (fun e=>hne e.symm)).trans hr
theorem Soft.rws (s:Soft W W' row) {base:Nat} {e:TypeId} {E:Nat} {v:Value} {n:Nat} {F:List Value} (h:Rws W base e E v n F) (hne:v.ownBlock=none\/v.ownBlock≠row):Rws W' base e E v n F:=h.kept s.grown hne
theorem Soft.old (s:Soft W W' row) {a:World} {B:Nat} (E:Below B a W) (hr:∀k,row=some k->B<=k) (hB:B<=W.heap.size):Below B a W' :=
 E.trans ⟨s.grown.os,s.grown.tape,s.grown.output,s.grown.size,fun i F=>s.grown.block i (qak F hB) (fun e=>by have:=hr i e.symm;omega)⟩
end
theorem Rws.ne_row {w:World} {base:Nat} {e:TypeId} {E:Nat} {v:Value} {n:Nat} {I:List Value} (h:Rws w base e E v n I) {g:Nat} {cs:Array Value} {t:TypeId} {G:Nat×Nat} (hr:w.heap[g]? = some (.cells cs t G)) (hne:e≠t):v.ownBlock≠some g:=by
 intro F;rcases h.2 with ⟨rfl,_⟩ | ⟨g',cap,cur,rfl,_,H,_⟩
 ·cases F
 ·cases F;have:=H.symm.trans hr;simp at this;exact hne this.2.1
theorem Rws.ne_int {w:World} {base:Nat} {e:TypeId} {E:Nat} {v:Value} {n:Nat} {G:List Value} (h:Rws w base e E v n G) {g m:Nat} {z:Nat->Int} (hr:qcm w g m z) (hne:e≠217):v.ownBlock≠some g:=by
 obtain⟨ps,_,F,_⟩:=hr;exact h.ne_row F.1 hne
theorem Rws.ne_low {w:World} {base:Nat} {e:TypeId} {E:Nat} {v:Value} {n:Nat} {G:List Value} (h:Rws w base e E v n G) {g:Nat} (hg:g<base):v.ownBlock≠some g:=fun F=>by have:=(h.lt g F).1;omega
theorem or_ne {a b:Option Nat} (h:a≠b):a=none\/a≠b:=qam h
theorem qmB (E:List (Value×Bool)):∀(j:Nat) (x:Value×Bool),j<E.length->iflat (E.set j x)=((iflat E).set (j*2) x.1).set (j*2+1) (.bool x.2):=by
 induction E with
 | nil=>intro j x h;exact absurd h (by simp)
 | cons q E ih =>
  intro j x h;cases j with
  | zero=>rfl
  | succ j =>
   have e:∀l,iflat (q :: l)=q.1 :: .bool q.2 :: iflat l:=fun _=>rfl
   rw [List.set_cons_succ,e,e,ih j x (by simpa using h),show (j+1)*2=j*2+1+1 by omega];rfl
structure NSt (W:World) (h0:Nat) (t:Tbl) (bl wl:List FT) (n:Nat) (Sl St Sb:List Nat) (vl vt vb:Value) (gs:Nat->Nat) (ps:List (Value×Bool)) (vs:List Value) (T:Nat->Int):Prop where
 cs:W.heap[h0]? = some (.cells #[zs0] 262 (0,0))
 cl:W.heap[h0+1]? = some (.cells #[vl] 260 (0,0))
 ct:W.heap[h0+1+1]? = some (.cells #[vt] 212 (0,0))
 rl:Rws W (h0+1+1+1) 212 1 vl Sl.length (rowvs Sl.length (n+1) gs)
 rt:Rws W (h0+1+1+1) 217 2 vt St.length (iflat ps)
 rb:Rws W (h0+1+1+1) 213 1 vb Sb.length vs
 rows:∀p,p<Sl.length->qcm W (gs p) (n+1) (ftop (besides t bl (Sl.getD p 0)))
 ap:∀p,p<Sl.length->vt.ownBlock≠some (gs p)
 pt:qcu W ps T
 pl:ps.length=St.length
 mb:qdD W vs (Sb.map (nden t bl wl))
section
variable {W:World} {h0:Nat} {t:Tbl} {bl wl:List FT} {n:Nat} {Sl St Sb:List Nat} {vl vt vb:Value} {gs:Nat->Nat} {ps:List (Value×Bool)} {vs:List Value} {T:Nat->Int}
theorem NSt.congrT {T':Nat->Int} (h:NSt W h0 t bl wl n Sl St Sb vl vt vb gs ps vs T) (e:∀p,p<St.length->T p=T' p):NSt W h0 t bl wl n Sl St Sb vl vt vb gs ps vs T' :=
 ⟨h.cs,h.cl,h.ct,h.rl,h.rt,h.rb,h.rows,h.ap,fun k E=>by rw [<-e k (by rw [<-h.pl];exact E)];exact h.pt k E,h.pl,h.mb⟩
theorem NSt.top (h:NSt W h0 t bl wl n Sl St Sb vl vt vb gs ps vs T) {j:Nat} (I:j<St.length):∃(g cap:Nat) (a:Option Addr) (m c:Nat) (b:Bool),vt=.slice (some ⟨g,0,none⟩) St.length cap/\g<W.heap.size/\h0+1+1+1<=g/\W.cell? ⟨g,j*2,none⟩=some (.slice a m c)/\W.cell? ⟨g,j*2+1,none⟩=some (.bool b)/\(∀k,W.frozen? ⟨g,k,none⟩=false)/\IntAt W (.agg #[.slice a m c,.bool b]) (T j):=by
 have H:=h.pl;obtain⟨a,m,c,b,e,G⟩:=qdm h.pt (k:=j) (by omega);rcases h.rt.2 with ⟨_,e0⟩ | ⟨g,cap,cur,e1,hB,hg,_⟩
 ·omega
 ·have F:=h.rt.own.cells (g:=g) (by rw [e1];rfl);obtain⟨d0,d1⟩:=qfp ps j (.slice a m c,b) (by rw [<-e,qaa,qad (by omega)];rfl);have E:=F _ _ d0;have c1:=F _ _ d1;rw [Addr.add_mid,qaR] at E c1;exact⟨g,cap,a,m,c,b,e1,(qG hg).1,hB,E,c1,fun k=>qF _ _ _ _ _ hg,G⟩
theorem NSt.below {W':World} (h:NSt W h0 t bl wl n Sl St Sb vl vt vb gs ps vs T) (E:Below W.heap.size W W'):NSt W' h0 t bl wl n Sl St Sb vl vt vb gs ps vs T :=
 have s:=Soft.ofBelow E
 ⟨s.blk h.cs (by simp),s.blk h.cl (by simp),s.blk h.ct (by simp),h.rl.below E,h.rt.below E,h.rb.below E,fun p F=>s.introw (h.rows p F) (by simp),h.ap,s.pairs h.pt,h.pl,s.mags h.mb⟩
theorem qeO {v:Value} {base:Nat} {e:TypeId} {E n:Nat} {G:List Value} (h:Rws W base e E v n G):qcL v:=by
 intro k d F;rcases h.2 with ⟨rfl,_⟩ | ⟨g,cap,cur,rfl,_⟩
 ·cases F
 ·cases F
theorem qgP {v:Value} (h:qcL v):∀x∈(#[v]:Array Value).toList,qcL x:=fun x hx=>by rw [qan.1 hx];exact h
theorem qj0 {k n g:Nat} {E:Nat->Nat}:rowvs (k+1) n (fun p=>if p=k then g else E p)=rowvs k n E++[rowv g n]:=by
 unfold rowvs;rw [List.range_succ,qbn]
 congr 1
 ·exact List.map_congr_left fun i F=>by
   have:=qas.1 F;simp only [if_neg (show ¬i=k by omega)]
 ·simp only [List.map_cons,List.map_nil,if_true]
theorem qlA (k n g:Nat) (E:Nat->Nat):rowvs (k+1) n (fun p=>if p=k then g else E p)=rowvs k n E++[rowv g n]:=by
 unfold rowvs;rw [List.range_succ,qbn]
 congr 1
 ·exact List.map_congr_left fun i F=>by
   have:=qas.1 F;simp only [if_neg (show ¬i=k by omega)]
 ·simp only [List.map_cons,List.map_nil,if_true]
theorem NSt.addL (h:NSt W h0 t bl wl n Sl St Sb vl vt vb gs ps vs T) {g i:Nat} (hg:qcm W g (n+1) (ftop (besides t bl i))) (hne:vt.ownBlock≠some g) {J:World} {E:Value}
  (hr:Rws J (h0+1+1+1) 212 1 E (Sl.length+1) (rowvs Sl.length (n+1) gs++[rowv g (n+1)])) (V:W.grownBy J vl.ownBlock) :
  NSt (J.setCell ⟨h0+1,0,none⟩ E) h0 t bl wl n (Sl++[i]) St Sb E vt vb (fun p=>if p=Sl.length then g else gs p) ps vs T:=by
 have G:=Soft.ofRws h.rl V;have c1:=G.blk h.cl (h.rl.ne_low (by omega));have I:=Soft.ofSet c1 (qgP (qeO h.rl)) 0 E;have F:∀{base:Nat} {e:TypeId} {H:Nat} {v:Value} {m:Nat} {Z:List Value},Rws J (h0+1+1+1) e H v m Z->Rws (J.setCell ⟨h0+1,0,none⟩ E) (h0+1+1+1) e H v m Z:=fun r=>I.rws r (or_ne (r.ne_low (by omega)))
 have O:∀{U:Nat} {z:Nat->Int},qcm W U (n+1) z->qcm (J.setCell ⟨h0+1,0,none⟩ E) U (n+1) z:=fun {U z} r=>by
  have r1:=G.introw r (h.rl.ne_int r (by decide));refine I.introw r1 fun e=>?_
  cases e;obtain⟨ps',_,h2,_⟩:=r1;have:=h2.1.symm.trans c1;simp at this
 refine⟨I.blk (G.blk h.cs (h.rl.ne_low (by omega))) (by simp),?_,I.blk (G.blk h.ct (h.rl.ne_low (by omega))) (by simp),?_,F (base:=0) (G.rws h.rt (h.rt.ne h.rl (by decide))),F (base:=0) (G.rws h.rb (h.rb.ne h.rl (by decide))),fun p Y=>?_,fun p Y=>?_,I.pairs (G.pairs h.pt),h.pl,I.mags (G.mags h.mb)⟩
 ·exact heap_setCell_same _ _ 0 _ _ _ c1
 ·rw [qaf,qaG,qlA];exact F (base:=0) hr
 ·rw [qaf,qaG] at Y
  by_cases e:p=Sl.length
  ·subst e;simp only [if_true];rw [qf4];exact O hg
  ·simp only [if_neg e];rw [qf5 (by omega)];exact O (h.rows p (by omega))
 ·rw [qaf,qaG] at Y
  by_cases e:p=Sl.length
  ·subst e;simp only [if_true];exact hne
  ·simp only [if_neg e];exact h.ap p (by omega)
theorem nst_cl (h:NSt W h0 t bl wl n Sl St Sb vl vt vb gs ps vs T) {F:World} (E:W.grownBy F vl.ownBlock):F.cell? ⟨h0+1,0,none⟩=some vl/\F.frozen? ⟨h0+1,0,none⟩=false:=by
 have c1:=(Soft.ofRws h.rl E).blk h.cl (h.rl.ne_low (by omega));exact⟨qC _ _ 0 _ _ _ c1,qF _ _ 0 _ _ c1⟩
theorem nst_soft (h:NSt W h0 t bl wl n Sl St Sb vl vt vb gs ps vs T) {G:World} (F:W.grownBy G vl.ownBlock) (u:Value) :
  (∀v x,MagAt W v x->MagAt (G.setCell ⟨h0+1,0,none⟩ u) v x)/\∀(a:World) (B:Nat),Below B a W->B<=h0+1->B<=W.heap.size->Below B a (G.setCell ⟨h0+1,0,none⟩ u):=by
 have E:=Soft.ofRws h.rl F;have c1:=E.blk h.cl (h.rl.ne_low (by omega));have I:=Soft.ofSet c1 (qgP (qeO h.rl)) 0 u;exact⟨fun v x O=>I.mag (E.mag O),fun a B J U H=>I.old (E.old J (fun k e=>by have:=(h.rl.lt k e).1;omega) H) (fun k e=>by have:=qag e;omega) (qal H E.grown.size)⟩
theorem qna (h:NSt W h0 t bl wl n Sl St Sb vl vt vb gs ps vs T) {G:World} (F:W.grownBy G vt.ownBlock) (u:Value) :
  (∀v x,MagAt W v x->MagAt (G.setCell ⟨h0+1+1,0,none⟩ u) v x)/\∀(a:World) (B:Nat),Below B a W->B<=h0+1->B<=W.heap.size->Below B a (G.setCell ⟨h0+1+1,0,none⟩ u):=by
 have E:=Soft.ofRws h.rt F;have c1:=E.blk h.ct (h.rt.ne_low (by omega));have I:=Soft.ofSet c1 (qgP (qeO h.rt)) 0 u;exact⟨fun v x O=>I.mag (E.mag O),fun a B J U H=>I.old (E.old J (fun k e=>by have:=(h.rt.lt k e).1;omega) H) (fun k e=>by have:=qag e;omega) (qal H E.grown.size)⟩
theorem nst_ct (h:NSt W h0 t bl wl n Sl St Sb vl vt vb gs ps vs T) {F:World} (E:W.grownBy F vt.ownBlock):F.cell? ⟨h0+1+1,0,none⟩=some vt/\F.frozen? ⟨h0+1+1,0,none⟩=false:=by
 have c1:=(Soft.ofRws h.rt E).blk h.ct (h.rt.ne_low (by omega));exact⟨qC _ _ 0 _ _ _ c1,qF _ _ 0 _ _ c1⟩
theorem NSt.addT (h:NSt W h0 t bl wl n Sl St Sb vl vt vb gs ps vs T) {i:Nat} {m:Value} (Z:MagAt W m (T St.length).natAbs) {J:World} {E:Value}
  (hr:Rws J (h0+1+1+1) 217 2 E (St.length+1) (iflat ps++[m,.bool (decide (T St.length<0))])) (V:W.grownBy J vt.ownBlock) (ho:E.ownBlock=vt.ownBlock\/E.ownBlock=some W.heap.size) :
  NSt (J.setCell ⟨h0+1+1,0,none⟩ E) h0 t bl wl n Sl (St++[i]) Sb vl E vb gs (ps++[(m,decide (T St.length<0))]) vs T:=by
 have G:=Soft.ofRws h.rt V;have c1:=G.blk h.ct (h.rt.ne_low (by omega));have H:=Soft.ofSet c1 (qgP (qeO h.rt)) 0 E;have F:∀{e:TypeId} {size:Nat} {v:Value} {m:Nat} {Y:List Value},Rws J (h0+1+1+1) e size v m Y->Rws (J.setCell ⟨h0+1+1,0,none⟩ E) (h0+1+1+1) e size v m Y:=fun r=>H.rws r (or_ne (r.ne_low (by omega)))
 refine⟨H.blk (G.blk h.cs (h.rt.ne_low (by omega))) (fun e=>by have:=qag e;omega),H.blk (G.blk h.cl (h.rt.ne_low (by omega))) (fun e=>by have:=qag e;omega),?_,F (G.rws h.rl (h.rl.ne h.rt (by decide))),?_,F (G.rws h.rb (h.rb.ne h.rt (by decide))),fun p I=>?_,fun p I=>?_,?_,?_,H.mags (G.mags h.mb)⟩
 ·exact heap_setCell_same _ _ 0 _ _ _ c1
 ·rw [qaf,qaG,qfo];exact F hr
 ·have r1:=G.introw (h.rows p I) (h.ap p I);refine H.introw r1 fun e=>?_
  have U:=qag e;obtain⟨ps',_,O,_⟩:=r1;rw [<-U] at O;have:=O.1.symm.trans c1;simp at this
 ·rcases ho with e | e
  ·rw [e];exact h.ap p I
  ·rw [e];intro U;obtain⟨ps',_,O,_⟩:=h.rows p I;have:=(qG O.1).1;have:=qag U;omega
 ·have:=(H.pairs (G.pairs h.pt)).snoc (v:=m) (by rw [h.pl];exact H.mag (G.mag Z));rw [h.pl] at this;exact this
 ·rw [qaf,qaf,h.pl];rfl
theorem NSt.addT2 (h:NSt W h0 t bl wl n Sl St Sb vl vt vb gs ps vs T) {i:Nat} {a:Option Addr} {m c:Nat} {b:Bool} {z:Int} (I:z=T St.length) (J:IntAt W (.agg #[.slice a m c,.bool b]) z) {G:World} {E:Value}
  (hr:Rws G (h0+1+1+1) 217 2 E (St.length+1) (iflat ps++[.slice a m c,.bool b])) (F:W.grownBy G vt.ownBlock) (O:E.ownBlock=vt.ownBlock\/E.ownBlock=some W.heap.size) :
  NSt (G.setCell ⟨h0+1+1,0,none⟩ E) h0 t bl wl n Sl (St++[i]) Sb vl E vb gs (ps++[(.slice a m c,b)]) vs T:=by
 obtain⟨m',e,H⟩:=J;simp only [qaY,qa5,qaW,qbF] at e;obtain⟨e1,e2,_⟩:=e;rw [<-e1,I] at H;rw [I] at e2;rw [e2] at hr ⊢;exact h.addT H hr F O
theorem NSt.addB (h:NSt W h0 t bl wl n Sl St Sb vl vt vb gs ps vs T) {i:Nat} {m:Value} (J:MagAt W m (nden t bl wl i)) {H:World} {F:Value}
  (hr:Rws H (h0+1+1+1) 213 1 F (Sb.length+1) (vs++[m])) (G:W.grownBy H vb.ownBlock) :
  NSt H h0 t bl wl n Sl St (Sb++[i]) vl vt F gs ps (vs++[m]) T:=by
 have E:=Soft.ofRws h.rb G;refine⟨E.blk h.cs (h.rb.ne_low (by omega)),E.blk h.cl (h.rb.ne_low (by omega)),E.blk h.ct (h.rb.ne_low (by omega)),E.rws h.rl (h.rl.ne h.rb (by decide)),E.rws h.rt (h.rt.ne h.rb (by decide)),?_,fun p I=>E.introw (h.rows p I) (h.rb.ne_int (h.rows p I) (by decide)),h.ap,E.pairs h.pt,h.pl,?_⟩
 ·rw [qaf,qaG];exact hr
 ·rw [qbn];exact (E.mags h.mb).snoc (E.mag J)
theorem NSt.setSoft {g m cap:Nat} (h:NSt W h0 t bl wl n Sl St Sb vl (.slice (some ⟨g,0,none⟩) m cap) vb gs ps vs T) (j O:Nat) (u U:Value):Soft W ((W.setCell ⟨g,j,none⟩ u).setCell ⟨g,O,none⟩ U) (some g):=by
 rcases h.rt.2 with ⟨e,_⟩ | ⟨F,cap',cur,e,hB,hg,I,G,H,J,E⟩
 ·cases e
 simp only [qbS,Option.some.injEq,Addr.mk.injEq] at e;obtain⟨⟨rfl,_⟩,_,rfl⟩:=e;exact⟨qbX (qb0 _ _ _ _) (qb0 _ _ _ _),fun F e=>by cases e;exact⟨_,_,_,hg,E⟩⟩
theorem NSt.setT {g cap:Nat} (h:NSt W h0 t bl wl n Sl St Sb vl (.slice (some ⟨g,0,none⟩) St.length cap) vb gs ps vs T) {j:Nat} (hj:j<St.length) {a:Option Addr} {m c:Nat} {b:Bool} {z:Int} (hi:IntAt W (.agg #[.slice a m c,.bool b]) z) :
  NSt ((W.setCell ⟨g,j*2,none⟩ (.slice a m c)).setCell ⟨g,j*2+1,none⟩ (.bool b)) h0 t bl wl n Sl St Sb vl (.slice (some ⟨g,0,none⟩) St.length cap) vb gs (ps.set j (.slice a m c,b)) vs (fun p=>if p=j then z else T p):=by
 obtain⟨hl,V⟩:=h.rt;rcases V with ⟨e,_⟩ | ⟨g',cap',cur,e,hB,hg,U,I,J,Y,G⟩
 ·cases e
 simp only [qbS,Option.some.injEq,Addr.mk.injEq] at e;obtain⟨⟨rfl,_⟩,_,rfl⟩:=e;have O:=heap_setCell_same _ g (j*2+1) _ _ (.bool b) (heap_setCell_same _ g (j*2) _ _ (.slice a m c) hg);have E:Soft W ((W.setCell ⟨g,j*2,none⟩ (.slice a m c)).setCell ⟨g,j*2+1,none⟩ (.bool b)) (some g):=⟨qbX (qb0 _ _ _ _) (qb0 _ _ _ _),fun g' e=>by cases e;exact⟨_,_,_,hg,G⟩⟩;have ne:∀{x:Nat},x<h0+1+1+1->(some g:Option Nat)≠some x:=fun hx e=>by have:=qag e;omega
 have H:=h.pl;refine⟨E.blk h.cs (ne (by omega)),E.blk h.cl (ne (by omega)),E.blk h.ct (ne (by omega)),E.rws h.rl (h.rl.ne h.rt (by decide)),⟨by rw [qd4,qa7,H],qam ⟨g,cap,_,rfl,hB,O,U,I,by rw [Array.size_setIfInBounds,Array.size_setIfInBounds];exact J,?_,?_⟩⟩,E.rws h.rb (h.rb.ne h.rt (by decide)),fun p hp=>E.introw (h.rows p hp) (h.ap p hp),h.ap,?_,by rw [qa7];exact H,E.mags h.mb⟩
 ·rw [Array.toList_setIfInBounds,Array.toList_setIfInBounds,List.take_set,List.take_set,Y];exact (qmB ps j (.slice a m c,b) (by omega)).symm
 ·intro x hx;rw [Array.toList_setIfInBounds,Array.toList_setIfInBounds] at hx;rcases List.mem_or_eq_of_mem_set hx with hx | rfl
  ·rcases List.mem_or_eq_of_mem_set hx with hx | rfl
   ·exact G x hx
   ·exact fun k d e=>by cases e
  ·exact fun k d e=>by cases e
 ·intro k Z;rw [qa7] at Z
  by_cases e:k=j
  ·subst e;simp only [if_true];rw [qaa,List.getElem?_set_self (by omega)];obtain⟨m',e,hm⟩:=hi;simp only [qaY,qa5,qaW,qbF] at e;have F:=E.mag hm;rw [<-e.1] at F;exact⟨e.2.1,F⟩
  ·simp only [if_neg e];rw [qaa,qbL (fun h=>e h.symm),<-qaa];exact E.pairs h.pt k Z
theorem NSt.soft {W':World} {row:Option Nat} (h:NSt W h0 t bl wl n Sl St Sb vl vt vb gs ps vs T) (s:Soft W W' row) (hr:∀g,row=some g->h0+1+1+1<=g/\vl.ownBlock≠some g/\vt.ownBlock≠some g/\vb.ownBlock≠some g/\∀p,p<Sl.length->gs p≠g):NSt W' h0 t bl wl n Sl St Sb vl vt vb gs ps vs T:=by
 cases row with
 | none=>exact h.below (qfN s.grown)
 | some g =>
  obtain⟨J,F,G,H,I⟩:=hr g rfl;have ne:∀{x:Nat},x<h0+1+1+1->(some g:Option Nat)≠some x:=fun hx e=>by have:=qag e;omega
  exact⟨s.blk h.cs (ne (by omega)),s.blk h.cl (ne (by omega)),s.blk h.ct (ne (by omega)),s.rws h.rl (or_ne F),s.rws h.rt (or_ne G),s.rws h.rb (or_ne H),fun p E=>s.introw (h.rows p E) (fun e=>I p E (qag e).symm),h.ap,s.pairs h.pt,h.pl,s.mags h.mb⟩
theorem NSt.lt (h:NSt W h0 t bl wl n Sl St Sb vl vt vb gs ps vs T) {g:Nat} (hg:W.heap.size<=g):h0+1+1+1<=g/\vl.ownBlock≠some g/\vt.ownBlock≠some g/\vb.ownBlock≠some g/\∀p,p<Sl.length->gs p≠g:=by
 have G:=(qG h.ct).1;refine⟨by omega,fun e=>?_,fun e=>?_,fun e=>?_,fun p F e=>?_⟩
 ·have:=(h.rl.lt g e).2;omega
 ·have:=(h.rt.lt g e).2;omega
 ·have:=(h.rb.lt g e).2;omega
 ·obtain⟨ps',_,E,_⟩:=h.rows p F;have:=(qG E.1).1;omega
theorem qnc {k:Nat} {al I:Option Addr} {cl ct:Nat} (hk:Sl.length=k) (h:NSt W h0 t bl wl n Sl Sl Sl (.slice al k cl) (.slice I k ct) vb gs ps vs (fun p=>nfac t bl wl Sl (Sl.getD p 0))) (hS:∀x∈Sl,NRow t bl wl x/\(besides t bl x).length=n+1) (ae:k<=40) {r c p hr O:Nat} (hp:p<k) (Y:r<n+1) (U:c<n+1) (hn:n<=10)
  (cr:W.cell? ⟨hr,0,none⟩=some (.int .i64 r)) (cc:W.cell? ⟨O,0,none⟩=some (.int .i64 c)) :
  Calls prog 239 #[.int .i64 p,.pointer (some ⟨h0+1+1,0,none⟩),.pointer (some ⟨h0+1,0,none⟩),.pointer (some ⟨hr,0,none⟩),.pointer (some ⟨O,0,none⟩)] W fun e w'=>∃u,e=.returned u/\Below W.heap.size W w'/\IntAt w' u (nterm t bl wl Sl r c (Sl.getD p 0)):=by
 have E:p<Sl.length:=by omega
 have G:=hS _ (qcH E);obtain⟨gt,aa,a2,m2,d2,b2,et,_,_,t0,t1,_,V⟩:=h.top E;rw [hk] at et;simp only [qbS,true_and] at et;obtain⟨rfl,rfl⟩:=et;obtain⟨ao,gl,Z,el,H,_⟩:=h.rl.vcells;rw [hk] at el;simp only [qbS,true_and] at el;obtain⟨rfl,rfl⟩:=el;have J:=H.addr (by rw [qcN];omega);subst J;have F:=H.cell p (by rw [qcN];exact E);rw [qaR,qaa,qd7 E] at F;exact qnb (h0+1+1) (h0+1) hr O gt ct gl cl k p r c (gs p) (n+1) a2 m2 d2 b2 _ _ 61788 4356 (by omega) W (qC _ _ 0 _ _ _ h.ct) (qC _ _ 0 _ _ _ h.cl) cr cc t0 t1 V F (h.rows p E) hp (by omega) Y U (by omega) (qkC (fun x hx=>(hS x hx).1) (by omega) E) (fun i hi=>(qdc G.1.fa (m:=63) (by omega) (by omega)).mono (by omega))
end
theorem qi3 {W:World} {E R k n g:Nat} {F:Nat->Nat} (h:W.heap[E]? = some (.cells (rowvs k n F++List.replicate (R-k) zs0).toArray 212 (0,0))) (H:k<R) :
  (W.setCell ⟨E,k,none⟩ (rowv g n)).heap[E]? = some (.cells (rowvs (k+1) n (fun j=>if j=k then g else F j)++List.replicate (R-(k+1)) zs0).toArray 212 (0,0)):=by
 rw [heap_setCell_same _ E k _ _ _ h]
 congr 3
 obtain⟨m,G⟩:∃m,R-k=m+1:=⟨R-k-1,by omega⟩;rw [qaL,G,qbr,qbb _ _ (by rw [qcN];exact qae _),qcN,qaM,qbp,show R-(k+1)=m by omega];rw [qj0,qaE];rfl
theorem qi2 {W:World} {G R k n:Nat} {E:Nat->Nat} (h:W.heap[G]? = some (.cells (rowvs k n E++List.replicate (R-k) zs0).toArray 212 (0,0))) {j:Nat} (F:j<k):W.cell? ⟨G,j,none⟩=some (rowv (E j) n):=by
 refine (qC _ _ _ _ _ _ h).trans ?_;rw [qaC,qaz (by rw [qcN];exact F),qd7 F]
