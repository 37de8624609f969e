import Derived.Maps.AppendAt
import Derived.Test.YtjalhnlhcdfncaaGreatDoorBf13
set_option maxRecDepth 100000
set_option maxHeartbeats 0
namespace Go.Proofs.YtjalhnlhcdfncaaGreatDoor
open Go.RowKit
def qcr (x:Value):Prop:=∀k d,x≠.int k d
def Rws (w:World) (base:Nat) (e:TypeId) (size:Nat) (v:Value) (n:Nat) (F:List Value):Prop :=
  F.length=n*size /\
  ((v=.slice none 0 0/\n=0) \/
   ∃g cap cur,v=.slice (some ⟨g,0,none⟩) n cap/\base<=g/\w.heap[g]? = some (.cells cur e (0,0))/\n<=cap/\cap<=maxLen/\cur.size=cap*size/\cur.toList.take (n*size)=F/\∀x∈cur.toList,qcr x)
section
variable {w:World} {base:Nat} {e:TypeId} {size:Nat} {v:Value} {n:Nat} {xs:List Value}
theorem Rws.own (h:Rws w base e size v n xs):w.ownsRow base e size v n xs:=by
 refine⟨h.1,?_⟩;rcases h.2 with h | ⟨g,cap,cur,F,G,H,I,J,O,U,_⟩
 ·exact qaw h
 ·exact qak ⟨g,cap,cur,F,G,H,I,J,O,U⟩
theorem Rws.nil (w:World) (base:Nat) (e:TypeId) (F:Nat):Rws w base e F (.slice none 0 0) 0 []:=⟨by simp,.inl ⟨rfl,rfl⟩⟩
theorem Rws.kept {w':World} {row:Option Nat} (h:Rws w base e size v n xs) (hg:w.grownBy w' row) (hne:v.ownBlock=none\/v.ownBlock≠row):Rws w' base e size v n xs:=by
 refine⟨h.1,?_⟩;rcases h.2 with h | ⟨g,cap,cur,rfl,G,F,H⟩
 ·exact qaw h
 ·refine qak ⟨g,cap,cur,rfl,G,(hg.block g (qG F).1 ?_).trans F,H⟩;rcases hne with hne | hne
  ·cases hne
  ·exact hne
theorem Rws.below {w':World} (h:Rws w base e size v n xs) (I:Below w.heap.size w w'):Rws w' base e size v n xs:=by
 refine⟨h.1,?_⟩;rcases h.2 with h | ⟨g,cap,cur,rfl,G,F,H⟩
 ·exact qaw h
 ·exact qak ⟨g,cap,cur,rfl,G,(I.block g (qG F).1).trans F,H⟩
theorem Rws.lt (h:Rws w base e size v n xs):∀k,v.ownBlock=some k->base<=k/\k<w.heap.size:=h.own.lt
theorem Rws.shape (h:Rws w base e size v n xs):∃(F:Option Addr) (cap:Nat),v=.slice F n cap:=by
 rcases h.2 with ⟨rfl,rfl⟩ | ⟨g,cap,cur,rfl,_⟩
 ·exact⟨none,0,rfl⟩
 ·exact⟨_,_,rfl⟩
theorem Rws.ne {F:Nat} {J:TypeId} {G:Nat} {U:Value} {Z:Nat} {I:List Value} (h:Rws w base e size v n xs) (V:Rws w F J G U Z I) (he:e≠J):v.ownBlock=none\/v.ownBlock≠U.ownBlock:=by
 rcases h.2 with ⟨rfl,_⟩ | ⟨g,cap,cur,rfl,_,Y,_⟩
 ·exact qaw rfl
 ·refine qak fun O=>?_
  rcases V.2 with ⟨rfl,_⟩ | ⟨g',cap',cur',rfl,_,H,_⟩
  ·cases O
  ·have:g=g':=qag O;subst this;have:=Y.symm.trans H;simp at this;exact he this.2
end
theorem Rws.vcells {w:World} {base:Nat} {e:TypeId} {v:Value} {n:Nat} {H:List Value} (h:Rws w base e 1 v n H):∃(I:Option Addr) (g cap:Nat),v=.slice I n cap/\VCells w I g 0 H/\n<=cap:=by
 have U:=h.1;rw [qbI] at U;have F:=h.own;rcases h.2 with ⟨rfl,rfl⟩ | ⟨g,cap,cur,rfl,_,_,O,_⟩
 ·exact⟨none,0,0,rfl,⟨fun J=>absurd J (by omega),fun k G=>absurd G (by omega)⟩,qaf _⟩
 ·refine⟨some ⟨g,0,none⟩,g,cap,rfl,⟨fun _=>rfl,fun k G=>?_⟩,O⟩;have:=F.cells (g:=g) rfl k (H.getD k undef) (by rw [qab,qad G];rfl)
  rwa [Addr.add_mid] at this
theorem qfm {w w':World} (h:w.grownBy w' none):Below w.heap.size w w':=⟨h.os,h.tape,h.output,h.size,fun i F=>h.block i F (fun e=>by cases e)⟩
section
variable {w w':World} {base:Nat} {e:TypeId} {size:Nat} {v:Value} {n:Nat} {xs:List Value}
theorem qmh {cur:Array Value} (h:∀x∈cur.toList,qcr x):∀x∈cur.toList,∀d,x≠.int .u32 d:=fun x F d=>h x F .u32 d
theorem Rws.old (h:Rws w base e size v n xs) (hg:w.grownBy w' v.ownBlock) {a:World} {B:Nat} (H:Below B a w) (J:B<=base) (F:B<=w.heap.size):Below B a w' :=
 H.trans ⟨hg.os,hg.tape,hg.output,hg.size,fun i I=>hg.block i (qai I F) (fun G=>by
  have:=(h.lt i G.symm).1;omega)⟩
end
section
variable {P:Program}
theorem qfP {z:Value} (J:∀x∈z.cells.toList,qcr x) (n:Nat):∀x∈(Builtin.zeroCells z.cells n).toList,qcr x:=by
 intro x I;obtain⟨i,H,he⟩:=List.getElem_of_mem I;have F:0<z.cells.size:=by
  rcases qaV z.cells.size with h | h
  ·have:=size_zeroCells z.cells n;rw [h,Nat.mul_zero] at this;rw [Array.length_toList] at H;omega
  ·exact h
 have G:x=z.cells[i % z.cells.size]!:=by
  rw [<-he];simp [Builtin.zeroCells]
 rw [G,getElem!_pos z.cells _ (Nat.mod_lt _ F)];exact J _ (by simp)
theorem qeF (w:World) (base:Nat) (t ty e:TypeId) (i:TypeInfo) (z:Value) (size bytes:Nat) (ht:P.underlying t=some (.slice e)) (hi:P.info? e=some i) (hz:i.zero=some z)
  (ag:i.size=size) (av:i.bytes=bytes) (aj:z.cells.size=size) (aB:0<size) (ai:∀x∈z.cells.toList,qcr x)
  (v:Value) (n:Nat) (xs:List Value) (G:Rws w base e size v n xs)
  (a:Addr) (m c:Nat) (F:List Value) (Y:F.length=m*size) (I:∀j u,F[j]? = some u->w.cell? (a.add j)=some u) (h1:∀u∈F,u.oneCell'=true) (af:∀u∈F,qcr u) (az:0<m)
  (Z:n+m<=maxLen) (O:(n+m)*bytes<=140737488355328) (U:base<=w.heap.size) :
  ∃v' w',(Builtin.append_ #[t,t] ty #[v,.slice (some a) m c]).run P w=.ok v' w'/\Rws w' base e size v' (n+m) (xs++F)/\w.grownBy w' v.ownBlock/\(v'.ownBlock=v.ownBlock\/v'.ownBlock=some w.heap.size):=by
 subst ag;subst av;have ak:n+m<=9223372036854775807:=by simp only [maxLen] at Z;omega
 have H:(xs++F).length=(n+m)*i.size:=by rw [qae,G.1,Y,qaF]
 rcases G.2 with ⟨rfl,rfl⟩ | ⟨g,cap,cur,rfl,au,hg,aA,ax,ay,htake,aa⟩
 ·have V:xs=[]:=List.eq_nil_of_length_eq_zero (by simpa using G.1);subst V;have hr:=run_append_nil (P:=P) w t ty e i z ht hi hz a m c F Y I az (by omega) (by have hb:=O;simp only [qaM] at hb;omega);have ae:=grownCap_ge w m 0 e;refine⟨_,_,hr,⟨by simpa using H,.inr ⟨w.heap.size,_,_,by rw [qaM],U,heap_alloc_new w.drew _,by rw [qaM];exact ae,grownCap_le_maxLen w m 0 e (by simpa using Z),?_,?_,?_⟩⟩,⟨rfl,rfl,rfl,by simp,fun k hk _=>qL w.drew _ k hk⟩,qak rfl⟩
  ·simp only [Array.size_append,List.size_toArray,size_zeroCells,aj,Y,<-qaF]
   congr 1;omega
  ·rw [qaM,qbk,<-Y,qbj];exact qbL
  ·intro x V;rw [qbj] at V;rcases qaH.1 V with h | h
   ·exact af x h
   ·exact qfP ai _ x h
 ·by_cases J:n+m<=cap
  ·have ah:n*i.size+F.length<=cur.size:=by rw [Y,ay,<-qaF];exact qaQ _ J
   have hr:=run_append_room (P:=P) w t ty e i ht hi g n cap cur hg a m c F Y I h1 J ah;refine⟨_,_,hr,⟨H,.inr ⟨g,cap,_,rfl,au,qT w g cur _ e _ hg,J,ax,?_,?_,?_⟩⟩,⟨rfl,rfl,rfl,by simp,fun k _ hk=>setRow_other w g k _ (fun e=>hk (by simp [Value.ownBlock,e]))⟩,qaw rfl⟩
   ·simp only [List.size_toArray,qae,qas,qbr,Array.length_toList];omega
   ·rw [htake,<-H];exact qbL
   ·intro x V;rcases qaH.1 V with h | h
    ·rcases qaH.1 h with h | h
     ·exact aa x (qbg h)
     ·exact af x h
    ·exact aa x (List.mem_of_mem_drop h)
  ·have holds:∀j u,xs[j]? = some u->w.cell? ((⟨g,0,none⟩:Addr).add j)=some u:=G.own.cells (g:=g) rfl;have hr:=run_append_grow (P:=P) w t ty e i z ht hi hz ⟨g,0,none⟩ n cap xs G.1 holds a m c F Y I (by omega) (by omega) (growslice_fits (by omega) O);have ae:=grownCap_ge w (n+m) cap e;refine⟨_,_,hr,⟨H,.inr ⟨w.heap.size,_,_,rfl,U,heap_alloc_new w.drew _,ae,grownCap_le_maxLen w (n+m) cap e Z,?_,?_,?_⟩⟩,⟨rfl,rfl,rfl,by simp,fun k hk _=>qL w.drew _ k hk⟩,qak rfl⟩
   ·simp only [Array.size_append,List.size_toArray,size_zeroCells,aj,G.1,Y,<-qaF]
    congr 1;omega
   ·simp only [qbj,qaB];rw [<-qaB,<-H];exact qbL
   ·intro x V;rw [qbj,qbj] at V;rcases qaH.1 V with h | h
    ·rcases qaH.1 h with h | h
     ·rw [<-htake] at h;exact aa x (qbg (by simpa using h))
     ·exact af x h
    ·exact qfP ai _ x h
theorem qhP {w:World} {o:Oper} {a:Act} {K:Act->World->Prop} {Q:Exit->Act->World->Prop} (s x:Operand) (t:TypeId)
  (ho:o.op=.call { callee:=.builtin .append,args:=#[s,x],argTypes:=#[t,t] })
  (base:Nat) (e:TypeId) (i:TypeInfo) (z:Value) (size bytes:Nat) (ht:P.underlying t=some (.slice e)) (hi:P.info? e=some i) (hz:i.zero=some z)
  (J:i.size=size) (Z:i.bytes=bytes) (ah:z.cells.size=size) (af:0<size) (ag:∀x∈z.cells.toList,qcr x)
  (v:Value) (n:Nat) (xs:List Value) (hs:a.eval s=v) (U:Rws w base e size v n xs)
  (V:Addr) (m c:Nat) (F:List Value) (hx:a.eval x=.slice (some V) m c) (hl:F.length=m*size) (I:∀j u,F[j]? = some u->w.cell? (V.add j)=some u) (h1:∀u∈F,u.oneCell'=true) (ae:∀u∈F,qcr u) (aa:0<m)
  (Y:n+m<=maxLen) (G:(n+m)*bytes<=140737488355328) (H:base<=w.heap.size)
  (h:∀O w',Rws w' base e size O (n+m) (xs++F)->w.grownBy w' v.ownBlock->(O.ownBlock=v.ownBlock\/O.ownBlock=some w.heap.size)->K (a.put o.dst O) w') :
  Oper.wp P o a w K Q:=by
 obtain⟨O,w',hr,h2,h3,h4⟩:=qeF (P:=P) w base t o.type e i z size bytes ht hi hz J Z ah af ag v n xs U V m c F hl I h1 ae aa Y G H;unfold Oper.wp execOp;simp only [ho,resolve,invoke,builtin,Sem.run_bind,Sem.run_pure,Result.andThen_ok,List.map_toArray,List.map_cons,List.map_nil,hs,hx,hr];exact h O w' h2 h3 h4
theorem qgw {w:World} {U:Array Oper} {o:Oper} {a:Act} {K:Act->World->Prop} {Q:Exit->Act->World->Prop} {E:Prop} (ae:o.guard=none) (s x:Operand) (t:TypeId)
  (ho:o.op=.call { callee:=.builtin .append,args:=#[s,x],argTypes:=#[t,t] })
  (base:Nat) (e:TypeId) (i:TypeInfo) (z:Value) (size bytes:Nat) (ht:P.underlying t=some (.slice e)) (hi:P.info? e=some i) (hz:i.zero=some z)
  (J:i.size=size) (aa:i.bytes=bytes) (aj:z.cells.size=size) (ah:0<size) (ai:∀x∈z.cells.toList,qcr x)
  (v:Value) (n:Nat) (xs:List Value) (hs:a.eval s=v) (O:Rws w base e size v n xs)
  (Y:Addr) (m c:Nat) (F:List Value) (hx:a.eval x=.slice (some Y) m c) (hl:F.length=m*size) (I:∀j u,F[j]? = some u->w.cell? (Y.add j)=some u) (h1:∀u∈F,u.oneCell'=true) (ag:∀u∈F,qcr u) (af:0<m)
  (Z:n+m<=maxLen) (G:(n+m)*bytes<=140737488355328) (H:base<=w.heap.size)
  (h:∀V w',Rws w' base e size V (n+m) (xs++F)->w.grownBy w' v.ownBlock->(V.ownBlock=v.ownBlock\/V.ownBlock=some w.heap.size)->K (a.put o.dst V) w') :
  if Region.wanted o (yielded U a.tmps)=true then Oper.wp P o a w K Q else E:=by
 have hw:Region.wanted o (yielded U a.tmps)=true:=by simp [Region.wanted,ae]
 rw [if_pos hw];exact qhP s x t ho base e i z size bytes ht hi hz J aa aj ah ai v n xs hs O Y m c F hx hl I h1 ag af Z G H h
theorem qc6 {w:World} {V:Array Oper} {rest:List Oper} {o:Oper} {a:Act} {Q:Exit->Act->World->Prop} (ae:o.guard=none) (s x:Operand) (t:TypeId)
  (ho:o.op=.call { callee:=.builtin .append,args:=#[s,x],argTypes:=#[t,t] })
  (base:Nat) (e:TypeId) (i:TypeInfo) (z:Value) (size bytes:Nat) (ht:P.underlying t=some (.slice e)) (hi:P.info? e=some i) (hz:i.zero=some z)
  (J:i.size=size) (aa:i.bytes=bytes) (aj:z.cells.size=size) (ah:0<size) (ai:∀x∈z.cells.toList,qcr x)
  (v:Value) (n:Nat) (xs:List Value) (hs:a.eval s=v) (U:Rws w base e size v n xs)
  (Y:Addr) (m c:Nat) (F:List Value) (hx:a.eval x=.slice (some Y) m c) (hl:F.length=m*size) (I:∀j u,F[j]? = some u->w.cell? (Y.add j)=some u) (h1:∀u∈F,u.oneCell'=true) (ag:∀u∈F,qcr u) (af:0<m)
  (Z:n+m<=maxLen) (G:(n+m)*bytes<=140737488355328) (H:base<=w.heap.size)
  (h:∀O w',Rws w' base e size O (n+m) (xs++F)->w.grownBy w' v.ownBlock->(O.ownBlock=v.ownBlock\/O.ownBlock=some w.heap.size)->wpList P V Q rest (a.put o.dst O) w') :
  wpList P V Q (o :: rest) a w:=by
 refine wpList_plain ae fun K hK=>?_
 obtain⟨O,w',hr,h2,h3,h4⟩:=qeF (P:=P) w base t o.type e i z size bytes ht hi hz J aa aj ah ai v n xs U Y m c F hl I h1 ag af Z G H;unfold Oper.wp execOp;simp only [ho,resolve,invoke,builtin,Sem.run_bind,Sem.run_pure,Result.andThen_ok,List.map_toArray,List.map_cons,List.map_nil,hs,hx,hr];exact hK _ _ (h O w' h2 h3 h4)
end
open Go.Proofs.Tryz
theorem infoFs:(Tryz.prog.info? 22).map (fun i=>(i.zero,i.size,i.bytes))=some (some (.slice none 0 0),1,24):=by kernel_rfl
theorem qdG {W:World} {B:Nat} {v:Value} {n:Nat} {l:List FT} (h:Rws W B 27 2 v n (fflat l)) (hl:l.length=n):∃(I:Option Addr) (g cap:Nat),v=.slice I n cap/\FCells W I g 0 l/\n<=cap:=by
 have F:=h.own;rcases h.2 with ⟨rfl,rfl⟩ | ⟨g,cap,cur,rfl,_,_,Y,_⟩
 ·exact⟨none,0,0,rfl,⟨fun O=>absurd O (by omega),fun k H=>absurd H (by omega)⟩,qaf _⟩
 ·refine⟨some ⟨g,0,none⟩,g,cap,rfl,⟨fun _=>rfl,fun k H=>?_⟩,Y⟩;have Z:l[k]? = some (l.getD k fd0):=by rw [qab,qad H];rfl
  obtain⟨U,V⟩:=qeV l k _ Z;have J:=F.cells (g:=g) rfl _ _ U;have G:=F.cells (g:=g) rfl _ _ V;rw [Addr.add_mid] at J G;refine⟨J,?_⟩;rw [<-Nat.add_assoc] at G;exact G
theorem qdD (x:ByteArray):qcr (.string x):=fun k d h=>by cases h
theorem qeO {U:Array Oper} {rest:List Oper} {o:Oper} {a:Act} {w:World} {Q:Exit->Act->World->Prop} (aa:o.guard=none) (s x:Operand)
  (ho:o.op=.call { callee:=.builtin .append,args:=#[s,x],argTypes:=#[22,22] }) {Y:World} {B:Nat} {v:Value} {n:Nat} {l:List FT} {x1 x2:ByteArray}
  (hB:Below B Y w) (ai:B=Y.heap.size) (O:Rws w B 27 2 v n (fflat l)) (hs:a.eval s=v) {g:Nat} (hx:a.eval x=.slice (some ⟨g,0,none⟩) 1 1) (ae:g=w.heap.size) (hn:n<1000000)
  (h:∀V w',Hu (Rws w' B 27 2 V (n+1) (fflat (l++[(x1,x2)])))->Hu (Below B Y w')->wpList prog U Q rest (a.put o.dst V) w') :
  wpList prog U Q (o :: rest) a (w.alloc (.cells #[.string x1,.string x2] 27)):=by
 subst ae;obtain⟨i0,hi,af,ag,ah⟩:=info_parts infoF;have aj:=hB.size;have Z:Below w.heap.size w (w.alloc (.cells #[.string x1,.string x2] 27)):=qbN qB qN;have F:=O.below Z;have hg:=heap_alloc_new w (.cells #[.string x1,.string x2] 27);refine qc6 aa s x 22 ho B 27 i0 _ 2 32 underlying22 hi af ag ah rfl (by decide) ?nz v n (fflat l) hs F ⟨w.heap.size,0,none⟩ 1 1 [.string x1,.string x2] hx rfl ?c1 ?c2 ?c3 (by decide) (by unfold maxLen;omega) (by omega) (by simp only [qaa];omega) ?_
 case nz =>
  intro y hy;rcases qaz.1 (show y∈[Value.string ⟨#[]⟩,Value.string ⟨#[]⟩] from hy) with rfl | hy
  ·exact qdD _
  ·rw [qao.1 hy];exact qdD _
 case c1 =>
  intro j u J;rw [Addr.add_mid]
  match j,J with
  | 0,J=>exact (qC _ _ _ _ _ _ hg).trans J
  | 1,J=>exact (qC _ _ _ _ _ _ hg).trans J
 case c2 =>
  intro u I;rcases qaz.1 I with rfl | I
  ·rfl
  ·rw [qao.1 I];rfl
 case c3 =>
  intro u I;rcases qaz.1 I with rfl | I
  ·exact qdD _
  ·rw [qao.1 I];exact qdD _
 intro V w' H G _;refine h V w' (qH ?_) (qH ?_)
 ·rw [qdE];exact H
 ·exact F.old G (hB.alloc (by omega) _) qN (by simp only [qaa];omega)
section
variable {P:Program} {ops:Array Oper} {Q:Exit->Act->World->Prop} {md:Region.Mode} {S:World->Prop}
def nthOp:List Oper->Nat->Option Oper
 | [],_=>none
 | o :: _,0=>some o
 | _ :: l,n+1=>nthOp l n
theorem qhb:∀{l:List Oper} {i:Nat} {o:Oper},nthOp l i=some o->l.toArray[i]? = some o
 | [],_,_,h=>by cases h
 | _ :: _,0,_,h=>by rw [qaA];exact h
 | _ :: l,n+1,_,h=>by
  have:=qhb (l:=l) h;rw [qaA] at this ⊢;exact this
theorem qeu {F:Array Oper} {i:Nat} {o:Oper} (h:nthOp F.toList i=some o):F[i]? = some o:=qhb (l:=F.toList) h
theorem qlH {T:World->Prop} (hT:∀W,T W->S W):∀(F:Nat) (G:Array Bool) (a:Act) (w:World),wpAnyH P md ops Q T F G a w->wpAnyH P md ops Q S F G a w
 | 0,_,_,_,h=>h
 | F+1,_,_,_,h=>⟨h.1,fun i I=>wpOp_mono (fun _ _ H=>⟨hT _ H.1,qlH hT F _ _ _ H.2⟩) (h.2 i I)⟩
theorem hd_take (i:Nat) {o:Oper} {v:Value} {G:Nat} {F:Array Bool} {a:Act} {w:World} (I:nthOp ops.toList i=some o)
  (H:(Region.noSelect ops && (Region.free md ops F i && (Region.ready md ops F).contains i))=true) (hQ:∀c a w,Q (.panic c) (a.put o.dst v) w->Q (.panic c) a w) (hS:S w)
  (O:Region.wanted o (yielded ops a.tmps)=true) (U:∀w,S w->(execOp a.eval o).run P w=.ok (.value v) w)
  (h:wpAnyH P md ops Q S G (F.setIfInBounds i true) (a.put o.dst v) w):wpAnyH P md ops Q S (G+1) F a w:=by
 have J:=qeu I;rw [qau,qau] at H;exact wpAnyH_take J H.1 H.2.1 H.2.2 hQ (qaw ⟨O,U⟩) hS h
def Way (P:Program) (I:Region.Mode) (H:Array Oper) (Q:Exit->Act->World->Prop) (S:World->Prop) (G:Nat) (F:Array Bool) (K:Act->World->Prop):Prop :=
 Shut (∀(T:World->Prop) (a:Act) (w:World),(∀W,T W->S W)->T w->wpAnyH P I H Q T G F a w->K a w)
theorem hd_step {i:Nat} {o:Oper} {G:Nat} {F:Array Bool} {a:Act} {w:World} (U:ops[i]? = some o)
  (h:∀K:Act->World->Prop,Way P md ops Q S G (F.setIfInBounds i true) K->if Region.wanted o (yielded ops a.tmps)=true then Oper.wp P o a w K Q else K (a.put o.dst undef) w) :
  wpOp P ops Q i (fun I w'=>S w'/\wpAnyH P md ops Q S G (F.setIfInBounds i true) I w') a w :=
 wpOp_step U fun H J=>h H fun _T a w hT V O=>J a w ⟨hT w V,qlH hT _ _ _ _ O⟩
theorem qgT (i:Nat) {o:Oper} {G:Nat} {F:Array Bool} {a:Act} {w:World} (H:nthOp ops.toList i=some o) (J:decide (Region.ready md ops F=[i])=true)
  (h:∀K:Act->World->Prop,Way P md ops Q S G (F.setIfInBounds i true) K->if Region.wanted o (yielded ops a.tmps)=true then Oper.wp P o a w K Q else K (a.put o.dst undef) w) :
  wpAnyH P md ops Q S (G+1) F a w:=by
 refine wpAnyH_all (of_decide_eq_true J) (by simp) fun j I=>?_
 rw [qao] at I;subst I;exact hd_step (qeu H) h
theorem Way.on {G:Nat} {F:Array Bool} {K:Act->World->Prop} (h:Way P md ops Q S G F K) (T:World->Prop) (a:Act) (w:World) (hT:∀W,T W->S W) (H:T w) (k:T w->wpAnyH P md ops Q T G F a w):K a w :=
 h.out T a w hT H (k H)
end
def pf (a:Act) (v:Nat->Value):List (Nat×Tmp)->Act
 | []=>a
 | p :: D=>(pf a v D).put (some p.2) (v p.1)
def upd {α:Type} (v:Nat->α) (i:Nat) (x:α):Nat->α:=fun k=>if k=i then x else v k
theorem upd_same {α:Type} (v:Nat->α) (i:Nat) (x:α):upd v i x i=x:=if_pos rfl
theorem qbY {α:Type} (v:Nat->α) {i k:Nat} (x:α) (h:k≠i):upd v i x k=v k:=if_neg h
theorem put_put (a:Act) (d:Tmp) (x y:Value):(a.put (some d) x).put (some d) y=a.put (some d) y:=by
 simp [Act.put]
theorem qew (a:Act) (v:Nat->Value) (i:Nat) (x:Value):∀D:List (Nat×Tmp),(∀p∈D,p.1≠i)->pf a (upd v i x) D=pf a v D
 | [],_=>rfl
 | p :: D,h=>by
  show (pf a (upd v i x) D).put _ (upd v i x p.1)=(pf a v D).put _ (v p.1)
  rw [qew a v i x D fun q F=>h q (qbn _ F),qbY _ _ (h p (qa7 ..))]
theorem qmu (a:Act) (v:Nat->Value) {i:Nat} {d:Tmp} (x:Value):∀D:List (Nat×Tmp),(D.map (·.1)).Nodup->(D.map (·.2)).Nodup->(i,d)∈D->(pf a v D).put (some d) x=pf a (upd v i x) D
 | [],_,_,h=>by cases h
 | p :: D,F,G,h=>by
  rw [List.map_cons,List.nodup_cons] at F G;rcases qaz.1 h with e | h
  ·subst e
   show ((pf a v D).put (some d) (v i)).put (some d) x=(pf a (upd v i x) D).put (some d) (upd v i x i)
   rw [put_put,upd_same,qew a v i x D fun q J e=>F.1 (qbo.2 ⟨q,J,e⟩)]
  ·have hne:p.1≠i:=fun e=>F.1 (qbo.2 ⟨_,h,e.symm⟩)
   have H:p.2≠d:=fun e=>G.1 (qbo.2 ⟨_,h,e.symm⟩)
   show ((pf a v D).put (some p.2) (v p.1)).put (some d) x=(pf a (upd v i x) D).put (some p.2) (upd v i x p.1)
   rw [qbY _ _ hne,<-qmu a v x D F.2 G.2 h];exact Act.put_comm _ _ _ fun e he I=>H (by cases he;cases I;rfl)
theorem qjm (a:Act) (v:Nat->Value):∀D:List (Nat×Tmp),(∀p∈D,v p.1=a.tmps.getD p.2 undef/\p.2<a.tmps.size)->pf a v D=a
 | [],_=>rfl
 | p :: D,h=>by
  show (pf a v D).put (some p.2) (v p.1)=a
  obtain⟨F,G⟩:=h p (qa7 ..);rw [qjm a v D fun q H=>h q (qbn _ H),F]
  show { a with tmps:=a.tmps.setIfInBounds p.2 _ }=a
  congr 1
  apply Array.ext_getElem?;intro j;rw [Array.getElem?_setIfInBounds];split
  ·next e=>subst e;simp [G]
  ·rfl
def arr (n:Nat) (L:Nat->Bool):Array Bool:=((List.range n).map L).toArray
theorem qfk (n:Nat) (L:Nat->Bool) (i:Nat) (b:Bool):(arr n L).getD i b=if i<n then L i else b:=by
 unfold arr;rw [Array.getD_eq_getD_getElem?,qaA,qaL]
 by_cases h:i<n
 ·rw [qby h,if_pos h];rfl
 ·rw [qaX (by rw [qbl];omega),if_neg h];rfl
theorem qiV (n:Nat) (L:Nat->Bool) (i:Nat):(arr n L).setIfInBounds i true=arr n (upd L i true):=by
 unfold arr;rw [qaI]
 congr 1
 apply List.ext_getElem?;intro k
 by_cases e:k=i
 ·subst e
  by_cases h:k<n
  ·rw [List.getElem?_set_self (by simpa using h),qaL,qby h]
   show some true=some (upd L k true k)
   rw [upd_same]
  ·rw [qaX (by simp;omega),qaX (by simp;omega)]
 ·rw [List.getElem?_set_ne (by omega),qaL,qaL];cases hk:(List.range n)[k]? with
  | none=>rfl
  | some j =>
   have:j=k:=by
    obtain⟨h,e2⟩:=List.getElem?_eq_some_iff.1 hk;rw [List.getElem_range] at e2;exact e2.symm
   subst this
   show some (L j)=some (upd L i true j)
   rw [qbY _ _ e]
section
variable {P:Program} {ops:Array Oper} {Q:Exit->Act->World->Prop} {md:Region.Mode} {S:World->Prop}
theorem qff (n:Nat) (L:Nat->Bool) (O:n=ops.size) (i:Nat):i∈Region.ready md ops (arr n L)↔i<n/\L i=false/\∃o,ops[i]? = some o/\(o.after.all fun e=>!Region.binds md e || (decide (e.on<n) && L e.on))=true:=by
 have I:∀o:Oper,(o.after.all fun e=>!Region.binds md e || (arr n L).getD e.on false)=(o.after.all fun e=>!Region.binds md e || (decide (e.on<n) && L e.on)):=fun o=>congrArg (fun f=>o.after.all f) (funext fun e=>by
  rw [qfk]
  by_cases h:e.on<n
  ·rw [if_pos h,qV h,Bool.true_and]
  ·rw [if_neg h,qU h,Bool.false_and])
 unfold Region.ready;rw [List.mem_filter,qat,<-O]
 constructor
 ·rintro ⟨G,H⟩;rw [qau] at H;refine⟨G,?_,?_⟩
  ·have:=H.1;rw [qfk,if_pos G] at this;simpa using this
  ·have F:=H.2;cases e:ops[i]? with
   | none=>rw [e] at F;exact absurd F (by simp)
   | some o =>
    rw [e] at F;exact⟨o,rfl,(I o).symm.trans F⟩
 ·rintro ⟨G,H,o,F,J⟩;refine⟨G,?_⟩;rw [qau];refine⟨by rw [qfk,if_pos G,H];rfl,?_⟩;rw [F];exact (I o).trans J
def waits (F:Region.Mode) (o:Oper):List Nat:=(o.after.toList.filter fun e=>Region.binds F e).map (·.on)
theorem qiN {o:Oper} {n:Nat} {L:Nat->Bool} (h:(o.after.all fun e=>!Region.binds md e || (decide (e.on<n) && L e.on))=true):∀k∈waits md o,k<n/\L k=true:=by
 intro k H;obtain⟨e,he,rfl⟩:=qbo.1 H;obtain⟨he,F⟩:=List.mem_filter.1 he;obtain⟨j,G,rfl⟩:=Array.getElem_of_mem (Array.mem_toList_iff.1 he);have:=(Array.all_eq_true.1 h) j G;rw [F] at this
 simpa using this
def dagB (G:Region.Mode) (F:Array Oper):Bool:=(List.range F.size).all fun i=>((nthOp F.toList i).map fun o=>(waits G o).all fun k=>decide (k<i)).getD true
theorem qj2:∀{l:List Oper} {i:Nat} {o:Oper},l[i]? = some o->nthOp l i=some o
 | [],_,_,h=>by simp at h
 | _ :: _,0,_,h=>by simpa [nthOp] using h
 | _ :: l,n+1,_,h=>by
  show nthOp l n=_
  exact qj2 (by simpa using h)
theorem qcn {i:Nat} {o:Oper} (h:ops[i]? = some o):nthOp ops.toList i=some o:=qj2 (by rw [<-qaA];exact h)
theorem qg9 {L:Nat->Bool} (U:dagB md ops=true) (h:Region.ready md ops (arr ops.size L)=[]):∀i,i<ops.size->L i=true:=by
 intro i
 induction i using Nat.strongRecOn with
 | ind i ih =>
  intro G;apply Classical.byContradiction;intro J;have I:ops[i]? = some ops[i]:=Array.getElem?_eq_getElem G;have F:=(qax.1 U) i (qat.2 G);rw [qcn I] at F;have F:(waits md ops[i]).all (fun k=>decide (k<i))=true:=F;have:i∈Region.ready md ops (arr ops.size L):=(qff _ L rfl i).2 ⟨G,by simpa using J,_,I,Array.all_eq_true.2 fun j V=>by
   cases O:Region.binds md ops[i].after[j] with
   | false=>rfl
   | true =>
    have Y:ops[i].after[j].on∈waits md ops[i]:=qbo.2 ⟨_,List.mem_filter.2 ⟨Array.mem_toList_iff.2 (Array.getElem_mem V),O⟩,rfl⟩;have H:=of_decide_eq_true ((qax.1 F) _ Y);rw [ih _ H (by omega)];simp;omega⟩
  rw [h] at this;cases this
def leftN (n:Nat) (L:Nat->Bool):Nat:=((List.range n).filter fun k=>!L k).length
theorem qga {n:Nat} {L:Nat->Bool} {i:Nat} (G:i<n) (I:L i=false):leftN n (upd L i true)<leftN n L:=by
 have F:∀l:List Nat,(∀x∈l,x=i->False)\/i∈l->((l.filter fun k=>!upd L i true k).length<=(l.filter fun k=>!L k).length)/\(i∈l->(l.filter fun k=>!upd L i true k).length<(l.filter fun k=>!L k).length):=by
  intro l _
  induction l with
  | nil=>exact⟨qaf _,fun h=>by cases h⟩
  | cons x l ih =>
   have ih:=ih (by by_cases h:i∈l;exact qak h;exact qaw fun y J e=>h (e▸J))
   by_cases e:x=i
   ·subst e;rw [List.filter_cons_of_neg (by rw [upd_same];simp),List.filter_cons_of_pos (by rw [I];rfl),qbJ];exact⟨by omega,fun _=>by omega⟩
   ·have H:upd L i true x=L x:=qbY _ _ e;cases hx:L x with
    | true =>
     rw [List.filter_cons_of_neg (by rw [H,hx];simp),List.filter_cons_of_neg (by rw [hx];simp)];exact⟨ih.1,fun h=>ih.2 (by rcases qaz.1 h with h | h;exact absurd h.symm e;exact h)⟩
    | false =>
     rw [List.filter_cons_of_pos (by rw [H,hx];rfl),List.filter_cons_of_pos (by rw [hx];rfl),qbJ,qbJ];exact⟨by omega,fun h=>by
      have:=ih.2 (by rcases qaz.1 h with h | h;exact absurd h.symm e;exact h);omega⟩
 exact (F _ (qak (qat.2 G))).2 (qat.2 G)
theorem qgZ {n:Nat} {L:Nat->Bool} (h:leftN n L=0):∀i,i<n->L i=true:=fun i G=>by
 have:=List.eq_nil_of_length_eq_zero h;cases hL:L i with
 | true=>rfl
 | false =>
  have F:i∈(List.range n).filter fun k=>!L k:=List.mem_filter.2 ⟨qat.2 G,by rw [hL];rfl⟩
  rw [this] at F;cases F
def dstB (F:Array Oper) (D:List (Nat×Tmp)) (T:List Nat):Bool:=(List.range F.size).all fun i=>T.contains i || ((nthOp F.toList i).map fun o=>match o.dst with | none=>!(D.map (·.1)).contains i | some d=>D.contains (i,d)).getD true
end
section
variable {P:Program} {ops:Array Oper} {Q:Exit->Act->World->Prop} {md:Region.Mode} {S:World->Prop}
def dep (F:List (Nat×List Nat)) (i:Nat):List Nat:=(F.lookup i).getD []
theorem qf9 {n:Nat} {L M:Nat->Bool} (h:∀i,i<n->L i=M i):leftN n L=leftN n M:=by
 unfold leftN
 congr 1
 exact List.filter_congr fun i F=>by rw [h i (qat.1 F)]
section
variable {dl:List (Nat×List Nat)} {F:Nat->Value->List Nat->World->Prop} {w0:World} {i:Nat} {gs:Nat->List Nat} {w:World} {A:Act} {d:Option Tmp} {K:Act->World->Prop}
end
end
class Stays (p:World->Prop):Prop where
 go:∀{W W':World},p W->Below W.heap.size W W'->p W'
instance stays_and {p q:World->Prop} [hp:Stays p] [hq:Stays q]:Stays fun W=>p W/\q W:=⟨fun h F=>⟨hp.go h.1 F,hq.go h.2 F⟩⟩
instance stays_const {p:Prop}:Stays fun _=>p:=⟨fun h _=>h⟩
instance stays_old {w:World}:Stays fun W=>Below w.heap.size w W:=⟨fun h F=>h.trans (F.mono h.size)⟩
instance stays_row {g:Nat} {o:Obj}:Stays fun W=>W.heap[g]? = some o:=⟨fun h F=>(F.block g (qG h).1).trans h⟩
instance stays_ex {α:Type} {p:α->World->Prop} [hp:∀x,Stays (p x)]:Stays fun W=>∃x,p x W:=⟨fun⟨x,h⟩ hb=>⟨x,(hp x).go h hb⟩⟩
def Kn (p:World->Prop) (W:World):Prop:=Hu (p W)
theorem Kn.o {p:World->Prop} {W:World} (k:Kn p W):p W:=Hu.o k
theorem Kn.of {p:World->Prop} {W:World} (h:p W):Kn p W:=qH h
theorem Kn.below {p:World->Prop} [hp:Stays p] {W W':World} (k:Kn p W) (F:Below W.heap.size W W'):Kn p W':=.of (hp.go k.o F)
theorem Kn.on {p q:World->Prop} [hp:Stays p] {W W':World} (k:Kn p W) (F:Below W.heap.size W W') (h:q W'):Kn (fun W=>p W/\q W) W':=.of ⟨hp.go k.o F,h⟩
theorem Kn.also {p q:World->Prop} {W:World} (k:Kn p W) (h:q W):Kn (fun W=>p W/\q W) W:=.of ⟨k.o,h⟩
section
variable {P:Program} {ops:Array Oper} {Q:Exit->Act->World->Prop} {md:Region.Mode} {S:World->Prop}
def growB (H:Region.Mode) (F:Array Oper) (rl:List (Nat×List Nat)) (T:List Nat) (G:Nat):Bool :=
 ((List.range G).all fun i=>T.contains i || (((nthOp F.toList i).map fun o=>(dep rl i).all fun k=>(waits H o).contains k && (!T.contains k && decide (k<G))).getD false)) &&
 ((decide (F.size<=G) || (List.range G).all fun k=>T.contains k || (List.range (G+1)).any fun j=>decide (k<j) && ((nthOp F.toList j).map fun o=>(waits H o).contains k).getD false) &&
 (!T.contains G && (List.range F.size).all fun i=>decide (i<=G) || (T.contains i || ((nthOp F.toList i).map fun o=>(waits H o).any fun k=>decide (G<=k) && !T.contains k).getD false)))
section
variable {ops:Array Oper} {md:Region.Mode}
theorem qkw {rl:List (Nat×List Nat)} {T:List Nat} {H:Nat} (h:growB md ops rl T H=true) {i:Nat} {o:Oper} (I:i<H) (hT:i∉T) (O:nthOp ops.toList i=some o):∀k∈dep rl i,k∈waits md o/\k∉T/\k<H:=by
 intro k J;unfold growB at h;rw [qau] at h;have F:=(qax.1 h.1) i (qat.2 I);rw [qaU,O] at F;rcases F with F | F
 ·exact absurd (qah.1 F) hT
 ·have G:=(qax.1 (show ((dep rl i).all fun k=>(waits md o).contains k && (!T.contains k && decide (k<H)))=true from F)) k J;simp only [qau,decide_eq_true_eq,qbE] at G;refine⟨qah.1 G.1,fun e=>?_,G.2.2⟩;rw [qah.2 e] at G;exact absurd G.2.1 (by decide)
theorem qkx {rl:List (Nat×List Nat)} {T:List Nat} {H:Nat} (h:growB md ops rl T H=true) (O:H<ops.size) {k:Nat} (J:k<H) (hT:k∉T):∃j o,k<j/\j<=H/\nthOp ops.toList j=some o/\k∈waits md o:=by
 unfold growB at h;rw [qau,qau,qaU,decide_eq_true_eq] at h;have G:=(qax.1 (h.2.1.resolve_left (by omega))) k (qat.2 J);rw [qaU] at G;rcases G with G | G
 ·exact absurd (qah.1 G) hT
 obtain⟨j,I,F⟩:=List.any_eq_true.1 G;rw [qau,decide_eq_true_eq] at F;have I:=qat.1 I;cases e:nthOp ops.toList j with
 | none=>rw [e] at F;exact absurd F.2 (by simp)
 | some o=>rw [e] at F;exact⟨j,o,F.1,by omega,e,qah.1 F.2⟩
theorem qkv {rl:List (Nat×List Nat)} {T:List Nat} {H:Nat} (h:growB md ops rl T H=true) {i:Nat} {o:Oper} (U:H<i) (hT:i∉T) (O:i<ops.size) (J:nthOp ops.toList i=some o):∃k∈waits md o,H<=k/\k∉T:=by
 unfold growB at h;rw [qau,qau,qau] at h;have G:=(qax.1 h.2.2.2) i (qat.2 O);rw [qaU,decide_eq_true_eq,qaU,J] at G;rcases G with G | G | G
 ·omega
 ·exact absurd (qah.1 G) hT
 ·obtain⟨k,I,F⟩:=List.any_eq_true.1 (show ((waits md o).any fun k=>decide (H<=k) && !T.contains k)=true from G);rw [qau,decide_eq_true_eq,qbE] at F;exact⟨k,I,F.1,fun e=>by rw [qah.2 e] at F;cases F.2⟩
theorem growB_own {rl:List (Nat×List Nat)} {T:List Nat} {F:Nat} (h:growB md ops rl T F=true):F∉T:=fun e=>by
 unfold growB at h;rw [qau,qau,qau,qbE] at h;have:=h.2.2.1;rw [qah.2 e] at this;cases this
end
def pv:Value->Nat
 | .pointer (some a)=>a.block
 | .slice (some a) _ _=>a.block
 | _=>0
structure Grown (md:Region.Mode) (ops:Array Oper) (T E:List Nat) (n0:Nat) (F:Nat->Value->World->Prop) (w0:World) (L:Nat->Bool) (v:Nat->Value) (w:World):Prop where
 old:Below w0.heap.size w0 w
 top:∀i,n0<=i->i∉T->L i=false
 took:∀k∈T,L k=true
 shut:∀j o,nthOp ops.toList j=some o->L j=true->∀k∈waits md o,L k=true
 fact:∀i,i<n0->i∉T->L i=true->F i (v i) w
 lt:∀i∈E,L i=true->pv (v i)<w.heap.size
 apart:∀i∈E,∀j∈E,L i=true->L j=true->i≠j->pv (v i)≠pv (v j)
def Grows (F:Nat->Value->World->Prop) (E:List Nat) (i:Nat) (w:World) (A:Act) (d:Option Tmp) (K:Act->World->Prop):Prop :=
 Shut (∀(x:Value) (G:Act) (w':World),G=A.put d x->F i x w'->(E.contains i=true->w.heap.size<=pv x/\pv x<w'.heap.size)->Below w.heap.size w w'->K G w')
theorem Grows.to {F:Nat->Value->World->Prop} {E:List Nat} {i:Nat} {w:World} {A:Act} {d:Option Tmp} {K:Act->World->Prop} (h:Grows F E i w A d K) (x:Value) (G:Act) (w':World) (H:G=A.put d x) (I:F i x w') (hE:E.contains i=true->w.heap.size<=pv x/\pv x<w'.heap.size) (J:Below w.heap.size w w'):K G w':=h.out x G w' H I hE J
theorem qjw (a:Act) (D:List (Nat×Tmp)) (rl:List (Nat×List Nat)) (T E:List Nat) (O:Nat) (F:Nat->Value->World->Prop) (w0:World) (T2:List Nat)
  (ay:∀i x w w',F i x w->Below w.heap.size w w'->F i x w')
  (ak:dagB md ops=true) (h1:(D.map (·.1)).Nodup) (h2:(D.map (·.2)).Nodup) (au:dstB ops D T2=true) (aA:∀k,k<O->k∈T2->k∈T) (hB:growB md ops rl T O=true) (hn:O<=ops.size) (kl:Nat) (aD:leftN ops.size (fun i=>decide (i<O) || T.contains i)=kl)
  (hS:∀w,Below w0.heap.size w0 w->S w)
  (hstep:∀i o,nthOp ops.toList i=some o->i<O->i∉T->∀(v:Nat->Value) (w:World),Below w0.heap.size w0 w->(∀k∈dep rl i,F k (v k) w) ->
   ∀A,A=pf a v D->∀K,Grows F E i w A o.dst K->if Region.wanted o (yielded ops A.tmps)=true then Oper.wp P o A w K Q else K (A.put o.dst undef) w)
  (hend:∀v w,Grown md ops T E O F w0 (fun i=>decide (i<O) || T.contains i) v w->∀A,A=pf a v D->∀f,wpAnyH P md ops Q S (f+kl) (arr ops.size fun i=>decide (i<O) || T.contains i) A w) :
  ∀(G:Nat) (L:Nat->Bool) (v:Nat->Value) (w:World),leftN ops.size L<=G->Grown md ops T E O F w0 L v w->wpAnyH P md ops Q S G (arr ops.size L) (pf a v D) w:=by
 have ai:∀(G:Nat) (L:Nat->Bool) (v:Nat->Value) (w:World),leftN ops.size L<=G->Grown md ops T E O F w0 L v w->(∀i,i<O->L i=true)->wpAnyH P md ops Q S G (arr ops.size L) (pf a v D) w:=by
  intro G L v w hf H J;have az:L=fun i=>decide (i<O) || T.contains i:=funext fun i=>by
   by_cases h:i<O
   ·rw [J i h,qV h];rfl
   ·by_cases h2:i∈T
    ·rw [H.took i h2,qah.2 h2,Bool.or_true]
    ·rw [H.top i (by omega) h2,qU h,Bool.false_or];exact (Bool.not_eq_true _▸fun e=>h2 (qah.1 e):T.contains i=false).symm
  subst az;rw [aD] at hf;obtain⟨f,rfl⟩:∃f,G=f+kl:=⟨G-kl,by omega⟩;exact hend v w H _ rfl f
 intro G
 induction G with
 | zero =>
  intro L v w hf H;exact ai 0 L v w hf H fun i hi=>qgZ (Nat.le_zero.1 hf) i (by omega)
 | succ G ih =>
  intro L v w hf H
  by_cases J:∀i,i<O->L i=true
  ·exact ai (G+1) L v w hf H J
  refine⟨fun h0=>absurd (fun i hi=>qg9 ak h0 i (by omega)) J,fun i hi=>?_⟩;obtain⟨af,hL,o,ho,hd⟩:=(qff _ L rfl i).1 hi;have hw:∀k∈waits md o,L k=true:=fun k V=>(qiN hd k V).2
  have Z:i<O:=by
   apply Classical.byContradiction;intro aG;rcases qaT O i with hgt | hle
   ·obtain⟨k,V,aB,aC⟩:=qkv hB hgt (fun h=>by have:=H.took i h;rw [hL] at this;cases this) af (qcn ho);have:=hw k V;rw [H.top k aB aC] at this;cases this
   ·obtain rfl:i=O:=by omega
    refine J fun k V=>?_
    have aF:∀m k,k<i->i-k=m->L k=true:=by
     intro m
     induction m using Nat.strongRecOn with
     | ind m ihm =>
      intro k V hm
      by_cases av:k∈T
      ·exact H.took k av
      obtain⟨j,p,h1,h2,h3,h4⟩:=qkx hB af V av;rcases qaT j i with h | h
      ·exact H.shut j p h3 (ihm (i-j) (by omega) j h rfl) k h4
      ·obtain rfl:j=i:=by omega
       rw [qcn ho] at h3;cases h3;exact hw k h4
    exact aF _ k V rfl
  have ae:i∉T:=fun h=>by have:=H.took i h;rw [hL] at this;cases this
  refine wpOp_step ho fun K' hK=>hstep i o (qcn ho) Z ae v w H.old (fun k V=>by obtain⟨a1,a2,a3⟩:=qkw hB Z ae (qcn ho) k V;exact H.fact k a3 a2 (hw k a1)) _ rfl K' fun x A' w' hA hF ag U=>?_
  have aj:Below w0.heap.size w0 w':=H.old.trans (U.mono H.old.size);refine hK _ _ ⟨hS _ aj,?_⟩;rw [qiV];have ax:A'=pf a (upd v i x) D:=by
   rw [hA];have U:=(qax.1 au) i (qat.2 af);rw [qaU,qcn ho] at U;rcases U with U | U
   ·exact absurd (aA i Z (qah.1 U)) ae
   ·cases e:o.dst with
    | none =>
     show pf a v D=_
     refine (qew a v i x D fun p hp e2=>?_).symm;have U:(!(D.map (·.1)).contains i)=true:=by
      have:(match o.dst with | none=>!(D.map (·.1)).contains i | some d=>D.contains (i,d))=true:=U;rw [e] at this;exact this
     rw [qbE,<-Bool.not_eq_true] at U;exact U (qah.2 (qbo.2 ⟨p,hp,e2⟩))
    | some d =>
     have U:D.contains (i,d)=true:=by
      have:(match o.dst with | none=>!(D.map (·.1)).contains i | some d=>D.contains (i,d))=true:=U;rw [e] at this;exact this
     exact qmu a v x D h1 h2 (qah.1 U)
  rw [ax];refine ih _ _ _ (by have:=qga af hL;omega) ⟨aj,fun j Y ah=>?_,fun k V=>?_,fun j p hp Y k V=>?_,fun j Y ah I=>?_,fun j Y I=>?_,fun j Y m hm I aa hne=>?_⟩
  ·rw [qbY _ _ (by omega)];exact H.top j Y ah
  ·rw [qbY _ _ (by rintro rfl;exact ae V)];exact H.took k V
  ·by_cases e:k=i
   ·rw [e,upd_same]
   ·rw [qbY _ _ e]
    by_cases e2:j=i
    ·subst e2;rw [qcn ho] at hp;cases hp;exact hw k V
    ·rw [qbY _ _ e2] at Y;exact H.shut j p hp Y k V
  ·by_cases e:j=i
   ·subst e;rw [upd_same];exact hF
   ·rw [qbY _ _ e] at I ⊢;exact ay _ _ _ _ (H.fact j Y ah I) U
  ·by_cases e:j=i
   ·subst e;rw [upd_same];exact (ag (qah.2 Y)).2
   ·rw [qbY _ _ e] at I ⊢;exact qai (H.lt j Y I) U.size
  ·by_cases e:j=i
   ·subst e;have e2:m≠j:=fun e=>hne e.symm
    rw [qbY _ _ e2] at aa;rw [upd_same,qbY _ _ e2];have h1:=H.lt m hm aa;have h2:=(ag (qah.2 Y)).1;omega
   ·rw [qbY _ _ e] at I ⊢
    by_cases e2:m=i
    ·subst e2;rw [upd_same];have h1:=H.lt j Y I;have h2:=(ag (qah.2 hm)).1;omega
    ·rw [qbY _ _ e2] at aa ⊢;exact H.apart j Y m hm I aa hne
theorem qkA {J:Nat} {G:Array Bool} {a:Act} {U:World} (D:List (Nat×Tmp)) (rl:List (Nat×List Nat)) (T C E:List Nat) (I:Nat) (F:Nat->Value->World->Prop) (kl m:Nat) (Lz:Array Bool) (hm:a.tmps.size=m)
  (av:∀i x,Stays (F i x))
  (hB:(dagB md ops && (decide ((D.map (·.1)).Nodup) && (decide ((D.map (·.2)).Nodup) && (dstB ops D (T++(List.range ops.size).filter fun k=>decide (I<=k)) && ((D.all fun p=>decide (D.lookup p.1=some p.2) && decide (p.2<m)) && (decide (G.size=ops.size) && (decide (leftN ops.size (fun k=>G.getD k false)<=J) &&
   (growB md ops rl T I && (decide (I<=ops.size) && (decide (leftN ops.size (fun i=>decide (i<I) || T.contains i)=kl) && (decide (G=arr ops.size fun k=>T.contains k) && ((T.all fun k=>((nthOp ops.toList k).map fun o=>(waits md o).all fun j=>T.contains j).getD false) && (decide (Lz=arr ops.size fun i=>decide (i<I) || T.contains i) && ((List.range I).all (fun i=>T.contains i || C.contains i) && E.all fun i=>decide (i<I) && !T.contains i))))))))))))))=true)
  (hS:∀w,Below U.heap.size U w->S w)
  (hstep:∀i∈C,∀o,nthOp ops.toList i=some o->∀(v:Nat->Value) (w:World),Below U.heap.size U w->(∀k∈dep rl i,F k (v k) w) ->
   ∀A,A=pf a v D->∀K,Grows F E i w A o.dst K->if Region.wanted o (yielded ops A.tmps)=true then Oper.wp P o A w K Q else K (A.put o.dst undef) w)
  (hend:∀(v:Nat->Value) (w:World),Below U.heap.size U w->(∀i,i<I->i∉T->F i (v i) w)->(∀i∈E,∀j∈E,i≠j->pv (v i)≠pv (v j))->∀A,A=pf a v D->∀f,wpAnyH P md ops Q S (f+kl) Lz A w):wpAnyH P md ops Q S J G a U:=by
 simp only [qau,decide_eq_true_eq] at hB;obtain⟨aa,h1,h2,ae,hD,ax,hf,af,hn,au,O,ai,ah,hC,hE⟩:=hB;have Y:pf a (fun i=>a.tmps.getD ((D.lookup i).getD 0) undef) D=a:=qjm a _ D fun p hp=>by
  have:=(qax.1 hD) p hp;simp only [qau,decide_eq_true_eq] at this;exact⟨by rw [this.1];rfl,by rw [hm];exact this.2⟩
 have V:∀i∈E,i<I/\¬T.contains i=true:=fun i H=>by
  have:=(qax.1 hE) i H;rw [qau,decide_eq_true_eq] at this;exact⟨this.1,by simpa using this.2⟩
 have h0:Grown md ops T E I F U (fun k=>T.contains k) (fun i=>a.tmps.getD ((D.lookup i).getD 0) undef) U :=
  ⟨Below.refl _ _,fun i _ H=>by
   rw [<-Bool.not_eq_true];intro h;exact H (qah.1 h),fun k hk=>qah.2 hk,fun j o ho hj k hk=>by
   have:=(qax.1 ai) j (qah.1 hj);rw [ho] at this;exact (qax.1 (show ((waits md o).all fun j=>T.contains j)=true from this)) k hk,fun i _ h Z=>absurd (qah.1 Z) h,fun i H Z=>absurd Z (V i H).2,fun i H _ _ Z=>absurd Z (V i H).2⟩
 have ag:=qjw (P:=P) (Q:=Q) (S:=S) a D rl T E I F U (T++(List.range ops.size).filter fun k=>decide (I<=k)) (fun i x w w' h hb=>(av i x).go h hb) aa h1 h2 ae (fun k hk ak=>by
  rcases qaH.1 ak with h | h
  ·exact h
  ·have:=of_decide_eq_true (List.mem_filter.1 h).2;omega) af hn kl au hS (fun i o ho H aj=>hstep i (by
   have:=(qax.1 hC) i (qat.2 H);rw [qaU] at this;rcases this with h | h
   ·exact absurd (qah.1 h) aj
   ·exact qah.1 h) o ho) (fun v w h A hA f=>by
   rw [<-ah];exact hend v w h.old (fun i H hT=>h.fact i H hT (by rw [qV H];rfl)) (fun i H j hj=>h.apart i H j hj (by rw [qV (V i H).1];rfl) (by rw [qV (V j hj).1];rfl)) A hA f) J _ _ _ (by rw [qf9 (M:=fun k=>G.getD k false)];exact hf;intro i H;rw [O,qfk,if_pos H]) h0
 rw [Y,<-O] at ag;exact ag
end
theorem qm9 {P:Program} {o:Oper} {a:Act} {w:World} {next:Act->World->Prop} {Q:Exit->Act->World->Prop} {f:FuncId} {F:Array Value} {R:Ending->World->Prop} (he:(execOp a.eval o).run P w=.ok (.enter f F) w) (hC:Calls P f F w R)
  (h:∀e w',R e w'->∃v,e=.returned v/\next (a.put o.dst v) w'):o.wp P a w next Q:=by
 unfold Oper.wp;rw [he,Oper.upon_enter];exact hC.mono fun e w' r=>by obtain⟨v,rfl,h⟩:=h e w' r;exact h
theorem rowC {B:Nat} {F:World} {g:Nat} {cs:Array Value} {t:TypeId} (h:F.heap[g]? = some (.cells cs t (0,0))) (i:Nat) {x:Value} (H:cs[i]? = some x:=by rfl) (hg:g<B:=by omega):∀W,Below B F W->W.cell? ⟨g,i,none⟩=some x :=
 fun _ G=>(G.cell (p:=⟨g,i,none⟩) hg).trans ((qC _ _ i _ _ _ h).trans H)
def fl2:List (Nat×(Value->World->Prop))->Nat->Value->World->Prop
 | [],_=>fun _ _=>True
 | (j,p) :: l,i=>if i=j then p else fl2 l i
instance stays_nil {i:Nat} {x:Value}:Stays (fl2 [] i x):=⟨fun _ _=>trivial⟩
instance stays_cons {i j:Nat} {x:Value} {p:Value->World->Prop} {l:List (Nat×(Value->World->Prop))} [hp:∀x,Stays (p x)] [hl:Stays (fl2 l i x)]:Stays (fl2 ((j,p) :: l) i x):=⟨fun {_ _} h hb=>by
 have F:fl2 ((j,p) :: l) i=if i=j then p else fl2 l i:=rfl
 rw [F] at h ⊢
 by_cases e:i=j
 ·rw [if_pos e] at h ⊢;exact (hp x).go h hb
 ·rw [if_neg e] at h ⊢;exact hl.go h hb⟩
theorem rowG {F:World} {g0 g:Nat} {cs:Array Value} {t:TypeId} (h:F.heap[g]? = some (.cells cs t (0,0))) (i:Nat) {x:Value} (H:cs[i]? = some x:=by rfl) (hne:g≠g0:=by omega):∀W,F.grownBy W (some g0)->W.cell? ⟨g,i,none⟩=some x :=
 fun _ G=>G.cell ((qC _ _ i _ _ _ h).trans H) (fun e=>hne (qag e))
def ZC (B:Nat) (cs:Array Value) (t:TypeId) (x:Value) (W:World):Prop:=∃g,W.heap[g]? = some (.cells cs t (0,0))/\x=.pointer (some ⟨g,0,none⟩)/\B<=g
instance stays_zc {B:Nat} {cs:Array Value} {t:TypeId} {x:Value}:Stays (ZC B cs t x):=⟨fun⟨g,F,G,H⟩ hb=>⟨g,(hb.block g (qG F).1).trans F,G,H⟩⟩
theorem ZC.new {B:Nat} {cs:Array Value} {t:TypeId} {w:World} (h:B<=w.heap.size):ZC B cs t (.pointer (some ⟨w.heap.size,0,none⟩)) (w.alloc (.cells cs t))/\Below w.heap.size w (w.alloc (.cells cs t)) :=
 ⟨⟨w.heap.size,qM _ _ _ rfl,rfl,h⟩,qB.alloc qN _⟩
section
variable {P:Program} {ops:Array Oper} {Q:Exit->Act->World->Prop} {md:Region.Mode} {S:World->Prop} {fuel:Nat} {listed:Array Bool} {a a':Act} {w:World} {o:Oper}
theorem hT (i:Nat) {v:Value} (G:nthOp ops.toList i=some o:=by rfl)
  (H:(Region.noSelect ops && (Region.free md ops listed i && (Region.ready md ops listed).contains i))=true:=by kernel_rfl) (hQ:∀c a w,Q (.panic c) (a.put o.dst v) w->Q (.panic c) a w:=by exact fun _ _ _ h=>h) (hS:S w:=by assumption)
  (J:Region.wanted o (yielded ops a.tmps)=true:=by rfl) (O:∀w,S w->(execOp a.eval o).run P w=.ok (.value v) w:=by (intro w F;(try dsimp only at F);go_simp <;> with_reducible rfl))
  (I:a.put o.dst v=a':=by (simp only [Act.put,qaI,qbi,List.set_cons_succ];with_reducible rfl))
  (h:wpAnyH P md ops Q S fuel (listed.setIfInBounds i true) a' w):wpAnyH P md ops Q S (fuel+1) listed a w :=
 hd_take i G H hQ hS J O (by rw [I];exact h)
theorem hU (i:Nat) (G:nthOp ops.toList i=some o:=by rfl)
  (F:(Region.noSelect ops && (Region.free md ops listed i && (Region.ready md ops listed).contains i))=true:=by kernel_rfl) (hQ:∀c a w,Q (.panic c) (a.put o.dst undef) w->Q (.panic c) a w:=by exact fun _ _ _ h=>h) (hS:S w:=by assumption)
  (I:Region.wanted o (yielded ops a.tmps)=false:=by rfl)
  (H:a.put o.dst undef=a':=by (simp only [Act.put,qaI,qbi,List.set_cons_succ];with_reducible rfl))
  (h:wpAnyH P md ops Q S fuel (listed.setIfInBounds i true) a' w):wpAnyH P md ops Q S (fuel+1) listed a w:=by
 rw [qau,qau] at F;exact wpAnyH_take (qeu G) F.1 F.2.1 F.2.2 hQ (qak ⟨I,rfl⟩) hS (by rw [H];exact h)
theorem hC (i:Nat) {f:FuncId} {G:Array Value} {R:Ending->World->Prop} (O:Calls P f G w R) (F:nthOp ops.toList i=some o:=by rfl) (U:decide (Region.ready md ops listed=[i])=true:=by kernel_rfl)
  (V:Region.wanted o (yielded ops a.tmps)=true:=by rfl) (he:(execOp a.eval o).run P w=.ok (.enter f G) w:=by (go_simp <;> with_reducible rfl))
  (h:∀e w',R e w'->∃v,e=.returned v/\S w'/\wpAnyH P md ops Q S fuel (listed.setIfInBounds i true) (a.put o.dst v) w'):wpAnyH P md ops Q S (fuel+1) listed a w :=
 qgT i F U fun K J=>by
  rw [if_pos V];refine qm9 he O fun e w' r=>?_
  obtain⟨v,rfl,H,I⟩:=h e w' r;exact⟨v,rfl,J.on S _ _ (fun _ h=>h) H fun _=>I⟩
theorem hN {d:Option Tmp} {v:Value} (F:a.put d v=a':=by (simp only [Act.put,qaI,qbi,List.set_cons_succ];with_reducible rfl)) (h:wpAnyH P md ops Q S fuel listed a' w):wpAnyH P md ops Q S fuel listed (a.put d v) w:=by rw [F];exact h
theorem qna {P:Program} {o:Oper} {a:Act} {w w':World} {next:Act->World->Prop} {Q:Exit->Act->World->Prop} {v:Value} (he:(execOp a.eval o).run P w=.ok (.value v) w') (h:next (a.put o.dst v) w'):o.wp P a w next Q:=by
 unfold Oper.wp;rw [he,Oper.upon_value];exact h
theorem hSg (i:Nat) {w':World} (F:nthOp ops.toList i=some o:=by rfl) (I:decide (Region.ready md ops listed=[i])=true:=by kernel_rfl) (J:Region.wanted o (yielded ops a.tmps)=true:=by rfl) (H:o.dst=none:=by rfl)
  (he:(execOp a.eval o).run P w=.ok .skip w':=by (go_simp <;> with_reducible rfl)) (h:S w'/\wpAnyH P md ops Q S fuel (listed.setIfInBounds i true) a w'):wpAnyH P md ops Q S (fuel+1) listed a w :=
 qgT i F I fun K G=>by
  rw [if_pos J];unfold Oper.wp;rw [he,Oper.upon_skip,H];exact G.on S _ _ (fun _ h=>h) h.1 fun _=>h.2
theorem hE (i:Nat) {w':World} {v:Value} (F:nthOp ops.toList i=some o:=by rfl) (H:decide (Region.ready md ops listed=[i])=true:=by kernel_rfl) (I:Region.wanted o (yielded ops a.tmps)=true:=by rfl)
  (he:(execOp a.eval o).run P w=.ok (.value v) w':=by (go_simp <;> first | with_reducible rfl | exact⟨rfl,rfl⟩ | rfl)) (h:S w'/\wpAnyH P md ops Q S fuel (listed.setIfInBounds i true) (a.put o.dst v) w'):wpAnyH P md ops Q S (fuel+1) listed a w :=
 qgT i F H fun K G=>by
  rw [if_pos I];exact qna he (G.on S _ _ (fun _ h=>h) h.1 fun _=>h.2)
theorem qmF {P:Program} {o:Oper} {F:Operand->Value} {w w':World} {s x:Operand} {t H:TypeId} {v u I:Value} (J:o.op=.call { callee:=.builtin .append,args:=#[s,x],argTypes:=#[t,t] }) (G:o.type=H) (U:F s=v) (V:F x=u)
  (O:(Builtin.append_ #[t,t] H #[v,u]).run P w=.ok I w'):(execOp F o).run P w=.ok (.value I) w':=by
 subst G;unfold execOp;simp only [J,resolve,invoke,builtin,Sem.run_bind,Sem.run_pure,Result.andThen_ok,List.map_toArray,List.map_cons,List.map_nil,U,V,O]
theorem hSn (i:Nat) (n:Nat) {I:TypeId} {x y:Operand} {g:Nat} {cells old:Array Value} {t:TypeId} (hg:w.heap[g]? = some (.cells old t (0,0))) (H:nthOp ops.toList i=some o:=by rfl) (Z:decide (Region.ready md ops listed=[i])=true:=by kernel_rfl)
  (hw:Region.wanted o (yielded ops a.tmps)=true:=by rfl) (Y:o.op=.store I x y:=by rfl) (U:o.dst=none:=by rfl) (hx:a.eval x=.pointer (some ⟨g,0,none⟩):=by rfl) (hy:a.eval y=.agg cells:=by rfl)
  (V:(P.info? I).map (·.size)=some n:=by kernel_rfl) (G:old.size=n:=by rfl) (F:cells.size=n:=by rfl) (J:cells.toList.all (·.oneCell')=true:=by rfl)
  (h:S (w.setRow g cells)/\wpAnyH P md ops Q S fuel (listed.setIfInBounds i true) a (w.setRow g cells)):wpAnyH P md ops Q S (fuel+1) listed a w :=
 qgT i H Z fun K O=>by
  rw [if_pos hw];refine wp_store_row I x y Y g cells hx hy t old hg (by rw [F];exact V) (by rw [G,F]) (Array.all_eq_true_iff_forall_mem.2 (fun v hv=>qax.1 J v (by simpa using hv))) ?_;refine O.on S _ _ (fun _ h=>h) h.1 fun _=>?_
  rw [U];exact h.2
theorem hSt (i:Nat) (n:Nat) {I:TypeId} {x y:Operand} {g:Nat} {cells old:Array Value} {t:TypeId} (hg:w.heap[g]? = some (.cells old t (0,0))) (H:nthOp ops.toList i=some o:=by rfl) (hr:decide (Region.ready md ops listed=[i])=true:=by kernel_rfl)
  (hw:Region.wanted o (yielded ops a.tmps)=true:=by rfl) (Z:o.op=.store I x y:=by rfl) (U:o.dst=none:=by rfl) (hx:a.eval x=.pointer (some ⟨g,0,none⟩):=by rfl) (hy:a.eval y=.agg cells:=by rfl)
  (V:(P.info? I).map (·.size)=some n:=by kernel_rfl) (G:old.size=n:=by rfl) (F:cells.size=n:=by rfl) (J:cells.toList.all (·.oneCell')=true:=by rfl) (Y:decide (Region.ready md ops (listed.setIfInBounds i true)=[])=true:=by kernel_rfl)
  (h:S (w.setRow g cells)/\Q .normal a (w.setRow g cells)):wpAnyH P md ops Q S (fuel+1) listed a w :=
 qgT i H hr fun K O=>by
  rw [if_pos hw];refine wp_store_row I x y Z g cells hx hy t old hg (by rw [F];exact V) (by rw [G,F]) (Array.all_eq_true_iff_forall_mem.2 (fun v hv=>qax.1 J v (by simpa using hv))) ?_;refine O.on S _ _ (fun _ h=>h) h.1 fun _=>?_
  rw [U];exact wpAnyH_done (of_decide_eq_true Y) h.2 _
def AllC (p:Nat->Prop):List Nat->Prop
 | []=>True
 | i :: l=>p i/\AllC p l
theorem AllC.get {p:Nat->Prop}:∀{l:List Nat},AllC p l->∀i∈l,p i
 | i :: _,h,j,hj=>by
  rcases qaz.1 hj with rfl | hj
  ·exact h.1
  ·exact AllC.get h.2 j hj
theorem gr (D:List (Nat×Tmp)) (rl:List (Nat×List Nat)) (T C E:List Nat) (G N:Nat) (F:Nat->Value->World->Prop) (A:(Nat->Value)->Act) (U:Nat) {m:Nat} (hm:a.tmps.size=m:=by rfl) (V:∀v,pf a v D=A v:=by (intro v;simp only [pf,Act.put,qaI,qbi,List.set_cons_succ];with_reducible rfl))
  (O:∀i x,Stays (F i x):=by intro i x;infer_instance)
  (H:(dagB md ops && (decide ((D.map (·.1)).Nodup) && (decide ((D.map (·.2)).Nodup) && (dstB ops D (T++(List.range ops.size).filter fun k=>decide (G<=k)) && ((D.all fun p=>decide (D.lookup p.1=some p.2) && decide (p.2<m)) && (decide (listed.size=ops.size) && (decide (leftN ops.size (fun k=>listed.getD k false)<=fuel) &&
   (growB md ops rl T G && (decide (G<=ops.size) && (decide (leftN ops.size (fun i=>decide (i<G) || T.contains i)=U) && (decide (listed=arr ops.size fun k=>T.contains k) && ((T.all fun k=>((nthOp ops.toList k).map fun o=>(waits md o).all fun j=>T.contains j).getD false) && (decide (arr N (fun i=>decide (i<G) || T.contains i)=arr ops.size fun i=>decide (i<G) || T.contains i) && ((List.range G).all (fun i=>T.contains i || C.contains i) && E.all fun i=>decide (i<G) && !T.contains i))))))))))))))=true:=by kernel_rfl)
  (hS:∀w',Below w.heap.size w w'->S w')
  (hstep:AllC (fun i=>∃o,nthOp ops.toList i=some o/\∀(v:Nat->Value) (w':World),Below w.heap.size w w'->AllC (fun k=>F k (v k) w') (dep rl i)->∀K,Grows F E i w' (A v) o.dst K->if Region.wanted o (yielded ops (A v).tmps)=true then Oper.wp P o (A v) w' K Q else K ((A v).put o.dst undef) w') C)
  (hend:∀(v:Nat->Value) (w':World),Below w.heap.size w w'->(∀i,i<G->i∉T->F i (v i) w')->(∀i∈E,∀j∈E,i≠j->pv (v i)≠pv (v j))->∀f,wpAnyH P md ops Q S (f+U) (arr N fun i=>decide (i<G) || T.contains i) (A v) w'):wpAnyH P md ops Q S fuel listed a w:=by
 refine qkA D rl T C E G F U m (arr N fun i=>decide (i<G) || T.contains i) hm O H hS (fun i hi o Z v w' J I B H K Y=>?_) fun v w' J I hE B H f=>?_
 ·obtain⟨p,hp,h⟩:=hstep.get i hi;rw [hp] at Z;cases Z;rw [V] at H;subst H;refine h v w' J ?_ K Y;generalize dep rl i=l at I;clear h hp Y
  induction l with
  | nil=>exact trivial
  | cons k l ih=>exact⟨I k (qa7 ..),ih fun j hj=>I j (qbn _ hj)⟩
 ·rw [V] at H;subst H;exact hend v w' J I hE f
theorem gC {F:Nat->Value->World->Prop} {E:List Nat} {i:Nat} {K:Act->World->Prop} (J:Grows F E i w a o.dst K) {f:FuncId} {G:Array Value} {R:Ending->World->Prop} (O:Calls P f G w R) (U:Region.wanted o (yielded ops a.tmps)=true:=by rfl) (he:(execOp a.eval o).run P w=.ok (.enter f G) w:=by (go_simp <;> with_reducible rfl))
  (hE:E.contains i=false:=by rfl) (h:∀e w',R e w'->∃v,e=.returned v/\F i v w'/\Below w.heap.size w w'):if Region.wanted o (yielded ops a.tmps)=true then Oper.wp P o a w K Q else K (a.put o.dst undef) w:=by
 rw [if_pos U];exact qm9 he O fun e w' r=>by obtain⟨v,rfl,H,I⟩:=h e w' r;exact⟨v,rfl,J.to _ _ _ rfl H (fun h=>by rw [hE] at h;cases h) I⟩
theorem gW {F:Nat->Value->World->Prop} {E:List Nat} {i:Nat} {K:Act->World->Prop} (G:Grows F E i w a o.dst K) {v:Value} {w':World} (H:Region.wanted o (yielded ops a.tmps)=true:=by rfl) (he:(execOp a.eval o).run P w=.ok (.value v) w':=by (go_simp <;> first | with_reducible rfl | exact⟨rfl,rfl⟩ | rfl))
  (hE:E.contains i=true->w.heap.size<=pv v/\pv v<w'.heap.size:=by exact fun _=>⟨qaf _,by rw [qaa];exact Nat.lt_succ_self _⟩) (h:F i v w'/\Below w.heap.size w w'):if Region.wanted o (yielded ops a.tmps)=true then Oper.wp P o a w K Q else K (a.put o.dst undef) w:=by
 rw [if_pos H];unfold Oper.wp;rw [he,Oper.upon_value];exact G.to _ _ _ rfl h.1 hE h.2
theorem gV {F:Nat->Value->World->Prop} {E:List Nat} {i:Nat} {K:Act->World->Prop} (H:Grows F E i w a o.dst K) {v:Value} (G:F i v w) (I:Region.wanted o (yielded ops a.tmps)=true:=by rfl) (he:(execOp a.eval o).run P w=.ok (.value v) w:=by (go_simp <;> with_reducible rfl)) (hE:E.contains i=false:=by rfl) :
  if Region.wanted o (yielded ops a.tmps)=true then Oper.wp P o a w K Q else K (a.put o.dst undef) w:=by
 rw [if_pos I];exact qna he (H.to _ _ _ rfl G (fun h=>by rw [hE] at h;cases h) qB)
end
theorem nw1 (w:World) (a:Array Value) (t:TypeId):∃W,W=w.alloc (.cells a t)/\Kn (fun W=>Below w.heap.size w W/\W.heap[w.heap.size]? = some (.cells a t (0,0))) W :=
 ⟨_,rfl,.of ⟨qB.alloc qN _,qM _ _ _ rfl⟩⟩
theorem nw2 (w:World) (a:Array Value) (t:TypeId) (b:Array Value) (u:TypeId):∃W,W=(w.alloc (.cells a t)).alloc (.cells b u) /\
  Kn (fun W=>Below w.heap.size w W/\W.heap[w.heap.size]? = some (.cells a t (0,0))/\W.heap[w.heap.size+1]? = some (.cells b u (0,0))) W :=
 ⟨_,rfl,.of ⟨(qB.alloc qN _).alloc (by simp) _,
  (qL _ _ _ (by simp only [qaa];omega)).trans (qM _ _ _ rfl),qM _ _ _ (by simp)⟩⟩
theorem nw3 (w:World) (a:Array Value) (t:TypeId) (b:Array Value) (u:TypeId) (c:Array Value) (v:TypeId):∃W,W=((w.alloc (.cells a t)).alloc (.cells b u)).alloc (.cells c v) /\
  Kn (fun W=>Below w.heap.size w W/\W.heap[w.heap.size]? = some (.cells a t (0,0))/\W.heap[w.heap.size+1]? = some (.cells b u (0,0))/\W.heap[w.heap.size+1+1]? = some (.cells c v (0,0))) W :=
 ⟨_,rfl,.of ⟨((qB.alloc qN _).alloc (by simp) _).alloc (by simp;omega) _,
  (qL _ _ _ (by simp only [qaa];omega)).trans ((qL _ _ _ (by simp only [qaa];omega)).trans (qM _ _ _ rfl)),
  (qL _ _ _ (by simp only [qaa];omega)).trans (qM _ _ _ (by simp)),qM _ _ _ (by simp)⟩⟩
section
variable {P:Program} {ops:Array Oper} {Q:Exit->Act->World->Prop} {md:Region.Mode} {S:World->Prop} {fuel:Nat} {listed:Array Bool} {a a':Act} {w:World} {o:Oper}
theorem hCx (i:Nat) {f:FuncId} {H:Array Value} {R:Ending->World->Prop} (U:Calls P f H w R) (G:nthOp ops.toList i=some o:=by rfl) (V:decide (Region.ready md ops listed=[i])=true:=by kernel_rfl)
  (Y:Region.wanted o (yielded ops a.tmps)=true:=by rfl) (he:(execOp a.eval o).run P w=.ok (.enter f H) w:=by (go_simp <;> with_reducible rfl))
  (h:∀e w',R e w'->(∃v,e=.returned v/\S w'/\wpAnyH P md ops Q S fuel (listed.setIfInBounds i true) (a.put o.dst v) w')\/∃F,e=.panicked F/\Q (.panic F) a w'):wpAnyH P md ops Q S (fuel+1) listed a w :=
 qgT i G V fun K O=>by
  rw [if_pos Y];unfold Oper.wp;rw [he,Oper.upon_enter];refine U.mono fun e w' r=>?_
  rcases h e w' r with ⟨v,rfl,I,J⟩ | ⟨F,rfl,h⟩
  ·exact O.on S _ _ (fun _ h=>h) I fun _=>J
  ·exact h
end
theorem keepB {a b:World} {g:Nat} (h:Below a.heap.size a b):a.grownBy b (some g):=qbX g h
theorem qjR {a b:World} {g:Nat} (h:Below a.drew.heap.size a.drew b):a.grownBy b (some g):=qbX g (qch h)
section
variable {P:Program}
theorem qgJ (w:World) (base:Nat) (t ty e:TypeId) (i:TypeInfo) (z:Value) (size bytes:Nat) (ht:P.underlying t=some (.slice e)) (hi:P.info? e=some i) (hz:i.zero=some z)
  (ag:i.size=size) (av:i.bytes=bytes) (aj:z.cells.size=size) (aB:0<size) (ai:∀x∈z.cells.toList,qcr x)
  (v:Value) (n:Nat) (xs:List Value) (G:Rws w base e size v n xs)
  (a:Addr) (m c:Nat) (F:List Value) (Y:F.length=m*size) (I:∀j u,F[j]? = some u->w.cell? (a.add j)=some u) (h1:∀u∈F,u.oneCell'=true) (af:∀u∈F,qcr u) (az:0<m)
  (Z:n+m<=maxLen) (O:(n+m)*bytes<=140737488355328) (U:base<=w.heap.size) :
  ∃v' w',(Builtin.append_ #[t,t] ty #[v,.slice (some a) m c]).run P w=.ok v' w'/\Rws w' base e size v' (n+m) (xs++F)/\(v'.ownBlock=v.ownBlock/\w.grownBy w' v.ownBlock\/v'.ownBlock=some w.heap.size/\w.grownBy w' none):=by
 subst ag;subst av;have ak:n+m<=9223372036854775807:=by simp only [maxLen] at Z;omega
 have H:(xs++F).length=(n+m)*i.size:=by rw [qae,G.1,Y,qaF]
 rcases G.2 with ⟨rfl,rfl⟩ | ⟨g,cap,cur,rfl,au,hg,aA,ax,ay,htake,aa⟩
 ·have V:xs=[]:=List.eq_nil_of_length_eq_zero (by simpa using G.1);subst V;have hr:=run_append_nil (P:=P) w t ty e i z ht hi hz a m c F Y I az (by omega) (by have hb:=O;simp only [qaM] at hb;omega);have ae:=grownCap_ge w m 0 e;refine⟨_,_,hr,⟨by simpa using H,.inr ⟨w.heap.size,_,_,by rw [qaM],U,heap_alloc_new w.drew _,by rw [qaM];exact ae,grownCap_le_maxLen w m 0 e (by simpa using Z),?_,?_,?_⟩⟩,qak ⟨rfl,rfl,rfl,rfl,by simp,fun k hk _=>qL w.drew _ k hk⟩⟩
  ·simp only [Array.size_append,List.size_toArray,size_zeroCells,aj,Y,<-qaF]
   congr 1;omega
  ·rw [qaM,qbk,<-Y,qbj];exact qbL
  ·intro x V;rw [qbj] at V;rcases qaH.1 V with h | h
   ·exact af x h
   ·exact qfP ai _ x h
 ·by_cases J:n+m<=cap
  ·have ah:n*i.size+F.length<=cur.size:=by rw [Y,ay,<-qaF];exact qaQ _ J
   have hr:=run_append_room (P:=P) w t ty e i ht hi g n cap cur hg a m c F Y I h1 J ah;refine⟨_,_,hr,⟨H,.inr ⟨g,cap,_,rfl,au,qT w g cur _ e _ hg,J,ax,?_,?_,?_⟩⟩,qaw ⟨rfl,rfl,rfl,rfl,by simp,fun k _ hk=>setRow_other w g k _ (fun e=>hk (by simp [Value.ownBlock,e]))⟩⟩
   ·simp only [List.size_toArray,qae,qas,qbr,Array.length_toList];omega
   ·rw [htake,<-H];exact qbL
   ·intro x V;rcases qaH.1 V with h | h
    ·rcases qaH.1 h with h | h
     ·exact aa x (qbg h)
     ·exact af x h
    ·exact aa x (List.mem_of_mem_drop h)
  ·have holds:∀j u,xs[j]? = some u->w.cell? ((⟨g,0,none⟩:Addr).add j)=some u:=G.own.cells (g:=g) rfl;have hr:=run_append_grow (P:=P) w t ty e i z ht hi hz ⟨g,0,none⟩ n cap xs G.1 holds a m c F Y I (by omega) (by omega) (growslice_fits (by omega) O);have ae:=grownCap_ge w (n+m) cap e;refine⟨_,_,hr,⟨H,.inr ⟨w.heap.size,_,_,rfl,U,heap_alloc_new w.drew _,ae,grownCap_le_maxLen w (n+m) cap e Z,?_,?_,?_⟩⟩,qak ⟨rfl,rfl,rfl,rfl,by simp,fun k hk _=>qL w.drew _ k hk⟩⟩
   ·simp only [Array.size_append,List.size_toArray,size_zeroCells,aj,G.1,Y,<-qaF]
    congr 1;omega
   ·simp only [qbj,qaB];rw [<-qaB,<-H];exact qbL
   ·intro x V;rw [qbj,qbj] at V;rcases qaH.1 V with h | h
    ·rcases qaH.1 h with h | h
     ·rw [<-htake] at h;exact aa x (qbg (by simpa using h))
     ·exact af x h
    ·exact qfP ai _ x h
end
theorem frac_not:∀y∈(Value.agg #[.string ⟨#[]⟩,.string ⟨#[]⟩]).cells.toList,qcr y:=by
 intro y F;rcases qaz.1 (show y∈[Value.string ⟨#[]⟩,Value.string ⟨#[]⟩] from F) with rfl | F
 ·exact qdD _
 ·rw [qao.1 F];exact qdD _
theorem qlv (l:List FT):∀u∈fflat l,qcr u:=fun u G=>by
 unfold fflat at G;obtain⟨x,_,F⟩:=List.mem_flatMap.1 G;rcases qaz.1 F with rfl | F
 ·exact qdD _
 ·rw [qao.1 F];exact qdD _
theorem qgs {w:World} {B:Nat} {v:Value} {n m c b H:Nat} {l l2:List FT} {V:Option Addr} (Z:TypeId) (G:Rws w B 27 2 v n (fflat l)) (hB:B<=w.heap.size) (Y:FCells w V b H l2) (hm:l2.length=m) (I:0<m) (hn:n+m<=1000000) :
  ∃F w',(Builtin.append_ #[22,22] Z #[v,.slice V m c]).run prog w=.ok F w'/\Rws w' B 27 2 F (n+m) (fflat (l++l2))/\(F.ownBlock=v.ownBlock/\w.grownBy w' v.ownBlock\/F.ownBlock=some w.heap.size/\w.grownBy w' none):=by
 obtain⟨i0,hi,J,O,U⟩:=info_parts infoF;have ha:=Y.addr (by omega);subst ha;obtain⟨F,w',hr,h2,h3⟩:=qgJ (P:=prog) w B 22 Z 27 i0 _ 2 32 underlying22 hi J O U rfl (by decide) frac_not v n (fflat l) G ⟨b,H,none⟩ m c (fflat l2) (by rw [qcg,hm]) Y.src (qh4 _) (qlv _) I (by unfold maxLen;omega) (by omega) hB;exact⟨F,w',hr,by rw [qdE];exact h2,h3⟩
theorem fc_row {W:World} {g:Nat} {x1 x2:ByteArray} (hg:W.heap[g]? = some (.cells #[.string x1,.string x2] 27 (0,0))):FCells W (some ⟨g,0,none⟩) g 0 [(x1,x2)] :=
 ⟨fun _=>rfl,fun k F=>by
  obtain rfl:k=0:=by simp at F;omega
  exact⟨qC _ _ 0 _ _ _ hg,qC _ _ 1 _ _ _ hg⟩⟩
theorem qmG {W:World} {B g:Nat} {x1 x2:ByteArray} (hg:W.heap[g]? = some (.cells #[.string x1,.string x2] 27 (0,0))) (G:B<=g):Rws W B 27 2 (.slice (some ⟨g,0,none⟩) 1 1) 1 (fflat [(x1,x2)]) :=
 ⟨rfl,qak ⟨g,1,_,rfl,G,hg,qaf _,by decide,rfl,rfl,fun x F=>by
  rcases qaz.1 (show x∈[Value.string x1,Value.string x2] from F) with rfl | F
  ·exact qdD _
  ·rw [qao.1 F];exact qdD _⟩⟩
theorem qdr {P:Program} {F:Array Oper} {rest:List Oper} {o:Oper} {a:Act} {w w':World} {Q:Exit->Act->World->Prop} (G:o.guard=none) (s x:Operand) (t:TypeId) (J:o.op=.call { callee:=.builtin .append,args:=#[s,x],argTypes:=#[t,t] }) {v u H:Value} (U:a.eval s=v) (V:a.eval x=u)
  (O:(Builtin.append_ #[t,t] o.type #[v,u]).run P w=.ok H w') (h:wpList P F Q rest (a.put o.dst H) w'):wpList P F Q (o :: rest) a w :=
 wpList_plain G fun _K I=>qna (qmF J rfl U V O) (I _ _ h)
structure NCells (W:World) (ao:Option Addr) (b off:Nat) (l:List Int):Prop where
 addr:0<l.length->ao=some ⟨b,off,none⟩
 cell:∀k,k<l.length->W.cell? ⟨b,off+k,none⟩=some (.int .i64 (l.getD k 0))
theorem NCells.below {W W':World} {G:Option Addr} {b F:Nat} {l:List Int} (h:NCells W G b F l) (I:Below W.heap.size W W'):NCells W' G b F l :=
 ⟨h.addr,fun k H=>(I.cell (qac W _ (h.cell k H))).trans (h.cell k H)⟩
structure Pt where
 name:ByteArray
 dev:List Int
 l0:Int
 l1:Int
 l2:Int
def Pt.lab (p:Pt) (c:Nat):Int:=if c=0 then p.l0 else if c=1 then p.l1 else p.l2
def pt0:Pt:=⟨⟨#[]⟩,[],0,0,0⟩
structure PCells (W:World) (ao:Option Addr) (b off:Nat) (l:List Pt):Prop where
 addr:0<l.length->ao=some ⟨b,off,none⟩
 cell:∀k,k<l.length->W.cell? ⟨b,off+k*5,none⟩=some (.string (l.getD k pt0).name) /\
  (∃(ra:Option Addr) (rb ro rc:Nat),W.cell? ⟨b,off+k*5+1,none⟩=some (.slice ra (l.getD k pt0).dev.length rc)/\NCells W ra rb ro (l.getD k pt0).dev) /\
  W.cell? ⟨b,off+k*5+2,none⟩=some (.int .i64 (l.getD k pt0).l0)/\W.cell? ⟨b,off+k*5+3,none⟩=some (.int .i64 (l.getD k pt0).l1)/\W.cell? ⟨b,off+k*5+4,none⟩=some (.int .i64 (l.getD k pt0).l2)
theorem PCells.below {W W':World} {H:Option Addr} {b G:Nat} {l:List Pt} (h:PCells W H b G l) (F:Below W.heap.size W W'):PCells W' H b G l :=
 ⟨h.addr,fun k Z=>by
  obtain⟨I,⟨ra,rb,ro,rc,J,Y⟩,O,U,V⟩:=h.cell k Z;exact⟨(F.cell (qac W _ I)).trans I,⟨ra,rb,ro,rc,(F.cell (qac W _ J)).trans J,Y.below F⟩,
   (F.cell (qac W _ O)).trans O,(F.cell (qac W _ U)).trans U,(F.cell (qac W _ V)).trans V⟩⟩
def qda (c:UInt8):Bool:=decide (65<=c.toNat/\c.toNat<=90) || decide (97<=c.toNat/\c.toNat<=122) || decide (48<=c.toNat/\c.toNat<=57) || decide (c.toNat=45) || decide (c.toNat=95)
def qgN (s:ByteArray):Prop:=1<=s.size/\s.size<=12/\∀k (h:k<s.size),qda s[k]=true
def qeA (d:List Int):Prop:=∀k,k<d.length->0<=d.getD k 0/\d.getD k 0<=10000
structure PtOk (p:Pt):Prop where
 name:qgN p.name
 n1:1<=p.dev.length
 n4:p.dev.length<=4
 vals:qeA p.dev
 l0:0<=p.l0/\p.l0<=10000
 l1:-12800<=p.l1/\p.l1<=12700
 l2:-12800<=p.l2/\p.l2<=12700
def chans (l:List Pt):Nat:=(l.getD 0 pt0).dev.length
structure PtsOk (l:List Pt):Prop where
 r1:1<=l.length
 r2:l.length<=40
 rows:∀k,k<l.length->PtOk (l.getD k pt0)/\(l.getD k pt0).dev.length=chans l
 apart:∀i k,k<i->i<l.length->(l.getD k pt0).name≠(l.getD i pt0).name
theorem PtsOk.n1 {l:List Pt} (h:PtsOk l):1<=chans l:=(h.rows 0 h.r1).1.n1
theorem PtsOk.n4 {l:List Pt} (h:PtsOk l):chans l<=4:=(h.rows 0 h.r1).1.n4
def many (kind n:Nat):Nat:=if kind=1 then 1+n else if kind=2 then 1+2*n else 2 ^ n
def dq (d:List Int) (k:Nat):Rat:=(d.getD k 0:Rat) / 10000
def prods (d:List Int):Nat->List Rat
 | 0=>[1]
 | n+1=>prods d n++(prods d n).map fun p=>p*dq d n
def termL (kind:Nat) (d:List Int):List Rat :=
 if kind=1 then 1 :: (List.range d.length).map (dq d) else if kind=2 then 1 :: (List.range d.length).map (dq d)++(List.range d.length).map (fun k=>dq d k*dq d k) else prods d d.length
def termQ (kind:Nat) (d:List Int) (j:Nat):Rat:=(termL kind d).getD j 0
theorem qej (d:List Int):∀n,(prods d n).length=2 ^ n
 | 0=>rfl
 | n+1=>by
  show (prods d n++_).length=_
  rw [qae,qay,qej d n,qaR];omega
theorem qgB (kind:Nat) (d:List Int):(termL kind d).length=many kind d.length:=by
 unfold termL many;split
 ·simp;omega
 ·split
  ·simp;omega
  ·exact qej d _
section
variable {P:Program}
theorem qek (w:World) (base:Nat) (t ty e:TypeId) (i:TypeInfo) (z:Value) (size bytes:Nat) (ht:P.underlying t=some (.slice e)) (hi:P.info? e=some i) (hz:i.zero=some z)
  (aa:i.size=size) (ai:i.bytes=bytes) (af:z.cells.size=size) (ax:0<size)
  (v:Value) (n:Nat) (xs:List Value) (G:w.ownsRow base e size v n xs)
  (a:Addr) (m c:Nat) (F:List Value) (V:F.length=m*size) (I:∀j u,F[j]? = some u->w.cell? (a.add j)=some u) (h1:∀u∈F,u.oneCell'=true) (au:0<m)
  (Y:n+m<=maxLen) (O:(n+m)*bytes<=140737488355328) (U:base<=w.heap.size) :
  ∃v' w',(Builtin.append_ #[t,t] ty #[v,.slice (some a) m c]).run P w=.ok v' w'/\w'.ownsRow base e size v' (n+m) (xs++F)/\(v'.ownBlock=v.ownBlock/\w.grownBy w' v.ownBlock\/v'.ownBlock=some w.heap.size/\w.grownBy w' none):=by
 subst aa;subst ai;have ag:n+m<=9223372036854775807:=by simp only [maxLen] at Y;omega
 have H:(xs++F).length=(n+m)*i.size:=by rw [qae,G.1,V,qaF]
 rcases G.2 with ⟨rfl,rfl⟩ | ⟨g,cap,cur,rfl,ah,hg,av,aj,ak,htake⟩
 ·have hx:xs=[]:=List.eq_nil_of_length_eq_zero (by simpa using G.1);subst hx;have hr:=run_append_nil (P:=P) w t ty e i z ht hi hz a m c F V I au (by omega) (by have hb:=O;simp only [qaM] at hb;omega);have Z:=grownCap_ge w m 0 e;refine⟨_,_,hr,⟨by simpa using H,.inr ⟨w.heap.size,_,_,by rw [qaM],U,heap_alloc_new w.drew _,by rw [qaM];exact Z,grownCap_le_maxLen w m 0 e (by simpa using Y),?_,?_⟩⟩,qak ⟨rfl,rfl,rfl,rfl,by simp,fun k hk _=>qL w.drew _ k hk⟩⟩
  ·simp only [Array.size_append,List.size_toArray,size_zeroCells,af,V,<-qaF]
   congr 1;omega
  ·rw [qaM,qbk,<-V,qbj];exact qbL
 ·by_cases J:n+m<=cap
  ·have ae:n*i.size+F.length<=cur.size:=by rw [V,ak,<-qaF];exact qaQ _ J
   have hr:=run_append_room (P:=P) w t ty e i ht hi g n cap cur hg a m c F V I h1 J ae;refine⟨_,_,hr,⟨H,.inr ⟨g,cap,_,rfl,ah,qT w g cur _ e _ hg,J,aj,?_,?_⟩⟩,qaw ⟨rfl,rfl,rfl,rfl,by simp,fun k _ hk=>setRow_other w g k _ (fun e=>hk (by simp [Value.ownBlock,e]))⟩⟩
   ·simp only [List.size_toArray,qae,qas,qbr,Array.length_toList];omega
   ·rw [htake,<-H];exact qbL
  ·have holds:∀j u,xs[j]? = some u->w.cell? ((⟨g,0,none⟩:Addr).add j)=some u:=G.cells (g:=g) rfl;have hr:=run_append_grow (P:=P) w t ty e i z ht hi hz ⟨g,0,none⟩ n cap xs G.1 holds a m c F V I (by omega) (by omega) (growslice_fits (by omega) O);have Z:=grownCap_ge w (n+m) cap e;refine⟨_,_,hr,⟨H,.inr ⟨w.heap.size,_,_,rfl,U,heap_alloc_new w.drew _,Z,grownCap_le_maxLen w (n+m) cap e Y,?_,?_⟩⟩,qak ⟨rfl,rfl,rfl,rfl,by simp,fun k hk _=>qL w.drew _ k hk⟩⟩
   ·simp only [Array.size_append,List.size_toArray,size_zeroCells,af,G.1,V,<-qaF]
    congr 1;omega
   ·simp only [qbj,qaB];rw [<-qaB,<-H];exact qbL
end
def IOwn (W:World) (B:Nat) (v:Value) (l:List Int):Prop:=W.ownsRow B 3 1 v l.length (l.map fun z=>.int .i64 z)
theorem infoI8:(Tryz.prog.info? 3).map (fun i=>(i.zero,i.size,i.bytes))=some (some (.int .i64 0),1,8):=by kernel_rfl
theorem qjN (l:List Int):∀u∈l.map (fun z=>Value.int .i64 z),u.oneCell'=true:=fun u F=>by
 obtain⟨z,_,rfl⟩:=qbo.1 F;rfl
theorem run_ints {w:World} {B:Nat} {v:Value} {l l2:List Int} {m c b F:Nat} (ty:TypeId) (H:IOwn w B v l) (hB:B<=w.heap.size) (hF:NCells w (some ⟨b,F,none⟩) b F l2) (hm:l2.length=m) (J:0<m) (hn:l.length+m<=1000000) :
  ∃G w',(Builtin.append_ #[30,30] ty #[v,.slice (some ⟨b,F,none⟩) m c]).run prog w=.ok G w'/\IOwn w' B G (l++l2)/\(G.ownBlock=v.ownBlock/\w.grownBy w' v.ownBlock\/G.ownBlock=some w.heap.size/\w.grownBy w' none):=by
 obtain⟨i0,hi,O,U,V⟩:=info_parts infoI8;subst hm;obtain⟨G,w',hr,h2,h3⟩:=qek (P:=prog) w B 30 ty 3 i0 _ 1 8 underlying30 hi O U V rfl (by decide) v l.length _ H ⟨b,F,none⟩ l2.length c (l2.map fun z=>.int .i64 z) (by simp) (fun j u Y=>by
   rw [qaL] at Y;obtain⟨z,Z,rfl⟩:=Option.map_eq_some_iff.1 Y;have I:=(List.getElem?_eq_some_iff.1 Z).1;have:=hF.cell j I;rw [qab,Z] at this;rw [Addr.add_mid];exact this) (qjN _) J (by unfold maxLen;omega) (by omega) hB
 exact⟨G,w',hr,by unfold IOwn;rw [qae,qbc];exact h2,h3⟩
theorem qj4 {w w':World} {O:Nat} {U:TypeId} {Z Y:Nat} {v J x:Value} {F:List Value} (I:w.ownsRow O U Z x Y F) (hne:x.ownBlock=none\/x.ownBlock≠v.ownBlock) (h:J.ownBlock=v.ownBlock/\w.grownBy w' v.ownBlock\/J.ownBlock=some w.heap.size/\w.grownBy w' none) :
  w'.ownsRow O U Z x Y F/\(x.ownBlock=none\/x.ownBlock≠J.ownBlock):=by
 rcases h with ⟨G,H⟩ | ⟨G,H⟩
 ·exact⟨I.kept H hne,by rw [G];exact hne⟩
 ·refine⟨I.kept H ?_,?_⟩
  ·rcases hne with h | h
   ·exact qaw h
   ·cases e:x.ownBlock with
    | none=>exact qaw rfl
    | some k=>exact qak (by simp)
  ·cases e:x.ownBlock with
   | none=>exact qaw rfl
   | some k =>
    refine qak fun V=>?_
    rw [G] at V;have:=(I.lt k e).2;have:=qag V;omega
theorem own_below {w w':World} {B:Nat} {e:TypeId} {s n:Nat} {x:Value} {H:List Value} (G:w.ownsRow B e s x n H) (O:Below w.heap.size w w'):w'.ownsRow B e s x n H:=by
 refine⟨G.1,?_⟩;rcases G.2 with h | ⟨g,cap,cur,rfl,I,F,J⟩
 ·exact qaw h
 ·exact qak ⟨g,cap,cur,rfl,I,(O.block g (qG F).1).trans F,J⟩
theorem IOwn.below {W w':World} {B:Nat} {v:Value} {l:List Int} (h:IOwn W B v l) (F:Below W.heap.size W w'):IOwn w' B v l:=own_below h F
theorem qiv {w:World} {B:Nat} {e:TypeId} {s n:Nat} {x:Value} {H:List Value} (G:w.ownsRow B e s x n H):∃(F:Option Addr) (cap:Nat),x=.slice F n cap:=by
 rcases G.2 with ⟨rfl,rfl⟩ | ⟨g,cap,cur,rfl,_⟩
 ·exact⟨none,0,rfl⟩
 ·exact⟨_,_,rfl⟩
theorem qfr {w:World} {B g:Nat} {e:TypeId} {cs:Array Value} {n:Nat} (hg:w.heap[g]? = some (.cells cs e (0,0))) (F:B<=g) (H:cs.size=n) (G:n<=maxLen):w.ownsRow B e 1 (.slice (some ⟨g,0,none⟩) n n) n cs.toList:=by
 subst H;refine⟨by simp,qak ⟨g,_,cs,rfl,F,hg,qaf _,G,by omega,?_⟩⟩;rw [qbI,qal (by simp)]
theorem IOwn.cells {W:World} {B:Nat} {v:Value} {l:List Int} (h:IOwn W B v l) (H:0<l.length):∃g c,v=.slice (some ⟨g,0,none⟩) l.length c/\NCells W (some ⟨g,0,none⟩) g 0 l:=by
 have F:=h;rcases h.2 with ⟨_,h⟩ | ⟨g,cap,cur,rfl,_,_,_⟩
 ·omega
 ·refine⟨g,cap,rfl,fun _=>rfl,fun k G=>?_⟩;have:=World.ownsRow.cells F (g:=g) rfl k (.int .i64 (l.getD k 0)) (by rw [qaL,qab,qad G];rfl)
  rwa [Addr.add_mid] at this
theorem IOwn.set {W:World} {B:Nat} {G:Option Addr} {n c:Nat} {l:List Int} (h:IOwn W B (.slice G n c) l) {i:Nat} (U:i<l.length) (z:Int):∃g,G=some ⟨g,0,none⟩/\B<=g/\(W.cell? ⟨g,i,none⟩=some (.int .i64 (l.getD i 0))/\W.frozen? ⟨g,i,none⟩=false)/\IOwn (W.setCell ⟨g,i,none⟩ (.int .i64 z)) B (.slice G n c) (l.set i z):=by
 have F:=h;rcases h.2 with ⟨_,Z⟩ | ⟨g,cap,cur,e,J,hg,Y,V,H,I⟩
 ·omega
 ·injection e with e1 e2 e3;subst e1 e3;have O:=World.ownsRow.cells (g:=g) F rfl i (.int .i64 (l.getD i 0)) (by rw [qaL,qad U,qab,qad U];rfl);rw [Addr.add_mid,qaM] at O;refine⟨g,rfl,J,⟨O,qF _ _ _ _ _ hg⟩,by simp,.inr ⟨g,c,_,by rw [qbb,e2],J,heap_setCell_same _ g i _ _ (.int .i64 z) hg,by rw [qbb];exact Y,V,by rw [Array.size_setIfInBounds];exact H,?_⟩⟩;rw [qbb,Array.toList_setIfInBounds,List.take_set,I,List.map_set]
theorem qjO {W:World} {g:Nat} {q:List Int} {t:TypeId} (h:W.heap[g]? = some (.cells (q.map fun z=>Value.int .i64 z).toArray t (0,0))) (F:Nat):NCells W (some ⟨g,F,none⟩) g F (q.drop F) :=
 ⟨fun _=>rfl,fun k G=>by
  rw [qbr] at G;refine (qC _ _ _ _ _ _ h).trans ?_;rw [qaA,qaL,qab,List.getElem?_drop,qad (by omega)];rfl⟩
theorem qhC (n:Nat) (J:n<=1000) (w:World):(Instr.makeSlice 30 (.int .i64 (n:Int)) (.int .i64 (n:Int))).run prog w=.ok (.slice (some ⟨w.heap.size,0,none⟩) n n) (w.alloc (.cells (madeCells #[.int .i64 0] n) 3)):=by
 obtain⟨i,I,F,G,H⟩:=info_parts infoI8;have h:=run_make (P:=prog) w 30 3 i _ underlying30 I F .i64 .i64 (n:Int) (n:Int) (by omega) (Int.le_refl _) (by rw [H];omega) (by omega);rw [G,Int.toNat_natCast,qbI] at h;exact h
theorem qgD {W:World} {g B n:Nat} (hg:W.heap[g]? = some (.cells (madeCells #[.int .i64 0] n) 3 (0,0))) (F:B<=g) (H:n<=1000):IOwn W B (.slice (some ⟨g,0,none⟩) n n) (List.replicate n 0):=by
 have e:(madeCells #[.int .i64 0] n).toList=(List.replicate n 0).map fun z=>Value.int .i64 z:=by
  rw [List.map_replicate,<-toList_madeCells_one]
 have G:(List.replicate n (0:Int)).length=n:=qa5;unfold IOwn;rw [G];refine⟨by simp,.inr ⟨g,n,_,rfl,F,hg,qaf _,by unfold maxLen;omega,by rw [<-Array.length_toList,e];simp,?_⟩⟩;rw [e,qbI];exact qal (by simp)
theorem own_ne {w:World} {B I:Nat} {e G:TypeId} {s Y n V:Nat} {x y:Value} {Z ys:List Value} (O:w.ownsRow B e s x n Z) (U:w.ownsRow I G Y y V ys) (he:e≠G):x.ownBlock=none\/x.ownBlock≠y.ownBlock:=by
 rcases O.2 with ⟨rfl,_⟩ | ⟨g,cap,cur,rfl,_,J,_⟩
 ·exact qaw rfl
 ·refine qak fun H=>?_
  rcases U.2 with ⟨rfl,_⟩ | ⟨g',cap',cur',rfl,_,F,_⟩
  ·cases H
  ·have:g=g':=qag H;subst this;have:=J.symm.trans F;simp at this;exact he this.2
