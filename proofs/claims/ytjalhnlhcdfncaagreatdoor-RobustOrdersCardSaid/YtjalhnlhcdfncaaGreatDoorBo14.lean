import Derived.Maps.AppendAt
import Derived.Test.YtjalhnlhcdfncaaGreatDoorBo13
set_option maxRecDepth 100000
set_option maxHeartbeats 0
namespace Go.Proofs.YtjalhnlhcdfncaaGreatDoor
open Go.RowKit
def qcM (x:Value):Prop:=∀k d,x≠.int k d
def Rws (w:World) (base:Nat) (e:TypeId) (size:Nat) (v:Value) (n:Nat) (E:List Value):Prop :=
  E.length=n*size /\
  ((v=.slice none 0 0/\n=0) \/
   ∃g cap cur,v=.slice (some ⟨g,0,none⟩) n cap/\base<=g/\w.heap[g]? = some (.cells cur e (0,0))/\n<=cap/\cap<=maxLen/\cur.size=cap*size/\cur.toList.take (n*size)=E/\∀x∈cur.toList,qcM x)
section
variable {w:World} {base:Nat} {e:TypeId} {size:Nat} {v:Value} {n:Nat} {xs:List Value}
theorem Rws.own (h:Rws w base e size v n xs):w.ownsRow base e size v n xs:=by
 refine⟨h.1,?_⟩;rcases h.2 with h | ⟨g,cap,cur,E,F,H,I,J,O,U,_⟩
 ·exact qaw h
 ·exact qam ⟨g,cap,cur,E,F,H,I,J,O,U⟩
theorem Rws.nil (w:World) (base:Nat) (e:TypeId) (E:Nat):Rws w base e E (.slice none 0 0) 0 []:=⟨by simp,.inl ⟨rfl,rfl⟩⟩
theorem Rws.kept {w':World} {row:Option Nat} (h:Rws w base e size v n xs) (hg:w.grownBy w' row) (hne:v.ownBlock=none\/v.ownBlock≠row):Rws w' base e size v n xs:=by
 refine⟨h.1,?_⟩;rcases h.2 with h | ⟨g,cap,cur,rfl,F,E,H⟩
 ·exact qaw h
 ·refine qam ⟨g,cap,cur,rfl,F,(hg.block g (qG E).1 ?_).trans E,H⟩;rcases hne with hne | hne
  ·cases hne
  ·exact hne
theorem Rws.below {w':World} (h:Rws w base e size v n xs) (I:Below w.heap.size w w'):Rws w' base e size v n xs:=by
 refine⟨h.1,?_⟩;rcases h.2 with h | ⟨g,cap,cur,rfl,F,E,H⟩
 ·exact qaw h
 ·exact qam ⟨g,cap,cur,rfl,F,(I.block g (qG E).1).trans E,H⟩
theorem Rws.lt (h:Rws w base e size v n xs):∀k,v.ownBlock=some k->base<=k/\k<w.heap.size:=h.own.lt
theorem Rws.shape (h:Rws w base e size v n xs):∃(E:Option Addr) (cap:Nat),v=.slice E n cap:=by
 rcases h.2 with ⟨rfl,rfl⟩ | ⟨g,cap,cur,rfl,_⟩
 ·exact⟨none,0,rfl⟩
 ·exact⟨_,_,rfl⟩
theorem Rws.ne {E:Nat} {J:TypeId} {F:Nat} {U:Value} {Z:Nat} {I:List Value} (h:Rws w base e size v n xs) (V:Rws w E J F U Z I) (he:e≠J):v.ownBlock=none\/v.ownBlock≠U.ownBlock:=by
 rcases h.2 with ⟨rfl,_⟩ | ⟨g,cap,cur,rfl,_,Y,_⟩
 ·exact qaw rfl
 ·refine qam fun O=>?_
  rcases V.2 with ⟨rfl,_⟩ | ⟨g',cap',cur',rfl,_,H,_⟩
  ·cases O
  ·have:g=g':=qag O;subst this;have:=Y.symm.trans H;simp at this;exact he this.2
end
theorem Rws.vcells {w:World} {base:Nat} {e:TypeId} {v:Value} {n:Nat} {H:List Value} (h:Rws w base e 1 v n H):∃(I:Option Addr) (g cap:Nat),v=.slice I n cap/\VCells w I g 0 H/\n<=cap:=by
 have U:=h.1;rw [qbV] at U;have E:=h.own;rcases h.2 with ⟨rfl,rfl⟩ | ⟨g,cap,cur,rfl,_,_,O,_⟩
 ·exact⟨none,0,0,rfl,⟨fun J=>absurd J (by omega),fun k F=>absurd F (by omega)⟩,qad _⟩
 ·refine⟨some ⟨g,0,none⟩,g,cap,rfl,⟨fun _=>rfl,fun k F=>?_⟩,O⟩;have:=E.cells (g:=g) rfl k (H.getD k undef) (by rw [qaa,qac F];rfl)
  rwa [Addr.add_mid] at this
theorem qe8 {w w':World} (h:w.grownBy w' none):Below w.heap.size w w':=⟨h.os,h.tape,h.output,h.size,fun i E=>h.block i E (fun e=>by cases e)⟩
section
variable {w w':World} {base:Nat} {e:TypeId} {size:Nat} {v:Value} {n:Nat} {xs:List Value}
theorem qoj {cur:Array Value} (h:∀x∈cur.toList,qcM x):∀x∈cur.toList,∀d,x≠.int .u32 d:=fun x hx d=>h x hx .u32 d
theorem Rws.old (h:Rws w base e size v n xs) (hg:w.grownBy w' v.ownBlock) {a:World} {B:Nat} (H:Below B a w) (hB:B<=base) (E:B<=w.heap.size):Below B a w' :=
 H.trans ⟨hg.os,hg.tape,hg.output,hg.size,fun i I=>hg.block i (qai I E) (fun F=>by
  have:=(h.lt i F.symm).1;omega)⟩
end
section
variable {P:Program}
theorem qg2 {z:Value} (I:∀x∈z.cells.toList,qcM x) (n:Nat):∀x∈(Builtin.zeroCells z.cells n).toList,qcM x:=by
 intro x hx;obtain⟨i,H,he⟩:=List.getElem_of_mem hx;have E:0<z.cells.size:=by
  rcases qaN z.cells.size with h | h
  ·have:=size_zeroCells z.cells n;rw [h,Nat.mul_zero] at this;rw [qa9] at H;omega
  ·exact h
 have F:x=z.cells[i % z.cells.size]!:=by
  rw [<-he];simp [Builtin.zeroCells]
 rw [F,getElem!_pos z.cells _ (qbS _ E)];exact I _ (by simp)
theorem qdL (w:World) (base:Nat) (t ty e:TypeId) (i:TypeInfo) (z:Value) (size bytes:Nat) (ht:P.underlying t=some (.slice e)) (hi:P.info? e=some i) (hz:i.zero=some z)
  (af:i.size=size) (au:i.bytes=bytes) (ai:z.cells.size=size) (aA:0<size) (ah:∀x∈z.cells.toList,qcM x)
  (v:Value) (n:Nat) (xs:List Value) (F:Rws w base e size v n xs)
  (a:Addr) (m c:Nat) (E:List Value) (V:E.length=m*size) (I:∀j u,E[j]? = some u->w.cell? (a.add j)=some u) (h1:∀u∈E,u.oneCell'=true) (ae:∀u∈E,qcM u) (ay:0<m)
  (Y:n+m<=maxLen) (O:(n+m)*bytes<=140737488355328) (U:base<=w.heap.size) :
  ∃v' w',(Builtin.append_ #[t,t] ty #[v,.slice (some a) m c]).run P w=.ok v' w'/\Rws w' base e size v' (n+m) (xs++E)/\w.grownBy w' v.ownBlock/\(v'.ownBlock=v.ownBlock\/v'.ownBlock=some w.heap.size):=by
 subst af;subst au;have aj:n+m<=9223372036854775807:=by simp only [maxLen] at Y;omega
 have H:(xs++E).length=(n+m)*i.size:=by rw [qaf,F.1,V,qaI]
 rcases F.2 with ⟨rfl,rfl⟩ | ⟨g,cap,cur,rfl,ak,hg,az,av,ax,htake,Z⟩
 ·have hx:xs=[]:=List.eq_nil_of_length_eq_zero (by simpa using F.1);subst hx;have hr:=run_append_nil (P:=P) w t ty e i z ht hi hz a m c E V I ay (by omega) (by have hb:=O;simp only [qaT] at hb;omega);have aa:=grownCap_ge w m 0 e;refine⟨_,_,hr,⟨by simpa using H,.inr ⟨w.heap.size,_,_,by rw [qaT],U,heap_alloc_new w.drew _,by rw [qaT];exact aa,grownCap_le_maxLen w m 0 e (by simpa using Y),?_,?_,?_⟩⟩,⟨rfl,rfl,rfl,by simp,fun k hk _=>qL w.drew _ k hk⟩,qam rfl⟩
  ·simp only [Array.size_append,qbX,size_zeroCells,ai,V,<-qaI]
   congr 1;omega
  ·rw [qaT,qbp,<-V,qbr];exact qb2
  ·intro x hx;rw [qbr] at hx;rcases qaL.1 hx with h | h
   ·exact ae x h
   ·exact qg2 ah _ x h
 ·by_cases J:n+m<=cap
  ·have ag:n*i.size+E.length<=cur.size:=by rw [V,ax,<-qaI];exact qaW _ J
   have hr:=run_append_room (P:=P) w t ty e i ht hi g n cap cur hg a m c E V I h1 J ag;refine⟨_,_,hr,⟨H,.inr ⟨g,cap,_,rfl,ak,qT w g cur _ e _ hg,J,av,?_,?_,?_⟩⟩,⟨rfl,rfl,rfl,by simp,fun k _ hk=>setRow_other w g k _ (fun e=>hk (by simp [Value.ownBlock,e]))⟩,qaw rfl⟩
   ·simp only [qbX,qaf,qao,qaY,qa9];omega
   ·rw [htake,<-H];exact qb2
   ·intro x hx;rcases qaL.1 hx with h | h
    ·rcases qaL.1 h with h | h
     ·exact Z x (qbd h)
     ·exact ae x h
    ·exact Z x (List.mem_of_mem_drop h)
  ·have holds:∀j u,xs[j]? = some u->w.cell? ((⟨g,0,none⟩:Addr).add j)=some u:=F.own.cells (g:=g) rfl;have hr:=run_append_grow (P:=P) w t ty e i z ht hi hz ⟨g,0,none⟩ n cap xs F.1 holds a m c E V I (by omega) (by omega) (growslice_fits (by omega) O);have aa:=grownCap_ge w (n+m) cap e;refine⟨_,_,hr,⟨H,.inr ⟨w.heap.size,_,_,rfl,U,heap_alloc_new w.drew _,aa,grownCap_le_maxLen w (n+m) cap e Y,?_,?_,?_⟩⟩,⟨rfl,rfl,rfl,by simp,fun k hk _=>qL w.drew _ k hk⟩,qam rfl⟩
   ·simp only [Array.size_append,qbX,size_zeroCells,ai,F.1,V,<-qaI]
    congr 1;omega
   ·simp only [qbr,qaG];rw [<-qaG,<-H];exact qb2
   ·intro x hx;rw [qbr,qbr] at hx;rcases qaL.1 hx with h | h
    ·rcases qaL.1 h with h | h
     ·rw [<-htake] at h;exact Z x (qbd (by simpa using h))
     ·exact ae x h
    ·exact qg2 ah _ x h
theorem qi1 {w:World} {o:Oper} {a:Act} {K:Act->World->Prop} {Q:Exit->Act->World->Prop} (s x:Operand) (t:TypeId)
  (ho:o.op=.call { callee:=.builtin .append,args:=#[s,x],argTypes:=#[t,t] })
  (base:Nat) (e:TypeId) (i:TypeInfo) (z:Value) (size bytes:Nat) (ht:P.underlying t=some (.slice e)) (hi:P.info? e=some i) (hz:i.zero=some z)
  (J:i.size=size) (Z:i.bytes=bytes) (ah:z.cells.size=size) (af:0<size) (ag:∀x∈z.cells.toList,qcM x)
  (v:Value) (n:Nat) (xs:List Value) (hs:a.eval s=v) (U:Rws w base e size v n xs)
  (V:Addr) (m c:Nat) (E:List Value) (hx:a.eval x=.slice (some V) m c) (hl:E.length=m*size) (I:∀j u,E[j]? = some u->w.cell? (V.add j)=some u) (h1:∀u∈E,u.oneCell'=true) (ae:∀u∈E,qcM u) (aa:0<m)
  (Y:n+m<=maxLen) (F:(n+m)*bytes<=140737488355328) (H:base<=w.heap.size)
  (h:∀O w',Rws w' base e size O (n+m) (xs++E)->w.grownBy w' v.ownBlock->(O.ownBlock=v.ownBlock\/O.ownBlock=some w.heap.size)->K (a.put o.dst O) w') :
  Oper.wp P o a w K Q:=by
 obtain⟨O,w',hr,h2,h3,h4⟩:=qdL (P:=P) w base t o.type e i z size bytes ht hi hz J Z ah af ag v n xs U V m c E hl I h1 ae aa Y F H;unfold Oper.wp execOp;simp only [ho,resolve,invoke,builtin,Sem.run_bind,Sem.run_pure,Result.andThen_ok,List.map_toArray,List.map_cons,List.map_nil,hs,hx,hr];exact h O w' h2 h3 h4
theorem qhM {w:World} {V:Array Oper} {o:Oper} {a:Act} {K:Act->World->Prop} {Q:Exit->Act->World->Prop} {E:Prop} (af:o.guard=none) (s x:Operand) (t:TypeId)
  (ho:o.op=.call { callee:=.builtin .append,args:=#[s,x],argTypes:=#[t,t] })
  (base:Nat) (e:TypeId) (i:TypeInfo) (z:Value) (size bytes:Nat) (ht:P.underlying t=some (.slice e)) (hi:P.info? e=some i) (hz:i.zero=some z)
  (O:i.size=size) (ae:i.bytes=bytes) (ak:z.cells.size=size) (ai:0<size) (aj:∀x∈z.cells.toList,qcM x)
  (v:Value) (n:Nat) (xs:List Value) (hs:a.eval s=v) (U:Rws w base e size v n xs)
  (Z:Addr) (m c:Nat) (F:List Value) (hx:a.eval x=.slice (some Z) m c) (hl:F.length=m*size) (J:∀j u,F[j]? = some u->w.cell? (Z.add j)=some u) (h1:∀u∈F,u.oneCell'=true) (ah:∀u∈F,qcM u) (ag:0<m)
  (aa:n+m<=maxLen) (H:(n+m)*bytes<=140737488355328) (I:base<=w.heap.size)
  (h:∀Y w',Rws w' base e size Y (n+m) (xs++F)->w.grownBy w' v.ownBlock->(Y.ownBlock=v.ownBlock\/Y.ownBlock=some w.heap.size)->K (a.put o.dst Y) w') :
  if Region.wanted o (yielded V a.tmps)=true then Oper.wp P o a w K Q else E:=by
 have hw:Region.wanted o (yielded V a.tmps)=true:=by simp [Region.wanted,af]
 rw [if_pos hw];exact qi1 s x t ho base e i z size bytes ht hi hz O ae ak ai aj v n xs hs U Z m c F hx hl J h1 ah ag aa H I h
theorem qdJ {w:World} {V:Array Oper} {rest:List Oper} {o:Oper} {a:Act} {Q:Exit->Act->World->Prop} (ae:o.guard=none) (s x:Operand) (t:TypeId)
  (ho:o.op=.call { callee:=.builtin .append,args:=#[s,x],argTypes:=#[t,t] })
  (base:Nat) (e:TypeId) (i:TypeInfo) (z:Value) (size bytes:Nat) (ht:P.underlying t=some (.slice e)) (hi:P.info? e=some i) (hz:i.zero=some z)
  (J:i.size=size) (aa:i.bytes=bytes) (aj:z.cells.size=size) (ah:0<size) (ai:∀x∈z.cells.toList,qcM x)
  (v:Value) (n:Nat) (xs:List Value) (hs:a.eval s=v) (U:Rws w base e size v n xs)
  (Y:Addr) (m c:Nat) (E:List Value) (hx:a.eval x=.slice (some Y) m c) (hl:E.length=m*size) (I:∀j u,E[j]? = some u->w.cell? (Y.add j)=some u) (h1:∀u∈E,u.oneCell'=true) (ag:∀u∈E,qcM u) (af:0<m)
  (Z:n+m<=maxLen) (F:(n+m)*bytes<=140737488355328) (H:base<=w.heap.size)
  (h:∀O w',Rws w' base e size O (n+m) (xs++E)->w.grownBy w' v.ownBlock->(O.ownBlock=v.ownBlock\/O.ownBlock=some w.heap.size)->wpList P V Q rest (a.put o.dst O) w') :
  wpList P V Q (o :: rest) a w:=by
 refine wpList_plain ae fun K hK=>?_
 obtain⟨O,w',hr,h2,h3,h4⟩:=qdL (P:=P) w base t o.type e i z size bytes ht hi hz J aa aj ah ai v n xs U Y m c E hl I h1 ag af Z F H;unfold Oper.wp execOp;simp only [ho,resolve,invoke,builtin,Sem.run_bind,Sem.run_pure,Result.andThen_ok,List.map_toArray,List.map_cons,List.map_nil,hs,hx,hr];exact hK _ _ (h O w' h2 h3 h4)
end
open Go.Proofs.Tryz
theorem infoFs:(Tryz.prog.info? 22).map (fun i=>(i.zero,i.size,i.bytes))=some (some (.slice none 0 0),1,24):=by kernel_rfl
theorem qdD {W:World} {B:Nat} {v:Value} {n:Nat} {l:List FT} (h:Rws W B 27 2 v n (fflat l)) (Z:l.length=n):∃(I:Option Addr) (g cap:Nat),v=.slice I n cap/\FCells W I g 0 l/\n<=cap:=by
 have E:=h.own;rcases h.2 with ⟨rfl,rfl⟩ | ⟨g,cap,cur,rfl,_,_,Y,_⟩
 ·exact⟨none,0,0,rfl,⟨fun O=>absurd O (by omega),fun k H=>absurd H (by omega)⟩,qad _⟩
 ·refine⟨some ⟨g,0,none⟩,g,cap,rfl,⟨fun _=>rfl,fun k H=>?_⟩,Y⟩;have hx:l[k]? = some (l.getD k fd0):=by rw [qaa,qac H];rfl
  obtain⟨U,V⟩:=qfQ l k _ hx;have J:=E.cells (g:=g) rfl _ _ U;have F:=E.cells (g:=g) rfl _ _ V;rw [Addr.add_mid] at J F;refine⟨J,?_⟩;rw [<-Nat.add_assoc] at F;exact F
theorem qel (x:ByteArray):qcM (.string x):=fun k d h=>by cases h
theorem qjX (a:Option Addr) (n c:Nat):qcM (.slice a n c):=fun k d h=>by cases h
theorem qeI {U:Array Oper} {rest:List Oper} {o:Oper} {a:Act} {w:World} {Q:Exit->Act->World->Prop} (aa:o.guard=none) (s x:Operand)
  (ho:o.op=.call { callee:=.builtin .append,args:=#[s,x],argTypes:=#[22,22] }) {Y:World} {B:Nat} {v:Value} {n:Nat} {l:List FT} {x1 x2:ByteArray}
  (hB:Below B Y w) (ai:B=Y.heap.size) (O:Rws w B 27 2 v n (fflat l)) (hs:a.eval s=v) {g:Nat} (hx:a.eval x=.slice (some ⟨g,0,none⟩) 1 1) (ae:g=w.heap.size) (hn:n<1000000)
  (h:∀V w',Hu (Rws w' B 27 2 V (n+1) (fflat (l++[(x1,x2)])))->Hu (Below B Y w')->wpList prog U Q rest (a.put o.dst V) w') :
  wpList prog U Q (o :: rest) a (w.alloc (.cells #[.string x1,.string x2] 27)):=by
 subst ae;obtain⟨i0,hi,af,ag,ah⟩:=info_parts infoF;have aj:=hB.size;have Z:Below w.heap.size w (w.alloc (.cells #[.string x1,.string x2] 27)):=qb4 qB qN;have E:=O.below Z;have hg:=heap_alloc_new w (.cells #[.string x1,.string x2] 27);refine qdJ aa s x 22 ho B 27 i0 _ 2 32 underlying22 hi af ag ah rfl (by decide) ?nz v n (fflat l) hs E ⟨w.heap.size,0,none⟩ 1 1 [.string x1,.string x2] hx rfl ?c1 ?c2 ?c3 (by decide) (by unfold maxLen;omega) (by omega) (by simp only [qab];omega) ?_
 case nz =>
  intro y hy;rcases qat.1 (show y∈[Value.string ⟨#[]⟩,Value.string ⟨#[]⟩] from hy) with rfl | hy
  ·exact qel _
  ·rw [qap.1 hy];exact qel _
 case c1 =>
  intro j u J;rw [Addr.add_mid]
  match j,J with
  | 0,J=>exact (qC _ _ _ _ _ _ hg).trans J
  | 1,J=>exact (qC _ _ _ _ _ _ hg).trans J
 case c2 =>
  intro u I;rcases qat.1 I with rfl | I
  ·rfl
  ·rw [qap.1 I];rfl
 case c3 =>
  intro u I;rcases qat.1 I with rfl | I
  ·exact qel _
  ·rw [qap.1 I];exact qel _
 intro V w' H F _;refine h V w' (qH ?_) (qH ?_)
 ·rw [qd5];exact H
 ·exact E.old F (hB.alloc (by omega) _) qN (by simp only [qab];omega)
section
variable {P:Program} {ops:Array Oper} {Q:Exit->Act->World->Prop} {md:Region.Mode} {S:World->Prop}
def nthOp:List Oper->Nat->Option Oper
 | [],_=>none
 | o :: _,0=>some o
 | _ :: l,n+1=>nthOp l n
theorem qil:∀{l:List Oper} {i:Nat} {o:Oper},nthOp l i=some o->l.toArray[i]? = some o
 | [],_,_,h=>by cases h
 | _ :: _,0,_,h=>by rw [qaz];exact h
 | _ :: l,n+1,_,h=>by
  have:=qil (l:=l) h;rw [qaz] at this ⊢;exact this
theorem qfh {E:Array Oper} {i:Nat} {o:Oper} (h:nthOp E.toList i=some o):E[i]? = some o:=qil (l:=E.toList) h
theorem qnK {T:World->Prop} (hT:∀W,T W->S W):∀(E:Nat) (F:Array Bool) (a:Act) (w:World),wpAnyH P md ops Q T E F a w->wpAnyH P md ops Q S E F a w
 | 0,_,_,_,h=>h
 | E+1,_,_,_,h=>⟨h.1,fun i I=>wpOp_mono (fun _ _ H=>⟨hT _ H.1,qnK hT E _ _ _ H.2⟩) (h.2 i I)⟩
theorem hd_take (i:Nat) {o:Oper} {v:Value} {F:Nat} {E:Array Bool} {a:Act} {w:World} (H:nthOp ops.toList i=some o)
  (hB:(Region.noSelect ops && (Region.free md ops E i && (Region.ready md ops E).contains i))=true) (hQ:∀c a w,Q (.panic c) (a.put o.dst v) w->Q (.panic c) a w) (hS:S w)
  (J:Region.wanted o (yielded ops a.tmps)=true) (hy:∀w,S w->(execOp a.eval o).run P w=.ok (.value v) w)
  (h:wpAnyH P md ops Q S F (E.setIfInBounds i true) (a.put o.dst v) w):wpAnyH P md ops Q S (F+1) E a w:=by
 have I:=qfh H;rw [qaA,qaA] at hB;exact wpAnyH_take I hB.1 hB.2.1 hB.2.2 hQ (qaw ⟨J,hy⟩) hS h
def Way (P:Program) (I:Region.Mode) (H:Array Oper) (Q:Exit->Act->World->Prop) (S:World->Prop) (F:Nat) (E:Array Bool) (K:Act->World->Prop):Prop :=
 Shut (∀(T:World->Prop) (a:Act) (w:World),(∀W,T W->S W)->T w->wpAnyH P I H Q T F E a w->K a w)
theorem hd_step {i:Nat} {o:Oper} {F:Nat} {E:Array Bool} {a:Act} {w:World} (U:ops[i]? = some o)
  (h:∀K:Act->World->Prop,Way P md ops Q S F (E.setIfInBounds i true) K->if Region.wanted o (yielded ops a.tmps)=true then Oper.wp P o a w K Q else K (a.put o.dst undef) w) :
  wpOp P ops Q i (fun I w'=>S w'/\wpAnyH P md ops Q S F (E.setIfInBounds i true) I w') a w :=
 wpOp_step U fun H J=>h H fun _T a w hT V O=>J a w ⟨hT w V,qnK hT _ _ _ _ O⟩
theorem qh8 (i:Nat) {o:Oper} {F:Nat} {E:Array Bool} {a:Act} {w:World} (H:nthOp ops.toList i=some o) (hr:decide (Region.ready md ops E=[i])=true)
  (h:∀K:Act->World->Prop,Way P md ops Q S F (E.setIfInBounds i true) K->if Region.wanted o (yielded ops a.tmps)=true then Oper.wp P o a w K Q else K (a.put o.dst undef) w) :
  wpAnyH P md ops Q S (F+1) E a w:=by
 refine wpAnyH_all (of_decide_eq_true hr) (by simp) fun j I=>?_
 rw [qap] at I;subst I;exact hd_step (qfh H) h
theorem Way.on {F:Nat} {E:Array Bool} {K:Act->World->Prop} (h:Way P md ops Q S F E K) (T:World->Prop) (a:Act) (w:World) (hT:∀W,T W->S W) (H:T w) (k:T w->wpAnyH P md ops Q T F E a w):K a w :=
 h.out T a w hT H (k H)
end
def pf (a:Act) (v:Nat->Value):List (Nat×Tmp)->Act
 | []=>a
 | p :: D=>(pf a v D).put (some p.2) (v p.1)
def upd {α:Type} (v:Nat->α) (i:Nat) (x:α):Nat->α:=fun k=>if k=i then x else v k
theorem upd_same {α:Type} (v:Nat->α) (i:Nat) (x:α):upd v i x i=x:=if_pos rfl
theorem qci {α:Type} (v:Nat->α) {i k:Nat} (x:α) (h:k≠i):upd v i x k=v k:=if_neg h
theorem put_put (a:Act) (d:Tmp) (x y:Value):(a.put (some d) x).put (some d) y=a.put (some d) y:=by
 simp [Act.put]
theorem qfj (a:Act) (v:Nat->Value) (i:Nat) (x:Value):∀D:List (Nat×Tmp),(∀p∈D,p.1≠i)->pf a (upd v i x) D=pf a v D
 | [],_=>rfl
 | p :: D,h=>by
  show (pf a (upd v i x) D).put _ (upd v i x p.1)=(pf a v D).put _ (v p.1)
  rw [qfj a v i x D fun q E=>h q (qbn _ E),qci _ _ (h p (qba ..))]
theorem qoy (a:Act) (v:Nat->Value) {i:Nat} {d:Tmp} (x:Value):∀D:List (Nat×Tmp),(D.map (·.1)).Nodup->(D.map (·.2)).Nodup->(i,d)∈D->(pf a v D).put (some d) x=pf a (upd v i x) D
 | [],_,_,h=>by cases h
 | p :: D,E,F,h=>by
  rw [List.map_cons,List.nodup_cons] at E F;rcases qat.1 h with e | h
  ·subst e
   show ((pf a v D).put (some d) (v i)).put (some d) x=(pf a (upd v i x) D).put (some d) (upd v i x i)
   rw [put_put,upd_same,qfj a v i x D fun q J e=>E.1 (qbb.2 ⟨q,J,e⟩)]
  ·have hne:p.1≠i:=fun e=>E.1 (qbb.2 ⟨_,h,e.symm⟩)
   have H:p.2≠d:=fun e=>F.1 (qbb.2 ⟨_,h,e.symm⟩)
   show ((pf a v D).put (some p.2) (v p.1)).put (some d) x=(pf a (upd v i x) D).put (some p.2) (upd v i x p.1)
   rw [qci _ _ hne,<-qoy a v x D E.2 F.2 h];exact Act.put_comm _ _ _ fun e he I=>H (by cases he;cases I;rfl)
theorem qkR (a:Act) (v:Nat->Value):∀D:List (Nat×Tmp),(∀p∈D,v p.1=a.tmps.getD p.2 undef/\p.2<a.tmps.size)->pf a v D=a
 | [],_=>rfl
 | p :: D,h=>by
  show (pf a v D).put (some p.2) (v p.1)=a
  obtain⟨E,F⟩:=h p (qba ..);rw [qkR a v D fun q H=>h q (qbn _ H),E]
  show { a with tmps:=a.tmps.setIfInBounds p.2 _ }=a
  congr 1
  apply Array.ext_getElem?;intro j;rw [Array.getElem?_setIfInBounds];split
  ·next e=>subst e;simp [F]
  ·rfl
def arr (n:Nat) (L:Nat->Bool):Array Bool:=((List.range n).map L).toArray
theorem qgm (n:Nat) (L:Nat->Bool) (i:Nat) (b:Bool):(arr n L).getD i b=if i<n then L i else b:=by
 unfold arr;rw [Array.getD_eq_getD_getElem?,qaz,qaP]
 by_cases h:i<n
 ·rw [qbG h,if_pos h];rfl
 ·rw [qaR (by rw [qbo];omega),if_neg h];rfl
theorem qkk (n:Nat) (L:Nat->Bool) (i:Nat):(arr n L).setIfInBounds i true=arr n (upd L i true):=by
 unfold arr;rw [qaQ]
 congr 1
 apply List.ext_getElem?;intro k
 by_cases e:k=i
 ·subst e
  by_cases h:k<n
  ·rw [List.getElem?_set_self (by simpa using h),qaP,qbG h]
   show some true=some (upd L k true k)
   rw [upd_same]
  ·rw [qaR (by simp;omega),qaR (by simp;omega)]
 ·rw [qbQ (by omega),qaP,qaP];cases hk:(List.range n)[k]? with
  | none=>rfl
  | some j =>
   have:j=k:=by
    obtain⟨h,e2⟩:=qbI.1 hk;rw [List.getElem_range] at e2;exact e2.symm
   subst this
   show some (L j)=some (upd L i true j)
   rw [qci _ _ e]
section
variable {P:Program} {ops:Array Oper} {Q:Exit->Act->World->Prop} {md:Region.Mode} {S:World->Prop}
theorem qgd (n:Nat) (L:Nat->Bool) (O:n=ops.size) (i:Nat):i∈Region.ready md ops (arr n L)↔i<n/\L i=false/\∃o,ops[i]? = some o/\(o.after.all fun e=>!Region.binds md e || (decide (e.on<n) && L e.on))=true:=by
 have I:∀o:Oper,(o.after.all fun e=>!Region.binds md e || (arr n L).getD e.on false)=(o.after.all fun e=>!Region.binds md e || (decide (e.on<n) && L e.on)):=fun o=>congrArg (fun f=>o.after.all f) (funext fun e=>by
  rw [qgm]
  by_cases h:e.on<n
  ·rw [if_pos h,qV h,Bool.true_and]
  ·rw [if_neg h,qU h,Bool.false_and])
 unfold Region.ready;rw [List.mem_filter,qaq,<-O]
 constructor
 ·rintro ⟨F,H⟩;rw [qaA] at H;refine⟨F,?_,?_⟩
  ·have:=H.1;rw [qgm,if_pos F] at this;simpa using this
  ·have E:=H.2;cases e:ops[i]? with
   | none=>rw [e] at E;exact absurd E (by simp)
   | some o =>
    rw [e] at E;exact⟨o,rfl,(I o).symm.trans E⟩
 ·rintro ⟨F,H,o,E,J⟩;refine⟨F,?_⟩;rw [qaA];refine⟨by rw [qgm,if_pos F,H];rfl,?_⟩;rw [E];exact (I o).trans J
def waits (E:Region.Mode) (o:Oper):List Nat:=(o.after.toList.filter fun e=>Region.binds E e).map (·.on)
theorem qj8 {o:Oper} {n:Nat} {L:Nat->Bool} (h:(o.after.all fun e=>!Region.binds md e || (decide (e.on<n) && L e.on))=true):∀k∈waits md o,k<n/\L k=true:=by
 intro k H;obtain⟨e,he,rfl⟩:=qbb.1 H;obtain⟨he,E⟩:=List.mem_filter.1 he;obtain⟨j,F,rfl⟩:=Array.getElem_of_mem (Array.mem_toList_iff.1 he);have:=(Array.all_eq_true.1 h) j F;rw [E] at this
 simpa using this
def dagB (F:Region.Mode) (E:Array Oper):Bool:=(List.range E.size).all fun i=>((nthOp E.toList i).map fun o=>(waits F o).all fun k=>decide (k<i)).getD true
theorem qlA:∀{l:List Oper} {i:Nat} {o:Oper},l[i]? = some o->nthOp l i=some o
 | [],_,_,h=>by simp at h
 | _ :: _,0,_,h=>by simpa [nthOp] using h
 | _ :: l,n+1,_,h=>by
  show nthOp l n=_
  exact qlA (by simpa using h)
theorem qcT {i:Nat} {o:Oper} (h:ops[i]? = some o):nthOp ops.toList i=some o:=qlA (by rw [<-qaz];exact h)
theorem qij {L:Nat->Bool} (U:dagB md ops=true) (h:Region.ready md ops (arr ops.size L)=[]):∀i,i<ops.size->L i=true:=by
 intro i
 induction i using Nat.strongRecOn with
 | ind i ih =>
  intro F;apply Classical.byContradiction;intro J;have I:ops[i]? = some ops[i]:=Array.getElem?_eq_getElem F;have E:=(qaC.1 U) i (qaq.2 F);rw [qcT I] at E;have E:(waits md ops[i]).all (fun k=>decide (k<i))=true:=E;have:i∈Region.ready md ops (arr ops.size L):=(qgd _ L rfl i).2 ⟨F,by simpa using J,_,I,Array.all_eq_true.2 fun j V=>by
   cases O:Region.binds md ops[i].after[j] with
   | false=>rfl
   | true =>
    have Y:ops[i].after[j].on∈waits md ops[i]:=qbb.2 ⟨_,List.mem_filter.2 ⟨Array.mem_toList_iff.2 (Array.getElem_mem V),O⟩,rfl⟩;have H:=of_decide_eq_true ((qaC.1 E) _ Y);rw [ih _ H (by omega)];simp;omega⟩
  rw [h] at this;cases this
def leftN (n:Nat) (L:Nat->Bool):Nat:=((List.range n).filter fun k=>!L k).length
theorem qhm {n:Nat} {L:Nat->Bool} {i:Nat} (F:i<n) (I:L i=false):leftN n (upd L i true)<leftN n L:=by
 have E:∀l:List Nat,(∀x∈l,x=i->False)\/i∈l->((l.filter fun k=>!upd L i true k).length<=(l.filter fun k=>!L k).length)/\(i∈l->(l.filter fun k=>!upd L i true k).length<(l.filter fun k=>!L k).length):=by
  intro l _
  induction l with
  | nil=>exact⟨qad _,fun h=>by cases h⟩
  | cons x l ih =>
   have ih:=ih (by by_cases h:i∈l;exact qam h;exact qaw fun y hy e=>h (e▸hy))
   by_cases e:x=i
   ·subst e;rw [List.filter_cons_of_neg (by rw [upd_same];simp),List.filter_cons_of_pos (by rw [I];rfl),qbH];exact⟨by omega,fun _=>by omega⟩
   ·have H:upd L i true x=L x:=qci _ _ e;cases hx:L x with
    | true =>
     rw [List.filter_cons_of_neg (by rw [H,hx];simp),List.filter_cons_of_neg (by rw [hx];simp)];exact⟨ih.1,fun h=>ih.2 (by rcases qat.1 h with h | h;exact absurd h.symm e;exact h)⟩
    | false =>
     rw [List.filter_cons_of_pos (by rw [H,hx];rfl),List.filter_cons_of_pos (by rw [hx];rfl),qbH,qbH];exact⟨by omega,fun h=>by
      have:=ih.2 (by rcases qat.1 h with h | h;exact absurd h.symm e;exact h);omega⟩
 exact (E _ (qam (qaq.2 F))).2 (qaq.2 F)
theorem qic {n:Nat} {L:Nat->Bool} (h:leftN n L=0):∀i,i<n->L i=true:=fun i F=>by
 have:=List.eq_nil_of_length_eq_zero h;cases hL:L i with
 | true=>rfl
 | false =>
  have E:i∈(List.range n).filter fun k=>!L k:=List.mem_filter.2 ⟨qaq.2 F,by rw [hL];rfl⟩
  rw [this] at E;cases E
def dstB (E:Array Oper) (D:List (Nat×Tmp)) (T:List Nat):Bool:=(List.range E.size).all fun i=>T.contains i || ((nthOp E.toList i).map fun o=>match o.dst with | none=>!(D.map (·.1)).contains i | some d=>D.contains (i,d)).getD true
end
section
variable {P:Program} {ops:Array Oper} {Q:Exit->Act->World->Prop} {md:Region.Mode} {S:World->Prop}
def dep (E:List (Nat×List Nat)) (i:Nat):List Nat:=(E.lookup i).getD []
theorem qhl {n:Nat} {L M:Nat->Bool} (h:∀i,i<n->L i=M i):leftN n L=leftN n M:=by
 unfold leftN
 congr 1
 exact List.filter_congr fun i E=>by rw [h i (qaq.1 E)]
section
variable {dl:List (Nat×List Nat)} {F:Nat->Value->List Nat->World->Prop} {w0:World} {i:Nat} {gs:Nat->List Nat} {w:World} {A:Act} {d:Option Tmp} {K:Act->World->Prop}
end
end
class Stays (p:World->Prop):Prop where
 go:∀{W W':World},p W->Below W.heap.size W W'->p W'
instance stays_and {p q:World->Prop} [hp:Stays p] [hq:Stays q]:Stays fun W=>p W/\q W:=⟨fun h E=>⟨hp.go h.1 E,hq.go h.2 E⟩⟩
instance stays_const {p:Prop}:Stays fun _=>p:=⟨fun h _=>h⟩
instance stays_old {w:World}:Stays fun W=>Below w.heap.size w W:=⟨fun h E=>h.trans (E.mono h.size)⟩
instance stays_row {g:Nat} {o:Obj}:Stays fun W=>W.heap[g]? = some o:=⟨fun h E=>(E.block g (qG h).1).trans h⟩
instance stays_ex {α:Type} {p:α->World->Prop} [hp:∀x,Stays (p x)]:Stays fun W=>∃x,p x W:=⟨fun⟨x,h⟩ hb=>⟨x,(hp x).go h hb⟩⟩
def Kn (p:World->Prop) (W:World):Prop:=Hu (p W)
theorem Kn.o {p:World->Prop} {W:World} (k:Kn p W):p W:=Hu.o k
theorem Kn.of {p:World->Prop} {W:World} (h:p W):Kn p W:=qH h
theorem Kn.below {p:World->Prop} [hp:Stays p] {W W':World} (k:Kn p W) (E:Below W.heap.size W W'):Kn p W':=.of (hp.go k.o E)
theorem Kn.on {p q:World->Prop} [hp:Stays p] {W W':World} (k:Kn p W) (E:Below W.heap.size W W') (h:q W'):Kn (fun W=>p W/\q W) W':=.of ⟨hp.go k.o E,h⟩
theorem Kn.ond {p q:World->Prop} [hp:Stays p] {W W':World} (k:Kn p W) (E:Below W.drew.heap.size W.drew W') (h:q W'):Kn (fun W=>p W/\q W) W':=.of ⟨hp.go k.o ((Below.refl W.heap.size W).drew.trans E),h⟩
theorem Kn.also {p q:World->Prop} {W:World} (k:Kn p W) (h:q W):Kn (fun W=>p W/\q W) W:=.of ⟨k.o,h⟩
section
variable {P:Program} {ops:Array Oper} {Q:Exit->Act->World->Prop} {md:Region.Mode} {S:World->Prop}
def growB (F:Region.Mode) (E:Array Oper) (rl:List (Nat×List Nat)) (T:List Nat) (n0:Nat):Bool :=
 ((List.range n0).all fun i=>T.contains i || (((nthOp E.toList i).map fun o=>(dep rl i).all fun k=>(waits F o).contains k && (!T.contains k && decide (k<n0))).getD false)) &&
 ((decide (E.size<=n0) || (List.range n0).all fun k=>T.contains k || (List.range (n0+1)).any fun j=>decide (k<j) && ((nthOp E.toList j).map fun o=>(waits F o).contains k).getD false) &&
 (!T.contains n0 && (List.range E.size).all fun i=>decide (i<=n0) || (T.contains i || ((nthOp E.toList i).map fun o=>(waits F o).any fun k=>decide (n0<=k) && !T.contains k).getD false)))
section
variable {ops:Array Oper} {md:Region.Mode}
theorem ql7 {rl:List (Nat×List Nat)} {T:List Nat} {n0:Nat} (h:growB md ops rl T n0=true) {i:Nat} {o:Oper} (H:i<n0) (hT:i∉T) (J:nthOp ops.toList i=some o):∀k∈dep rl i,k∈waits md o/\k∉T/\k<n0:=by
 intro k I;unfold growB at h;rw [qaA] at h;have E:=(qaC.1 h.1) i (qaq.2 H);rw [qbc,J] at E;rcases E with E | E
 ·exact absurd (qal.1 E) hT
 ·have F:=(qaC.1 (show ((dep rl i).all fun k=>(waits md o).contains k && (!T.contains k && decide (k<n0)))=true from E)) k I;simp only [qaA,decide_eq_true_eq,qbW] at F;refine⟨qal.1 F.1,fun e=>?_,F.2.2⟩;rw [qal.2 e] at F;exact absurd F.2.1 (by decide)
theorem ql8 {rl:List (Nat×List Nat)} {T:List Nat} {n0:Nat} (h:growB md ops rl T n0=true) (J:n0<ops.size) {k:Nat} (I:k<n0) (hT:k∉T):∃j o,k<j/\j<=n0/\nthOp ops.toList j=some o/\k∈waits md o:=by
 unfold growB at h;rw [qaA,qaA,qbc,decide_eq_true_eq] at h;have F:=(qaC.1 (h.2.1.resolve_left (by omega))) k (qaq.2 I);rw [qbc] at F;rcases F with F | F
 ·exact absurd (qal.1 F) hT
 obtain⟨j,H,E⟩:=List.any_eq_true.1 F;rw [qaA,decide_eq_true_eq] at E;have H:=qaq.1 H;cases e:nthOp ops.toList j with
 | none=>rw [e] at E;exact absurd E.2 (by simp)
 | some o=>rw [e] at E;exact⟨j,o,E.1,by omega,e,qal.1 E.2⟩
theorem ql6 {rl:List (Nat×List Nat)} {T:List Nat} {n0:Nat} (h:growB md ops rl T n0=true) {i:Nat} {o:Oper} (O:n0<i) (hT:i∉T) (J:i<ops.size) (I:nthOp ops.toList i=some o):∃k∈waits md o,n0<=k/\k∉T:=by
 unfold growB at h;rw [qaA,qaA,qaA] at h;have F:=(qaC.1 h.2.2.2) i (qaq.2 J);rw [qbc,decide_eq_true_eq,qbc,I] at F;rcases F with F | F | F
 ·omega
 ·exact absurd (qal.1 F) hT
 ·obtain⟨k,H,E⟩:=List.any_eq_true.1 (show ((waits md o).any fun k=>decide (n0<=k) && !T.contains k)=true from F);rw [qaA,decide_eq_true_eq,qbW] at E;exact⟨k,H,E.1,fun e=>by rw [qal.2 e] at E;cases E.2⟩
theorem growB_own {rl:List (Nat×List Nat)} {T:List Nat} {n0:Nat} (h:growB md ops rl T n0=true):n0∉T:=fun e=>by
 unfold growB at h;rw [qaA,qaA,qaA,qbW] at h;have:=h.2.2.1;rw [qal.2 e] at this;cases this
end
def pv:Value->Nat
 | .pointer (some a)=>a.block
 | .slice (some a) _ _=>a.block
 | _=>0
structure Grown (md:Region.Mode) (ops:Array Oper) (T E:List Nat) (n0:Nat) (F:Nat->Value->World->Prop) (w0:World) (L:Nat->Bool) (v:Nat->Value) (w:World):Prop where
 old:Below w0.heap.size w0 w
 top:∀i,n0<=i->i∉T->L i=false
 took:∀k∈T,L k=true
 shut:∀j o,nthOp ops.toList j=some o->L j=true->∀k∈waits md o,L k=true
 fact:∀i,i<n0->i∉T->L i=true->F i (v i) w
 lt:∀i∈E,L i=true->pv (v i)<w.heap.size
 apart:∀i∈E,∀j∈E,L i=true->L j=true->i≠j->pv (v i)≠pv (v j)
def Grows (F:Nat->Value->World->Prop) (E:List Nat) (i:Nat) (w:World) (A:Act) (d:Option Tmp) (K:Act->World->Prop):Prop :=
 Shut (∀(x:Value) (H:Act) (w':World),H=A.put d x->F i x w'->(E.contains i=true->w.heap.size<=pv x/\pv x<w'.heap.size)->Below w.heap.size w w'->K H w')
theorem Grows.to {F:Nat->Value->World->Prop} {E:List Nat} {i:Nat} {w:World} {A:Act} {d:Option Tmp} {K:Act->World->Prop} (h:Grows F E i w A d K) (x:Value) (H:Act) (w':World) (I:H=A.put d x) (J:F i x w') (hE:E.contains i=true->w.heap.size<=pv x/\pv x<w'.heap.size) (O:Below w.heap.size w w'):K H w':=h.out x H w' I J hE O
theorem qk2 (a:Act) (D:List (Nat×Tmp)) (rl:List (Nat×List Nat)) (T E:List Nat) (n0:Nat) (F:Nat->Value->World->Prop) (w0:World) (T2:List Nat)
  (ay:∀i x w w',F i x w->Below w.heap.size w w'->F i x w')
  (ak:dagB md ops=true) (h1:(D.map (·.1)).Nodup) (h2:(D.map (·.2)).Nodup) (au:dstB ops D T2=true) (aA:∀k,k<n0->k∈T2->k∈T) (hB:growB md ops rl T n0=true) (hn:n0<=ops.size) (kl:Nat) (aD:leftN ops.size (fun i=>decide (i<n0) || T.contains i)=kl)
  (hS:∀w,Below w0.heap.size w0 w->S w)
  (hstep:∀i o,nthOp ops.toList i=some o->i<n0->i∉T->∀(v:Nat->Value) (w:World),Below w0.heap.size w0 w->(∀k∈dep rl i,F k (v k) w) ->
   ∀A,A=pf a v D->∀K,Grows F E i w A o.dst K->if Region.wanted o (yielded ops A.tmps)=true then Oper.wp P o A w K Q else K (A.put o.dst undef) w)
  (hend:∀v w,Grown md ops T E n0 F w0 (fun i=>decide (i<n0) || T.contains i) v w->∀A,A=pf a v D->∀f,wpAnyH P md ops Q S (f+kl) (arr ops.size fun i=>decide (i<n0) || T.contains i) A w) :
  ∀(H:Nat) (L:Nat->Bool) (v:Nat->Value) (w:World),leftN ops.size L<=H->Grown md ops T E n0 F w0 L v w->wpAnyH P md ops Q S H (arr ops.size L) (pf a v D) w:=by
 have ai:∀(H:Nat) (L:Nat->Bool) (v:Nat->Value) (w:World),leftN ops.size L<=H->Grown md ops T E n0 F w0 L v w->(∀i,i<n0->L i=true)->wpAnyH P md ops Q S H (arr ops.size L) (pf a v D) w:=by
  intro H L v w hf I O;have az:L=fun i=>decide (i<n0) || T.contains i:=funext fun i=>by
   by_cases h:i<n0
   ·rw [O i h,qV h];rfl
   ·by_cases h2:i∈T
    ·rw [I.took i h2,qal.2 h2,Bool.or_true]
    ·rw [I.top i (by omega) h2,qU h,Bool.false_or];exact (Bool.not_eq_true _▸fun e=>h2 (qal.1 e):T.contains i=false).symm
  subst az;rw [aD] at hf;obtain⟨f,rfl⟩:∃f,H=f+kl:=⟨H-kl,by omega⟩;exact hend v w I _ rfl f
 intro H
 induction H with
 | zero =>
  intro L v w hf I;exact ai 0 L v w hf I fun i hi=>qic (Nat.le_zero.1 hf) i (by omega)
 | succ H ih =>
  intro L v w hf I
  by_cases O:∀i,i<n0->L i=true
  ·exact ai (H+1) L v w hf I O
  refine⟨fun h0=>absurd (fun i hi=>qij ak h0 i (by omega)) O,fun i hi=>?_⟩;obtain⟨af,hL,o,ho,hd⟩:=(qgd _ L rfl i).1 hi;have hw:∀k∈waits md o,L k=true:=fun k V=>(qj8 hd k V).2
  have Z:i<n0:=by
   apply Classical.byContradiction;intro aG;rcases qaB n0 i with hgt | hle
   ·obtain⟨k,V,aB,aC⟩:=ql6 hB hgt (fun h=>by have:=I.took i h;rw [hL] at this;cases this) af (qcT ho);have:=hw k V;rw [I.top k aB aC] at this;cases this
   ·obtain rfl:i=n0:=by omega
    refine O fun k V=>?_
    have aF:∀m k,k<i->i-k=m->L k=true:=by
     intro m
     induction m using Nat.strongRecOn with
     | ind m ihm =>
      intro k V hm
      by_cases av:k∈T
      ·exact I.took k av
      obtain⟨j,p,h1,h2,h3,h4⟩:=ql8 hB af V av;rcases qaB j i with h | h
      ·exact I.shut j p h3 (ihm (i-j) (by omega) j h rfl) k h4
      ·obtain rfl:j=i:=by omega
       rw [qcT ho] at h3;cases h3;exact hw k h4
    exact aF _ k V rfl
  have ae:i∉T:=fun h=>by have:=I.took i h;rw [hL] at this;cases this
  refine wpOp_step ho fun K' hK=>hstep i o (qcT ho) Z ae v w I.old (fun k V=>by obtain⟨a1,a2,a3⟩:=ql7 hB Z ae (qcT ho) k V;exact I.fact k a3 a2 (hw k a1)) _ rfl K' fun x A' w' hA hF ag U=>?_
  have aj:Below w0.heap.size w0 w':=I.old.trans (U.mono I.old.size);refine hK _ _ ⟨hS _ aj,?_⟩;rw [qkk];have ax:A'=pf a (upd v i x) D:=by
   rw [hA];have U:=(qaC.1 au) i (qaq.2 af);rw [qbc,qcT ho] at U;rcases U with U | U
   ·exact absurd (aA i Z (qal.1 U)) ae
   ·cases e:o.dst with
    | none =>
     show pf a v D=_
     refine (qfj a v i x D fun p hp e2=>?_).symm;have U:(!(D.map (·.1)).contains i)=true:=by
      have:(match o.dst with | none=>!(D.map (·.1)).contains i | some d=>D.contains (i,d))=true:=U;rw [e] at this;exact this
     rw [qbW,<-Bool.not_eq_true] at U;exact U (qal.2 (qbb.2 ⟨p,hp,e2⟩))
    | some d =>
     have U:D.contains (i,d)=true:=by
      have:(match o.dst with | none=>!(D.map (·.1)).contains i | some d=>D.contains (i,d))=true:=U;rw [e] at this;exact this
     exact qoy a v x D h1 h2 (qal.1 U)
  rw [ax];refine ih _ _ _ (by have:=qhm af hL;omega) ⟨aj,fun j Y ah=>?_,fun k V=>?_,fun j p hp Y k V=>?_,fun j Y ah J=>?_,fun j Y J=>?_,fun j Y m hm J aa hne=>?_⟩
  ·rw [qci _ _ (by omega)];exact I.top j Y ah
  ·rw [qci _ _ (by rintro rfl;exact ae V)];exact I.took k V
  ·by_cases e:k=i
   ·rw [e,upd_same]
   ·rw [qci _ _ e]
    by_cases e2:j=i
    ·subst e2;rw [qcT ho] at hp;cases hp;exact hw k V
    ·rw [qci _ _ e2] at Y;exact I.shut j p hp Y k V
  ·by_cases e:j=i
   ·subst e;rw [upd_same];exact hF
   ·rw [qci _ _ e] at J ⊢;exact ay _ _ _ _ (I.fact j Y ah J) U
  ·by_cases e:j=i
   ·subst e;rw [upd_same];exact (ag (qal.2 Y)).2
   ·rw [qci _ _ e] at J ⊢;exact qai (I.lt j Y J) U.size
  ·by_cases e:j=i
   ·subst e;have e2:m≠j:=fun e=>hne e.symm
    rw [qci _ _ e2] at aa;rw [upd_same,qci _ _ e2];have h1:=I.lt m hm aa;have h2:=(ag (qal.2 Y)).1;omega
   ·rw [qci _ _ e] at J ⊢
    by_cases e2:m=i
    ·subst e2;rw [upd_same];have h1:=I.lt j Y J;have h2:=(ag (qal.2 hm)).1;omega
    ·rw [qci _ _ e2] at aa ⊢;exact I.apart j Y m hm J aa hne
theorem qmb {J:Nat} {H:Array Bool} {a:Act} {U:World} (D:List (Nat×Tmp)) (rl:List (Nat×List Nat)) (T C E:List Nat) (n0:Nat) (F:Nat->Value->World->Prop) (kl m:Nat) (Lz:Array Bool) (hm:a.tmps.size=m)
  (av:∀i x,Stays (F i x))
  (hB:(dagB md ops && (decide ((D.map (·.1)).Nodup) && (decide ((D.map (·.2)).Nodup) && (dstB ops D (T++(List.range ops.size).filter fun k=>decide (n0<=k)) && ((D.all fun p=>decide (D.lookup p.1=some p.2) && decide (p.2<m)) && (decide (H.size=ops.size) && (decide (leftN ops.size (fun k=>H.getD k false)<=J) &&
   (growB md ops rl T n0 && (decide (n0<=ops.size) && (decide (leftN ops.size (fun i=>decide (i<n0) || T.contains i)=kl) && (decide (H=arr ops.size fun k=>T.contains k) && ((T.all fun k=>((nthOp ops.toList k).map fun o=>(waits md o).all fun j=>T.contains j).getD false) && (decide (Lz=arr ops.size fun i=>decide (i<n0) || T.contains i) && ((List.range n0).all (fun i=>T.contains i || C.contains i) && E.all fun i=>decide (i<n0) && !T.contains i))))))))))))))=true)
  (hS:∀w,Below U.heap.size U w->S w)
  (hstep:∀i∈C,∀o,nthOp ops.toList i=some o->∀(v:Nat->Value) (w:World),Below U.heap.size U w->(∀k∈dep rl i,F k (v k) w) ->
   ∀A,A=pf a v D->∀K,Grows F E i w A o.dst K->if Region.wanted o (yielded ops A.tmps)=true then Oper.wp P o A w K Q else K (A.put o.dst undef) w)
  (hend:∀(v:Nat->Value) (w:World),Below U.heap.size U w->(∀i,i<n0->i∉T->F i (v i) w)->(∀i∈E,∀j∈E,i≠j->pv (v i)≠pv (v j))->∀A,A=pf a v D->∀f,wpAnyH P md ops Q S (f+kl) Lz A w):wpAnyH P md ops Q S J H a U:=by
 simp only [qaA,decide_eq_true_eq] at hB;obtain⟨aa,h1,h2,ae,hD,ax,hf,af,hn,au,O,ai,ah,hC,hE⟩:=hB;have Y:pf a (fun i=>a.tmps.getD ((D.lookup i).getD 0) undef) D=a:=qkR a _ D fun p hp=>by
  have:=(qaC.1 hD) p hp;simp only [qaA,decide_eq_true_eq] at this;exact⟨by rw [this.1];rfl,by rw [hm];exact this.2⟩
 have V:∀i∈E,i<n0/\¬T.contains i=true:=fun i I=>by
  have:=(qaC.1 hE) i I;rw [qaA,decide_eq_true_eq] at this;exact⟨this.1,by simpa using this.2⟩
 have h0:Grown md ops T E n0 F U (fun k=>T.contains k) (fun i=>a.tmps.getD ((D.lookup i).getD 0) undef) U :=
  ⟨Below.refl _ _,fun i _ I=>by
   rw [<-Bool.not_eq_true];intro h;exact I (qal.1 h),fun k hk=>qal.2 hk,fun j o ho hj k hk=>by
   have:=(qaC.1 ai) j (qal.1 hj);rw [ho] at this;exact (qaC.1 (show ((waits md o).all fun j=>T.contains j)=true from this)) k hk,fun i _ h Z=>absurd (qal.1 Z) h,fun i I Z=>absurd Z (V i I).2,fun i I _ _ Z=>absurd Z (V i I).2⟩
 have ag:=qk2 (P:=P) (Q:=Q) (S:=S) a D rl T E n0 F U (T++(List.range ops.size).filter fun k=>decide (n0<=k)) (fun i x w w' h hb=>(av i x).go h hb) aa h1 h2 ae (fun k hk ak=>by
  rcases qaL.1 ak with h | h
  ·exact h
  ·have:=of_decide_eq_true (List.mem_filter.1 h).2;omega) af hn kl au hS (fun i o ho I aj=>hstep i (by
   have:=(qaC.1 hC) i (qaq.2 I);rw [qbc] at this;rcases this with h | h
   ·exact absurd (qal.1 h) aj
   ·exact qal.1 h) o ho) (fun v w h A hA f=>by
   rw [<-ah];exact hend v w h.old (fun i I hT=>h.fact i I hT (by rw [qV I];rfl)) (fun i I j hj=>h.apart i I j hj (by rw [qV (V i I).1];rfl) (by rw [qV (V j hj).1];rfl)) A hA f) J _ _ _ (by rw [qhl (M:=fun k=>H.getD k false)];exact hf;intro i I;rw [O,qgm,if_pos I]) h0
 rw [Y,<-O] at ag;exact ag
end
theorem qpl {P:Program} {o:Oper} {a:Act} {w:World} {next:Act->World->Prop} {Q:Exit->Act->World->Prop} {f:FuncId} {E:Array Value} {R:Ending->World->Prop} (he:(execOp a.eval o).run P w=.ok (.enter f E) w) (hC:Calls P f E w R)
  (h:∀e w',R e w'->∃v,e=.returned v/\next (a.put o.dst v) w'):o.wp P a w next Q:=by
 unfold Oper.wp;rw [he,Oper.upon_enter];exact hC.mono fun e w' r=>by obtain⟨v,rfl,h⟩:=h e w' r;exact h
theorem rowC {B:Nat} {E:World} {g:Nat} {cs:Array Value} {t:TypeId} (h:E.heap[g]? = some (.cells cs t (0,0))) (i:Nat) {x:Value} (hx:cs[i]? = some x:=by rfl) (hg:g<B:=by omega):∀W,Below B E W->W.cell? ⟨g,i,none⟩=some x :=
 fun _ F=>(F.cell (p:=⟨g,i,none⟩) hg).trans ((qC _ _ i _ _ _ h).trans hx)
def fl2:List (Nat×(Value->World->Prop))->Nat->Value->World->Prop
 | [],_=>fun _ _=>True
 | (j,p) :: l,i=>if i=j then p else fl2 l i
instance stays_nil {i:Nat} {x:Value}:Stays (fl2 [] i x):=⟨fun _ _=>trivial⟩
instance stays_cons {i j:Nat} {x:Value} {p:Value->World->Prop} {l:List (Nat×(Value->World->Prop))} [hp:∀x,Stays (p x)] [hl:Stays (fl2 l i x)]:Stays (fl2 ((j,p) :: l) i x):=⟨fun {_ _} h hb=>by
 have E:fl2 ((j,p) :: l) i=if i=j then p else fl2 l i:=rfl
 rw [E] at h ⊢
 by_cases e:i=j
 ·rw [if_pos e] at h ⊢;exact (hp x).go h hb
 ·rw [if_neg e] at h ⊢;exact hl.go h hb⟩
theorem rowG {E:World} {g0 g:Nat} {cs:Array Value} {t:TypeId} (h:E.heap[g]? = some (.cells cs t (0,0))) (i:Nat) {x:Value} (hx:cs[i]? = some x:=by rfl) (hne:g≠g0:=by omega):∀W,E.grownBy W (some g0)->W.cell? ⟨g,i,none⟩=some x :=
 fun _ F=>F.cell ((qC _ _ i _ _ _ h).trans hx) (fun e=>hne (qag e))
def ZC (B:Nat) (cs:Array Value) (t:TypeId) (x:Value) (W:World):Prop:=∃g,W.heap[g]? = some (.cells cs t (0,0))/\x=.pointer (some ⟨g,0,none⟩)/\B<=g
instance stays_zc {B:Nat} {cs:Array Value} {t:TypeId} {x:Value}:Stays (ZC B cs t x):=⟨fun⟨g,E,F,H⟩ hb=>⟨g,(hb.block g (qG E).1).trans E,F,H⟩⟩
theorem ZC.new {B:Nat} {cs:Array Value} {t:TypeId} {w:World} (h:B<=w.heap.size):ZC B cs t (.pointer (some ⟨w.heap.size,0,none⟩)) (w.alloc (.cells cs t))/\Below w.heap.size w (w.alloc (.cells cs t)) :=
 ⟨⟨w.heap.size,qM _ _ _ rfl,rfl,h⟩,qB.alloc qN _⟩
section
variable {P:Program} {ops:Array Oper} {Q:Exit->Act->World->Prop} {md:Region.Mode} {S:World->Prop} {fuel:Nat} {listed:Array Bool} {a a':Act} {w:World} {o:Oper}
theorem hT (i:Nat) {v:Value} (F:nthOp ops.toList i=some o:=by rfl)
  (hB:(Region.noSelect ops && (Region.free md ops listed i && (Region.ready md ops listed).contains i))=true:=by kernel_rfl) (hQ:∀c a w,Q (.panic c) (a.put o.dst v) w->Q (.panic c) a w:=by exact fun _ _ _ h=>h) (hS:S w:=by assumption)
  (I:Region.wanted o (yielded ops a.tmps)=true:=by rfl) (hy:∀w,S w->(execOp a.eval o).run P w=.ok (.value v) w:=by (intro w E;(try dsimp only at E);go_simp <;> with_reducible rfl))
  (H:a.put o.dst v=a':=by (simp only [Act.put,qaQ,qbx,List.set_cons_succ];with_reducible rfl))
  (h:wpAnyH P md ops Q S fuel (listed.setIfInBounds i true) a' w):wpAnyH P md ops Q S (fuel+1) listed a w :=
 hd_take i F hB hQ hS I hy (by rw [H];exact h)
theorem hU (i:Nat) (E:nthOp ops.toList i=some o:=by rfl)
  (hB:(Region.noSelect ops && (Region.free md ops listed i && (Region.ready md ops listed).contains i))=true:=by kernel_rfl) (hQ:∀c a w,Q (.panic c) (a.put o.dst undef) w->Q (.panic c) a w:=by exact fun _ _ _ h=>h) (hS:S w:=by assumption)
  (H:Region.wanted o (yielded ops a.tmps)=false:=by rfl)
  (F:a.put o.dst undef=a':=by (simp only [Act.put,qaQ,qbx,List.set_cons_succ];with_reducible rfl))
  (h:wpAnyH P md ops Q S fuel (listed.setIfInBounds i true) a' w):wpAnyH P md ops Q S (fuel+1) listed a w:=by
 rw [qaA,qaA] at hB;exact wpAnyH_take (qfh E) hB.1 hB.2.1 hB.2.2 hQ (qam ⟨H,rfl⟩) hS (by rw [F];exact h)
theorem hC (i:Nat) {f:FuncId} {F:Array Value} {R:Ending->World->Prop} (O:Calls P f F w R) (E:nthOp ops.toList i=some o:=by rfl) (hr:decide (Region.ready md ops listed=[i])=true:=by kernel_rfl)
  (U:Region.wanted o (yielded ops a.tmps)=true:=by rfl) (he:(execOp a.eval o).run P w=.ok (.enter f F) w:=by (go_simp <;> with_reducible rfl))
  (h:∀e w',R e w'->∃v,e=.returned v/\S w'/\wpAnyH P md ops Q S fuel (listed.setIfInBounds i true) (a.put o.dst v) w'):wpAnyH P md ops Q S (fuel+1) listed a w :=
 qh8 i E hr fun K J=>by
  rw [if_pos U];refine qpl he O fun e w' r=>?_
  obtain⟨v,rfl,H,I⟩:=h e w' r;exact⟨v,rfl,J.on S _ _ (fun _ h=>h) H fun _=>I⟩
theorem hN {d:Option Tmp} {v:Value} (E:a.put d v=a':=by (simp only [Act.put,qaQ,qbx,List.set_cons_succ];with_reducible rfl)) (h:wpAnyH P md ops Q S fuel listed a' w):wpAnyH P md ops Q S fuel listed (a.put d v) w:=by rw [E];exact h
theorem qpm {P:Program} {o:Oper} {a:Act} {w w':World} {next:Act->World->Prop} {Q:Exit->Act->World->Prop} {v:Value} (he:(execOp a.eval o).run P w=.ok (.value v) w') (h:next (a.put o.dst v) w'):o.wp P a w next Q:=by
 unfold Oper.wp;rw [he,Oper.upon_value];exact h
theorem hSg (i:Nat) {w':World} (E:nthOp ops.toList i=some o:=by rfl) (hr:decide (Region.ready md ops listed=[i])=true:=by kernel_rfl) (I:Region.wanted o (yielded ops a.tmps)=true:=by rfl) (H:o.dst=none:=by rfl)
  (he:(execOp a.eval o).run P w=.ok .skip w':=by (go_simp <;> with_reducible rfl)) (h:S w'/\wpAnyH P md ops Q S fuel (listed.setIfInBounds i true) a w'):wpAnyH P md ops Q S (fuel+1) listed a w :=
 qh8 i E hr fun K F=>by
  rw [if_pos I];unfold Oper.wp;rw [he,Oper.upon_skip,H];exact F.on S _ _ (fun _ h=>h) h.1 fun _=>h.2
theorem hE (i:Nat) {w':World} {v:Value} (E:nthOp ops.toList i=some o:=by rfl) (hr:decide (Region.ready md ops listed=[i])=true:=by kernel_rfl) (H:Region.wanted o (yielded ops a.tmps)=true:=by rfl)
  (he:(execOp a.eval o).run P w=.ok (.value v) w':=by (go_simp <;> first | with_reducible rfl | exact⟨rfl,rfl⟩ | rfl)) (h:S w'/\wpAnyH P md ops Q S fuel (listed.setIfInBounds i true) (a.put o.dst v) w'):wpAnyH P md ops Q S (fuel+1) listed a w :=
 qh8 i E hr fun K F=>by
  rw [if_pos H];exact qpm he (F.on S _ _ (fun _ h=>h) h.1 fun _=>h.2)
theorem qkV {P:Program} {o:Oper} {E:Operand->Value} {w w':World} {s x:Operand} {t H:TypeId} {v u I:Value} (J:o.op=.call { callee:=.builtin .append,args:=#[s,x],argTypes:=#[t,t] }) (F:o.type=H) (O:E s=v) (hx:E x=u)
  (hr:(Builtin.append_ #[t,t] H #[v,u]).run P w=.ok I w'):(execOp E o).run P w=.ok (.value I) w':=by
 subst F;unfold execOp;simp only [J,resolve,invoke,builtin,Sem.run_bind,Sem.run_pure,Result.andThen_ok,List.map_toArray,List.map_cons,List.map_nil,O,hx,hr]
theorem hSn (i:Nat) (n:Nat) {I:TypeId} {x y:Operand} {g:Nat} {cells old:Array Value} {t:TypeId} (hg:w.heap[g]? = some (.cells old t (0,0))) (H:nthOp ops.toList i=some o:=by rfl) (hr:decide (Region.ready md ops listed=[i])=true:=by kernel_rfl)
  (hw:Region.wanted o (yielded ops a.tmps)=true:=by rfl) (Y:o.op=.store I x y:=by rfl) (U:o.dst=none:=by rfl) (hx:a.eval x=.pointer (some ⟨g,0,none⟩):=by rfl) (hy:a.eval y=.agg cells:=by rfl)
  (V:(P.info? I).map (·.size)=some n:=by kernel_rfl) (F:old.size=n:=by rfl) (E:cells.size=n:=by rfl) (J:cells.toList.all (·.oneCell')=true:=by rfl)
  (h:S (w.setRow g cells)/\wpAnyH P md ops Q S fuel (listed.setIfInBounds i true) a (w.setRow g cells)):wpAnyH P md ops Q S (fuel+1) listed a w :=
 qh8 i H hr fun K O=>by
  rw [if_pos hw];refine wp_store_row I x y Y g cells hx hy t old hg (by rw [E];exact V) (by rw [F,E]) (Array.all_eq_true_iff_forall_mem.2 (fun v Z=>qaC.1 J v (by simpa using Z))) ?_;refine O.on S _ _ (fun _ h=>h) h.1 fun _=>?_
  rw [U];exact h.2
theorem hSt (i:Nat) (n:Nat) {I:TypeId} {x y:Operand} {g:Nat} {cells old:Array Value} {t:TypeId} (hg:w.heap[g]? = some (.cells old t (0,0))) (H:nthOp ops.toList i=some o:=by rfl) (hr:decide (Region.ready md ops listed=[i])=true:=by kernel_rfl)
  (hw:Region.wanted o (yielded ops a.tmps)=true:=by rfl) (Z:o.op=.store I x y:=by rfl) (U:o.dst=none:=by rfl) (hx:a.eval x=.pointer (some ⟨g,0,none⟩):=by rfl) (hy:a.eval y=.agg cells:=by rfl)
  (V:(P.info? I).map (·.size)=some n:=by kernel_rfl) (F:old.size=n:=by rfl) (E:cells.size=n:=by rfl) (J:cells.toList.all (·.oneCell')=true:=by rfl) (Y:decide (Region.ready md ops (listed.setIfInBounds i true)=[])=true:=by kernel_rfl)
  (h:S (w.setRow g cells)/\Q .normal a (w.setRow g cells)):wpAnyH P md ops Q S (fuel+1) listed a w :=
 qh8 i H hr fun K O=>by
  rw [if_pos hw];refine wp_store_row I x y Z g cells hx hy t old hg (by rw [E];exact V) (by rw [F,E]) (Array.all_eq_true_iff_forall_mem.2 (fun v hv=>qaC.1 J v (by simpa using hv))) ?_;refine O.on S _ _ (fun _ h=>h) h.1 fun _=>?_
  rw [U];exact wpAnyH_done (of_decide_eq_true Y) h.2 _
def AllC (p:Nat->Prop):List Nat->Prop
 | []=>True
 | i :: l=>p i/\AllC p l
theorem AllC.get {p:Nat->Prop}:∀{l:List Nat},AllC p l->∀i∈l,p i
 | i :: _,h,j,hj=>by
  rcases qat.1 hj with rfl | hj
  ·exact h.1
  ·exact AllC.get h.2 j hj
theorem gr (D:List (Nat×Tmp)) (rl:List (Nat×List Nat)) (T C E:List Nat) (n0 N:Nat) (F:Nat->Value->World->Prop) (A:(Nat->Value)->Act) (O:Nat) {m:Nat} (hm:a.tmps.size=m:=by rfl) (U:∀v,pf a v D=A v:=by (intro v;simp only [pf,Act.put,qaQ,qbx,List.set_cons_succ];with_reducible rfl))
  (J:∀i x,Stays (F i x):=by intro i x;infer_instance)
  (hB:(dagB md ops && (decide ((D.map (·.1)).Nodup) && (decide ((D.map (·.2)).Nodup) && (dstB ops D (T++(List.range ops.size).filter fun k=>decide (n0<=k)) && ((D.all fun p=>decide (D.lookup p.1=some p.2) && decide (p.2<m)) && (decide (listed.size=ops.size) && (decide (leftN ops.size (fun k=>listed.getD k false)<=fuel) &&
   (growB md ops rl T n0 && (decide (n0<=ops.size) && (decide (leftN ops.size (fun i=>decide (i<n0) || T.contains i)=O) && (decide (listed=arr ops.size fun k=>T.contains k) && ((T.all fun k=>((nthOp ops.toList k).map fun o=>(waits md o).all fun j=>T.contains j).getD false) && (decide (arr N (fun i=>decide (i<n0) || T.contains i)=arr ops.size fun i=>decide (i<n0) || T.contains i) && ((List.range n0).all (fun i=>T.contains i || C.contains i) && E.all fun i=>decide (i<n0) && !T.contains i))))))))))))))=true:=by kernel_rfl)
  (hS:∀w',Below w.heap.size w w'->S w')
  (hstep:AllC (fun i=>∃o,nthOp ops.toList i=some o/\∀(v:Nat->Value) (w':World),Below w.heap.size w w'->AllC (fun k=>F k (v k) w') (dep rl i)->∀K,Grows F E i w' (A v) o.dst K->if Region.wanted o (yielded ops (A v).tmps)=true then Oper.wp P o (A v) w' K Q else K ((A v).put o.dst undef) w') C)
  (hend:∀(v:Nat->Value) (w':World),Below w.heap.size w w'->(∀i,i<n0->i∉T->F i (v i) w')->(∀i∈E,∀j∈E,i≠j->pv (v i)≠pv (v j))->∀f,wpAnyH P md ops Q S (f+O) (arr N fun i=>decide (i<n0) || T.contains i) (A v) w'):wpAnyH P md ops Q S fuel listed a w:=by
 refine qmb D rl T C E n0 F O m (arr N fun i=>decide (i<n0) || T.contains i) hm J hB hS (fun i hi o Y v w' I H B hB K V=>?_) fun v w' I H hE B hB f=>?_
 ·obtain⟨p,Z,h⟩:=hstep.get i hi;rw [Z] at Y;cases Y;rw [U] at hB;subst hB;refine h v w' I ?_ K V;generalize dep rl i=l at H;clear h Z V
  induction l with
  | nil=>exact trivial
  | cons k l ih=>exact⟨H k (qba ..),ih fun j hj=>H j (qbn _ hj)⟩
 ·rw [U] at hB;subst hB;exact hend v w' I H hE f
theorem gC {F:Nat->Value->World->Prop} {E:List Nat} {i:Nat} {K:Act->World->Prop} (O:Grows F E i w a o.dst K) {f:FuncId} {H:Array Value} {R:Ending->World->Prop} (U:Calls P f H w R) (V:Region.wanted o (yielded ops a.tmps)=true:=by rfl) (he:(execOp a.eval o).run P w=.ok (.enter f H) w:=by (go_simp <;> with_reducible rfl))
  (hE:E.contains i=false:=by rfl) (h:∀e w',R e w'->∃v,e=.returned v/\F i v w'/\Below w.heap.size w w'):if Region.wanted o (yielded ops a.tmps)=true then Oper.wp P o a w K Q else K (a.put o.dst undef) w:=by
 rw [if_pos V];exact qpl he U fun e w' r=>by obtain⟨v,rfl,I,J⟩:=h e w' r;exact⟨v,rfl,O.to _ _ _ rfl I (fun h=>by rw [hE] at h;cases h) J⟩
theorem gW {F:Nat->Value->World->Prop} {E:List Nat} {i:Nat} {K:Act->World->Prop} (H:Grows F E i w a o.dst K) {v:Value} {w':World} (I:Region.wanted o (yielded ops a.tmps)=true:=by rfl) (he:(execOp a.eval o).run P w=.ok (.value v) w':=by (go_simp <;> first | with_reducible rfl | exact⟨rfl,rfl⟩ | rfl))
  (hE:E.contains i=true->w.heap.size<=pv v/\pv v<w'.heap.size:=by exact fun _=>⟨qad _,by rw [qab];exact qbU _⟩) (h:F i v w'/\Below w.heap.size w w'):if Region.wanted o (yielded ops a.tmps)=true then Oper.wp P o a w K Q else K (a.put o.dst undef) w:=by
 rw [if_pos I];unfold Oper.wp;rw [he,Oper.upon_value];exact H.to _ _ _ rfl h.1 hE h.2
theorem gV {F:Nat->Value->World->Prop} {E:List Nat} {i:Nat} {K:Act->World->Prop} (I:Grows F E i w a o.dst K) {v:Value} (H:F i v w) (J:Region.wanted o (yielded ops a.tmps)=true:=by rfl) (he:(execOp a.eval o).run P w=.ok (.value v) w:=by (go_simp <;> with_reducible rfl)) (hE:E.contains i=false:=by rfl) :
  if Region.wanted o (yielded ops a.tmps)=true then Oper.wp P o a w K Q else K (a.put o.dst undef) w:=by
 rw [if_pos J];exact qpm he (I.to _ _ _ rfl H (fun h=>by rw [hE] at h;cases h) qB)
end
theorem nw1 (w:World) (a:Array Value) (t:TypeId):∃W,W=w.alloc (.cells a t)/\Kn (fun W=>Below w.heap.size w W/\W.heap[w.heap.size]? = some (.cells a t (0,0))) W :=
 ⟨_,rfl,.of ⟨qB.alloc qN _,qM _ _ _ rfl⟩⟩
theorem nw2 (w:World) (a:Array Value) (t:TypeId) (b:Array Value) (u:TypeId):∃W,W=(w.alloc (.cells a t)).alloc (.cells b u) /\
  Kn (fun W=>Below w.heap.size w W/\W.heap[w.heap.size]? = some (.cells a t (0,0))/\W.heap[w.heap.size+1]? = some (.cells b u (0,0))) W :=
 ⟨_,rfl,.of ⟨(qB.alloc qN _).alloc (by simp) _,
  (qL _ _ _ (by simp only [qab];omega)).trans (qM _ _ _ rfl),qM _ _ _ (by simp)⟩⟩
theorem nw3 (w:World) (a:Array Value) (t:TypeId) (b:Array Value) (u:TypeId) (c:Array Value) (v:TypeId):∃W,W=((w.alloc (.cells a t)).alloc (.cells b u)).alloc (.cells c v) /\
  Kn (fun W=>Below w.heap.size w W/\W.heap[w.heap.size]? = some (.cells a t (0,0))/\W.heap[w.heap.size+1]? = some (.cells b u (0,0))/\W.heap[w.heap.size+1+1]? = some (.cells c v (0,0))) W :=
 ⟨_,rfl,.of ⟨((qB.alloc qN _).alloc (by simp) _).alloc (by simp;omega) _,
  (qL _ _ _ (by simp only [qab];omega)).trans ((qL _ _ _ (by simp only [qab];omega)).trans (qM _ _ _ rfl)),
  (qL _ _ _ (by simp only [qab];omega)).trans (qM _ _ _ (by simp)),qM _ _ _ (by simp)⟩⟩
section
variable {P:Program} {ops:Array Oper} {Q:Exit->Act->World->Prop} {md:Region.Mode} {S:World->Prop} {fuel:Nat} {listed:Array Bool} {a a':Act} {w:World} {o:Oper}
theorem hCx (i:Nat) {f:FuncId} {H:Array Value} {R:Ending->World->Prop} (U:Calls P f H w R) (F:nthOp ops.toList i=some o:=by rfl) (hr:decide (Region.ready md ops listed=[i])=true:=by kernel_rfl)
  (V:Region.wanted o (yielded ops a.tmps)=true:=by rfl) (he:(execOp a.eval o).run P w=.ok (.enter f H) w:=by (go_simp <;> with_reducible rfl))
  (h:∀e w',R e w'->(∃v,e=.returned v/\S w'/\wpAnyH P md ops Q S fuel (listed.setIfInBounds i true) (a.put o.dst v) w')\/∃E,e=.panicked E/\Q (.panic E) a w'):wpAnyH P md ops Q S (fuel+1) listed a w :=
 qh8 i F hr fun K O=>by
  rw [if_pos V];unfold Oper.wp;rw [he,Oper.upon_enter];refine U.mono fun e w' r=>?_
  rcases h e w' r with ⟨v,rfl,I,J⟩ | ⟨E,rfl,h⟩
  ·exact O.on S _ _ (fun _ h=>h) I fun _=>J
  ·exact h
end
theorem keepB {a b:World} {g:Nat} (h:Below a.heap.size a b):a.grownBy b (some g):=qch g h
theorem qlp {a b:World} {g:Nat} (h:Below a.drew.heap.size a.drew b):a.grownBy b (some g):=qch g (qcm h)
section
variable {P:Program}
theorem qhZ (w:World) (base:Nat) (t ty e:TypeId) (i:TypeInfo) (z:Value) (size bytes:Nat) (ht:P.underlying t=some (.slice e)) (hi:P.info? e=some i) (hz:i.zero=some z)
  (af:i.size=size) (au:i.bytes=bytes) (ai:z.cells.size=size) (aA:0<size) (ah:∀x∈z.cells.toList,qcM x)
  (v:Value) (n:Nat) (xs:List Value) (F:Rws w base e size v n xs)
  (a:Addr) (m c:Nat) (E:List Value) (V:E.length=m*size) (I:∀j u,E[j]? = some u->w.cell? (a.add j)=some u) (h1:∀u∈E,u.oneCell'=true) (ae:∀u∈E,qcM u) (ay:0<m)
  (Y:n+m<=maxLen) (O:(n+m)*bytes<=140737488355328) (U:base<=w.heap.size) :
  ∃v' w',(Builtin.append_ #[t,t] ty #[v,.slice (some a) m c]).run P w=.ok v' w'/\Rws w' base e size v' (n+m) (xs++E)/\(v'.ownBlock=v.ownBlock/\w.grownBy w' v.ownBlock\/v'.ownBlock=some w.heap.size/\w.grownBy w' none):=by
 subst af;subst au;have aj:n+m<=9223372036854775807:=by simp only [maxLen] at Y;omega
 have H:(xs++E).length=(n+m)*i.size:=by rw [qaf,F.1,V,qaI]
 rcases F.2 with ⟨rfl,rfl⟩ | ⟨g,cap,cur,rfl,ak,hg,az,av,ax,htake,Z⟩
 ·have hx:xs=[]:=List.eq_nil_of_length_eq_zero (by simpa using F.1);subst hx;have hr:=run_append_nil (P:=P) w t ty e i z ht hi hz a m c E V I ay (by omega) (by have hb:=O;simp only [qaT] at hb;omega);have aa:=grownCap_ge w m 0 e;refine⟨_,_,hr,⟨by simpa using H,.inr ⟨w.heap.size,_,_,by rw [qaT],U,heap_alloc_new w.drew _,by rw [qaT];exact aa,grownCap_le_maxLen w m 0 e (by simpa using Y),?_,?_,?_⟩⟩,qam ⟨rfl,rfl,rfl,rfl,by simp,fun k hk _=>qL w.drew _ k hk⟩⟩
  ·simp only [Array.size_append,qbX,size_zeroCells,ai,V,<-qaI]
   congr 1;omega
  ·rw [qaT,qbp,<-V,qbr];exact qb2
  ·intro x hx;rw [qbr] at hx;rcases qaL.1 hx with h | h
   ·exact ae x h
   ·exact qg2 ah _ x h
 ·by_cases J:n+m<=cap
  ·have ag:n*i.size+E.length<=cur.size:=by rw [V,ax,<-qaI];exact qaW _ J
   have hr:=run_append_room (P:=P) w t ty e i ht hi g n cap cur hg a m c E V I h1 J ag;refine⟨_,_,hr,⟨H,.inr ⟨g,cap,_,rfl,ak,qT w g cur _ e _ hg,J,av,?_,?_,?_⟩⟩,qaw ⟨rfl,rfl,rfl,rfl,by simp,fun k _ hk=>setRow_other w g k _ (fun e=>hk (by simp [Value.ownBlock,e]))⟩⟩
   ·simp only [qbX,qaf,qao,qaY,qa9];omega
   ·rw [htake,<-H];exact qb2
   ·intro x hx;rcases qaL.1 hx with h | h
    ·rcases qaL.1 h with h | h
     ·exact Z x (qbd h)
     ·exact ae x h
    ·exact Z x (List.mem_of_mem_drop h)
  ·have holds:∀j u,xs[j]? = some u->w.cell? ((⟨g,0,none⟩:Addr).add j)=some u:=F.own.cells (g:=g) rfl;have hr:=run_append_grow (P:=P) w t ty e i z ht hi hz ⟨g,0,none⟩ n cap xs F.1 holds a m c E V I (by omega) (by omega) (growslice_fits (by omega) O);have aa:=grownCap_ge w (n+m) cap e;refine⟨_,_,hr,⟨H,.inr ⟨w.heap.size,_,_,rfl,U,heap_alloc_new w.drew _,aa,grownCap_le_maxLen w (n+m) cap e Y,?_,?_,?_⟩⟩,qam ⟨rfl,rfl,rfl,rfl,by simp,fun k hk _=>qL w.drew _ k hk⟩⟩
   ·simp only [Array.size_append,qbX,size_zeroCells,ai,F.1,V,<-qaI]
    congr 1;omega
   ·simp only [qbr,qaG];rw [<-qaG,<-H];exact qb2
   ·intro x hx;rw [qbr,qbr] at hx;rcases qaL.1 hx with h | h
    ·rcases qaL.1 h with h | h
     ·rw [<-htake] at h;exact Z x (qbd (by simpa using h))
     ·exact ae x h
    ·exact qg2 ah _ x h
end
theorem qlg:∀y∈(Value.agg #[.string ⟨#[]⟩,.string ⟨#[]⟩]).cells.toList,qcM y:=by
 intro y hy;rcases qat.1 (show y∈[Value.string ⟨#[]⟩,Value.string ⟨#[]⟩] from hy) with rfl | hy
 ·exact qel _
 ·rw [qap.1 hy];exact qel _
theorem qjj (l:List FT):∀u∈fflat l,qcM u:=fun u E=>by
 unfold fflat at E;obtain⟨x,_,hx⟩:=List.mem_flatMap.1 E;rcases qat.1 hx with rfl | hx
 ·exact qel _
 ·rw [qap.1 hx];exact qel _
theorem qhH {w:World} {B:Nat} {v:Value} {n m c b off:Nat} {l l2:List FT} {U:Option Addr} (Y:TypeId) (F:Rws w B 27 2 v n (fflat l)) (hB:B<=w.heap.size) (V:FCells w U b off l2) (hm:l2.length=m) (H:0<m) (hn:n+m<=1000000) :
  ∃E w',(Builtin.append_ #[22,22] Y #[v,.slice U m c]).run prog w=.ok E w'/\Rws w' B 27 2 E (n+m) (fflat (l++l2))/\(E.ownBlock=v.ownBlock/\w.grownBy w' v.ownBlock\/E.ownBlock=some w.heap.size/\w.grownBy w' none):=by
 obtain⟨i0,hi,I,J,O⟩:=info_parts infoF;have ha:=V.addr (by omega);subst ha;obtain⟨E,w',hr,Z,h3⟩:=qhZ (P:=prog) w B 22 Y 27 i0 _ 2 32 underlying22 hi I J O rfl (by decide) qlg v n (fflat l) F ⟨b,off,none⟩ m c (fflat l2) (by rw [qcK,hm]) V.src (qhb _) (qjj _) H (by unfold maxLen;omega) (by omega) hB;exact⟨E,w',hr,by rw [qd5];exact Z,h3⟩
theorem fc_row {W:World} {g:Nat} {x1 x2:ByteArray} (hg:W.heap[g]? = some (.cells #[.string x1,.string x2] 27 (0,0))):FCells W (some ⟨g,0,none⟩) g 0 [(x1,x2)] :=
 ⟨fun _=>rfl,fun k E=>by
  obtain rfl:k=0:=by simp at E;omega
  exact⟨qC _ _ 0 _ _ _ hg,qC _ _ 1 _ _ _ hg⟩⟩
theorem qoQ {W:World} {B g:Nat} {x1 x2:ByteArray} (hg:W.heap[g]? = some (.cells #[.string x1,.string x2] 27 (0,0))) (hB:B<=g):Rws W B 27 2 (.slice (some ⟨g,0,none⟩) 1 1) 1 (fflat [(x1,x2)]) :=
 ⟨rfl,qam ⟨g,1,_,rfl,hB,hg,qad _,by decide,rfl,rfl,fun x hx=>by
  rcases qat.1 (show x∈[Value.string x1,Value.string x2] from hx) with rfl | hx
  ·exact qel _
  ·rw [qap.1 hx];exact qel _⟩⟩
theorem qdn {P:Program} {E:Array Oper} {rest:List Oper} {o:Oper} {a:Act} {w w':World} {Q:Exit->Act->World->Prop} (F:o.guard=none) (s x:Operand) (t:TypeId) (J:o.op=.call { callee:=.builtin .append,args:=#[s,x],argTypes:=#[t,t] }) {v u H:Value} (O:a.eval s=v) (hx:a.eval x=u)
  (hr:(Builtin.append_ #[t,t] o.type #[v,u]).run P w=.ok H w') (h:wpList P E Q rest (a.put o.dst H) w'):wpList P E Q (o :: rest) a w :=
 wpList_plain F fun _K I=>qpm (qkV J rfl O hx hr) (I _ _ h)
structure NCells (W:World) (ao:Option Addr) (b off:Nat) (l:List Int):Prop where
 addr:0<l.length->ao=some ⟨b,off,none⟩
 cell:∀k,k<l.length->W.cell? ⟨b,off+k,none⟩=some (.int .i64 (l.getD k 0))
theorem NCells.below {W W':World} {E:Option Addr} {b off:Nat} {l:List Int} (h:NCells W E b off l) (H:Below W.heap.size W W'):NCells W' E b off l :=
 ⟨h.addr,fun k F=>(H.cell (qae W _ (h.cell k F))).trans (h.cell k F)⟩
structure Pt where
 name:ByteArray
 dev:List Int
 l0:Int
 l1:Int
 l2:Int
def Pt.lab (p:Pt) (c:Nat):Int:=if c=0 then p.l0 else if c=1 then p.l1 else p.l2
def pt0:Pt:=⟨⟨#[]⟩,[],0,0,0⟩
structure PCells (W:World) (ao:Option Addr) (b off:Nat) (l:List Pt):Prop where
 addr:0<l.length->ao=some ⟨b,off,none⟩
 cell:∀k,k<l.length->W.cell? ⟨b,off+k*5,none⟩=some (.string (l.getD k pt0).name) /\
  (∃(ra:Option Addr) (rb ro rc:Nat),W.cell? ⟨b,off+k*5+1,none⟩=some (.slice ra (l.getD k pt0).dev.length rc)/\NCells W ra rb ro (l.getD k pt0).dev) /\
  W.cell? ⟨b,off+k*5+2,none⟩=some (.int .i64 (l.getD k pt0).l0)/\W.cell? ⟨b,off+k*5+3,none⟩=some (.int .i64 (l.getD k pt0).l1)/\W.cell? ⟨b,off+k*5+4,none⟩=some (.int .i64 (l.getD k pt0).l2)
theorem PCells.below {W W':World} {F:Option Addr} {b off:Nat} {l:List Pt} (h:PCells W F b off l) (E:Below W.heap.size W W'):PCells W' F b off l :=
 ⟨h.addr,fun k Y=>by
  obtain⟨H,⟨ra,rb,ro,rc,I,V⟩,J,O,U⟩:=h.cell k Y;exact⟨(E.cell (qae W _ H)).trans H,⟨ra,rb,ro,rc,(E.cell (qae W _ I)).trans I,V.below E⟩,
   (E.cell (qae W _ J)).trans J,(E.cell (qae W _ O)).trans O,(E.cell (qae W _ U)).trans U⟩⟩
def qdP (c:UInt8):Bool:=decide (65<=c.toNat/\c.toNat<=90) || decide (97<=c.toNat/\c.toNat<=122) || decide (48<=c.toNat/\c.toNat<=57) || decide (c.toNat=45) || decide (c.toNat=95)
def qk5 (s:ByteArray):Prop:=1<=s.size/\s.size<=12/\∀k (h:k<s.size),qdP s[k]=true
def qfo (d:List Int):Prop:=∀k,k<d.length->0<=d.getD k 0/\d.getD k 0<=10000
structure PtOk (p:Pt):Prop where
 name:qk5 p.name
 n1:1<=p.dev.length
 n4:p.dev.length<=4
 vals:qfo p.dev
 l0:0<=p.l0/\p.l0<=10000
 l1:-12800<=p.l1/\p.l1<=12700
 l2:-12800<=p.l2/\p.l2<=12700
def chans (l:List Pt):Nat:=(l.getD 0 pt0).dev.length
structure PtsOk (l:List Pt):Prop where
 r1:1<=l.length
 r2:l.length<=40
 rows:∀k,k<l.length->PtOk (l.getD k pt0)/\(l.getD k pt0).dev.length=chans l
 apart:∀i k,k<i->i<l.length->(l.getD k pt0).name≠(l.getD i pt0).name
theorem PtsOk.n1 {l:List Pt} (h:PtsOk l):1<=chans l:=(h.rows 0 h.r1).1.n1
theorem PtsOk.n4 {l:List Pt} (h:PtsOk l):chans l<=4:=(h.rows 0 h.r1).1.n4
def many (kind n:Nat):Nat:=if kind=1 then 1+n else if kind=2 then 1+2*n else 2 ^ n
def dq (d:List Int) (k:Nat):Rat:=(d.getD k 0:Rat) / 10000
def prods (d:List Int):Nat->List Rat
 | 0=>[1]
 | n+1=>prods d n++(prods d n).map fun p=>p*dq d n
def termL (kind:Nat) (d:List Int):List Rat :=
 if kind=1 then 1 :: (List.range d.length).map (dq d) else if kind=2 then 1 :: (List.range d.length).map (dq d)++(List.range d.length).map (fun k=>dq d k*dq d k) else prods d d.length
def termQ (kind:Nat) (d:List Int) (j:Nat):Rat:=(termL kind d).getD j 0
theorem qeX (d:List Int):∀n,(prods d n).length=2 ^ n
 | 0=>rfl
 | n+1=>by
  show (prods d n++_).length=_
  rw [qaf,qaD,qeX d n,qaF];omega
theorem qhS (kind:Nat) (d:List Int):(termL kind d).length=many kind d.length:=by
 unfold termL many;split
 ·simp;omega
 ·split
  ·simp;omega
  ·exact qeX d _
section
variable {P:Program}
theorem qeY (w:World) (base:Nat) (t ty e:TypeId) (i:TypeInfo) (z:Value) (size bytes:Nat) (ht:P.underlying t=some (.slice e)) (hi:P.info? e=some i) (hz:i.zero=some z)
  (aa:i.size=size) (ai:i.bytes=bytes) (af:z.cells.size=size) (ax:0<size)
  (v:Value) (n:Nat) (xs:List Value) (F:w.ownsRow base e size v n xs)
  (a:Addr) (m c:Nat) (E:List Value) (V:E.length=m*size) (I:∀j u,E[j]? = some u->w.cell? (a.add j)=some u) (h1:∀u∈E,u.oneCell'=true) (au:0<m)
  (Y:n+m<=maxLen) (O:(n+m)*bytes<=140737488355328) (U:base<=w.heap.size) :
  ∃v' w',(Builtin.append_ #[t,t] ty #[v,.slice (some a) m c]).run P w=.ok v' w'/\w'.ownsRow base e size v' (n+m) (xs++E)/\(v'.ownBlock=v.ownBlock/\w.grownBy w' v.ownBlock\/v'.ownBlock=some w.heap.size/\w.grownBy w' none):=by
 subst aa;subst ai;have ag:n+m<=9223372036854775807:=by simp only [maxLen] at Y;omega
 have H:(xs++E).length=(n+m)*i.size:=by rw [qaf,F.1,V,qaI]
 rcases F.2 with ⟨rfl,rfl⟩ | ⟨g,cap,cur,rfl,ah,hg,av,aj,ak,htake⟩
 ·have hx:xs=[]:=List.eq_nil_of_length_eq_zero (by simpa using F.1);subst hx;have hr:=run_append_nil (P:=P) w t ty e i z ht hi hz a m c E V I au (by omega) (by have hb:=O;simp only [qaT] at hb;omega);have Z:=grownCap_ge w m 0 e;refine⟨_,_,hr,⟨by simpa using H,.inr ⟨w.heap.size,_,_,by rw [qaT],U,heap_alloc_new w.drew _,by rw [qaT];exact Z,grownCap_le_maxLen w m 0 e (by simpa using Y),?_,?_⟩⟩,qam ⟨rfl,rfl,rfl,rfl,by simp,fun k hk _=>qL w.drew _ k hk⟩⟩
  ·simp only [Array.size_append,qbX,size_zeroCells,af,V,<-qaI]
   congr 1;omega
  ·rw [qaT,qbp,<-V,qbr];exact qb2
 ·by_cases J:n+m<=cap
  ·have ae:n*i.size+E.length<=cur.size:=by rw [V,ak,<-qaI];exact qaW _ J
   have hr:=run_append_room (P:=P) w t ty e i ht hi g n cap cur hg a m c E V I h1 J ae;refine⟨_,_,hr,⟨H,.inr ⟨g,cap,_,rfl,ah,qT w g cur _ e _ hg,J,aj,?_,?_⟩⟩,qaw ⟨rfl,rfl,rfl,rfl,by simp,fun k _ hk=>setRow_other w g k _ (fun e=>hk (by simp [Value.ownBlock,e]))⟩⟩
   ·simp only [qbX,qaf,qao,qaY,qa9];omega
   ·rw [htake,<-H];exact qb2
  ·have holds:∀j u,xs[j]? = some u->w.cell? ((⟨g,0,none⟩:Addr).add j)=some u:=F.cells (g:=g) rfl;have hr:=run_append_grow (P:=P) w t ty e i z ht hi hz ⟨g,0,none⟩ n cap xs F.1 holds a m c E V I (by omega) (by omega) (growslice_fits (by omega) O);have Z:=grownCap_ge w (n+m) cap e;refine⟨_,_,hr,⟨H,.inr ⟨w.heap.size,_,_,rfl,U,heap_alloc_new w.drew _,Z,grownCap_le_maxLen w (n+m) cap e Y,?_,?_⟩⟩,qam ⟨rfl,rfl,rfl,rfl,by simp,fun k hk _=>qL w.drew _ k hk⟩⟩
   ·simp only [Array.size_append,qbX,size_zeroCells,af,F.1,V,<-qaI]
    congr 1;omega
   ·simp only [qbr,qaG];rw [<-qaG,<-H];exact qb2
end
def IOwn (W:World) (B:Nat) (v:Value) (l:List Int):Prop:=W.ownsRow B 3 1 v l.length (l.map fun z=>.int .i64 z)
theorem infoI8:(Tryz.prog.info? 3).map (fun i=>(i.zero,i.size,i.bytes))=some (some (.int .i64 0),1,8):=by kernel_rfl
theorem qiD (l:List Int):∀u∈l.map (fun z=>Value.int .i64 z),u.oneCell'=true:=fun u E=>by
 obtain⟨z,_,rfl⟩:=qbb.1 E;rfl
theorem run_ints {w:World} {B:Nat} {v:Value} {l l2:List Int} {m c b off:Nat} (Z:TypeId) (F:IOwn w B v l) (hB:B<=w.heap.size) (hF:NCells w (some ⟨b,off,none⟩) b off l2) (hm:l2.length=m) (I:0<m) (hn:l.length+m<=1000000) :
  ∃E w',(Builtin.append_ #[30,30] Z #[v,.slice (some ⟨b,off,none⟩) m c]).run prog w=.ok E w'/\IOwn w' B E (l++l2)/\(E.ownBlock=v.ownBlock/\w.grownBy w' v.ownBlock\/E.ownBlock=some w.heap.size/\w.grownBy w' none):=by
 obtain⟨i0,hi,J,O,U⟩:=info_parts infoI8;subst hm;obtain⟨E,w',hr,h2,h3⟩:=qeY (P:=prog) w B 30 Z 3 i0 _ 1 8 underlying30 hi J O U rfl (by decide) v l.length _ F ⟨b,off,none⟩ l2.length c (l2.map fun z=>.int .i64 z) (by simp) (fun j u V=>by
   rw [qaP] at V;obtain⟨z,Y,rfl⟩:=Option.map_eq_some_iff.1 V;have H:=(qbI.1 Y).1;have:=hF.cell j H;rw [qaa,Y] at this;rw [Addr.add_mid];exact this) (qiD _) I (by unfold maxLen;omega) (by omega) hB
 exact⟨E,w',hr,by unfold IOwn;rw [qaf,qbh];exact h2,h3⟩
theorem qlE {w w':World} {J:Nat} {O:TypeId} {Y V:Nat} {v I x:Value} {E:List Value} (hx:w.ownsRow J O Y x V E) (hne:x.ownBlock=none\/x.ownBlock≠v.ownBlock) (h:I.ownBlock=v.ownBlock/\w.grownBy w' v.ownBlock\/I.ownBlock=some w.heap.size/\w.grownBy w' none) :
  w'.ownsRow J O Y x V E/\(x.ownBlock=none\/x.ownBlock≠I.ownBlock):=by
 rcases h with ⟨F,H⟩ | ⟨F,H⟩
 ·exact⟨hx.kept H hne,by rw [F];exact hne⟩
 ·refine⟨hx.kept H ?_,?_⟩
  ·rcases hne with h | h
   ·exact qaw h
   ·cases e:x.ownBlock with
    | none=>exact qaw rfl
    | some k=>exact qam (by simp)
  ·cases e:x.ownBlock with
   | none=>exact qaw rfl
   | some k =>
    refine qam fun U=>?_
    rw [F] at U;have:=(hx.lt k e).2;have:=qag U;omega
theorem own_below {w w':World} {B:Nat} {e:TypeId} {s n:Nat} {x:Value} {F:List Value} (hx:w.ownsRow B e s x n F) (J:Below w.heap.size w w'):w'.ownsRow B e s x n F:=by
 refine⟨hx.1,?_⟩;rcases hx.2 with h | ⟨g,cap,cur,rfl,H,E,I⟩
 ·exact qaw h
 ·exact qam ⟨g,cap,cur,rfl,H,(J.block g (qG E).1).trans E,I⟩
theorem IOwn.below {W w':World} {B:Nat} {v:Value} {l:List Int} (h:IOwn W B v l) (E:Below W.heap.size W w'):IOwn w' B v l:=own_below h E
theorem qhB {w:World} {B:Nat} {e:TypeId} {s n:Nat} {x:Value} {F:List Value} (hx:w.ownsRow B e s x n F):∃(E:Option Addr) (cap:Nat),x=.slice E n cap:=by
 rcases hx.2 with ⟨rfl,rfl⟩ | ⟨g,cap,cur,rfl,_⟩
 ·exact⟨none,0,rfl⟩
 ·exact⟨_,_,rfl⟩
theorem qfB {w:World} {B g:Nat} {e:TypeId} {cs:Array Value} {n:Nat} (hg:w.heap[g]? = some (.cells cs e (0,0))) (hB:B<=g) (F:cs.size=n) (E:n<=maxLen):w.ownsRow B e 1 (.slice (some ⟨g,0,none⟩) n n) n cs.toList:=by
 subst F;refine⟨by simp,qam ⟨g,_,cs,rfl,hB,hg,qad _,E,by omega,?_⟩⟩;rw [qbV,qah (by simp)]
theorem IOwn.cells {W:World} {B:Nat} {v:Value} {l:List Int} (h:IOwn W B v l) (H:0<l.length):∃g c,v=.slice (some ⟨g,0,none⟩) l.length c/\NCells W (some ⟨g,0,none⟩) g 0 l:=by
 have E:=h;rcases h.2 with ⟨_,h⟩ | ⟨g,cap,cur,rfl,_,_,_⟩
 ·omega
 ·refine⟨g,cap,rfl,fun _=>rfl,fun k F=>?_⟩;have:=World.ownsRow.cells E (g:=g) rfl k (.int .i64 (l.getD k 0)) (by rw [qaP,qaa,qac F];rfl)
  rwa [Addr.add_mid] at this
theorem IOwn.set {W:World} {B:Nat} {F:Option Addr} {n c:Nat} {l:List Int} (h:IOwn W B (.slice F n c) l) {i:Nat} (O:i<l.length) (z:Int):∃g,F=some ⟨g,0,none⟩/\B<=g/\(W.cell? ⟨g,i,none⟩=some (.int .i64 (l.getD i 0))/\W.frozen? ⟨g,i,none⟩=false)/\IOwn (W.setCell ⟨g,i,none⟩ (.int .i64 z)) B (.slice F n c) (l.set i z):=by
 have E:=h;rcases h.2 with ⟨_,Y⟩ | ⟨g,cap,cur,e,hB,hg,V,U,H,I⟩
 ·omega
 ·injection e with e1 e2 e3;subst e1 e3;have J:=World.ownsRow.cells (g:=g) E rfl i (.int .i64 (l.getD i 0)) (by rw [qaP,qac O,qaa,qac O];rfl);rw [Addr.add_mid,qaT] at J;refine⟨g,rfl,hB,⟨J,qF _ _ _ _ _ hg⟩,by simp,.inr ⟨g,c,_,by rw [qa8,e2],hB,heap_setCell_same _ g i _ _ (.int .i64 z) hg,by rw [qa8];exact V,U,by rw [Array.size_setIfInBounds];exact H,?_⟩⟩;rw [qa8,Array.toList_setIfInBounds,List.take_set,I,List.map_set]
theorem ints_row {W:World} {g:Nat} {q:List Int} {t:TypeId} (h:W.heap[g]? = some (.cells (q.map fun z=>Value.int .i64 z).toArray t (0,0))) (off:Nat):NCells W (some ⟨g,off,none⟩) g off (q.drop off) :=
 ⟨fun _=>rfl,fun k E=>by
  rw [qaY] at E;refine (qC _ _ _ _ _ _ h).trans ?_;rw [qaz,qaP,qaa,List.getElem?_drop,qac (by omega)];rfl⟩
theorem qiH (n:Nat) (J:n<=1000) (w:World):(Instr.makeSlice 30 (.int .i64 (n:Int)) (.int .i64 (n:Int))).run prog w=.ok (.slice (some ⟨w.heap.size,0,none⟩) n n) (w.alloc (.cells (madeCells #[.int .i64 0] n) 3)):=by
 obtain⟨i,I,E,F,H⟩:=info_parts infoI8;have h:=run_make (P:=prog) w 30 3 i _ underlying30 I E .i64 .i64 (n:Int) (n:Int) (by omega) (Int.le_refl _) (by rw [H];omega) (by omega);rw [F,qbO,qbV] at h;exact h
theorem qkd {W:World} {g B n:Nat} (hg:W.heap[g]? = some (.cells (madeCells #[.int .i64 0] n) 3 (0,0))) (hB:B<=g) (F:n<=1000):IOwn W B (.slice (some ⟨g,0,none⟩) n n) (List.replicate n 0):=by
 have e:(madeCells #[.int .i64 0] n).toList=(List.replicate n 0).map fun z=>Value.int .i64 z:=by
  rw [List.map_replicate,<-toList_madeCells_one]
 have E:(List.replicate n (0:Int)).length=n:=qaZ;unfold IOwn;rw [E];refine⟨by simp,.inr ⟨g,n,_,rfl,hB,hg,qad _,by unfold maxLen;omega,by rw [<-qa9,e];simp,?_⟩⟩;rw [e,qbV];exact qah (by simp)
theorem own_ne {w:World} {B I:Nat} {e F:TypeId} {s U n O:Nat} {x y:Value} {V Y:List Value} (hx:w.ownsRow B e s x n V) (hy:w.ownsRow I F U y O Y) (he:e≠F):x.ownBlock=none\/x.ownBlock≠y.ownBlock:=by
 rcases hx.2 with ⟨rfl,_⟩ | ⟨g,cap,cur,rfl,_,J,_⟩
 ·exact qaw rfl
 ·refine qam fun H=>?_
  rcases hy.2 with ⟨rfl,_⟩ | ⟨g',cap',cur',rfl,_,E,_⟩
  ·cases H
  ·have:g=g':=qag H;subst this;have:=J.symm.trans E;simp at this;exact he this.2
theorem qon (pt pl pr pc gt ct gl cl k j r c g n:Nat) (a1:Option Addr) (n1 c1:Nat) (b1:Bool) (T:Int) (m:Nat->Int) (K J:Nat) (aB:K+J+J<=274877906944) (w:World)
  (h1:w.cell? ⟨pt,0,none⟩=some (.slice (some ⟨gt,0,none⟩) k ct)) (h2:w.cell? ⟨pl,0,none⟩=some (.slice (some ⟨gl,0,none⟩) k cl)) (h3:w.cell? ⟨pr,0,none⟩=some (.int .i64 r)) (h4:w.cell? ⟨pc,0,none⟩=some (.int .i64 c))
  (h5:w.cell? ⟨gt,j*2,none⟩=some (.slice a1 n1 c1)) (h6:w.cell? ⟨gt,j*2+1,none⟩=some (.bool b1)) (h7:IntAt w (.agg #[.slice a1 n1 c1,.bool b1]) T) (h8:w.cell? ⟨gl,j,none⟩=some (rowv g n)) (h9:qcy w g n m)
  (hj:j<k) (_hk:k<=1048576) (hr:r<n) (hc:c<n) (_hn:n<=1048576) (hT:Fit T.natAbs K) (hm:∀i,i<n->Fit (m i).natAbs J) :
  Calls prog 239 #[.int .i64 j,.pointer (some ⟨pt,0,none⟩),.pointer (some ⟨pl,0,none⟩),.pointer (some ⟨pr,0,none⟩),.pointer (some ⟨pc,0,none⟩)] w fun e w'=>∃u,e=.returned u/\Below w.heap.size w w'/\IntAt w' u (T*m r*m c):=by
 obtain⟨H,V⟩:=qY (w.alloc (.cells #[.slice none 0 0,.bool false] 217));have F:Below w.heap.size w H:=V▸qb4 qB qN;have aj:H.heap[w.heap.size]? = some (.cells #[.slice none 0 0,.bool false] 217 (0,0)):=by rw [V];exact qM _ _ _ rfl
 have ai:qcu H w.heap.size 0:=⟨_,_,_,_,aj,_,rfl,MagAt.nil _⟩;obtain⟨a2,n2,c2,b2,p0,p1,i2⟩:=h9.pair hr;obtain⟨a3,n3,c3,b3,q0,q1,i3⟩:=h9.pair hc;have E:∀(p:Addr) (v:Value),w.cell? p=some v->∀W,H.grownBy W (some w.heap.size)->W.cell? p=some v:=fun p v h W hg=>by
  have Z:=qae w _ h;exact (qer hg (qai Z F.size) (Nat.ne_of_lt Z)).trans ((F.cell Z).trans h)
 have C1:=E _ _ h1;have C2:=E _ _ h2;have C3:=E _ _ h3;have C4:=E _ _ h4;have C5:=E _ _ h5;have C6:=E _ _ h6;have C8:=E _ _ h8;have C9:=E _ _ p0;have ay:=E _ _ p1;have az:=E _ _ q0;have aA:=E _ _ q1;have aD:(j:Int)<k:=by omega
 have aF:(r:Int)<n:=by omega
 have aC:(c:Int)<n:=by omega
 have ak:=qH (fun W (h:Below H.heap.size H W)=>qcU T (m r) K J (by omega) _ _ W (h7.below (F.trans (h.mono F.size))) (i2.below (F.trans (h.mono F.size))) hT (hm r hr));have af:Fit (T*m r).natAbs (K+J):=by rw [qaE];exact hT.mul (hm r hr)
 have au:=qH (fun W u (h:Below H.heap.size H W) (hu:IntAt W u (T*m r))=>qcU (T*m r) (m c) (K+J) J (by omega) u _ W hu (i3.below (F.trans (h.mono F.size))) af (hm c hc));have U:=qH (qA F ai);have ax:Below H.heap.size H H:=Below.refl _ _;have O:Below H.heap.size H H.drew:=ax.drew;clear E h1 h2 h3 h4 h5 h6 h7 h8 h9 p0 p1 q0 q1 i2 i3 af hT hm F aj ai;go_enter func239,ntmps239;go_wp2_with fail;rw [<-V];clear V
 go_region_held3 (fun W=>H.grownBy W (some w.heap.size)) (first | with_reducible exact qcw _ _ | with_reducible exact qch _ O | with_reducible exact qch _ Y | with_reducible exact qch _ I | exact qb5 (qb5 (qch _ I) (qb7 _ _ _ _)) (qb7 _ _ _ _)) (first | (go_at_call_of 153 (Value.agg #[.slice a1 n1 c1,.bool b1]);refine (ak.o _ O).mono ?_;rintro e w5 ⟨u5,rfl,ag,aa⟩;have Y:Below H.heap.size H w5:=bjoin O ag;have av:=qH aa;obtain⟨a5,n5,c5,b5,rfl⟩:=qb6 aa;clear ag aa) | (go_at_call 153;refine (au.o _ _ Y av.o).mono ?_;rintro e w6 ⟨u6,rfl,ah,ae⟩;have I:Below H.heap.size H w6:=bjoin Y ah;obtain⟨a6,n6,c6,b6,rfl⟩:=qb6 ae;obtain⟨_,_,_,_,⟨z0,z1⟩,⟨f0,f1⟩,_⟩:=(U.o.2.below I).cells;have HX:=qH ((U.o.2.below I).row2 ae);clear ah ae))
 all_goals go_wp2_with fail
 all_goals exact qR (v:=.agg #[.slice a6 n6 c6,.bool b6]) (rA_ rfl w.heap.size HX.o.1 underlying217 2) rfl ⟨_,rfl,((U.o.1.trans (I.mono U.o.1.size)).setCell (p:=⟨w.heap.size,0,none⟩) qN _).setCell (p:=⟨w.heap.size,1,none⟩) qN _,HX.o.2⟩
def wnum (wl:List FT) (i:Nat):Nat:=(ival (wl.getD i fd0).1.data.toList).natAbs
def wdn (t:Tbl) (bl wl:List FT) (i:Nat):Nat:=fden (wl.getD i fd0)*flcd (besides t bl i)*flcd (besides t bl i)
def ntop (t:Tbl) (bl wl:List FT) (i:Nat):Nat:=wnum wl i / (wnum wl i).gcd (wdn t bl wl i)
def nden (t:Tbl) (bl wl:List FT) (i:Nat):Nat:=wdn t bl wl i / (wnum wl i).gcd (wdn t bl wl i)
def nkeep (wl:List FT):Nat->List Nat
 | 0=>[]
 | i+1=>if wnum wl i=0 then nkeep wl i else nkeep wl i++[i]
theorem qga (wl:List FT):∀i,(nkeep wl i).length<=i/\∀x∈nkeep wl i,x<i/\wnum wl x≠0
 | 0=>⟨qad _,fun x hx=>by cases hx⟩
 | i+1=>by
  obtain⟨F,E⟩:=qga wl i
  by_cases e:wnum wl i=0
  ·simp only [nkeep,if_pos e];exact⟨by omega,fun x hx=>⟨by have:=(E x hx).1;omega,(E x hx).2⟩⟩
  ·simp only [nkeep,if_neg e];refine⟨by rw [qaf,qaH];omega,fun x hx=>?_⟩;rcases qaL.1 hx with h | h
   ·exact⟨by have:=(E x h).1;omega,(E x h).2⟩
   ·rw [qap.1 h];exact⟨by omega,e⟩
theorem qnX (wl:List FT) {i:Nat} (h:wnum wl i≠0):∀R,i<R->(nkeep wl R).getD (nkeep wl i).length 0=i/\(nkeep wl i).length<(nkeep wl R).length
 | 0,hi=>absurd hi (by omega)
 | R+1,hi=>by
  by_cases e:i=R
  ·subst e;simp only [nkeep,if_neg h];refine⟨?_,by rw [qaf,qaH];omega⟩;rw [qaa,qau qN,qaJ];rfl
  ·obtain⟨F,H⟩:=qnX wl h R (by omega)
   by_cases E:wnum wl R=0
   ·simp only [nkeep,if_pos E];exact⟨F,H⟩
   ·simp only [nkeep,if_neg E];refine⟨?_,by rw [qaf];omega⟩;rw [qaa,qax H,<-qaa];exact F
theorem qgD {S:List Nat} {x p:Nat} (E:p<S.length):(S++[x]).getD p 0=S.getD p 0:=by
 rw [qaa,qax E,<-qaa]
theorem qgC {S:List Nat} {x:Nat}:(S++[x]).getD S.length 0=x:=by
 rw [qaa,qau qN,qaJ];rfl
theorem qcR {S:List Nat} {p:Nat} (E:p<S.length):S.getD p 0∈S:=by
 rw [qaa,qac E];exact qbz E
structure NRow (t:Tbl) (bl wl:List FT) (i:Nat):Prop where
 fa:FAll (besides t bl i)
 len:(besides t bl i).length<=11
 wd:0<fden (wl.getD i fd0)/\Fit (fden (wl.getD i fd0)) 67
 wn:Fit (wnum wl i) 67
 nn:0<=ival (wl.getD i fd0).1.data.toList
theorem NRow.below {t:Tbl} {bl wl:List FT} {i:Nat} (h:NRow t bl wl i):0<flcd (besides t bl i)/\Fit (flcd (besides t bl i)) 738:=⟨qlf h.fa,(qfT h.fa h.len).mono (by omega)⟩
theorem NRow.d {t:Tbl} {bl wl:List FT} {i:Nat} (h:NRow t bl wl i):0<wdn t bl wl i/\Fit (wdn t bl wl i) 1543 :=
 ⟨qb3 (qb3 h.wd.1 h.below.1) h.below.1,((h.wd.2.mul h.below.2).mul h.below.2).mono (by omega)⟩
theorem NRow.g {t:Tbl} {bl wl:List FT} {i:Nat} (h:NRow t bl wl i):0<(wnum wl i).gcd (wdn t bl wl i)/\Fit ((wnum wl i).gcd (wdn t bl wl i)) 1543 :=
 ⟨qbe _ h.d.1,h.d.2.le (qbZ h.d.1 (qa4 _ _))⟩
theorem NRow.den {t:Tbl} {bl wl:List FT} {i:Nat} (h:NRow t bl wl i):0<nden t bl wl i/\Fit (nden t bl wl i) 1543 :=
 ⟨Nat.div_pos (qbZ h.d.1 (qa4 _ _)) h.g.1,h.d.2.le (qa2 _ _)⟩
theorem NRow.top {t:Tbl} {bl wl:List FT} {i:Nat} (h:NRow t bl wl i):Fit (ntop t bl wl i) 67:=h.wn.le (qa2 _ _)
theorem NRow.val {t:Tbl} {bl wl:List FT} {i:Nat} (h:NRow t bl wl i):(ntop t bl wl i:Rat)*((flcd (besides t bl i):Nat):Rat)*((flcd (besides t bl i):Nat):Rat)=lval wl i*(nden t bl wl i:Rat):=by
 have hg:=h.g.1;obtain⟨a,J⟩:=qbT (wnum wl i) (wdn t bl wl i);obtain⟨b,O⟩:=qa4 (wnum wl i) (wdn t bl wl i);have U:ntop t bl wl i=a:=by unfold ntop;(conv=>lhs;lhs;rw [J]);exact qa6 _ hg
 have V:nden t bl wl i=b:=by unfold nden;(conv=>lhs;lhs;rw [O]);exact qa6 _ hg
 rw [U,V];have hl:lval wl i=(wnum wl i:Rat) / ((fden (wl.getD i fd0):Nat):Rat):=by
  unfold lval;rw [qiB]
  congr 1
  have:(ival (wl.getD i fd0).1.data.toList:Int)=(wnum wl i:Int):=by have:=h.nn;unfold wnum;omega
  rw [this];rfl
 have aa:((fden (wl.getD i fd0):Nat):Rat)≠0:=by have:=qbu h.wd.1;exact_mod_cast this
 have Y:((wdn t bl wl i:Nat):Rat)=(fden (wl.getD i fd0):Rat)*(flcd (besides t bl i):Rat)*(flcd (besides t bl i):Rat):=by unfold wdn;push_cast;rfl
 have I:(wnum wl i:Rat)=((wnum wl i).gcd (wdn t bl wl i):Rat)*a:=by exact_mod_cast J
 have H:((wdn t bl wl i:Nat):Rat)=((wnum wl i).gcd (wdn t bl wl i):Rat)*b:=by exact_mod_cast O
 have Z:(((wnum wl i).gcd (wdn t bl wl i):Nat):Rat)≠0:=by have:=qbu hg;exact_mod_cast this
 rw [hl];generalize (((wnum wl i).gcd (wdn t bl wl i):Nat):Rat)=G at *;generalize ((flcd (besides t bl i):Nat):Rat)=F at *;generalize ((fden (wl.getD i fd0):Nat):Rat)=E at *;rw [Y] at H;rw [I];have:E*F*F=G*b:=H
 grind
def nall (t:Tbl) (bl wl:List FT) (S:List Nat):Nat:=lcms (S.map (nden t bl wl))
def nfac (t:Tbl) (bl wl:List FT) (S:List Nat) (i:Nat):Int:=(ntop t bl wl i:Int)*((nall t bl wl S / nden t bl wl i:Nat):Int)
def nterm (t:Tbl) (bl wl:List FT) (S:List Nat) (r c i:Nat):Int:=nfac t bl wl S i*ftop (besides t bl i) r*ftop (besides t bl i) c
theorem mapD {S:List Nat} {f:Nat->Nat} {p:Nat} (E:p<S.length):(S.map f).getD p 0=f (S.getD p 0):=by
 rw [qaa,qaP,qaa,qac E];rfl
theorem nall_pos {t:Tbl} {bl wl:List FT} {S:List Nat} (h:∀x∈S,NRow t bl wl x):0<nall t bl wl S:=by
 have:=qf5 (S.map (nden t bl wl)) (fun k E=>by rw [qaD] at E;rw [mapD E];exact (h _ (qcR E)).den.1) (S.map (nden t bl wl)).length qN
 rwa [qbl] at this
theorem qiN {t:Tbl} {bl wl:List FT} {S:List Nat} (h:∀x∈S,NRow t bl wl x) (hS:S.length<=40):Fit (nall t bl wl S) 61721:=by
 have:=qf4 (S.map (nden t bl wl)) 1543 (fun k E=>by rw [qaD] at E;rw [mapD E];exact (h _ (qcR E)).den) (S.map (nden t bl wl)).length qN;rw [qbl] at this;refine Fit.mono this ?_;rw [qaD];omega
theorem nall_dvd {t:Tbl} {bl wl:List FT} {S:List Nat} {p:Nat} (E:p<S.length):nden t bl wl (S.getD p 0)∣nall t bl wl S:=by
 have:=qiF (S.map (nden t bl wl)) (S.map (nden t bl wl)).length p (by rw [qaD];exact E) qN;rw [qbl,mapD E] at this;exact this
theorem qlz {t:Tbl} {bl wl:List FT} {S:List Nat} (h:∀x∈S,NRow t bl wl x) (hS:S.length<=40) {p:Nat} (E:p<S.length):Fit (nfac t bl wl S (S.getD p 0)).natAbs 61788:=by
 unfold nfac;rw [qaE,qas,qas];exact ((h _ (qcR E)).top.mul ((qiN h hS).le (qa2 _ _))).mono (by omega)
theorem qjH {t:Tbl} {bl wl:List FT} {S:List Nat} (h:∀x∈S,NRow t bl wl x) (hS:S.length<=40) {p r c:Nat} (F:p<S.length) (hr:r<(besides t bl (S.getD p 0)).length) (H:c<(besides t bl (S.getD p 0)).length):Fit (nterm t bl wl S r c (S.getD p 0)).natAbs 63398:=by
 have E:=h _ (qcR F);unfold nterm;rw [qaE,qaE];exact (((qlz h hS F).mul (qdq E.fa E.len hr)).mul (qdq E.fa E.len H)).mono (by omega)
theorem qop {t:Tbl} {bl wl:List FT} {S:List Nat} (h:∀x∈S,NRow t bl wl x) {p r c:Nat} (I:p<S.length) (hr:r<(besides t bl (S.getD p 0)).length) (Z:c<(besides t bl (S.getD p 0)).length) :
  ((nterm t bl wl S r c (S.getD p 0):Int):Rat)=(nall t bl wl S:Rat)*(lval wl (S.getD p 0)*(lval (besides t bl (S.getD p 0)) r*lval (besides t bl (S.getD p 0)) c)):=by
 have E:=h _ (qcR I);obtain⟨q,J⟩:=nall_dvd (t:=t) (bl:=bl) (wl:=wl) I;have hd:=E.den.1;have e:nall t bl wl S / nden t bl wl (S.getD p 0)=q:=by rw [J];exact qa6 _ hd
 have hv:=E.val;unfold nterm nfac;rw [e];have O:=qfV E.fa hr;have U:=qfV E.fa Z
 push_cast
 rw [O,U];have H:(nall t bl wl S:Rat)=(nden t bl wl (S.getD p 0):Rat)*q:=by exact_mod_cast J
 rw [H];generalize ((flcd (besides t bl (S.getD p 0)):Nat):Rat)=F at *;generalize ((nden t bl wl (S.getD p 0):Nat):Rat)=D at *;generalize ((ntop t bl wl (S.getD p 0):Nat):Rat)=T at *;generalize lval wl (S.getD p 0)=L at *;generalize lval (besides t bl (S.getD p 0)) r=X at *;generalize lval (besides t bl (S.getD p 0)) c=Y at *;have V:T*q*(F*X)*(F*Y)=(T*F*F)*q*X*Y:=by grind
 rw [V,hv];grind
def normQ (t:Tbl) (bl wl:List FT) (R:Nat) (r c:Nat):Rat:=sumQ R fun i=>lval wl i*(lval (besides t bl i) r*lval (besides t bl i) c)
theorem qhj (f:Nat->Int):∀k,((isum f k:Int):Rat)=sumQ k fun p=>((f p:Int):Rat)
 | 0=>rfl
 | k+1=>by
  show ((isum f k+f k:Int):Rat)=sumQ k _+_
  rw [<-qhj f k];push_cast;rfl
theorem qls (wl:List FT) (f:Nat->Rat):∀i,(∀x,x<i->wnum wl x=0->f x=0)->sumQ (nkeep wl i).length (fun p=>f ((nkeep wl i).getD p 0))=sumQ i f
 | 0,_=>rfl
 | i+1,h=>by
  have ih:=qls wl f i fun x hx=>h x (by omega)
  show _=sumQ i f+f i
  by_cases e:wnum wl i=0
  ·simp only [nkeep,if_pos e];rw [ih,h i (by omega) e];grind
  ·simp only [nkeep,if_neg e];rw [qaf,qaH]
   show sumQ (nkeep wl i).length _+f ((nkeep wl i++[i]).getD (nkeep wl i).length 0)=_
   rw [qgC,<-ih]
   congr 1
   exact qcc fun p E=>by rw [qgD E]
theorem qju {wl:List FT} {i:Nat} (h:wnum wl i=0):lval wl i=0:=by
 unfold lval;rw [qiB];have:ival (wl.getD i fd0).1.data.toList=0:=by unfold wnum at h;omega
 rw [this,show ((0:Int):Rat)=0 from rfl];grind
theorem norm_sum {t:Tbl} {bl wl:List FT} {R r c:Nat} (h:∀i,i<R->NRow t bl wl i) (H:∀i,i<R->r<(besides t bl i).length/\c<(besides t bl i).length) :
  ((isum (fun p=>nterm t bl wl (nkeep wl R) r c ((nkeep wl R).getD p 0)) (nkeep wl R).length:Int):Rat)=(nall t bl wl (nkeep wl R):Rat)*normQ t bl wl R r c:=by
 have E:=(qga wl R).2;rw [qhj];have I:sumQ (nkeep wl R).length (fun p=>((nterm t bl wl (nkeep wl R) r c ((nkeep wl R).getD p 0):Int):Rat))=sumQ (nkeep wl R).length (fun p=>(fun i=>(nall t bl wl (nkeep wl R):Rat)*(lval wl i*(lval (besides t bl i) r*lval (besides t bl i) c))) ((nkeep wl R).getD p 0)) :=
  qcc fun p F=>qop (fun x hx=>h x (E x hx).1) F (H _ (E _ (qcR F)).1).1 (H _ (E _ (qcR F)).1).2
 rw [I,qls wl (fun i=>(nall t bl wl (nkeep wl R):Rat)*(lval wl i*(lval (besides t bl i) r*lval (besides t bl i) c))) R (fun x _ hx=>by simp only [qju hx];grind),qcD]
 rfl
structure Soft (W W':World) (row:Option Nat):Prop where
 grown:W.grownBy W' row
 nn:∀g,row=some g->∃(cs:Array Value) (t:TypeId) (fz:Nat×Nat),W.heap[g]? = some (.cells cs t fz)/\∀x∈cs.toList,qcM x
theorem Soft.ofBelow {W W':World} (h:Below W.heap.size W W'):Soft W W' none:=⟨⟨h.os,h.tape,h.output,h.size,fun i E _=>h.block i E⟩,fun g e=>by cases e⟩
theorem Soft.ofSet {W:World} {g:Nat} {cs:Array Value} {t:TypeId} {E:Nat×Nat} (h:W.heap[g]? = some (.cells cs t E)) (F:∀x∈cs.toList,qcM x) (j:Nat) (v:Value):Soft W (W.setCell ⟨g,j,none⟩ v) (some g) :=
 ⟨qb7 W g j v,fun H e=>by cases e;exact⟨cs,t,E,h,F⟩⟩
theorem Soft.ofRws {W W':World} {base:Nat} {e:TypeId} {E:Nat} {v:Value} {n:Nat} {J:List Value} (h:Rws W base e E v n J) (hg:W.grownBy W' v.ownBlock):Soft W W' v.ownBlock:=by
 refine⟨hg,fun g F=>?_⟩;rcases h.2 with ⟨rfl,_⟩ | ⟨g',cap,cur,rfl,_,H,_,_,_,_,I⟩
 ·cases F
 ·cases F;exact⟨cur,_,_,H,I⟩
section
variable {W W':World} {row:Option Nat}
theorem Soft.mag (s:Soft W W' row) {u:Value} {x:Nat} (E:MagAt W u x):MagAt W' u x:=by
 cases row with
 | none=>exact E.below (qe8 s.grown)
 | some g =>
  obtain⟨cs,t,fz,h,F⟩:=s.nn g rfl;exact qcA E s.grown h (qoj F)
theorem Soft.pairs (s:Soft W W' row) {H:List (Value×Bool)} {z:Nat->Int} (F:qcJ W H z):qcJ W' H z:=fun k E=>⟨(F k E).1,s.mag (F k E).2⟩
theorem Soft.mags (s:Soft W W' row) {F:List Value} {H:List Nat} (E:qdU W F H):qdU W' F H:=⟨E.1,fun k I=>s.mag (E.2 k I)⟩
theorem Soft.introw (s:Soft W W' row) {g m:Nat} {z:Nat->Int} (I:qcy W g m z) (hne:row≠some g):qcy W' g m z:=by
 obtain⟨ps,F,E,H⟩:=I;exact⟨ps,F,⟨(s.grown.block _ (qG E.1).1 (fun e=>hne e.symm)).trans E.1,E.2⟩,s.pairs H⟩
theorem Soft.blk (s:Soft W W' row) {g:Nat} {o:Obj} (hr:W.heap[g]? = some o) (hne:row≠some g):W'.heap[g]? = some o :=
 (s.grown.block _ (qG hr).1 (fun e=>hne e.symm)).trans hr
theorem Soft.rws (s:Soft W W' row) {base:Nat} {e:TypeId} {E:Nat} {v:Value} {n:Nat} {F:List Value} (h:Rws W base e E v n F) (hne:v.ownBlock=none\/v.ownBlock≠row):Rws W' base e E v n F:=h.kept s.grown hne
theorem Soft.old (s:Soft W W' row) {a:World} {B:Nat} (E:Below B a W) (hr:∀k,row=some k->B<=k) (hB:B<=W.heap.size):Below B a W' :=
 E.trans ⟨s.grown.os,s.grown.tape,s.grown.output,s.grown.size,fun i F=>s.grown.block i (qai F hB) (fun e=>by have:=hr i e.symm;omega)⟩
end
theorem Rws.ne_row {w:World} {base:Nat} {e:TypeId} {E:Nat} {v:Value} {n:Nat} {J:List Value} (h:Rws w base e E v n J) {g:Nat} {cs:Array Value} {t:TypeId} {H:Nat×Nat} (hr:w.heap[g]? = some (.cells cs t H)) (hne:e≠t):v.ownBlock≠some g:=by
 intro F;rcases h.2 with ⟨rfl,_⟩ | ⟨g',cap,cur,rfl,_,I,_⟩
 ·cases F
 ·cases F;have:=I.symm.trans hr;simp at this;exact hne this.2.1
theorem Rws.ne_int {w:World} {base:Nat} {e:TypeId} {E:Nat} {v:Value} {n:Nat} {H:List Value} (h:Rws w base e E v n H) {g m:Nat} {z:Nat->Int} (hr:qcy w g m z) (hne:e≠217):v.ownBlock≠some g:=by
 obtain⟨ps,_,F,_⟩:=hr;exact h.ne_row F.1 hne
theorem Rws.ne_low {w:World} {base:Nat} {e:TypeId} {E:Nat} {v:Value} {n:Nat} {H:List Value} (h:Rws w base e E v n H) {g:Nat} (hg:g<base):v.ownBlock≠some g:=fun F=>by have:=(h.lt g F).1;omega
theorem or_ne {a b:Option Nat} (h:a≠b):a=none\/a≠b:=qam h
theorem qnO (E:List (Value×Bool)):∀(j:Nat) (x:Value×Bool),j<E.length->iflat (E.set j x)=((iflat E).set (j*2) x.1).set (j*2+1) (.bool x.2):=by
 induction E with
 | nil=>intro j x h;exact absurd h (by simp)
 | cons q E ih =>
  intro j x h;cases j with
  | zero=>rfl
  | succ j =>
   have e:∀l,iflat (q :: l)=q.1 :: .bool q.2 :: iflat l:=fun _=>rfl
   rw [List.set_cons_succ,e,e,ih j x (by simpa using h),show (j+1)*2=j*2+1+1 by omega];rfl
structure NSt (W:World) (h0:Nat) (t:Tbl) (bl wl:List FT) (n:Nat) (Sl St Sb:List Nat) (vl vt vb:Value) (gs:Nat->Nat) (ps:List (Value×Bool)) (vs:List Value) (T:Nat->Int):Prop where
 cs:W.heap[h0]? = some (.cells #[zs0] 262 (0,0))
 cl:W.heap[h0+1]? = some (.cells #[vl] 260 (0,0))
 ct:W.heap[h0+1+1]? = some (.cells #[vt] 212 (0,0))
 rl:Rws W (h0+1+1+1) 212 1 vl Sl.length (rowvs Sl.length (n+1) gs)
 rt:Rws W (h0+1+1+1) 217 2 vt St.length (iflat ps)
 rb:Rws W (h0+1+1+1) 213 1 vb Sb.length vs
 rows:∀p,p<Sl.length->qcy W (gs p) (n+1) (ftop (besides t bl (Sl.getD p 0)))
 ap:∀p,p<Sl.length->vt.ownBlock≠some (gs p)
 pt:qcJ W ps T
 pl:ps.length=St.length
 mb:qdU W vs (Sb.map (nden t bl wl))
section
variable {W:World} {h0:Nat} {t:Tbl} {bl wl:List FT} {n:Nat} {Sl St Sb:List Nat} {vl vt vb:Value} {gs:Nat->Nat} {ps:List (Value×Bool)} {vs:List Value} {T:Nat->Int}
theorem NSt.congrT {T':Nat->Int} (h:NSt W h0 t bl wl n Sl St Sb vl vt vb gs ps vs T) (e:∀p,p<St.length->T p=T' p):NSt W h0 t bl wl n Sl St Sb vl vt vb gs ps vs T' :=
 ⟨h.cs,h.cl,h.ct,h.rl,h.rt,h.rb,h.rows,h.ap,fun k E=>by rw [<-e k (by rw [<-h.pl];exact E)];exact h.pt k E,h.pl,h.mb⟩
theorem NSt.top (h:NSt W h0 t bl wl n Sl St Sb vl vt vb gs ps vs T) {j:Nat} (J:j<St.length):∃(g cap:Nat) (a:Option Addr) (m c:Nat) (b:Bool),vt=.slice (some ⟨g,0,none⟩) St.length cap/\g<W.heap.size/\h0+1+1+1<=g/\W.cell? ⟨g,j*2,none⟩=some (.slice a m c)/\W.cell? ⟨g,j*2+1,none⟩=some (.bool b)/\(∀k,W.frozen? ⟨g,k,none⟩=false)/\IntAt W (.agg #[.slice a m c,.bool b]) (T j):=by
 have I:=h.pl;obtain⟨a,m,c,b,e,H⟩:=qdE h.pt (k:=j) (by omega);rcases h.rt.2 with ⟨_,e0⟩ | ⟨g,cap,cur,e1,hB,hg,_⟩
 ·omega
 ·have F:=h.rt.own.cells (g:=g) (by rw [e1];rfl);obtain⟨d0,d1⟩:=qfY ps j (.slice a m c,b) (by rw [<-e,qaa,qac (by omega)];rfl);have E:=F _ _ d0;have c1:=F _ _ d1;rw [Addr.add_mid,qaT] at E c1;exact⟨g,cap,a,m,c,b,e1,(qG hg).1,hB,E,c1,fun k=>qF _ _ _ _ _ hg,H⟩
theorem NSt.below {W':World} (h:NSt W h0 t bl wl n Sl St Sb vl vt vb gs ps vs T) (E:Below W.heap.size W W'):NSt W' h0 t bl wl n Sl St Sb vl vt vb gs ps vs T :=
 have s:=Soft.ofBelow E
 ⟨s.blk h.cs (by simp),s.blk h.cl (by simp),s.blk h.ct (by simp),h.rl.below E,h.rt.below E,h.rb.below E,fun p F=>s.introw (h.rows p F) (by simp),h.ap,s.pairs h.pt,h.pl,s.mags h.mb⟩
theorem qfg {v:Value} {base:Nat} {e:TypeId} {E n:Nat} {H:List Value} (h:Rws W base e E v n H):qcM v:=by
 intro k d F;rcases h.2 with ⟨rfl,_⟩ | ⟨g,cap,cur,rfl,_⟩
 ·cases F
 ·cases F
theorem qhw {v:Value} (h:qcM v):∀x∈(#[v]:Array Value).toList,qcM x:=fun x hx=>by rw [qap.1 hx];exact h
theorem qkU {k n g:Nat} {E:Nat->Nat}:rowvs (k+1) n (fun p=>if p=k then g else E p)=rowvs k n E++[rowv g n]:=by
 unfold rowvs;rw [List.range_succ,qbh]
 congr 1
 ·exact List.map_congr_left fun i F=>by
   have:=qaq.1 F;simp only [if_neg (show ¬i=k by omega)]
 ·simp only [List.map_cons,List.map_nil,if_true]
theorem qmJ (k n g:Nat) (E:Nat->Nat):rowvs (k+1) n (fun p=>if p=k then g else E p)=rowvs k n E++[rowv g n]:=by
 unfold rowvs;rw [List.range_succ,qbh]
 congr 1
 ·exact List.map_congr_left fun i F=>by
   have:=qaq.1 F;simp only [if_neg (show ¬i=k by omega)]
 ·simp only [List.map_cons,List.map_nil,if_true]
theorem NSt.addL (h:NSt W h0 t bl wl n Sl St Sb vl vt vb gs ps vs T) {g i:Nat} (hg:qcy W g (n+1) (ftop (besides t bl i))) (hne:vt.ownBlock≠some g) {O:World} {E:Value}
  (hr:Rws O (h0+1+1+1) 212 1 E (Sl.length+1) (rowvs Sl.length (n+1) gs++[rowv g (n+1)])) (Y:W.grownBy O vl.ownBlock) :
  NSt (O.setCell ⟨h0+1,0,none⟩ E) h0 t bl wl n (Sl++[i]) St Sb E vt vb (fun p=>if p=Sl.length then g else gs p) ps vs T:=by
 have H:=Soft.ofRws h.rl Y;have c1:=H.blk h.cl (h.rl.ne_low (by omega));have J:=Soft.ofSet c1 (qhw (qfg h.rl)) 0 E;have F:∀{base:Nat} {e:TypeId} {I:Nat} {v:Value} {m:Nat} {xs:List Value},Rws O (h0+1+1+1) e I v m xs->Rws (O.setCell ⟨h0+1,0,none⟩ E) (h0+1+1+1) e I v m xs:=fun r=>J.rws r (or_ne (r.ne_low (by omega)))
 have U:∀{V:Nat} {z:Nat->Int},qcy W V (n+1) z->qcy (O.setCell ⟨h0+1,0,none⟩ E) V (n+1) z:=fun {V z} r=>by
  have r1:=H.introw r (h.rl.ne_int r (by decide));refine J.introw r1 fun e=>?_
  cases e;obtain⟨ps',_,h2,_⟩:=r1;have:=h2.1.symm.trans c1;simp at this
 refine⟨J.blk (H.blk h.cs (h.rl.ne_low (by omega))) (by simp),?_,J.blk (H.blk h.ct (h.rl.ne_low (by omega))) (by simp),?_,F (base:=0) (H.rws h.rt (h.rt.ne h.rl (by decide))),F (base:=0) (H.rws h.rb (h.rb.ne h.rl (by decide))),fun p Z=>?_,fun p Z=>?_,J.pairs (H.pairs h.pt),h.pl,J.mags (H.mags h.mb)⟩
 ·exact heap_setCell_same _ _ 0 _ _ _ c1
 ·rw [qaf,qaH,qmJ];exact F (base:=0) hr
 ·rw [qaf,qaH] at Z
  by_cases e:p=Sl.length
  ·subst e;simp only [if_true];rw [qgC];exact U hg
  ·simp only [if_neg e];rw [qgD (by omega)];exact U (h.rows p (by omega))
 ·rw [qaf,qaH] at Z
  by_cases e:p=Sl.length
  ·subst e;simp only [if_true];exact hne
  ·simp only [if_neg e];exact h.ap p (by omega)
theorem nst_cl (h:NSt W h0 t bl wl n Sl St Sb vl vt vb gs ps vs T) {F:World} (E:W.grownBy F vl.ownBlock):F.cell? ⟨h0+1,0,none⟩=some vl/\F.frozen? ⟨h0+1,0,none⟩=false:=by
 have c1:=(Soft.ofRws h.rl E).blk h.cl (h.rl.ne_low (by omega));exact⟨qC _ _ 0 _ _ _ c1,qF _ _ 0 _ _ c1⟩
theorem nst_soft (h:NSt W h0 t bl wl n Sl St Sb vl vt vb gs ps vs T) {H:World} (F:W.grownBy H vl.ownBlock) (u:Value) :
  (∀v x,MagAt W v x->MagAt (H.setCell ⟨h0+1,0,none⟩ u) v x)/\∀(a:World) (B:Nat),Below B a W->B<=h0+1->B<=W.heap.size->Below B a (H.setCell ⟨h0+1,0,none⟩ u):=by
 have E:=Soft.ofRws h.rl F;have c1:=E.blk h.cl (h.rl.ne_low (by omega));have J:=Soft.ofSet c1 (qhw (qfg h.rl)) 0 u;exact⟨fun v x U=>J.mag (E.mag U),fun a B O V I=>J.old (E.old O (fun k e=>by have:=(h.rl.lt k e).1;omega) I) (fun k e=>by have:=qag e;omega) (qak I E.grown.size)⟩
theorem qom (h:NSt W h0 t bl wl n Sl St Sb vl vt vb gs ps vs T) {H:World} (F:W.grownBy H vt.ownBlock) (u:Value) :
  (∀v x,MagAt W v x->MagAt (H.setCell ⟨h0+1+1,0,none⟩ u) v x)/\∀(a:World) (B:Nat),Below B a W->B<=h0+1->B<=W.heap.size->Below B a (H.setCell ⟨h0+1+1,0,none⟩ u):=by
 have E:=Soft.ofRws h.rt F;have c1:=E.blk h.ct (h.rt.ne_low (by omega));have J:=Soft.ofSet c1 (qhw (qfg h.rt)) 0 u;exact⟨fun v x U=>J.mag (E.mag U),fun a B O V I=>J.old (E.old O (fun k e=>by have:=(h.rt.lt k e).1;omega) I) (fun k e=>by have:=qag e;omega) (qak I E.grown.size)⟩
theorem nst_ct (h:NSt W h0 t bl wl n Sl St Sb vl vt vb gs ps vs T) {F:World} (E:W.grownBy F vt.ownBlock):F.cell? ⟨h0+1+1,0,none⟩=some vt/\F.frozen? ⟨h0+1+1,0,none⟩=false:=by
 have c1:=(Soft.ofRws h.rt E).blk h.ct (h.rt.ne_low (by omega));exact⟨qC _ _ 0 _ _ _ c1,qF _ _ 0 _ _ c1⟩
theorem NSt.addT (h:NSt W h0 t bl wl n Sl St Sb vl vt vb gs ps vs T) {i:Nat} {m:Value} (hm:MagAt W m (T St.length).natAbs) {O:World} {E:Value}
  (hr:Rws O (h0+1+1+1) 217 2 E (St.length+1) (iflat ps++[m,.bool (decide (T St.length<0))])) (Y:W.grownBy O vt.ownBlock) (ho:E.ownBlock=vt.ownBlock\/E.ownBlock=some W.heap.size) :
  NSt (O.setCell ⟨h0+1+1,0,none⟩ E) h0 t bl wl n Sl (St++[i]) Sb vl E vb gs (ps++[(m,decide (T St.length<0))]) vs T:=by
 have H:=Soft.ofRws h.rt Y;have c1:=H.blk h.ct (h.rt.ne_low (by omega));have I:=Soft.ofSet c1 (qhw (qfg h.rt)) 0 E;have F:∀{e:TypeId} {size:Nat} {v:Value} {m:Nat} {Z:List Value},Rws O (h0+1+1+1) e size v m Z->Rws (O.setCell ⟨h0+1+1,0,none⟩ E) (h0+1+1+1) e size v m Z:=fun r=>I.rws r (or_ne (r.ne_low (by omega)))
 refine⟨I.blk (H.blk h.cs (h.rt.ne_low (by omega))) (fun e=>by have:=qag e;omega),I.blk (H.blk h.cl (h.rt.ne_low (by omega))) (fun e=>by have:=qag e;omega),?_,F (H.rws h.rl (h.rl.ne h.rt (by decide))),?_,F (H.rws h.rb (h.rb.ne h.rt (by decide))),fun p J=>?_,fun p J=>?_,?_,?_,I.mags (H.mags h.mb)⟩
 ·exact heap_setCell_same _ _ 0 _ _ _ c1
 ·rw [qaf,qaH,qfX];exact F hr
 ·have r1:=H.introw (h.rows p J) (h.ap p J);refine I.introw r1 fun e=>?_
  have V:=qag e;obtain⟨ps',_,U,_⟩:=r1;rw [<-V] at U;have:=U.1.symm.trans c1;simp at this
 ·rcases ho with e | e
  ·rw [e];exact h.ap p J
  ·rw [e];intro V;obtain⟨ps',_,U,_⟩:=h.rows p J;have:=(qG U.1).1;have:=qag V;omega
 ·have:=(I.pairs (H.pairs h.pt)).snoc (v:=m) (by rw [h.pl];exact I.mag (H.mag hm));rw [h.pl] at this;exact this
 ·rw [qaf,qaf,h.pl];rfl
theorem NSt.addT2 (h:NSt W h0 t bl wl n Sl St Sb vl vt vb gs ps vs T) {i:Nat} {a:Option Addr} {m c:Nat} {b:Bool} {z:Int} (J:z=T St.length) (O:IntAt W (.agg #[.slice a m c,.bool b]) z) {H:World} {E:Value}
  (hr:Rws H (h0+1+1+1) 217 2 E (St.length+1) (iflat ps++[.slice a m c,.bool b])) (F:W.grownBy H vt.ownBlock) (U:E.ownBlock=vt.ownBlock\/E.ownBlock=some W.heap.size) :
  NSt (H.setCell ⟨h0+1+1,0,none⟩ E) h0 t bl wl n Sl (St++[i]) Sb vl E vb gs (ps++[(.slice a m c,b)]) vs T:=by
 obtain⟨m',e,I⟩:=O;simp only [qaX,qa1,qaV,qbA] at e;obtain⟨e1,e2,_⟩:=e;rw [<-e1,J] at I;rw [J] at e2;rw [e2] at hr ⊢;exact h.addT I hr F U
theorem NSt.addB (h:NSt W h0 t bl wl n Sl St Sb vl vt vb gs ps vs T) {i:Nat} {m:Value} (O:MagAt W m (nden t bl wl i)) {I:World} {F:Value}
  (hr:Rws I (h0+1+1+1) 213 1 F (Sb.length+1) (vs++[m])) (H:W.grownBy I vb.ownBlock) :
  NSt I h0 t bl wl n Sl St (Sb++[i]) vl vt F gs ps (vs++[m]) T:=by
 have E:=Soft.ofRws h.rb H;refine⟨E.blk h.cs (h.rb.ne_low (by omega)),E.blk h.cl (h.rb.ne_low (by omega)),E.blk h.ct (h.rb.ne_low (by omega)),E.rws h.rl (h.rl.ne h.rb (by decide)),E.rws h.rt (h.rt.ne h.rb (by decide)),?_,fun p J=>E.introw (h.rows p J) (h.rb.ne_int (h.rows p J) (by decide)),h.ap,E.pairs h.pt,h.pl,?_⟩
 ·rw [qaf,qaH];exact hr
 ·rw [qbh];exact (E.mags h.mb).snoc (E.mag O)
theorem NSt.setSoft {g m cap:Nat} (h:NSt W h0 t bl wl n Sl St Sb vl (.slice (some ⟨g,0,none⟩) m cap) vb gs ps vs T) (j U:Nat) (u V:Value):Soft W ((W.setCell ⟨g,j,none⟩ u).setCell ⟨g,U,none⟩ V) (some g):=by
 rcases h.rt.2 with ⟨e,_⟩ | ⟨F,cap',cur,e,hB,hg,J,H,I,O,E⟩
 ·cases e
 simp only [qbY,Option.some.injEq,Addr.mk.injEq] at e;obtain⟨⟨rfl,_⟩,_,rfl⟩:=e;exact⟨qb5 (qb7 _ _ _ _) (qb7 _ _ _ _),fun F e=>by cases e;exact⟨_,_,_,hg,E⟩⟩
theorem NSt.setT {g cap:Nat} (h:NSt W h0 t bl wl n Sl St Sb vl (.slice (some ⟨g,0,none⟩) St.length cap) vb gs ps vs T) {j:Nat} (hj:j<St.length) {a:Option Addr} {m c:Nat} {b:Bool} {z:Int} (hi:IntAt W (.agg #[.slice a m c,.bool b]) z) :
  NSt ((W.setCell ⟨g,j*2,none⟩ (.slice a m c)).setCell ⟨g,j*2+1,none⟩ (.bool b)) h0 t bl wl n Sl St Sb vl (.slice (some ⟨g,0,none⟩) St.length cap) vb gs (ps.set j (.slice a m c,b)) vs (fun p=>if p=j then z else T p):=by
 obtain⟨hl,Y⟩:=h.rt;rcases Y with ⟨e,_⟩ | ⟨g',cap',cur,e,hB,hg,V,J,O,Z,H⟩
 ·cases e
 simp only [qbY,Option.some.injEq,Addr.mk.injEq] at e;obtain⟨⟨rfl,_⟩,_,rfl⟩:=e;have U:=heap_setCell_same _ g (j*2+1) _ _ (.bool b) (heap_setCell_same _ g (j*2) _ _ (.slice a m c) hg);have E:Soft W ((W.setCell ⟨g,j*2,none⟩ (.slice a m c)).setCell ⟨g,j*2+1,none⟩ (.bool b)) (some g):=⟨qb5 (qb7 _ _ _ _) (qb7 _ _ _ _),fun g' e=>by cases e;exact⟨_,_,_,hg,H⟩⟩;have ne:∀{x:Nat},x<h0+1+1+1->(some g:Option Nat)≠some x:=fun hx e=>by have:=qag e;omega
 have I:=h.pl;refine⟨E.blk h.cs (ne (by omega)),E.blk h.cl (ne (by omega)),E.blk h.ct (ne (by omega)),E.rws h.rl (h.rl.ne h.rt (by decide)),⟨by rw [qeq,qa8,I],qam ⟨g,cap,_,rfl,hB,U,V,J,by rw [Array.size_setIfInBounds,Array.size_setIfInBounds];exact O,?_,?_⟩⟩,E.rws h.rb (h.rb.ne h.rt (by decide)),fun p hp=>E.introw (h.rows p hp) (h.ap p hp),h.ap,?_,by rw [qa8];exact I,E.mags h.mb⟩
 ·rw [Array.toList_setIfInBounds,Array.toList_setIfInBounds,List.take_set,List.take_set,Z];exact (qnO ps j (.slice a m c,b) (by omega)).symm
 ·intro x hx;rw [Array.toList_setIfInBounds,Array.toList_setIfInBounds] at hx;rcases List.mem_or_eq_of_mem_set hx with hx | rfl
  ·rcases List.mem_or_eq_of_mem_set hx with hx | rfl
   ·exact H x hx
   ·exact fun k d e=>by cases e
  ·exact fun k d e=>by cases e
 ·intro k hk;rw [qa8] at hk
  by_cases e:k=j
  ·subst e;simp only [if_true];rw [qaa,List.getElem?_set_self (by omega)];obtain⟨m',e,hm⟩:=hi;simp only [qaX,qa1,qaV,qbA] at e;have F:=E.mag hm;rw [<-e.1] at F;exact⟨e.2.1,F⟩
  ·simp only [if_neg e];rw [qaa,qbQ (fun h=>e h.symm),<-qaa];exact E.pairs h.pt k hk
theorem NSt.soft {W':World} {row:Option Nat} (h:NSt W h0 t bl wl n Sl St Sb vl vt vb gs ps vs T) (s:Soft W W' row) (hr:∀g,row=some g->h0+1+1+1<=g/\vl.ownBlock≠some g/\vt.ownBlock≠some g/\vb.ownBlock≠some g/\∀p,p<Sl.length->gs p≠g):NSt W' h0 t bl wl n Sl St Sb vl vt vb gs ps vs T:=by
 cases row with
 | none=>exact h.below (qe8 s.grown)
 | some g =>
  obtain⟨O,F,H,I,J⟩:=hr g rfl;have ne:∀{x:Nat},x<h0+1+1+1->(some g:Option Nat)≠some x:=fun hx e=>by have:=qag e;omega
  exact⟨s.blk h.cs (ne (by omega)),s.blk h.cl (ne (by omega)),s.blk h.ct (ne (by omega)),s.rws h.rl (or_ne F),s.rws h.rt (or_ne H),s.rws h.rb (or_ne I),fun p E=>s.introw (h.rows p E) (fun e=>J p E (qag e).symm),h.ap,s.pairs h.pt,h.pl,s.mags h.mb⟩
theorem NSt.lt (h:NSt W h0 t bl wl n Sl St Sb vl vt vb gs ps vs T) {g:Nat} (hg:W.heap.size<=g):h0+1+1+1<=g/\vl.ownBlock≠some g/\vt.ownBlock≠some g/\vb.ownBlock≠some g/\∀p,p<Sl.length->gs p≠g:=by
 have H:=(qG h.ct).1;refine⟨by omega,fun e=>?_,fun e=>?_,fun e=>?_,fun p F e=>?_⟩
 ·have:=(h.rl.lt g e).2;omega
 ·have:=(h.rt.lt g e).2;omega
 ·have:=(h.rb.lt g e).2;omega
 ·obtain⟨ps',_,E,_⟩:=h.rows p F;have:=(qG E.1).1;omega
theorem qoo {k:Nat} {al J:Option Addr} {cl ct:Nat} (hk:Sl.length=k) (h:NSt W h0 t bl wl n Sl Sl Sl (.slice al k cl) (.slice J k ct) vb gs ps vs (fun p=>nfac t bl wl Sl (Sl.getD p 0))) (hS:∀x∈Sl,NRow t bl wl x/\(besides t bl x).length=n+1) (af:k<=40) {r c p hr U:Nat} (hp:p<k) (Z:r<n+1) (V:c<n+1) (hn:n<=10)
  (cr:W.cell? ⟨hr,0,none⟩=some (.int .i64 r)) (cc:W.cell? ⟨U,0,none⟩=some (.int .i64 c)) :
  Calls prog 239 #[.int .i64 p,.pointer (some ⟨h0+1+1,0,none⟩),.pointer (some ⟨h0+1,0,none⟩),.pointer (some ⟨hr,0,none⟩),.pointer (some ⟨U,0,none⟩)] W fun e w'=>∃u,e=.returned u/\Below W.heap.size W w'/\IntAt w' u (nterm t bl wl Sl r c (Sl.getD p 0)):=by
 have E:p<Sl.length:=by omega
 have H:=hS _ (qcR E);obtain⟨gt,ae,a2,m2,d2,b2,et,_,_,t0,t1,_,Y⟩:=h.top E;rw [hk] at et;simp only [qbY,true_and] at et;obtain⟨rfl,rfl⟩:=et;obtain⟨ao,gl,aa,el,I,_⟩:=h.rl.vcells;rw [hk] at el;simp only [qbY,true_and] at el;obtain⟨rfl,rfl⟩:=el;have O:=I.addr (by rw [qcY];omega);subst O;have F:=I.cell p (by rw [qcY];exact E);rw [qaT,qaa,qev E] at F;exact qon (h0+1+1) (h0+1) hr U gt ct gl cl k p r c (gs p) (n+1) a2 m2 d2 b2 _ _ 61788 4356 (by omega) W (qC _ _ 0 _ _ _ h.ct) (qC _ _ 0 _ _ _ h.cl) cr cc t0 t1 Y F (h.rows p E) hp (by omega) Z V (by omega) (qlz (fun x hx=>(hS x hx).1) (by omega) E) (fun i hi=>(qdq H.1.fa (m:=63) (by omega) (by omega)).mono (by omega))
end
theorem qjN {W:World} {E R k n g:Nat} {F:Nat->Nat} (h:W.heap[E]? = some (.cells (rowvs k n F++List.replicate (R-k) zs0).toArray 212 (0,0))) (I:k<R) :
  (W.setCell ⟨E,k,none⟩ (rowv g n)).heap[E]? = some (.cells (rowvs (k+1) n (fun j=>if j=k then g else F j)++List.replicate (R-(k+1)) zs0).toArray 212 (0,0)):=by
 rw [heap_setCell_same _ E k _ _ _ h]
 congr 3
 obtain⟨m,H⟩:∃m,R-k=m+1:=⟨R-k-1,by omega⟩;rw [qaQ,H,qby,qbi _ _ (by rw [qcY];exact qad _),qcY,qaJ,qbx,show R-(k+1)=m by omega];rw [qkU,qaG];rfl
theorem qjM {W:World} {H R k n:Nat} {E:Nat->Nat} (h:W.heap[H]? = some (.cells (rowvs k n E++List.replicate (R-k) zs0).toArray 212 (0,0))) {j:Nat} (F:j<k):W.cell? ⟨H,j,none⟩=some (rowv (E j) n):=by
 refine (qC _ _ _ _ _ _ h).trans ?_;rw [qaz,qax (by rw [qcY];exact F),qev F]
