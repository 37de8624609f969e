import Derived.Defers
import Derived.Recover
import Derived.Test.YtplkdeknjghobaaGreatDoorBe17
set_option maxRecDepth 100000
set_option maxHeartbeats 0
namespace Go.Proofs.YtplkdeknjghobaaGreatDoor
open Go Go.RowKit
theorem nw1 (w:World) (a:Array Value) (t:TypeId):∃W,W=w.alloc (.cells a t)/\Kn (fun W=>Below w.heap.size w W/\W.heap[w.heap.size]? = some (.cells a t (0,0))) W :=
 ⟨_,rfl,.of ⟨qB.alloc qN _,qM _ _ _ rfl⟩⟩
theorem nw2 (w:World) (a:Array Value) (t:TypeId) (b:Array Value) (u:TypeId):∃W,W=(w.alloc (.cells a t)).alloc (.cells b u) /\
  Kn (fun W=>Below w.heap.size w W/\W.heap[w.heap.size]? = some (.cells a t (0,0))/\W.heap[w.heap.size+1]? = some (.cells b u (0,0))) W :=
 ⟨_,rfl,.of ⟨(qB.alloc qN _).alloc (by simp) _,
  (qL _ _ _ (by simp only [qab];omega)).trans (qM _ _ _ rfl),qM _ _ _ (by simp)⟩⟩
theorem nw3 (w:World) (a:Array Value) (t:TypeId) (b:Array Value) (u:TypeId) (c:Array Value) (v:TypeId):∃W,W=((w.alloc (.cells a t)).alloc (.cells b u)).alloc (.cells c v) /\
  Kn (fun W=>Below w.heap.size w W/\W.heap[w.heap.size]? = some (.cells a t (0,0))/\W.heap[w.heap.size+1]? = some (.cells b u (0,0))/\W.heap[w.heap.size+1+1]? = some (.cells c v (0,0))) W :=
 ⟨_,rfl,.of ⟨((qB.alloc qN _).alloc (by simp) _).alloc (by simp;omega) _,
  (qL _ _ _ (by simp only [qab];omega)).trans ((qL _ _ _ (by simp only [qab];omega)).trans (qM _ _ _ rfl)),
  (qL _ _ _ (by simp only [qab];omega)).trans (qM _ _ _ (by simp)),qM _ _ _ (by simp)⟩⟩
section
variable {P:Program} {ops:Array Oper} {Q:Exit->Act->World->Prop} {md:Region.Mode} {S:World->Prop} {fuel:Nat} {listed:Array Bool} {a a':Act} {w:World} {o:Oper}
theorem hCx (i:Nat) {f:FuncId} {vs:Array Value} {R:Ending->World->Prop} (hc:Calls P f vs w R) (hi':nthOp ops.toList i=some o:=by rfl) (hr:decide (Region.ready md ops listed=[i])=true:=by kernel_rfl)
  (hw:Region.wanted o (yielded ops a.tmps)=true:=by rfl) (he:(execOp a.eval o).run P w=.ok (.enter f vs) w:=by (go_simp <;> with_reducible rfl))
  (h:∀e w',R e w'->(∃v,e=.returned v/\S w'/\wpAnyH P md ops Q S fuel (listed.setIfInBounds i true) (a.put o.dst v) w')\/∃ch,e=.panicked ch/\Q (.panic ch) a w'):wpAnyH P md ops Q S (fuel+1) listed a w :=
 qhr i hi' hr fun K hK=>by
  rw [if_pos hw];unfold Oper.wp;rw [he,Oper.upon_enter];refine hc.mono fun e w' r=>?_
  rcases h e w' r with ⟨v,rfl,h1,h2⟩ | ⟨ch,rfl,h⟩
  ·exact hK.on S _ _ (fun _ h=>h) h1 fun _=>h2
  ·exact h
end
theorem keepB {a b:World} {g:Nat} (h:Below a.heap.size a b):a.grownBy b (some g):=qb2 g h
theorem qgO {a b:World} {g:Nat} (h:Below a.drew.heap.size a.drew b):a.grownBy b (some g):=qb2 g (qb1 h)
section
variable {P:Program}
theorem qhl (w:World) (base:Nat) (t ty e:TypeId) (i:TypeInfo) (z:Value) (size bytes:Nat) (ht:P.underlying t=some (.slice e)) (hi:P.info? e=some i) (hz:i.zero=some z)
  (hsize:i.size=size) (hby:i.bytes=bytes) (hzs:z.cells.size=size) (hsz:0<size) (hzn:∀x∈z.cells.toList,qcH x)
  (v:Value) (n:Nat) (xs:List Value) (hown:Rws w base e size v n xs)
  (a:Addr) (m c:Nat) (news:List Value) (hl:news.length=m*size) (hnews:∀j u,news[j]? = some u->w.cell? (a.add j)=some u) (h1:∀u∈news,u.oneCell'=true) (hnn:∀u∈news,qcH u) (hm0:0<m)
  (h63:n+m<=maxLen) (hbytes:(n+m)*bytes<=140737488355328) (hbase:base<=w.heap.size) :
  ∃v' w',(Builtin.append_ #[t,t] ty #[v,.slice (some a) m c]).run P w=.ok v' w'/\Rws w' base e size v' (n+m) (xs++news)/\(v'.ownBlock=v.ownBlock/\w.grownBy w' v.ownBlock\/v'.ownBlock=some w.heap.size/\w.grownBy w' none):=by
 subst hsize;subst hby;have hsmall:n+m<=9223372036854775807:=by simp only [maxLen] at h63;omega
 have hlen:(xs++news).length=(n+m)*i.size:=by rw [qaf,hown.1,hl,qaB]
 rcases hown.2 with ⟨rfl,rfl⟩ | ⟨g,cap,cur,rfl,hbg,hg,hnc,hcm,hcs,htake,hcn⟩
 ·have hx:xs=[]:=List.eq_nil_of_length_eq_zero (by simpa using hown.1);subst hx;have hr:=run_append_nil (P:=P) w t ty e i z ht hi hz a m c news hl hnews hm0 (by omega) (by have hb:=hbytes;simp only [qaO] at hb;omega);have hge:=grownCap_ge w m 0 e;refine⟨_,_,hr,⟨by simpa using hlen,.inr ⟨w.heap.size,_,_,by rw [qaO],hbase,heap_alloc_new w.drew _,by rw [qaO];exact hge,grownCap_le_maxLen w m 0 e (by simpa using h63),?_,?_,?_⟩⟩,qah ⟨rfl,rfl,rfl,rfl,by simp,fun k hk _=>qL w.drew _ k hk⟩⟩
  ·simp only [Array.size_append,qbD,size_zeroCells,hzs,hl,<-qaB]
   congr 1;omega
  ·rw [qaO,qbq,<-hl,qbf];exact List.take_left
  ·intro x hx;rw [qbf] at hx;rcases qaN.1 hx with h | h
   ·exact hnn x h
   ·exact qgA hzn _ x h
 ·by_cases hroom:n+m<=cap
  ·have hfit:n*i.size+news.length<=cur.size:=by rw [hl,hcs,<-qaB];exact qa7 _ hroom
   have hr:=run_append_room (P:=P) w t ty e i ht hi g n cap cur hg a m c news hl hnews h1 hroom hfit;refine⟨_,_,hr,⟨hlen,.inr ⟨g,cap,_,rfl,hbg,qT w g cur _ e _ hg,hroom,hcm,?_,?_,?_⟩⟩,qan ⟨rfl,rfl,rfl,rfl,by simp,fun k _ hk=>setRow_other w g k _ (fun e=>hk (by simp [Value.ownBlock,e]))⟩⟩
   ·simp only [qbD,qaf,qar,qaY,qbr];omega
   ·rw [htake,<-hlen];exact List.take_left
   ·intro x hx;rcases qaN.1 hx with h | h
    ·rcases qaN.1 h with h | h
     ·exact hcn x (qbH h)
     ·exact hnn x h
    ·exact hcn x (List.mem_of_mem_drop h)
  ·have holds:∀j u,xs[j]? = some u->w.cell? ((⟨g,0,none⟩:Addr).add j)=some u:=hown.own.cells (g:=g) rfl;have hr:=run_append_grow (P:=P) w t ty e i z ht hi hz ⟨g,0,none⟩ n cap xs hown.1 holds a m c news hl hnews (by omega) (by omega) (growslice_fits (by omega) hbytes);have hge:=grownCap_ge w (n+m) cap e;refine⟨_,_,hr,⟨hlen,.inr ⟨w.heap.size,_,_,rfl,hbase,heap_alloc_new w.drew _,hge,grownCap_le_maxLen w (n+m) cap e h63,?_,?_,?_⟩⟩,qah ⟨rfl,rfl,rfl,rfl,by simp,fun k hk _=>qL w.drew _ k hk⟩⟩
   ·simp only [Array.size_append,qbD,size_zeroCells,hzs,hown.1,hl,<-qaB]
    congr 1;omega
   ·simp only [qbf,qay];rw [<-qay,<-hlen];exact List.take_left
   ·intro x hx;rw [qbf,qbf] at hx;rcases qaN.1 hx with h | h
    ·rcases qaN.1 h with h | h
     ·rw [<-htake] at h;exact hcn x (qbH (by simpa using h))
     ·exact hnn x h
    ·exact qgA hzn _ x h
end
theorem frac_not:∀y∈(Value.agg #[.string ⟨#[]⟩,.string ⟨#[]⟩]).cells.toList,qcH y:=by
 intro y hy;rcases qaP.1 (show y∈[Value.string ⟨#[]⟩,Value.string ⟨#[]⟩] from hy) with rfl | hy
 ·exact qdX _
 ·rw [qap.1 hy];exact qdX _
theorem qlH (l:List FT):∀u∈fflat l,qcH u:=fun u hu=>by
 unfold fflat at hu;obtain⟨x,_,hx⟩:=List.mem_flatMap.1 hu;rcases qaP.1 hx with rfl | hx
 ·exact qdX _
 ·rw [qap.1 hx];exact qdX _
theorem qfD {w:World} {B:Nat} {v:Value} {n m c b off:Nat} {l l2:List FT} {ad:Option Addr} (ty:TypeId) (hown:Rws w B 44 2 v n (fflat l)) (hB:B<=w.heap.size) (hF:FCells w ad b off l2) (hm:l2.length=m) (hm0:0<m) (hn:n+m<=1000000) :
  ∃v' w',(Builtin.append_ #[35,35] ty #[v,.slice ad m c]).run Tryz.prog w=.ok v' w'/\Rws w' B 44 2 v' (n+m) (fflat (l++l2))/\(v'.ownBlock=v.ownBlock/\w.grownBy w' v.ownBlock\/v'.ownBlock=some w.heap.size/\w.grownBy w' none):=by
 obtain⟨i0,hi,hz0,hz1,hz2⟩:=info_parts infoF;have ha:=hF.addr (by omega);subst ha;obtain⟨v',w',hr,h2,h3⟩:=qhl (P:=Tryz.prog) w B 35 ty 44 i0 _ 2 32 Tryz.underlying35 hi hz0 hz1 hz2 rfl (by decide) frac_not v n (fflat l) hown ⟨b,off,none⟩ m c (fflat l2) (by rw [qck,hm]) hF.src (qiq _) (qlH _) hm0 (by unfold maxLen;omega) (by omega) hB;exact⟨v',w',hr,by rw [qdj];exact h2,h3⟩
theorem qlF {W:World} {g:Nat} {x1 x2:ByteArray} (hg:W.heap[g]? = some (.cells #[.string x1,.string x2] 44 (0,0))):FCells W (some ⟨g,0,none⟩) g 0 [(x1,x2)] :=
 ⟨fun _=>rfl,fun k hk=>by
  obtain rfl:k=0:=by simp at hk;omega
  exact⟨qC _ _ 0 _ _ _ hg,qC _ _ 1 _ _ _ hg⟩⟩
theorem qmS {W:World} {B g:Nat} {x1 x2:ByteArray} (hg:W.heap[g]? = some (.cells #[.string x1,.string x2] 44 (0,0))) (hB:B<=g):Rws W B 44 2 (.slice (some ⟨g,0,none⟩) 1 1) 1 (fflat [(x1,x2)]) :=
 ⟨rfl,qah ⟨g,1,_,rfl,hB,hg,qad _,by decide,rfl,rfl,fun x hx=>by
  rcases qaP.1 (show x∈[Value.string x1,Value.string x2] from hx) with rfl | hx
  ·exact qdX _
  ·rw [qap.1 hx];exact qdX _⟩⟩
theorem qeU {P:Program} {ops:Array Oper} {rest:List Oper} {o:Oper} {a:Act} {w w':World} {Q:Exit->Act->World->Prop} (hgd:o.guard=none) (s x:Operand) (t:TypeId) (ho:o.op=.call { callee:=.builtin .append,args:=#[s,x],argTypes:=#[t,t] }) {v u v':Value} (hs:a.eval s=v) (hx:a.eval x=u)
  (hr:(Builtin.append_ #[t,t] o.type #[v,u]).run P w=.ok v' w') (h:wpList P ops Q rest (a.put o.dst v') w'):wpList P ops Q (o :: rest) a w :=
 wpList_plain hgd fun _K hK=>qnm (qf5 ho rfl hs hx hr) (hK _ _ h)
structure NCells (W:World) (ao:Option Addr) (b off:Nat) (l:List Int):Prop where
 addr:0<l.length->ao=some ⟨b,off,none⟩
 cell:∀k,k<l.length->W.cell? ⟨b,off+k,none⟩=some (.int .i64 (l.getD k 0))
theorem NCells.below {W W':World} {ao:Option Addr} {b off:Nat} {l:List Int} (h:NCells W ao b off l) (hb:Below W.heap.size W W'):NCells W' ao b off l :=
 ⟨h.addr,fun k hk=>(hb.cell (qac W _ (h.cell k hk))).trans (h.cell k hk)⟩
structure Pt where
 name:ByteArray
 dev:List Int
 l0:Int
 l1:Int
 l2:Int
def Pt.lab (p:Pt) (c:Nat):Int:=if c=0 then p.l0 else if c=1 then p.l1 else p.l2
def pt0:Pt:=⟨⟨#[]⟩,[],0,0,0⟩
structure PCells (W:World) (ao:Option Addr) (b off:Nat) (l:List Pt):Prop where
 addr:0<l.length->ao=some ⟨b,off,none⟩
 cell:∀k,k<l.length->W.cell? ⟨b,off+k*5,none⟩=some (.string (l.getD k pt0).name) /\
  (∃(ra:Option Addr) (rb ro rc:Nat),W.cell? ⟨b,off+k*5+1,none⟩=some (.slice ra (l.getD k pt0).dev.length rc)/\NCells W ra rb ro (l.getD k pt0).dev) /\
  W.cell? ⟨b,off+k*5+2,none⟩=some (.int .i64 (l.getD k pt0).l0)/\W.cell? ⟨b,off+k*5+3,none⟩=some (.int .i64 (l.getD k pt0).l1)/\W.cell? ⟨b,off+k*5+4,none⟩=some (.int .i64 (l.getD k pt0).l2)
theorem PCells.below {W W':World} {ao:Option Addr} {b off:Nat} {l:List Pt} (h:PCells W ao b off l) (hb:Below W.heap.size W W'):PCells W' ao b off l :=
 ⟨h.addr,fun k hk=>by
  obtain⟨h0,⟨ra,rb,ro,rc,h1,hi⟩,h2,h3,h4⟩:=h.cell k hk;exact⟨(hb.cell (qac W _ h0)).trans h0,⟨ra,rb,ro,rc,(hb.cell (qac W _ h1)).trans h1,hi.below hb⟩,
   (hb.cell (qac W _ h2)).trans h2,(hb.cell (qac W _ h3)).trans h3,(hb.cell (qac W _ h4)).trans h4⟩⟩
def qdz (c:UInt8):Bool:=decide (65<=c.toNat/\c.toNat<=90) || decide (97<=c.toNat/\c.toNat<=122) || decide (48<=c.toNat/\c.toNat<=57) || decide (c.toNat=45) || decide (c.toNat=95)
def qjI (s:ByteArray):Prop:=1<=s.size/\s.size<=12/\∀k (h:k<s.size),qdz s[k]=true
def qcO (d:List Int):Prop:=∀k,k<d.length->0<=d.getD k 0/\d.getD k 0<=10000
structure PtOk (p:Pt):Prop where
 name:qjI p.name
 n1:1<=p.dev.length
 n4:p.dev.length<=4
 vals:qcO p.dev
 l0:0<=p.l0/\p.l0<=10000
 l1:-12800<=p.l1/\p.l1<=12700
 l2:-12800<=p.l2/\p.l2<=12700
def chans (l:List Pt):Nat:=(l.getD 0 pt0).dev.length
structure PtsOk (l:List Pt):Prop where
 r1:1<=l.length
 r2:l.length<=40
 rows:∀k,k<l.length->PtOk (l.getD k pt0)/\(l.getD k pt0).dev.length=chans l
 apart:∀i k,k<i->i<l.length->(l.getD k pt0).name≠(l.getD i pt0).name
theorem PtsOk.n1 {l:List Pt} (h:PtsOk l):1<=chans l:=(h.rows 0 h.r1).1.n1
theorem PtsOk.n4 {l:List Pt} (h:PtsOk l):chans l<=4:=(h.rows 0 h.r1).1.n4
def many (kind n:Nat):Nat:=if kind=1 then 1+n else if kind=2 then 1+2*n else 2 ^ n
def dq (d:List Int) (k:Nat):Rat:=(d.getD k 0:Rat) / 10000
def prods (d:List Int):Nat->List Rat
 | 0=>[1]
 | n+1=>prods d n++(prods d n).map fun p=>p*dq d n
def termL (kind:Nat) (d:List Int):List Rat :=
 if kind=1 then 1 :: (List.range d.length).map (dq d) else if kind=2 then 1 :: (List.range d.length).map (dq d)++(List.range d.length).map (fun k=>dq d k*dq d k) else prods d d.length
def termQ (kind:Nat) (d:List Int) (j:Nat):Rat:=(termL kind d).getD j 0
theorem qeC (d:List Int):∀n,(prods d n).length=2 ^ n
 | 0=>rfl
 | n+1=>by
  show (prods d n++_).length=_
  rw [qaf,qaw,qeC d n,qaD];omega
theorem qeF (kind:Nat) (d:List Int):(termL kind d).length=many kind d.length:=by
 unfold termL many;split
 ·simp;omega
 ·split
  ·simp;omega
  ·exact qeC d _
def Cd (q:Rat) (D N:Nat):Prop:=∃p:Int,q=(p:Rat) / (D:Rat)/\p.natAbs<=N
theorem Cd.rb {q:Rat} {D N M:Nat} (h:Cd q D N) (hD:D≠0) (hN:N<=M) (hM:D<=M):Rb q M:=by
 obtain⟨p,e,hp⟩:=h;refine qhC (p:=p) (z:=(D:Int)) (by omega) (by omega) (by omega) ?_;rw [e];rfl
theorem Cd.short {q:Rat} {D N:Nat} (h:Cd q D N) (hD:D≠0) (hN:N<10 ^ 600) (hM:D<10 ^ 600):Short q :=
 qdd (h.rb hD (Nat.le_max_left N D) (Nat.le_max_right N D)) (by omega)
theorem Cd.mono {q:Rat} {D N M:Nat} (h:Cd q D N) (hM:N<=M):Cd q D M:=by
 obtain⟨p,e,hp⟩:=h;exact⟨p,e,by omega⟩
theorem qfV {D:Nat} (hD:D≠0):(D:Rat)≠0:=by exact_mod_cast hD
theorem Cd.mul {p q:Rat} {D E N M:Nat} (h:Cd p D N) (k:Cd q E M) (hD:D≠0) (hE:E≠0):Cd (p*q) (D*E) (N*M):=by
 obtain⟨a,e,ha⟩:=h;obtain⟨b,e2,hb⟩:=k;refine⟨a*b,?_,by rw [qaE];exact Nat.mul_le_mul ha hb⟩;have h1:=qfV hD;have h2:=qfV hE;rw [e,e2];push_cast;grind
theorem Cd.add {p q:Rat} {D N M:Nat} (h:Cd p D N) (k:Cd q D M):Cd (p+q) D (N+M):=by
 obtain⟨a,e,ha⟩:=h;obtain⟨b,e2,hb⟩:=k;refine⟨a+b,?_,by have:=qbK a b;omega⟩;rw [e,e2];push_cast;grind
theorem Cd.neg {p:Rat} {D N:Nat} (h:Cd p D N):Cd (-p) D N:=by
 obtain⟨a,e,ha⟩:=h;refine⟨-a,?_,by omega⟩;rw [e];push_cast;grind
theorem Cd.sub {p q:Rat} {D N M:Nat} (h:Cd p D N) (k:Cd q D M):Cd (p-q) D (N+M):=by
 rw [show p-q=p + -q by grind];exact h.add k.neg
theorem Cd.up {p:Rat} {D N:Nat} (h:Cd p D N) (k:Nat) (hD:D≠0) (hk:k≠0):Cd p (D*k) (N*k):=by
 obtain⟨a,e,ha⟩:=h;have h1:=qfV hD;have h2:=qfV hk;refine⟨a*k,?_,by rw [qaE,qal];exact Nat.mul_le_mul ha qN⟩;rw [e];push_cast;grind
theorem Cd.zero (D:Nat):Cd 0 D 0:=⟨0,by rw [show ((0:Int):Rat)=0 from rfl];grind,qad _⟩
theorem Cd.sum {D N:Nat}:∀{n:Nat} {f:Nat->Rat},(∀i,i<n->Cd (f i) D N)->Cd (sumQ n f) D (n*N)
 | 0,_,_=>by rw [Nat.zero_mul];exact Cd.zero D
 | n+1,f,h=>by
  have ih:=Cd.sum (n:=n) (f:=f) fun i hi=>h i (by omega)
  have:=ih.add (h n (by omega))
  show Cd (sumQ n f+f n) D _
  exact this.mono (by rw [qaB,qbx];exact qad _)
theorem qcO.at {d:List Int} (h:qcO d) (k:Nat):0<=d.getD k 0/\d.getD k 0<=10000:=by
 by_cases hk:k<d.length
 ·exact h k hk
 ·rw [qaa,qba (by omega)];exact⟨by decide,by decide⟩
theorem dq_cd {d:List Int} (h:qcO d) (k:Nat):Cd (dq d k) 10000 10000:=by
 have:=h.at k;exact⟨d.getD k 0,rfl,by omega⟩
theorem qfA {d:List Int} {E:Nat} (hE:E≠0) (h:∀k,Cd (dq d k) E E):∀n,∀p∈prods d n,Cd p (E ^ n) (E ^ n)
 | 0,p,hp=>by
  obtain rfl:p=1:=by simpa [prods] using hp
  exact⟨1,by show (1:Rat)=((1:Int):Rat) / ((1:Nat):Rat);rw [show ((1:Int):Rat)=1 from rfl,show ((1:Nat):Rat)=1 from rfl];grind,qad 1⟩
 | n+1,p,hp=>by
  have h0:E ^ n≠0:=qbl (Nat.pow_pos (qbe hE));rcases qaN.1 (show p∈prods d n++(prods d n).map fun p=>p*dq d n from hp) with hp | hp
  ·exact (qfA hE h n p hp).up E h0 hE
  ·obtain⟨q,hq,rfl⟩:=qbB.1 hp;exact (qfA hE h n q hq).mul (h n) h0 hE
theorem qjM:10000 ^ 3<10 ^ 600:=by decide +kernel
def thrown (c:Int):Ending:=.panicked [{ v:=.iface 203 (.agg #[.int .i64 c]),recovered:=false }]
def tqf (l:List Pt) (kind:Nat) (i j:Nat):Rat:=termQ kind (l.getD i pt0).dev j
def labq (l:List Pt) (c i:Nat):Rat:=((l.getD i pt0).lab c:Rat) / 100
def wq (ws:List Int) (i:Nat):Rat:=((ws.getD i 0:Int):Rat)
def WOk (ws:List Int):Prop:=∀k,k<ws.length->0<=ws.getD k 0/\ws.getD k 0<=1000
def qcC (kind:Int) (k:Nat):Prop:=kind=(k:Int)/\1<=k/\k<=3
structure Md where
 kind:Int
 inn:Int
 r0:List FT
 r1:List FT
 r2:List FT
def Md.row (m:Md) (c:Nat):List FT:=if c=0 then m.r0 else if c=1 then m.r1 else m.r2
structure MdOk (m:Md) (k n:Nat):Prop where
 kind:qcC m.kind k
 inn:m.inn=(n:Int)/\1<=n/\n<=4
 both:¬(k=3/\n=4)
 rows:∀c,c<3->(m.row c).length=many k n/\FAll (m.row c)
def MdAt (W:World) (v:Value) (m:Md):Prop :=
 ∃(a0 a1 a2:Option Addr) (b0 o0 c0 b1 o1 c1 b2 o2 c2:Nat),v=.agg #[.int .i64 m.kind,.int .i64 m.inn,.slice a0 m.r0.length c0,.slice a1 m.r1.length c1,.slice a2 m.r2.length c2]/\FCells W a0 b0 o0 m.r0/\FCells W a1 b1 o1 m.r1/\FCells W a2 b2 o2 m.r2
theorem MdAt.below {W W':World} {v:Value} {m:Md} (h:MdAt W v m) (hb:Below W.heap.size W W'):MdAt W' v m:=by
 obtain⟨a0,a1,a2,b0,o0,c0,b1,o1,c1,b2,o2,c2,rfl,h0,h1,h2⟩:=h;exact⟨a0,a1,a2,b0,o0,c0,b1,o1,c1,b2,o2,c2,rfl,h0.below hb,h1.below hb,h2.below hb⟩
def md0:Md:=⟨0,0,[],[],[]⟩
def mdv0:Value:=.agg #[.int .i64 0,.int .i64 0,.slice none 0 0,.slice none 0 0,.slice none 0 0]
def mdq (k n m:Nat) (x:Nat->Nat->Rat):Md:=⟨k,n,told m (x 0),told m (x 1),told m (x 2)⟩
theorem qfT {k n m:Nat} {x:Nat->Nat->Rat} {c:Nat} (hc:c<3):(mdq k n m x).row c=told m (x c):=by
 rcases (show c=0\/c=1\/c=2 by omega) with rfl | rfl | rfl <;> rfl
theorem FAll.eq_told {l:List FT} (h:FAll l):l=told l.length (lval l):=by
 refine List.ext_getElem (by rw [qbW]) fun i h1 h2=>?_
 have e1:l[i]=l.getD i fd0:=by rw [qaa,qae h1];rfl
 have e2:(told l.length (lval l))[i]=ftxt (lval l i):=by
  have:=qdr (x:=lval l) h1;rw [qaa,qae h2] at this;exact this
 rw [e1,e2];have hf:=h i h1;unfold lval;obtain⟨n1,n2⟩:=hf.val;have q1:=hf.vn.eq;have q2:=hf.vd.eq;refine Prod.ext ?_ ?_
 ·show _=frac.wtxt _
  rw [n1];unfold frac.wtxt;rw [<-q1]
 ·show _=num _
  rw [n2];unfold num;rw [<-qhQ,Int.natAbs_of_nonneg (by have:=hf.pos;omega),<-q2]
theorem FAll.short {l:List FT} (h:FAll l):qbY l.length (lval l):=fun i hi=>by
 have hf:=h i hi;unfold lval Short;obtain⟨n1,n2⟩:=hf.val;rw [n1,n2];have h1:=hf.vn.le;have h2:=hf.vd.le;have e1:=congrArg body hf.vn.eq;have e2:=congrArg body hf.vd.eq;rw [(qfd _).1] at e1 e2;rw [e1] at h1;rw [e2] at h2;rw [qdb,qdb];exact⟨h1,h2⟩
theorem qdh {P:Program} {fn:Func} {p q:Tmp} {ty ty2:TypeId} (h:fn.results=#[.cell p ty,.cell q ty2]) (tmps:Array Value) (w:World) (ap aq:Addr) (v1 v2:Value)
  (hp:tmps.getD p undef=.pointer (some ap)) (hq:tmps.getD q undef=.pointer (some aq)) (h1:(loadVar ty ap).run P w=.ok v1 w) (h2:(loadVar ty2 aq).run P w=.ok v2 w) :
  (results fn tmps).run P w=.ok (.tuple #[v1,v2]) w:=by
 have hp':tmps[p]?.getD undef=.pointer (some ap):=by simpa using hp
 have hq':tmps[q]?.getD undef=.pointer (some aq):=by simpa using hq
 simp [results,h,hp',hq',asAddr,h1,h2,Sem.run_bind,Result.andThen]
theorem qdv {P:Program} {ty:TypeId} {w:World} {g:Nat} {t:TypeId} {v:Value} (d:TypeDesc) (hu:P.underlying ty=some d) (hd:(match d with | .struct _ | .array _ _=>true | _=>false)=false) (hg:w.heap[g]? = some (.cells #[v] t (0,0))) :
  (loadVar ty ⟨g,0,none⟩).run P w=.ok v w:=by
 have hc:=qC w g 0 _ _ _ hg;have hagg:(isAgg ty).run P w=.ok false w:=by
  unfold isAgg;rw [Sem.run_bind,run_underlying hu w];cases d <;> simp_all
 simp [loadVar,Sem.run_bind,hagg,hc]
theorem qe9 {W:World} {g:Nat} {v0:Value} {t:TypeId} (h:W.heap[g]? = some (.cells #[v0] t (0,0))) (v:Value):(W.setCell ⟨g,0,none⟩ v).heap[g]? = some (.cells #[v] t (0,0)):=by
 rw [setCell_eq_setRow W g 0 _ t _ v h];exact qT _ _ _ _ _ _ h
theorem qcY {B g:Nat} {a W:World} (h:Below B a W) (hg:B<=g) (cs:Array Value):Below B a (W.setRow g cs) :=
 h.trans ⟨rfl,rfl,rfl,by simp [World.setRow],fun k hk=>setRow_other _ _ _ _ (by omega)⟩
theorem qjN {w W:World} {gp gq B:Nat} {zc:Array Value} {tp tq:TypeId} (h:B<=gp/\B<=gq/\gp≠gq) (hB:Below B w W) (hp:W.heap[gp]? = some (.cells zc tp (0,0))) (hq:W.heap[gq]? = some (.cells #[.int .i64 0] tq (0,0))) (c:Int) (o:Obj) :
  (((W.setCell ⟨gq,0,none⟩ (.int .i64 9)).setCell ⟨gq,0,none⟩ (.int .i64 c)).alloc o).heap[gp]? = some (.cells zc tp (0,0))/\(((W.setCell ⟨gq,0,none⟩ (.int .i64 9)).setCell ⟨gq,0,none⟩ (.int .i64 c)).alloc o).heap[gq]? = some (.cells #[.int .i64 c] tq (0,0)) /\
   Below B w (((W.setCell ⟨gq,0,none⟩ (.int .i64 9)).setCell ⟨gq,0,none⟩ (.int .i64 c)).alloc o):=by
 obtain⟨X,hX⟩:=qY ((W.setCell ⟨gq,0,none⟩ (.int .i64 9)).setCell ⟨gq,0,none⟩ (.int .i64 c));rw [<-hX];have h2:X.heap[gq]? = some (.cells #[.int .i64 c] tq (0,0)):=hX▸qe9 (qe9 hq _) _;have h3:X.heap[gp]? = some (.cells zc tp (0,0)):=by rw [hX,qW _ _ _ _ h.2.2,qW _ _ _ _ h.2.2];exact hp
 have h4:Below B w X:=hX▸(hB.setCell (p:=⟨gq,0,none⟩) h.2.1 _).setCell (p:=⟨gq,0,none⟩) h.2.1 _;have hl2:=(qG h2).1;have hl3:=(qG h3).1;have hz:B<=X.heap.size:=by have:=h.1;omega
 exact⟨(Below.heap_alloc _ _ _ hl3).trans h3,(Below.heap_alloc _ _ _ hl2).trans h2,h4.trans ⟨rfl,rfl,rfl,by simp,fun k hk=>Below.heap_alloc _ _ _ (qag hk hz)⟩⟩
theorem filled {w W X:World} {gp gq B:Nat} {zc cs:Array Value} {tp tq:TypeId} (h:B<=gp/\B<=gq/\gp≠gq) (hp:W.heap[gp]? = some (.cells zc tp (0,0))) (hq:W.heap[gq]? = some (.cells #[.int .i64 0] tq (0,0)))
  (h1:X.heap[gp]? = some (.cells cs tp (0,0))) (h2:∀k,k≠gp->X.heap[k]? = W.heap[k]?) (h3:Below B w X) :
  (X.setCell ⟨gq,0,none⟩ (.int .i64 0)).heap[gp]? = some (.cells cs tp (0,0))/\(X.setCell ⟨gq,0,none⟩ (.int .i64 0)).heap[gq]? = some (.cells #[.int .i64 0] tq (0,0))/\Below B w (X.setCell ⟨gq,0,none⟩ (.int .i64 0)) /\
   ((∀b,.string b∉zc.toList)->∀a b,W.cell? a=some (.string b)->(X.setCell ⟨gq,0,none⟩ (.int .i64 0)).cell? a=some (.string b)):=by
 have hq2:=(h2 gq (fun e=>h.2.2 e.symm)).trans hq;refine⟨?_,qe9 hq2 _,h3.setCell (p:=⟨gq,0,none⟩) h.2.1 _,fun hz a b hc=>?_⟩
 ·rw [qW _ _ _ _ h.2.2];exact h1
 ·have n1:a.block≠gp:=by
   intro e;unfold World.cell? at hc;rw [e,hp] at hc;simp only at hc;split at hc
   ·cases hc
   ·exact hz b (by rw [<-Array.mem_def];exact Array.mem_of_getElem? hc)
  have n2:a.block≠gq:=by
   intro e;unfold World.cell? at hc;rw [e,hq] at hc;simp only at hc;split at hc
   ·cases hc
   ·have:=Array.mem_of_getElem? hc;simp at this
  rw [World.cell?_setCell_far _ _ _ _ (fun e=>n2 e.symm)];unfold World.cell? at hc ⊢;rw [h2 _ n1];exact hc
theorem assertM (w:World) (c:Int):(Instr.typeAssert (.iface 203 (.agg #[.int .i64 c])) 20 203 true).run Tryz.prog w=.ok (.tuple #[.agg #[.int .i64 c],.bool true]) w:=by
 simp [Instr.typeAssert,go_sem]
theorem qjd (p q:Addr) (w:World) :
  CallsD Tryz.prog 123 #[.pointer (some p),.pointer (some q)] .returning w fun e u' w'=>e=.returned (.tuple #[])/\u'=.returning/\w'=w:=by
 refine callsD_of_wpS Tryz.func123 rfl fun c₀ cs hu=>?_
 apply wpS_seq;apply wpS_region;simp [wpOpsS,go_sem,recoverD,hu,Tryz.ntmps123,Exit.thenS,<-qbw,List.replicate];refine wpS_of_wp ?_;go_wp2_with fail;exact⟨rfl,.returning,by rw [<-hu],.tuple #[],results_none rfl _ _ _,rfl,rfl,rfl⟩
theorem qko (gp gq:Nat) (c:Int) (older:List PanicEntry) (w:World) (B:Nat) (hB:B<=gp/\B<=gq/\gp≠gq) (hp:w.heap[gp]? = some (.cells #[.int .i64 0,.int .i64 0,.slice none 0 0,.slice none 0 0,.slice none 0 0] 38 (0,0))) (hq:w.heap[gq]? = some (.cells #[.int .i64 0] 39 (0,0))) :
  CallsD Tryz.prog 123 #[.pointer (some ⟨gp,0,none⟩),.pointer (some ⟨gq,0,none⟩)] (.panicking ({ v:=.iface 203 (.agg #[.int .i64 c]),recovered:=false } :: older)) w fun e u' w'=>e=.returned (.tuple #[])/\u'=.panicking ({ v:=.iface 203 (.agg #[.int .i64 c]),recovered:=true } :: older) /\
   w'.heap[gp]? = some (.cells #[.int .i64 0,.int .i64 0,.slice none 0 0,.slice none 0 0,.slice none 0 0] 38 (0,0))/\w'.heap[gq]? = some (.cells #[.int .i64 c] 39 (0,0))/\Below B w w':=by
 have hlp:=(qG hp).1;have hlq:=(qG hq).1;obtain⟨W1,hW1,K1⟩:=nw1 w #[.int .i64 0,.int .i64 0,.slice none 0 0,.slice none 0 0,.slice none 0 0] 38;have hp1:=qH (zkeep K1.out.1 _ _ hp);have hq1:(W1.setRow gp #[.int .i64 0,.int .i64 0,.slice none 0 0,.slice none 0 0,.slice none 0 0]).heap[gq]? = some (.cells #[.int .i64 0] 39 (0,0)):=(setRow_other _ _ _ _ (fun e=>hB.2.2 e.symm)).trans (zkeep K1.out.1 _ _ hq);have cq:=qC (W1.setRow gp #[.int .i64 0,.int .i64 0,.slice none 0 0,.slice none 0 0,.slice none 0 0]) _ 0 _ _ _ hq1;have fq:=qF (W1.setRow gp #[.int .i64 0,.int .i64 0,.slice none 0 0,.slice none 0 0,.slice none 0 0]) _ 0 _ _ hq1;have hsz:(W1.setRow gp #[.int .i64 0,.int .i64 0,.slice none 0 0,.slice none 0 0,.slice none 0 0]).heap.size=W1.heap.size:=by simp [World.setRow]
 have hlp1:gp<W1.heap.size:=qag hlp K1.out.1.size;have hlq1:gq<W1.heap.size:=qag hlq K1.out.1.size;have hnq:¬gq=W1.heap.size:=by omega
 have HE:=qH (qjN hB (qcY (K1.out.1.mono (qao (qaF hB.1 hlp))) hB.1 #[.int .i64 0,.int .i64 0,.slice none 0 0,.slice none 0 0,.slice none 0 0]) (qT W1 gp #[.int .i64 0,.int .i64 0,.slice none 0 0,.slice none 0 0,.slice none 0 0] #[.int .i64 0,.int .i64 0,.slice none 0 0,.slice none 0 0,.slice none 0 0] 38 _ hp1.out) hq1 c (.cells #[.int .i64 c] 203));clear hp hq hB hq1;have hta:=assertM;refine callsD_of_wpS Tryz.func123 rfl fun c₀ cs hu=>?_
 apply wpS_seq;apply wpS_region;simp [wpOpsS,go_sem,recoverD,hu,Tryz.ntmps123,Exit.thenS,<-qbw,List.replicate];refine wpS_of_wp ?_;go_upto_region 3 with fail;rw [<-hW1];clear hW1;have cz0:=qC W1 _ 0 _ _ _ K1.out.2;have cz1:=qC W1 _ 1 _ _ _ K1.out.2;have cz2:=qC W1 _ 2 _ _ _ K1.out.2;have cz3:=qC W1 _ 3 _ _ _ K1.out.2;have cz4:=qC W1 _ 4 _ _ _ K1.out.2
 go_wp2_with ((with_reducible refine sR_ rfl 38 _ _ rfl (gp) #[.int .i64 0,.int .i64 0,.slice none 0 0,.slice none 0 0,.slice none 0 0] hp1.out 5 ?_))
 refine⟨rfl,.panicking ({ v:=.iface 203 (.agg #[.int .i64 c]),recovered:=true } :: older),rfl,.tuple #[],results_none rfl _ _ _,rfl,rfl,?_⟩;exact HE.out
theorem qii (fc:FuncId) (caps:Array Value) (G:World->Value->Prop) (F:Int->Prop) (w:World) (hcf:∀W,(callFunc fc caps).run Tryz.prog W=.ok (.enter fc caps) W)
  (hG:∀W W' v,(∀a b,W.cell? a=some (.string b)->W'.cell? a=some (.string b))->G W v->G W' v)
  (hf:∀w1,Below w.heap.size w w1->Calls Tryz.prog fc caps w1 fun e w'=>Below w1.heap.size w1 w'/\((∃(i0 i1:Int) (p0:Option Addr) (n0 c0:Nat) (p1:Option Addr) (n1 c1:Nat) (p2:Option Addr) (n2 c2:Nat),e=.returned (.agg #[.int .i64 i0,.int .i64 i1,.slice p0 n0 c0,.slice p1 n1 c1,.slice p2 n2 c2])/\G w' (.agg #[.int .i64 i0,.int .i64 i1,.slice p0 n0 c0,.slice p1 n1 c1,.slice p2 n2 c2]))\/∃c,e=thrown c/\F c)) :
  Calls Tryz.prog 50 #[.func (.func fc) #[] caps] w fun e w'=>Below w.heap.size w w'/\((∃(i0 i1:Int) (p0:Option Addr) (n0 c0:Nat) (p1:Option Addr) (n1 c1:Nat) (p2:Option Addr) (n2 c2:Nat),e=.returned (.tuple #[(.agg #[.int .i64 i0,.int .i64 i1,.slice p0 n0 c0,.slice p1 n1 c1,.slice p2 n2 c2]),.int .i64 0])/\G w' (.agg #[.int .i64 i0,.int .i64 i1,.slice p0 n0 c0,.slice p1 n1 c1,.slice p2 n2 c2]))\/∃c,e=.returned (.tuple #[(.agg #[.int .i64 0,.int .i64 0,.slice none 0 0,.slice none 0 0,.slice none 0 0]),.int .i64 c])/\F c):=by
 have hmf:=@hmf_ Tryz.prog;obtain⟨W2,hW2,K2⟩:=nw2 w #[.int .i64 0,.int .i64 0,.slice none 0 0,.slice none 0 0,.slice none 0 0] 38 #[.int .i64 0] 39;have HF:=qH (hf W2 K2.out.1);clear hf
 go_enter_defers Tryz.func50,Tryz.ntmps50
 go_upto_region 1 with fail;rw [<-hW2];clear hW2;go_wp2_with fail;refine HF.out.mono ?_;rintro e w1 ⟨hb1,h⟩;have K3:Kn (fun W=>W.heap[w.heap.size]? = some (.cells #[.int .i64 0,.int .i64 0,.slice none 0 0,.slice none 0 0,.slice none 0 0] 38 (0,0))/\W.heap[w.heap.size+1]? = some (.cells #[.int .i64 0] 39 (0,0))/\Below w.heap.size w W) w1 :=
  .of ⟨zkeep hb1 _ _ K2.out.2.1,zkeep hb1 _ _ K2.out.2.2,K2.out.1.trans (hb1.mono K2.out.1.size)⟩
 clear K2;rcases h with ⟨i0,i1,p0,n0,c0,p1,n1,c1,p2,n2,c2,rfl,hg⟩ | ⟨c,rfl,hF⟩
 ·have HE:=qH (filled (w:=w) (gp:=w.heap.size) (gq:=w.heap.size+1) (B:=w.heap.size) ⟨qad _,by omega,by omega⟩ K3.out.1 K3.out.2.1 (qT w1 _ #[.int .i64 0,.int .i64 0,.slice none 0 0,.slice none 0 0,.slice none 0 0] #[.int .i64 i0,.int .i64 i1,.slice p0 n0 c0,.slice p1 n1 c1,.slice p2 n2 c2] _ _ K3.out.1) (fun k hk=>setRow_other _ _ _ _ hk) (qcY K3.out.2.2 qN _));have hgg:=hG _ ((w1.setRow w.heap.size #[.int .i64 i0,.int .i64 i1,.slice p0 n0 c0,.slice p1 n1 c1,.slice p2 n2 c2]).setCell ⟨w.heap.size+1,0,none⟩ (.int .i64 0)) _ (HE.out.2.2.2 (fun b hb=>by simp at hb)) hg;have hq1:(w1.setRow w.heap.size #[.int .i64 i0,.int .i64 i1,.slice p0 n0 c0,.slice p1 n1 c1,.slice p2 n2 c2]).heap[w.heap.size+1]? = some (.cells #[.int .i64 0] 39 (0,0)):=(setRow_other _ _ _ _ (by omega)).trans K3.out.2.1;have cq:=qC (w1.setRow w.heap.size #[.int .i64 i0,.int .i64 i1,.slice p0 n0 c0,.slice p1 n1 c1,.slice p2 n2 c2]) _ 0 _ _ _ hq1;have fq:=qF (w1.setRow w.heap.size #[.int .i64 i0,.int .i64 i1,.slice p0 n0 c0,.slice p1 n1 c1,.slice p2 n2 c2]) _ 0 _ _ hq1;have HG:=qH hgg;clear hG hg hgg HF hb1 hcf hq1;rename_i hK;dsimp only;refine hK _ _ ?_
  go_wp2_with ((with_reducible refine sR_ rfl 38 _ _ rfl (w.heap.size) #[.int .i64 i0,.int .i64 i1,.slice p0 n0 c0,.slice p1 n1 c1,.slice p2 n2 c2] K3.out.1 5 ?_))
  try simp only [bodyPostD]
  refine leaves_cons (f:=123) (args:=#[.pointer (some ⟨w.heap.size,0,none⟩),.pointer (some ⟨w.heap.size+1,0,none⟩)]) (by simp) (by simp [go_sem]) ?_;refine (qjd _ _ _).mono ?_;rintro e u' w'' ⟨rfl,rfl,rfl⟩;refine⟨_,qdh rfl _ _ _ _ _ _ rfl rfl ((fun h=>run_loadVar_row _ _ _ 38 _ (0,0) _ h Tryz.underlying38 rfl (by kernel_rfl)) HE.out.1) (qdv _ Tryz.underlying39 rfl HE.out.2.1),HE.out.2.2.1,qan ⟨i0,i1,p0,n0,c0,p1,n1,c1,p2,n2,c2,rfl,HG.out⟩⟩
 ·have HFc:=qH hF;clear hF hG HF;unfold thrown;go_wp2_with fail
  try simp only [bodyPostD]
  refine leaves_cons (f:=123) (args:=#[.pointer (some ⟨w.heap.size,0,none⟩),.pointer (some ⟨w.heap.size+1,0,none⟩)]) (by simp) (by simp [go_sem]) ?_;refine (qko w.heap.size (w.heap.size+1) c [] _ w.heap.size ⟨qad _,by omega,by omega⟩ K3.out.1 K3.out.2.1).mono ?_;rintro e u' w'' ⟨rfl,rfl,hp,hq,hb⟩;refine⟨_,qdh rfl _ _ _ _ _ _ rfl rfl ((fun h=>run_loadVar_row _ _ _ 38 _ (0,0) _ h Tryz.underlying38 rfl (by kernel_rfl)) hp) (qdv _ Tryz.underlying39 rfl hq),K3.out.2.2.trans hb,qah ⟨c,rfl,HFc.out⟩⟩
theorem assertL (w:World) (c:Int):(Instr.typeAssert (.iface 203 (.agg #[.int .i64 c])) 20 203 true).run Tryz.prog w=.ok (.tuple #[.agg #[.int .i64 c],.bool true]) w:=by
 simp [Instr.typeAssert,go_sem]
theorem qjc (p q:Addr) (w:World) :
  CallsD Tryz.prog 152 #[.pointer (some p),.pointer (some q)] .returning w fun e u' w'=>e=.returned (.tuple #[])/\u'=.returning/\w'=w:=by
 refine callsD_of_wpS Tryz.func152 rfl fun c₀ cs hu=>?_
 apply wpS_seq;apply wpS_region;simp [wpOpsS,go_sem,recoverD,hu,Tryz.ntmps152,Exit.thenS,<-qbw,List.replicate];refine wpS_of_wp ?_;go_wp2_with fail;exact⟨rfl,.returning,by rw [<-hu],.tuple #[],results_none rfl _ _ _,rfl,rfl,rfl⟩
theorem qkn (gp gq:Nat) (c:Int) (older:List PanicEntry) (w:World) (B:Nat) (hB:B<=gp/\B<=gq/\gp≠gq) (hp:w.heap[gp]? = some (.cells #[.slice none 0 0] 35 (0,0))) (hq:w.heap[gq]? = some (.cells #[.int .i64 0] 39 (0,0))) :
  CallsD Tryz.prog 152 #[.pointer (some ⟨gp,0,none⟩),.pointer (some ⟨gq,0,none⟩)] (.panicking ({ v:=.iface 203 (.agg #[.int .i64 c]),recovered:=false } :: older)) w fun e u' w'=>e=.returned (.tuple #[])/\u'=.panicking ({ v:=.iface 203 (.agg #[.int .i64 c]),recovered:=true } :: older) /\
   w'.heap[gp]? = some (.cells #[.slice none 0 0] 35 (0,0))/\w'.heap[gq]? = some (.cells #[.int .i64 c] 39 (0,0))/\Below B w w':=by
 have hlp:=(qG hp).1;have hlq:=(qG hq).1;obtain⟨W1,hW1,K1⟩:∃W1,W1=w/\Kn (fun W=>Below w.heap.size w W/\True) W1:=⟨w,rfl,.of ⟨Below.refl _ _,trivial⟩⟩;subst hW1;have hp1:=qH (zkeep K1.out.1 _ _ hp);have hq1:(W1.setCell ⟨gp,0,none⟩ (.slice none 0 0)).heap[gq]? = some (.cells #[.int .i64 0] 39 (0,0)):=(qW _ _ _ _ (fun e=>hB.2.2 e.symm)).trans (zkeep K1.out.1 _ _ hq);have cq:=qC (W1.setCell ⟨gp,0,none⟩ (.slice none 0 0)) _ 0 _ _ _ hq1;have fq:=qF (W1.setCell ⟨gp,0,none⟩ (.slice none 0 0)) _ 0 _ _ hq1;have cp:=qC W1 _ 0 _ _ _ hp1.out;have fp:=qF W1 _ 0 _ _ hp1.out;have hsz:(W1.setCell ⟨gp,0,none⟩ (.slice none 0 0)).heap.size=W1.heap.size:=by simp [World.setCell]
 have hlp1:gp<W1.heap.size:=qag hlp K1.out.1.size;have hlq1:gq<W1.heap.size:=qag hlq K1.out.1.size;have hnq:¬gq=W1.heap.size:=by omega
 have HE:=qH (qjN hB ((K1.out.1.mono (qao (qaF hB.1 hlp))).setCell hB.1 (.slice none 0 0)) (qe9 hp1.out (.slice none 0 0)) hq1 c (.cells #[.int .i64 c] 203));clear hp hq hB hq1;have hta:=assertL;refine callsD_of_wpS Tryz.func152 rfl fun c₀ cs hu=>?_
 apply wpS_seq;apply wpS_region;simp [wpOpsS,go_sem,recoverD,hu,Tryz.ntmps152,Exit.thenS,<-qbw,List.replicate];refine wpS_of_wp ?_;go_wp2_with fail;refine⟨rfl,.panicking ({ v:=.iface 203 (.agg #[.int .i64 c]),recovered:=true } :: older),rfl,.tuple #[],results_none rfl _ _ _,rfl,rfl,?_⟩;exact HE.out
theorem qgb (fc:FuncId) (caps:Array Value) (G:World->Value->Prop) (F:Int->Prop) (w:World) (hcf:∀W,(callFunc fc caps).run Tryz.prog W=.ok (.enter fc caps) W)
  (hG:∀W W' v,(∀a b,W.cell? a=some (.string b)->W'.cell? a=some (.string b))->G W v->G W' v)
  (hf:∀w1,Below w.heap.size w w1->Calls Tryz.prog fc caps w1 fun e w'=>Below w1.heap.size w1 w'/\((∃(p:Option Addr) (n c:Nat),e=.returned (.slice p n c)/\G w' (.slice p n c))\/∃c,e=thrown c/\F c)) :
  Calls Tryz.prog 82 #[.func (.func fc) #[] caps] w fun e w'=>Below w.heap.size w w'/\((∃(p:Option Addr) (n c:Nat),e=.returned (.tuple #[(.slice p n c),.int .i64 0])/\G w' (.slice p n c))\/∃c,e=.returned (.tuple #[(.slice none 0 0),.int .i64 c])/\F c):=by
 have hmf:=@hmf_ Tryz.prog;obtain⟨W2,hW2,K2⟩:=nw2 w #[.slice none 0 0] 35 #[.int .i64 0] 39;have HF:=qH (hf W2 K2.out.1);clear hf
 go_enter_defers Tryz.func82,Tryz.ntmps82
 go_upto_region 1 with fail;rw [<-hW2];clear hW2;go_wp2_with fail;refine HF.out.mono ?_;rintro e w1 ⟨hb1,h⟩;have K3:Kn (fun W=>W.heap[w.heap.size]? = some (.cells #[.slice none 0 0] 35 (0,0))/\W.heap[w.heap.size+1]? = some (.cells #[.int .i64 0] 39 (0,0))/\Below w.heap.size w W) w1 :=
  .of ⟨zkeep hb1 _ _ K2.out.2.1,zkeep hb1 _ _ K2.out.2.2,K2.out.1.trans (hb1.mono K2.out.1.size)⟩
 clear K2;rcases h with ⟨p,n,c,rfl,hg⟩ | ⟨c,rfl,hF⟩
 ·have HE:=qH (filled (w:=w) (gp:=w.heap.size) (gq:=w.heap.size+1) (B:=w.heap.size) ⟨qad _,by omega,by omega⟩ K3.out.1 K3.out.2.1 (qe9 K3.out.1 (.slice p n c)) (fun k hk=>qW _ _ _ _ hk) (K3.out.2.2.setCell (p:=⟨w.heap.size,0,none⟩) qN _));have hgg:=hG _ ((w1.setCell ⟨w.heap.size,0,none⟩ (.slice p n c)).setCell ⟨w.heap.size+1,0,none⟩ (.int .i64 0)) _ (HE.out.2.2.2 (fun b hb=>by simp at hb)) hg;have hq1:(w1.setCell ⟨w.heap.size,0,none⟩ (.slice p n c)).heap[w.heap.size+1]? = some (.cells #[.int .i64 0] 39 (0,0)):=(qW _ _ _ _ (by simp)).trans K3.out.2.1;have cq:=qC (w1.setCell ⟨w.heap.size,0,none⟩ (.slice p n c)) _ 0 _ _ _ hq1;have fq:=qF (w1.setCell ⟨w.heap.size,0,none⟩ (.slice p n c)) _ 0 _ _ hq1;have cp:=qC w1 _ 0 _ _ _ K3.out.1;have fp:=qF w1 _ 0 _ _ K3.out.1;have HG:=qH hgg;clear hG hg hgg HF hb1 hcf hq1;go_wp2_with fail
  try simp only [bodyPostD]
  refine leaves_cons (f:=152) (args:=#[.pointer (some ⟨w.heap.size,0,none⟩),.pointer (some ⟨w.heap.size+1,0,none⟩)]) (by simp) (by simp [go_sem]) ?_;refine (qjc _ _ _).mono ?_;rintro e u' w'' ⟨rfl,rfl,rfl⟩;refine⟨_,qdh rfl _ _ _ _ _ _ rfl rfl (qdv _ Tryz.underlying35 rfl HE.out.1) (qdv _ Tryz.underlying39 rfl HE.out.2.1),HE.out.2.2.1,qan ⟨p,n,c,rfl,HG.out⟩⟩
 ·have HFc:=qH hF;clear hF hG HF;unfold thrown;go_wp2_with fail
  try simp only [bodyPostD]
  refine leaves_cons (f:=152) (args:=#[.pointer (some ⟨w.heap.size,0,none⟩),.pointer (some ⟨w.heap.size+1,0,none⟩)]) (by simp) (by simp [go_sem]) ?_;refine (qkn w.heap.size (w.heap.size+1) c [] _ w.heap.size ⟨qad _,by omega,by omega⟩ K3.out.1 K3.out.2.1).mono ?_;rintro e u' w'' ⟨rfl,rfl,hp,hq,hb⟩;refine⟨_,qdh rfl _ _ _ _ _ _ rfl rfl (qdv _ Tryz.underlying35 rfl hp) (qdv _ Tryz.underlying39 rfl hq),K3.out.2.2.trans hb,qah ⟨c,rfl,HFc.out⟩⟩
theorem assertA (w:World) (c:Int):(Instr.typeAssert (.iface 203 (.agg #[.int .i64 c])) 20 203 true).run Tryz.prog w=.ok (.tuple #[.agg #[.int .i64 c],.bool true]) w:=by
 simp [Instr.typeAssert,go_sem]
theorem qja (p q:Addr) (w:World) :
  CallsD Tryz.prog 142 #[.pointer (some p),.pointer (some q)] .returning w fun e u' w'=>e=.returned (.tuple #[])/\u'=.returning/\w'=w:=by
 refine callsD_of_wpS Tryz.func142 rfl fun c₀ cs hu=>?_
 apply wpS_seq;apply wpS_region;simp [wpOpsS,go_sem,recoverD,hu,Tryz.ntmps142,Exit.thenS,<-qbw,List.replicate];refine wpS_of_wp ?_;go_wp2_with fail;exact⟨rfl,.returning,by rw [<-hu],.tuple #[],results_none rfl _ _ _,rfl,rfl,rfl⟩
theorem qkl (gp gq:Nat) (c:Int) (older:List PanicEntry) (w:World) (B:Nat) (hB:B<=gp/\B<=gq/\gp≠gq) (hp:w.heap[gp]? = some (.cells #[.string ⟨#[]⟩,.string ⟨#[]⟩,.string ⟨#[]⟩,.string ⟨#[]⟩,.string ⟨#[]⟩,.string ⟨#[]⟩] 65 (0,0))) (hq:w.heap[gq]? = some (.cells #[.int .i64 0] 39 (0,0))) :
  CallsD Tryz.prog 142 #[.pointer (some ⟨gp,0,none⟩),.pointer (some ⟨gq,0,none⟩)] (.panicking ({ v:=.iface 203 (.agg #[.int .i64 c]),recovered:=false } :: older)) w fun e u' w'=>e=.returned (.tuple #[])/\u'=.panicking ({ v:=.iface 203 (.agg #[.int .i64 c]),recovered:=true } :: older) /\
   w'.heap[gp]? = some (.cells #[.string ⟨#[]⟩,.string ⟨#[]⟩,.string ⟨#[]⟩,.string ⟨#[]⟩,.string ⟨#[]⟩,.string ⟨#[]⟩] 65 (0,0))/\w'.heap[gq]? = some (.cells #[.int .i64 c] 39 (0,0))/\Below B w w':=by
 have hlp:=(qG hp).1;have hlq:=(qG hq).1;obtain⟨W1,hW1,K1⟩:=nw1 w #[.string ⟨#[]⟩,.string ⟨#[]⟩,.string ⟨#[]⟩,.string ⟨#[]⟩,.string ⟨#[]⟩,.string ⟨#[]⟩] 65;have hp1:=qH (zkeep K1.out.1 _ _ hp);have hq1:(W1.setRow gp #[.string ⟨#[]⟩,.string ⟨#[]⟩,.string ⟨#[]⟩,.string ⟨#[]⟩,.string ⟨#[]⟩,.string ⟨#[]⟩]).heap[gq]? = some (.cells #[.int .i64 0] 39 (0,0)):=(setRow_other _ _ _ _ (fun e=>hB.2.2 e.symm)).trans (zkeep K1.out.1 _ _ hq);have cq:=qC (W1.setRow gp #[.string ⟨#[]⟩,.string ⟨#[]⟩,.string ⟨#[]⟩,.string ⟨#[]⟩,.string ⟨#[]⟩,.string ⟨#[]⟩]) _ 0 _ _ _ hq1;have fq:=qF (W1.setRow gp #[.string ⟨#[]⟩,.string ⟨#[]⟩,.string ⟨#[]⟩,.string ⟨#[]⟩,.string ⟨#[]⟩,.string ⟨#[]⟩]) _ 0 _ _ hq1;have hsz:(W1.setRow gp #[.string ⟨#[]⟩,.string ⟨#[]⟩,.string ⟨#[]⟩,.string ⟨#[]⟩,.string ⟨#[]⟩,.string ⟨#[]⟩]).heap.size=W1.heap.size:=by simp [World.setRow]
 have hlp1:gp<W1.heap.size:=qag hlp K1.out.1.size;have hlq1:gq<W1.heap.size:=qag hlq K1.out.1.size;have hnq:¬gq=W1.heap.size:=by omega
 have HE:=qH (qjN hB (qcY (K1.out.1.mono (qao (qaF hB.1 hlp))) hB.1 #[.string ⟨#[]⟩,.string ⟨#[]⟩,.string ⟨#[]⟩,.string ⟨#[]⟩,.string ⟨#[]⟩,.string ⟨#[]⟩]) (qT W1 gp #[.string ⟨#[]⟩,.string ⟨#[]⟩,.string ⟨#[]⟩,.string ⟨#[]⟩,.string ⟨#[]⟩,.string ⟨#[]⟩] #[.string ⟨#[]⟩,.string ⟨#[]⟩,.string ⟨#[]⟩,.string ⟨#[]⟩,.string ⟨#[]⟩,.string ⟨#[]⟩] 65 _ hp1.out) hq1 c (.cells #[.int .i64 c] 203));clear hp hq hB hq1;have hta:=assertA;refine callsD_of_wpS Tryz.func142 rfl fun c₀ cs hu=>?_
 apply wpS_seq;apply wpS_region;simp [wpOpsS,go_sem,recoverD,hu,Tryz.ntmps142,Exit.thenS,<-qbw,List.replicate];refine wpS_of_wp ?_;go_upto_region 3 with fail;rw [<-hW1];clear hW1;have cz0:=qC W1 _ 0 _ _ _ K1.out.2;have cz1:=qC W1 _ 1 _ _ _ K1.out.2;have cz2:=qC W1 _ 2 _ _ _ K1.out.2;have cz3:=qC W1 _ 3 _ _ _ K1.out.2;have cz4:=qC W1 _ 4 _ _ _ K1.out.2;have cz5:=qC W1 _ 5 _ _ _ K1.out.2
 go_wp2_with ((with_reducible refine sR_ rfl 65 _ _ rfl (gp) #[.string ⟨#[]⟩,.string ⟨#[]⟩,.string ⟨#[]⟩,.string ⟨#[]⟩,.string ⟨#[]⟩,.string ⟨#[]⟩] hp1.out 6 ?_))
 refine⟨rfl,.panicking ({ v:=.iface 203 (.agg #[.int .i64 c]),recovered:=true } :: older),rfl,.tuple #[],results_none rfl _ _ _,rfl,rfl,?_⟩;exact HE.out
theorem qig (fc:FuncId) (caps:Array Value) (G:World->Value->Prop) (F:Int->Prop) (w:World) (hcf:∀W,(callFunc fc caps).run Tryz.prog W=.ok (.enter fc caps) W)
  (hG:∀W W' v,G W v->G W' v)
  (hf:∀w1,Below w.heap.size w w1->Calls Tryz.prog fc caps w1 fun e w'=>Below w1.heap.size w1 w'/\((∃(b0 b1 b2 b3 b4 b5:ByteArray),e=.returned (.agg #[.string b0,.string b1,.string b2,.string b3,.string b4,.string b5])/\G w' (.agg #[.string b0,.string b1,.string b2,.string b3,.string b4,.string b5]))\/∃c,e=thrown c/\F c)) :
  Calls Tryz.prog 75 #[.func (.func fc) #[] caps] w fun e w'=>Below w.heap.size w w'/\((∃(b0 b1 b2 b3 b4 b5:ByteArray),e=.returned (.tuple #[(.agg #[.string b0,.string b1,.string b2,.string b3,.string b4,.string b5]),.int .i64 0])/\G w' (.agg #[.string b0,.string b1,.string b2,.string b3,.string b4,.string b5]))\/∃c,e=.returned (.tuple #[(.agg #[.string ⟨#[]⟩,.string ⟨#[]⟩,.string ⟨#[]⟩,.string ⟨#[]⟩,.string ⟨#[]⟩,.string ⟨#[]⟩]),.int .i64 c])/\F c):=by
 have hmf:=@hmf_ Tryz.prog;obtain⟨W2,hW2,K2⟩:=nw2 w #[.string ⟨#[]⟩,.string ⟨#[]⟩,.string ⟨#[]⟩,.string ⟨#[]⟩,.string ⟨#[]⟩,.string ⟨#[]⟩] 65 #[.int .i64 0] 39;have HF:=qH (hf W2 K2.out.1);clear hf
 go_enter_defers Tryz.func75,Tryz.ntmps75
 go_upto_region 1 with fail;rw [<-hW2];clear hW2;go_wp2_with fail;refine HF.out.mono ?_;rintro e w1 ⟨hb1,h⟩;have K3:Kn (fun W=>W.heap[w.heap.size]? = some (.cells #[.string ⟨#[]⟩,.string ⟨#[]⟩,.string ⟨#[]⟩,.string ⟨#[]⟩,.string ⟨#[]⟩,.string ⟨#[]⟩] 65 (0,0))/\W.heap[w.heap.size+1]? = some (.cells #[.int .i64 0] 39 (0,0))/\Below w.heap.size w W) w1 :=
  .of ⟨zkeep hb1 _ _ K2.out.2.1,zkeep hb1 _ _ K2.out.2.2,K2.out.1.trans (hb1.mono K2.out.1.size)⟩
 clear K2;rcases h with ⟨b0,b1,b2,b3,b4,b5,rfl,hg⟩ | ⟨c,rfl,hF⟩
 ·have HE:=qH (filled (w:=w) (gp:=w.heap.size) (gq:=w.heap.size+1) (B:=w.heap.size) ⟨qad _,by omega,by omega⟩ K3.out.1 K3.out.2.1 (qT w1 _ #[.string ⟨#[]⟩,.string ⟨#[]⟩,.string ⟨#[]⟩,.string ⟨#[]⟩,.string ⟨#[]⟩,.string ⟨#[]⟩] #[.string b0,.string b1,.string b2,.string b3,.string b4,.string b5] _ _ K3.out.1) (fun k hk=>setRow_other _ _ _ _ hk) (qcY K3.out.2.2 qN _));have hgg:=hG _ ((w1.setRow w.heap.size #[.string b0,.string b1,.string b2,.string b3,.string b4,.string b5]).setCell ⟨w.heap.size+1,0,none⟩ (.int .i64 0)) _  hg;have hq1:(w1.setRow w.heap.size #[.string b0,.string b1,.string b2,.string b3,.string b4,.string b5]).heap[w.heap.size+1]? = some (.cells #[.int .i64 0] 39 (0,0)):=(setRow_other _ _ _ _ (by omega)).trans K3.out.2.1;have cq:=qC (w1.setRow w.heap.size #[.string b0,.string b1,.string b2,.string b3,.string b4,.string b5]) _ 0 _ _ _ hq1;have fq:=qF (w1.setRow w.heap.size #[.string b0,.string b1,.string b2,.string b3,.string b4,.string b5]) _ 0 _ _ hq1;have HG:=qH hgg;clear hG hg hgg HF hb1 hcf hq1;rename_i hK;dsimp only;refine hK _ _ ?_
  go_wp2_with ((with_reducible refine sR_ rfl 65 _ _ rfl (w.heap.size) #[.string b0,.string b1,.string b2,.string b3,.string b4,.string b5] K3.out.1 6 ?_))
  try simp only [bodyPostD]
  refine leaves_cons (f:=142) (args:=#[.pointer (some ⟨w.heap.size,0,none⟩),.pointer (some ⟨w.heap.size+1,0,none⟩)]) (by simp) (by simp [go_sem]) ?_;refine (qja _ _ _).mono ?_;rintro e u' w'' ⟨rfl,rfl,rfl⟩;refine⟨_,qdh rfl _ _ _ _ _ _ rfl rfl ((fun h=>run_loadVar_row _ _ _ 65 _ (0,0) _ h Tryz.underlying65 rfl (by kernel_rfl)) HE.out.1) (qdv _ Tryz.underlying39 rfl HE.out.2.1),HE.out.2.2.1,qan ⟨b0,b1,b2,b3,b4,b5,rfl,HG.out⟩⟩
 ·have HFc:=qH hF;clear hF hG HF;unfold thrown;go_wp2_with fail
  try simp only [bodyPostD]
  refine leaves_cons (f:=142) (args:=#[.pointer (some ⟨w.heap.size,0,none⟩),.pointer (some ⟨w.heap.size+1,0,none⟩)]) (by simp) (by simp [go_sem]) ?_;refine (qkl w.heap.size (w.heap.size+1) c [] _ w.heap.size ⟨qad _,by omega,by omega⟩ K3.out.1 K3.out.2.1).mono ?_;rintro e u' w'' ⟨rfl,rfl,hp,hq,hb⟩;refine⟨_,qdh rfl _ _ _ _ _ _ rfl rfl ((fun h=>run_loadVar_row _ _ _ 65 _ (0,0) _ h Tryz.underlying65 rfl (by kernel_rfl)) hp) (qdv _ Tryz.underlying39 rfl hq),K3.out.2.2.trans hb,qah ⟨c,rfl,HFc.out⟩⟩
theorem assertE (w:World) (c:Int):(Instr.typeAssert (.iface 203 (.agg #[.int .i64 c])) 20 203 true).run Tryz.prog w=.ok (.tuple #[.agg #[.int .i64 c],.bool true]) w:=by
 simp [Instr.typeAssert,go_sem]
theorem qjb (p q:Addr) (w:World) :
  CallsD Tryz.prog 156 #[.pointer (some p),.pointer (some q)] .returning w fun e u' w'=>e=.returned (.tuple #[])/\u'=.returning/\w'=w:=by
 refine callsD_of_wpS Tryz.func156 rfl fun c₀ cs hu=>?_
 apply wpS_seq;apply wpS_region;simp [wpOpsS,go_sem,recoverD,hu,Tryz.ntmps156,Exit.thenS,<-qbw,List.replicate];refine wpS_of_wp ?_;go_wp2_with fail;exact⟨rfl,.returning,by rw [<-hu],.tuple #[],results_none rfl _ _ _,rfl,rfl,rfl⟩
theorem qkm (gp gq:Nat) (c:Int) (older:List PanicEntry) (w:World) (B:Nat) (hB:B<=gp/\B<=gq/\gp≠gq) (hp:w.heap[gp]? = some (.cells #[.int .i64 0,.slice none 0 0,.slice none 0 0,.slice none 0 0,.slice none 0 0,.int .i64 0,.slice none 0 0,.slice none 0 0,.int .i64 0,.int .i64 0] 82 (0,0))) (hq:w.heap[gq]? = some (.cells #[.int .i64 0] 39 (0,0))) :
  CallsD Tryz.prog 156 #[.pointer (some ⟨gp,0,none⟩),.pointer (some ⟨gq,0,none⟩)] (.panicking ({ v:=.iface 203 (.agg #[.int .i64 c]),recovered:=false } :: older)) w fun e u' w'=>e=.returned (.tuple #[])/\u'=.panicking ({ v:=.iface 203 (.agg #[.int .i64 c]),recovered:=true } :: older) /\
   w'.heap[gp]? = some (.cells #[.int .i64 0,.slice none 0 0,.slice none 0 0,.slice none 0 0,.slice none 0 0,.int .i64 0,.slice none 0 0,.slice none 0 0,.int .i64 0,.int .i64 0] 82 (0,0))/\w'.heap[gq]? = some (.cells #[.int .i64 c] 39 (0,0))/\Below B w w':=by
 have hlp:=(qG hp).1;have hlq:=(qG hq).1;obtain⟨W1,hW1,K1⟩:=nw1 w #[.int .i64 0,.slice none 0 0,.slice none 0 0,.slice none 0 0,.slice none 0 0,.int .i64 0,.slice none 0 0,.slice none 0 0,.int .i64 0,.int .i64 0] 82;have hp1:=qH (zkeep K1.out.1 _ _ hp);have hq1:(W1.setRow gp #[.int .i64 0,.slice none 0 0,.slice none 0 0,.slice none 0 0,.slice none 0 0,.int .i64 0,.slice none 0 0,.slice none 0 0,.int .i64 0,.int .i64 0]).heap[gq]? = some (.cells #[.int .i64 0] 39 (0,0)):=(setRow_other _ _ _ _ (fun e=>hB.2.2 e.symm)).trans (zkeep K1.out.1 _ _ hq);have cq:=qC (W1.setRow gp #[.int .i64 0,.slice none 0 0,.slice none 0 0,.slice none 0 0,.slice none 0 0,.int .i64 0,.slice none 0 0,.slice none 0 0,.int .i64 0,.int .i64 0]) _ 0 _ _ _ hq1;have fq:=qF (W1.setRow gp #[.int .i64 0,.slice none 0 0,.slice none 0 0,.slice none 0 0,.slice none 0 0,.int .i64 0,.slice none 0 0,.slice none 0 0,.int .i64 0,.int .i64 0]) _ 0 _ _ hq1;have hsz:(W1.setRow gp #[.int .i64 0,.slice none 0 0,.slice none 0 0,.slice none 0 0,.slice none 0 0,.int .i64 0,.slice none 0 0,.slice none 0 0,.int .i64 0,.int .i64 0]).heap.size=W1.heap.size:=by simp [World.setRow]
 have hlp1:gp<W1.heap.size:=qag hlp K1.out.1.size;have hlq1:gq<W1.heap.size:=qag hlq K1.out.1.size;have hnq:¬gq=W1.heap.size:=by omega
 have HE:=qH (qjN hB (qcY (K1.out.1.mono (qao (qaF hB.1 hlp))) hB.1 #[.int .i64 0,.slice none 0 0,.slice none 0 0,.slice none 0 0,.slice none 0 0,.int .i64 0,.slice none 0 0,.slice none 0 0,.int .i64 0,.int .i64 0]) (qT W1 gp #[.int .i64 0,.slice none 0 0,.slice none 0 0,.slice none 0 0,.slice none 0 0,.int .i64 0,.slice none 0 0,.slice none 0 0,.int .i64 0,.int .i64 0] #[.int .i64 0,.slice none 0 0,.slice none 0 0,.slice none 0 0,.slice none 0 0,.int .i64 0,.slice none 0 0,.slice none 0 0,.int .i64 0,.int .i64 0] 82 _ hp1.out) hq1 c (.cells #[.int .i64 c] 203));clear hp hq hB hq1;have hta:=assertE;refine callsD_of_wpS Tryz.func156 rfl fun c₀ cs hu=>?_
 apply wpS_seq;apply wpS_region;simp [wpOpsS,go_sem,recoverD,hu,Tryz.ntmps156,Exit.thenS,<-qbw,List.replicate];refine wpS_of_wp ?_;go_upto_region 3 with fail;rw [<-hW1];clear hW1;have cz0:=qC W1 _ 0 _ _ _ K1.out.2;have cz1:=qC W1 _ 1 _ _ _ K1.out.2;have cz2:=qC W1 _ 2 _ _ _ K1.out.2;have cz3:=qC W1 _ 3 _ _ _ K1.out.2;have cz4:=qC W1 _ 4 _ _ _ K1.out.2;have cz5:=qC W1 _ 5 _ _ _ K1.out.2;have cz6:=qC W1 _ 6 _ _ _ K1.out.2;have cz7:=qC W1 _ 7 _ _ _ K1.out.2;have cz8:=qC W1 _ 8 _ _ _ K1.out.2;have cz9:=qC W1 _ 9 _ _ _ K1.out.2
 go_wp2_with ((with_reducible refine sR_ rfl 82 _ _ rfl (gp) #[.int .i64 0,.slice none 0 0,.slice none 0 0,.slice none 0 0,.slice none 0 0,.int .i64 0,.slice none 0 0,.slice none 0 0,.int .i64 0,.int .i64 0] hp1.out 10 ?_))
 refine⟨rfl,.panicking ({ v:=.iface 203 (.agg #[.int .i64 c]),recovered:=true } :: older),rfl,.tuple #[],results_none rfl _ _ _,rfl,rfl,?_⟩;exact HE.out
theorem qih (fc:FuncId) (caps:Array Value) (G:World->Value->Prop) (F:Int->Prop) (w:World) (hcf:∀W,(callFunc fc caps).run Tryz.prog W=.ok (.enter fc caps) W)
  (hG:∀(W W':World) (v:Value),(∀(g:Nat) (cs:Array Value) (t:TypeId) (fz:Nat×Nat),W.heap[g]? = some (.cells cs t fz)->t≠82->t≠39->W'.heap[g]? = some (.cells cs t fz))->G W v->G W' v)
  (hf:∀w1,Below w.heap.size w w1->Calls Tryz.prog fc caps w1 fun e w'=>Below w1.heap.size w1 w'/\((∃(p2:Option Addr) (n2 c2:Nat) (p3:Option Addr) (n3 c3:Nat),e=.returned (.agg #[.int .i64 2,.slice none 0 0,.slice p2 n2 c2,.slice p3 n3 c3,.slice none 0 0,.int .i64 0,.slice none 0 0,.slice none 0 0,.int .i64 0,.int .i64 0])/\G w' (.agg #[.int .i64 2,.slice none 0 0,.slice p2 n2 c2,.slice p3 n3 c3,.slice none 0 0,.int .i64 0,.slice none 0 0,.slice none 0 0,.int .i64 0,.int .i64 0]))\/∃c,e=thrown c/\F c)) :
  Calls Tryz.prog 88 #[.func (.func fc) #[] caps] w fun e w'=>Below w.heap.size w w'/\((∃(p2:Option Addr) (n2 c2:Nat) (p3:Option Addr) (n3 c3:Nat),e=.returned (.tuple #[(.agg #[.int .i64 2,.slice none 0 0,.slice p2 n2 c2,.slice p3 n3 c3,.slice none 0 0,.int .i64 0,.slice none 0 0,.slice none 0 0,.int .i64 0,.int .i64 0]),.int .i64 0])/\G w' (.agg #[.int .i64 2,.slice none 0 0,.slice p2 n2 c2,.slice p3 n3 c3,.slice none 0 0,.int .i64 0,.slice none 0 0,.slice none 0 0,.int .i64 0,.int .i64 0]))\/∃c,e=.returned (.tuple #[(.agg #[.int .i64 0,.slice none 0 0,.slice none 0 0,.slice none 0 0,.slice none 0 0,.int .i64 0,.slice none 0 0,.slice none 0 0,.int .i64 0,.int .i64 0]),.int .i64 c])/\F c):=by
 have hmf:=@hmf_ Tryz.prog;obtain⟨W2,hW2,K2⟩:=nw2 w #[.int .i64 0,.slice none 0 0,.slice none 0 0,.slice none 0 0,.slice none 0 0,.int .i64 0,.slice none 0 0,.slice none 0 0,.int .i64 0,.int .i64 0] 82 #[.int .i64 0] 39;have HF:=qH (hf W2 K2.out.1);clear hf
 go_enter_defers Tryz.func88,Tryz.ntmps88
 go_upto_region 1 with fail;rw [<-hW2];clear hW2;go_wp2_with fail;refine HF.out.mono ?_;rintro e w1 ⟨hb1,h⟩;have K3:Kn (fun W=>W.heap[w.heap.size]? = some (.cells #[.int .i64 0,.slice none 0 0,.slice none 0 0,.slice none 0 0,.slice none 0 0,.int .i64 0,.slice none 0 0,.slice none 0 0,.int .i64 0,.int .i64 0] 82 (0,0))/\W.heap[w.heap.size+1]? = some (.cells #[.int .i64 0] 39 (0,0))/\Below w.heap.size w W) w1 :=
  .of ⟨zkeep hb1 _ _ K2.out.2.1,zkeep hb1 _ _ K2.out.2.2,K2.out.1.trans (hb1.mono K2.out.1.size)⟩
 clear K2;rcases h with ⟨p2,n2,c2,p3,n3,c3,rfl,hg⟩ | ⟨c,rfl,hF⟩
 ·have HE:=qH (filled (w:=w) (gp:=w.heap.size) (gq:=w.heap.size+1) (B:=w.heap.size) ⟨qad _,by omega,by omega⟩ K3.out.1 K3.out.2.1 (qT w1 _ #[.int .i64 0,.slice none 0 0,.slice none 0 0,.slice none 0 0,.slice none 0 0,.int .i64 0,.slice none 0 0,.slice none 0 0,.int .i64 0,.int .i64 0] #[.int .i64 2,.slice none 0 0,.slice p2 n2 c2,.slice p3 n3 c3,.slice none 0 0,.int .i64 0,.slice none 0 0,.slice none 0 0,.int .i64 0,.int .i64 0] _ _ K3.out.1) (fun k hk=>setRow_other _ _ _ _ hk) (qcY K3.out.2.2 qN _));have hgg:=hG _ ((w1.setRow w.heap.size #[.int .i64 2,.slice none 0 0,.slice p2 n2 c2,.slice p3 n3 c3,.slice none 0 0,.int .i64 0,.slice none 0 0,.slice none 0 0,.int .i64 0,.int .i64 0]).setCell ⟨w.heap.size+1,0,none⟩ (.int .i64 0)) _ (fun g cs t fz hg h1 h2=>by
   have n1:g≠w.heap.size:=fun e=>h1 (by rw [e] at hg;have:=hg.symm.trans K3.out.1;simp at this;exact this.2.1)
   have n2:g≠w.heap.size+1:=fun e=>h2 (by rw [e] at hg;have:=hg.symm.trans K3.out.2.1;simp at this;exact this.2.1)
   rw [qW _ _ _ _ n2,setRow_other _ _ _ _ n1];exact hg) hg
  have hq1:(w1.setRow w.heap.size #[.int .i64 2,.slice none 0 0,.slice p2 n2 c2,.slice p3 n3 c3,.slice none 0 0,.int .i64 0,.slice none 0 0,.slice none 0 0,.int .i64 0,.int .i64 0]).heap[w.heap.size+1]? = some (.cells #[.int .i64 0] 39 (0,0)):=(setRow_other _ _ _ _ (by omega)).trans K3.out.2.1;have cq:=qC (w1.setRow w.heap.size #[.int .i64 2,.slice none 0 0,.slice p2 n2 c2,.slice p3 n3 c3,.slice none 0 0,.int .i64 0,.slice none 0 0,.slice none 0 0,.int .i64 0,.int .i64 0]) _ 0 _ _ _ hq1;have fq:=qF (w1.setRow w.heap.size #[.int .i64 2,.slice none 0 0,.slice p2 n2 c2,.slice p3 n3 c3,.slice none 0 0,.int .i64 0,.slice none 0 0,.slice none 0 0,.int .i64 0,.int .i64 0]) _ 0 _ _ hq1;have HG:=qH hgg;clear hG hg hgg HF hb1 hcf hq1;rename_i hK;dsimp only;refine hK _ _ ?_
  go_wp2_with ((with_reducible refine sR_ rfl 82 _ _ rfl (w.heap.size) #[.int .i64 2,.slice none 0 0,.slice p2 n2 c2,.slice p3 n3 c3,.slice none 0 0,.int .i64 0,.slice none 0 0,.slice none 0 0,.int .i64 0,.int .i64 0] K3.out.1 10 ?_))
  try simp only [bodyPostD]
  refine leaves_cons (f:=156) (args:=#[.pointer (some ⟨w.heap.size,0,none⟩),.pointer (some ⟨w.heap.size+1,0,none⟩)]) (by simp) (by simp [go_sem]) ?_;refine (qjb _ _ _).mono ?_;rintro e u' w'' ⟨rfl,rfl,rfl⟩;refine⟨_,qdh rfl _ _ _ _ _ _ rfl rfl ((fun h=>run_loadVar_row _ _ _ 82 _ (0,0) _ h Tryz.underlying82 rfl (by kernel_rfl)) HE.out.1) (qdv _ Tryz.underlying39 rfl HE.out.2.1),HE.out.2.2.1,qan ⟨p2,n2,c2,p3,n3,c3,rfl,HG.out⟩⟩
 ·have HFc:=qH hF;clear hF hG HF;unfold thrown;go_wp2_with fail
  try simp only [bodyPostD]
  refine leaves_cons (f:=156) (args:=#[.pointer (some ⟨w.heap.size,0,none⟩),.pointer (some ⟨w.heap.size+1,0,none⟩)]) (by simp) (by simp [go_sem]) ?_;refine (qkm w.heap.size (w.heap.size+1) c [] _ w.heap.size ⟨qad _,by omega,by omega⟩ K3.out.1 K3.out.2.1).mono ?_;rintro e u' w'' ⟨rfl,rfl,hp,hq,hb⟩;refine⟨_,qdh rfl _ _ _ _ _ _ rfl rfl ((fun h=>run_loadVar_row _ _ _ 82 _ (0,0) _ h Tryz.underlying82 rfl (by kernel_rfl)) hp) (qdv _ Tryz.underlying39 rfl hq),K3.out.2.2.trans hb,qah ⟨c,rfl,HFc.out⟩⟩
