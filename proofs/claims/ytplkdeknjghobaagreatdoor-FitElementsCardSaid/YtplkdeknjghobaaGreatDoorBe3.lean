import Derived.BigQuiet
import Derived.Deep.MidRow
import Derived.Deep.QuietTactic
import Derived.Deep.WholeRow
import Derived.Laws.CopyOwn
import Derived.Laws.EntriesVeiled
import Derived.Laws.ResultCell
import Derived.Laws.Rows
import Derived.Lib.Hide
import Derived.Outline
import Derived.Test.YtplkdeknjghobaaGreatDoorBe1
import Derived.Test.YtplkdeknjghobaaGreatDoorProg
import Derived.WalkKit
import Derived.WalkLawsBesides
import Derived.WalkSpells
set_option maxRecDepth 100000
set_option maxHeartbeats 0
namespace Go.Proofs.YtplkdeknjghobaaGreatDoor
open Go.RowKit
section
variable {P:Program}
theorem qes {ops:Array Oper} {rest:List Oper} {op:Oper} {a:Act} {w:World} {Q:Exit->Act->World->Prop} (hgd:op.guard=none) (t:TypeId) (x y:Operand) (ho:op.op=.store t x y)
  (c c':Array Value) (hx:a.eval x=.pointer (some ⟨w.heap.size,0,none⟩)) (hy:a.eval y=.agg c')
  (n:Nat) (hi:(P.info? t).map (·.size)=some n) (hc:c.size=n) (hc':c'.size=n) (h1:c'.toList.all (·.oneCell')=true)
  (h:wpList P ops Q rest (a.put op.dst undef) (w.alloc (.cells c' t))):wpList P ops Q (op :: rest) a (w.alloc (.cells c t)) :=
 wpList_plain hgd fun _ hK=>by
  have hi:(P.info? t).map (·.size)=some c'.size:=by rw [hc'];exact hi
  have hs:c.size=c'.size:=by rw [hc,hc']
  unfold Oper.wp execOp;simp only [ho,hx,hy,Instr.storeAt,Instr.sureAddr,Sem.run_bind,Sem.run_pure,Result.andThen_ok,run_storeVar_new w t c c' hi hs (Array.all_eq_true_iff_forall_mem.2 (fun v hv=>qa6.1 h1 v (by simpa using hv)))];exact hK _ _ h
theorem qk8 {ops:Array Oper} {rest:List Oper} {op:Oper} {a:Act} {w:World} {Q:Exit->Act->World->Prop} (hgd:op.guard=none) (ty:TypeId) (x:Operand) (ho:op.op=.load ty x)
  (g:Nat) (hx:a.eval x=.pointer (some ⟨g,0,none⟩)) (t:TypeId) (cs:Array Value) (d:TypeDesc) (hg:w.heap[g]? = some (.cells cs t (0,0)))
  (hu:P.underlying ty=some d) (hd:(match d with | .struct _ | .array _ _=>true | _=>false)=true) (n:Nat) (hi:(P.info? ty).map (·.size)=some n) (hcs:cs.size=n)
  (h:wpList P ops Q rest (a.put op.dst (.agg cs)) w):wpList P ops Q (op :: rest) a w :=
 wpList_load_row hgd ty x ho g hx t cs (0,0) d hg hu hd (by rw [hcs];exact hi) h
theorem wpList_store_row {ops:Array Oper} {rest:List Oper} {op:Oper} {a:Act} {w:World} {Q:Exit->Act->World->Prop} (hgd:op.guard=none) (ty:TypeId) (x y:Operand) (ho:op.op=.store ty x y)
  (g:Nat) (cells:Array Value) (hx:a.eval x=.pointer (some ⟨g,0,none⟩)) (hy:a.eval y=.agg cells)
  (t:TypeId) (old:Array Value) (hg:w.heap[g]? = some (.cells old t (0,0))) (n:Nat) (hi:(P.info? ty).map (·.size)=some n)
  (hold:old.size=n) (hcs:cells.size=n) (h1:cells.toList.all (·.oneCell')=true)
  (h:wpList P ops Q rest (a.put op.dst undef) (w.setRow g cells)):wpList P ops Q (op :: rest) a w :=
 wpList_plain hgd fun _ hK=>wp_store_row ty x y ho g cells hx hy t old hg (by rw [hcs];exact hi) (by rw [hold,hcs]) (Array.all_eq_true_iff_forall_mem.2 (fun v hv=>qa6.1 h1 v (by simpa using hv))) (hK _ _ h)
end
theorem below_setRow {B:Nat} {a w:World} (h:Below B a w) {g:Nat} (hg:B<=g) (cs:Array Value):Below B a (w.setRow g cs) :=
 h.trans ⟨rfl,rfl,rfl,by simp [World.setRow],fun k hk=>by
  simp only [World.setRow,Array.getElem?_modify];rw [if_neg (by omega)]⟩
theorem qM (w:World) (o:Obj) (n:Nat) (h:w.heap.size=n):(w.alloc o).heap[n]? = some o:=by
 subst h;exact heap_alloc_new w o
theorem qL (w:World) (o:Obj) (n:Nat) (h:n<w.heap.size):(w.alloc o).heap[n]? = w.heap[n]?:=by show (w.heap.push o)[n]? = w.heap[n]?;rw [Array.getElem?_push,if_neg (Nat.ne_of_lt h)]
theorem qhB {P:Program} {f:FuncId} {args:Array Value} {w:World} {n:Nat} {v:Value}
  (h:Calls P f args (w.drewN n) fun e w'=>e=.returned v/\w.drewN n=w'):Calls P f args (w.drewN n) fun e w''=>e=.returned v/\∃m,w''=w.drewN m :=
 h.mono fun _ _ ⟨he,hm⟩=>⟨he,n,hm.symm⟩
theorem results_row {P:Program} {fn:Func} {p:Tmp} {ty:TypeId} (h:fn.results=#[.cell p ty]) (tmps:Array Value) (w:World) (g:Nat) (t:TypeId) (cs:Array Value) (d:TypeDesc)
  (hp:tmps.getD p undef=.pointer (some ⟨g,0,none⟩)) (hg:w.heap[g]? = some (.cells cs t (0,0)))
  (hu:P.underlying ty=some d) (hd:(match d with | .struct _ | .array _ _=>true | _=>false)=true) (n:Nat) (hi:(P.info? ty).map (·.size)=some n) (hcs:cs.size=n) :
  (results fn tmps).run P w=.ok (.agg cs) w :=
 results_cell_row h tmps w g t cs (0,0) d hp hg hu hd (by rw [hcs];exact hi)
theorem results_row2 {P:Program} {fn:Func} {p q:Tmp} {ty:TypeId} (h:fn.results=#[.cell p ty,.tmp q]) (tmps:Array Value) (w:World) (g:Nat) (t:TypeId) (cs:Array Value) (d:TypeDesc)
  (hp:tmps.getD p undef=.pointer (some ⟨g,0,none⟩)) (hg:w.heap[g]? = some (.cells cs t (0,0)))
  (hu:P.underlying ty=some d) (hd:(match d with | .struct _ | .array _ _=>true | _=>false)=true) (n:Nat) (hi:(P.info? ty).map (·.size)=some n) (hcs:cs.size=n) (v2:Value) (hq:tmps.getD q undef=v2) :
  (results fn tmps).run P w=.ok (.tuple #[.agg cs,v2]) w:=by
 rw [results_cell_tmp h,hp,hq];simp [asAddr,run_loadVar_row w g t ty cs (0,0) d hg hu hd (by rw [hcs];exact hi),Result.andThen]
theorem qb1 {B:Nat} {w w':World} (h:Below B w.drew w'):Below B w w':=((Below.refl B w).drew).trans h
theorem bcell {B:Nat} {W w1:World} (hb:Below B W w1):(∀b o,b<B->w1.cell? ⟨b,o,none⟩=W.cell? ⟨b,o,none⟩)/\(∀b o,b<B->w1.frozen? ⟨b,o,none⟩=W.frozen? ⟨b,o,none⟩) :=
 ⟨fun b o h=>hb.cell (p:=⟨b,o,none⟩) h,fun b o h=>hb.frozen (p:=⟨b,o,none⟩) h⟩
theorem sR_ {P:Program} {ops:Array Oper} {rest:List Oper} {op:Oper} {a:Act} {w:World} {Q:Exit->Act->World->Prop} (hgd:op.guard=none) (ty:TypeId) (x y:Operand) (ho:op.op=.store ty x y)
  (g:Nat) (cells:Array Value) {t:TypeId} {old:Array Value} (hg:w.heap[g]? = some (.cells old t (0,0))) (n:Nat) (h:wpList P ops Q rest (a.put op.dst undef) (w.setRow g cells))
  (hx:a.eval x=.pointer (some ⟨g,0,none⟩):=by with_unfolding_all rfl) (hy:a.eval y=.agg cells:=by with_unfolding_all rfl) (hi:(P.info? ty).map (·.size)=some n:=by kernel_rfl)
  (hold:old.size=n:=by with_unfolding_all rfl) (hcs:cells.size=n:=by with_unfolding_all rfl) (h1:cells.toList.all (·.oneCell')=true:=by with_unfolding_all rfl):wpList P ops Q (op :: rest) a w :=
 wpList_store_row hgd ty x y ho g cells hx hy t old hg n hi hold hcs h1 h
theorem lW_ {P:Program} {ops:Array Oper} {rest:List Oper} {op:Oper} {a:Act} {w:World} {Q:Exit->Act->World->Prop} (hgd:op.guard=none) (ty:TypeId) (x:Operand) (ho:op.op=.load ty x)
  (g:Nat) (cs:Array Value) {t:TypeId} {d:TypeDesc} (hg:w.heap[g]? = some (.cells cs t (0,0))) (hu:P.underlying ty=some d) (n:Nat) (h:wpList P ops Q rest (a.put op.dst (.agg cs)) w)
  (hx:a.eval x=.pointer (some ⟨g,0,none⟩):=by with_unfolding_all rfl) (hd:(match d with | .struct _ | .array _ _=>true | _=>false)=true:=by with_unfolding_all rfl) (hi:(P.info? ty).map (·.size)=some n:=by kernel_rfl) (hcs:cs.size=n:=by with_unfolding_all rfl):wpList P ops Q (op :: rest) a w :=
 qk8 hgd ty x ho g hx t cs d hg hu hd n hi hcs h
theorem hmf_ {P:Program} (fn:Fn) (first cap:Array Value) (w:World):(Instr.makeFunc fn first cap).run P w=.ok (.func fn first cap) w:=rfl
theorem rA_ {P:Program} {fn:Func} {p:Tmp} {ty:TypeId} (h:fn.results=#[.cell p ty]) {tmps:Array Value} {w:World} (g:Nat) {t:TypeId} {cs:Array Value} {d:TypeDesc} (hg:w.heap[g]? = some (.cells cs t (0,0))) (hu:P.underlying ty=some d) (n:Nat)
  (hp:tmps.getD p undef=.pointer (some ⟨g,0,none⟩):=by rfl) (hd:(match d with | .struct _ | .array _ _=>true | _=>false)=true:=by rfl) (hi:(P.info? ty).map (·.size)=some n:=by kernel_rfl) (hcs:cs.size=n:=by rfl):(results fn tmps).run P w=.ok (.agg cs) w :=
 results_row h tmps w g t cs d hp hg hu hd n hi hcs
theorem rB_ {P:Program} {fn:Func} {p q:Tmp} {ty:TypeId} (h:fn.results=#[.cell p ty,.tmp q]) {tmps:Array Value} {w:World} (g:Nat) {t:TypeId} {cs:Array Value} {d:TypeDesc} (hg:w.heap[g]? = some (.cells cs t (0,0))) (hu:P.underlying ty=some d) (n:Nat) {v2:Value}
  (hp:tmps.getD p undef=.pointer (some ⟨g,0,none⟩):=by rfl) (hd:(match d with | .struct _ | .array _ _=>true | _=>false)=true:=by rfl) (hi:(P.info? ty).map (·.size)=some n:=by kernel_rfl) (hcs:cs.size=n:=by rfl) (hq:tmps.getD q undef=v2:=by rfl):(results fn tmps).run P w=.ok (.tuple #[.agg cs,v2]) w :=
 results_row2 h tmps w g t cs d hp hg hu hd n hi hcs v2 hq
theorem qS:type_of% @Go.below_setRow:=@Go.below_setRow
theorem qT:type_of% @Go.setRow_heap:=@Go.setRow_heap
theorem qW:type_of% @Go.RowKit.Below.heap_setCell:=@Go.RowKit.Below.heap_setCell
theorem u64_in (n:Nat) (h:n<18446744073709551616):IntKind.u64.wrap (n:Int)=n:=by
 show (n:Int) % 18446744073709551616=n
 omega
theorem tdivN (t m c:Nat) (h:t / m=c):(t:Int).tdiv (m:Int)=c:=by
 rw [Int.tdiv_eq_ediv_of_nonneg (by omega),<-h];exact (Int.natCast_ediv t m).symm
theorem tmodN (t m c:Nat) (h:t % m=c):(t:Int).tmod (m:Int)=c:=by
 rw [Int.tmod_eq_emod_of_nonneg (by omega),<-h];exact (Int.natCast_emod t m).symm
theorem tdivB (t c:Nat) (h:t / 1000000000=c):(t:Int).tdiv 1000000000=c:=tdivN t 1000000000 c h
theorem tmodB (t c:Nat) (h:t % 1000000000=c):(t:Int).tmod 1000000000=c:=tmodN t 1000000000 c h
def dg (L:List Nat) (k:Nat):Nat:=L.getD k 0
structure Cells (W:World) (ao:Option Addr) (b off:Nat) (L:List Nat):Prop where
 addr:0<L.length->ao=some ⟨b,off,none⟩
 cell:∀k,k<L.length->W.cell? ⟨b,off+k,none⟩=some (.int .u32 ((dg L k:Nat):Int))
theorem Cells.below {W W':World} {ao:Option Addr} {b off:Nat} {L:List Nat} (h:Cells W ao b off L) (hb:Below W.heap.size W W'):Cells W' ao b off L :=
 ⟨h.addr,fun k hk=>(hb.cell (qac W _ (h.cell k hk))).trans (h.cell k hk)⟩
theorem Cells.take {W:World} {ao:Option Addr} {b off:Nat} {L:List Nat} (h:Cells W ao b off L) (n:Nat):Cells W ao b off (L.take n) :=
 ⟨fun h0=>h.addr (by rw [qar] at h0;omega),fun k hk=>by
  rw [qar] at hk;rw [h.cell k (by omega),dg,dg,qaa,qaa,qbA (by omega)]⟩
structure IsM (W:World) (ao:Option Addr) (b off c n:Nat) (L:List Nat):Prop where
 len:L.length=n
 cap:n<=c
 cells:Cells W ao b off L
 dig:Dig L
 nrm:Nrm L
theorem IsM.below {W W':World} {ao:Option Addr} {b off c n:Nat} {L:List Nat} (h:IsM W ao b off c n L) (hb:Below W.heap.size W W'):IsM W' ao b off c n L:=⟨h.len,h.cap,h.cells.below hb,h.dig,h.nrm⟩
theorem IsM.addr {W:World} {ao:Option Addr} {b off c n:Nat} {L:List Nat} (h:IsM W ao b off c n L):0<n->ao=some ⟨b,off,none⟩:=by rw [<-h.len];exact h.cells.addr
theorem IsM.cell {W:World} {ao:Option Addr} {b off c n:Nat} {L:List Nat} (h:IsM W ao b off c n L):∀k,k<n->W.cell? ⟨b,off+k,none⟩=some (.int .u32 ((dg L k:Nat):Int)):=by rw [<-h.len];exact h.cells.cell
def MagAt (W:World) (v:Value) (x:Nat):Prop:=∃(ao:Option Addr) (b off c n:Nat) (L:List Nat),v=.slice ao n c/\IsM W ao b off c n L/\mval L=x
theorem MagAt.below {W W':World} {v:Value} {x:Nat} (h:MagAt W v x) (hb:Below W.heap.size W W'):MagAt W' v x:=by
 obtain⟨ao,b,off,c,n,L,rfl,h1,h2⟩:=h;exact⟨ao,b,off,c,n,L,rfl,h1.below hb,h2⟩
theorem MagAt.nil (W:World):MagAt W (.slice none 0 0) 0:=⟨none,0,0,0,0,[],rfl,⟨rfl,qad _,⟨fun h=>absurd h (by simp),fun k h=>absurd h (by simp)⟩,Dig.nil,qan rfl⟩,rfl⟩
def Fit (x K:Nat):Prop:=x<1000000000 ^ K
theorem Fit.le {x y K:Nat} (h:Fit y K) (hx:x<=y):Fit x K:=qaF hx h
theorem Fit.mono {x K M:Nat} (h:Fit x K) (hK:K<=M):Fit x M:=qag h (qa3 (by decide) hK)
theorem Fit.mul {x y K M:Nat} (h:Fit x K) (k:Fit y M):Fit (x*y) (K+M):=by
 unfold Fit at *;rw [Nat.pow_add];exact Nat.mul_lt_mul'' h k
theorem Fit.add {x y K:Nat} (h:Fit x K) (k:Fit y K):Fit (x+y) (K+1):=by
 unfold Fit at *;rw [qaD];omega
theorem Fit.len {W:World} {ao:Option Addr} {b off c n:Nat} {L:List Nat} {K:Nat} (h:Fit (mval L) K) (k:IsM W ao b off c n L):n<=K:=by
 rw [<-k.len];exact k.nrm.len h
def row32 (L:List Nat):List Value:=L.map fun (d:Nat)=>Value.int .u32 (d:Int)
theorem qcc (L:List Nat):(row32 L).length=L.length:=by unfold row32;exact qaw _
theorem qmO (L:List Nat) (k d:Nat):(row32 L).set k (.int .u32 (d:Int))=row32 (L.set k d):=by unfold row32;rw [List.map_set]
theorem qcz (L:List Nat) (k:Nat) (h:k<L.length):(row32 L)[k]? = some (.int .u32 ((dg L k:Nat):Int)):=by
 unfold row32 dg;rw [qaM,qdK h];rfl
theorem qc5 (L:List Nat) (d:Nat):row32 (L++[d])=row32 L++[.int .u32 (d:Int)]:=by unfold row32;rw [qa5];rfl
theorem qmd (n:Nat):(madeCells #[Value.int .u32 0] n).toList=row32 (List.replicate n 0):=by
 rw [toList_madeCells_one];unfold row32;rw [List.map_replicate];rfl
theorem qcn {W:World} {B e g n c:Nat} {L:List Nat} (h:W.ownsRow B e 1 (.slice (some ⟨g,0,none⟩) n c) n (row32 L)) (hl:L.length=n):Cells W (some ⟨g,0,none⟩) g 0 L :=
 ⟨fun _=>rfl,fun k hk=>by
  rw [qaO,h.cellAt k (by omega)];exact qcz L k hk⟩
theorem qcA {W:World} {B e g n c:Nat} {R:List Nat} (h:W.ownsRow B e 1 (.slice (some ⟨g,0,none⟩) n c) n (row32 R)) (k:Nat) {s:Int} (d:Nat) (hs:s=(d:Int)) :
  (W.setCell ⟨g,k,none⟩ (.int .u32 s)).ownsRow B e 1 (.slice (some ⟨g,0,none⟩) n c) n (row32 (R.set k d)):=by
 have h1:=(h.stored k (.int .u32 s)).1
 rwa [hs,qmO,<-hs] at h1
theorem qcL (W:World) (v:Value) (e:TypeId):∀j u,[v][j]? = some u->(W.alloc (.cells #[v] e)).cell? ((⟨W.heap.size,0,none⟩:Addr).add j)=some u:=by
 intro j u hj
 match j,hj with
 | 0,hj =>
  simp only [List.getElem?_cons_zero,Option.some.injEq] at hj;subst hj;exact qC _ _ 0 _ _ _ (heap_alloc_new W _)
theorem one_cell (k:IntKind) (s:Int):∀u∈[Value.int k s],u.oneCell'=true:=by
 intro u hu;rw [qap.1 hu];rfl
theorem qdu {W:World} {B e g k c:Nat} {S:List Nat} {s:Int} {d:Nat} (h:W.ownsRow B e 1 (.slice (some ⟨g,0,none⟩) (k+1) c) (k+1) (row32 S++[.int .u32 s])) (hs:s=(d:Int)) :
  W.ownsRow B e 1 (.slice (some ⟨g,0,none⟩) (k+1) c) (k+1) (row32 (S++[d])):=by
 rw [qc5,<-hs];exact h
theorem qch {B:Nat} {w W W1:World} {o:Obj} {row:Option Nat} (h:Below B w W) (hw:B<=w.heap.size) (hg:(W.alloc o).grownBy W1 row) (hr:∀k,row=some k->B<=k):Below B w W1:=by
 have h1:=h.size;refine (h.alloc (qaj hw h1) o).grown hg ?_ hr;simp only [qab];omega
theorem qcT (w:World) (row:Option Nat):w.grownBy w row:=⟨rfl,rfl,rfl,qad _,fun _ _ _=>rfl⟩
theorem qbU {a b c:World} {row:Option Nat} (h:a.grownBy b row) (k:b.grownBy c row):a.grownBy c row :=
 ⟨k.os.trans h.os,k.tape.trans h.tape,k.output.trans h.output,qaj h.size k.size,fun i hi hr=>(k.block i (qag hi h.size) hr).trans (h.block i hi hr)⟩
theorem qcu {a b:World} {row:Option Nat} (h:a.grownBy b row) (n:Nat):a.grownBy (b.drewN n) row:=⟨h.os,h.tape,h.output,h.size,h.block⟩
theorem qcd {a b c:World} {row:Option Nat} (h:a.grownBy b row) (k:Below b.heap.size b c):a.grownBy c row :=
 ⟨k.os.trans h.os,k.tape.trans h.tape,k.output.trans h.output,qaj h.size k.size,fun i hi hr=>(k.block i (qag hi h.size)).trans (h.block i hi hr)⟩
theorem qeL {a b:World} {g:Nat} {ao:Option Addr} {bo off:Nat} {L:List Nat} (h:a.grownBy b (some g)) (hc:Cells a ao bo off L) (hne:0<L.length->bo≠g):Cells b ao bo off L :=
 ⟨hc.addr,fun k hk=>h.cell (hc.cell k hk) (fun e=>hne (by omega) (qai e))⟩
theorem qj7 {W W':World} {B e g n c:Nat} {xs:List Value} (h:W.ownsRow B e 1 (.slice (some ⟨g,0,none⟩) n c) n xs) (hb:Below W.heap.size W W'):W'.ownsRow B e 1 (.slice (some ⟨g,0,none⟩) n c) n xs:=by
 have hl:=h.lt g rfl;refine⟨h.1,?_⟩;rcases h.2 with ⟨h',_⟩ | ⟨g',cap',cur,h',hb',hg,hr⟩
 ·simp at h'
 ·have e:g'=g:=by
   simp only [qbE,Option.some.injEq,Addr.mk.injEq,and_true,true_and] at h';exact h'.1.symm
  subst e;exact .inr ⟨g',cap',cur,h',hb',(hb.block g' hl.2).trans hg,hr⟩
theorem qeq {W:World} {B e g n c:Nat} {xs:List Value} (h:W.ownsRow B e 1 (.slice (some ⟨g,0,none⟩) n c) n xs) (k:Nat) (u:Value):W.grownBy (W.setCell ⟨g,k,none⟩ u) (some g):=(h.stored k u).2
theorem dg_mid (A R C:List Nat) (i:Nat) (hi:i<R.length):dg (A++R++C) (A.length+i)=dg R i:=by
 unfold dg;rw [qaa,qaa,qay,qas (by omega),Nat.add_sub_cancel_left,qaA hi]
theorem set_mid (A R C:List Nat) (i d:Nat) (hi:i<R.length):(A++R++C).set (A.length+i) d=A++R.set i d++C:=by
 rw [qay,qbd _ _ (by omega),Nat.add_sub_cancel_left,List.set_append_left _ _ hi,<-qay]
theorem qeN (W:World) (n:Nat) (e:TypeId):(W.alloc (.cells (madeCells #[.int .u32 0] n) e)).heap[W.heap.size]? = some (.cells (row32 (List.replicate n 0)).toArray e (0,0)):=by
 rw [<-qmd,Array.toArray_toList];exact heap_alloc_new W _
theorem qf4 {W:World} {B e g n:Nat} {L:List Nat} (h:W.heap[g]? = some (.cells (row32 L).toArray e (0,0))) (hl:L.length=n) (hB:B<=g) (hn:n<=maxLen):W.ownsRow B e 1 (.slice (some ⟨g,0,none⟩) n n) n (row32 L):=by
 refine⟨by rw [qcc];omega,.inr ⟨g,n,_,rfl,hB,h,qad _,hn,by simp [qcc,hl],?_⟩⟩
 show (row32 L).take (n*1)=row32 L
 exact qak (by rw [qcc];omega)
theorem qkf (L T:List Nat) (_h:T.length<=L.length):splice (row32 L) 0 (row32 T)=row32 (T++L.drop T.length):=by
 unfold splice row32;rw [List.take_zero,qbq,qa5,qaw,qaO,List.map_drop]
theorem qdV (W:World) (e:TypeId) {s:Nat} (h0:0<s) (h1:s<1000000000):MagAt (W.alloc (.cells #[.int .u32 (s:Int)] e)) (.slice (some ⟨W.heap.size,0,none⟩) 1 1) s:=by
 refine⟨_,W.heap.size,0,1,1,[s],rfl,⟨rfl,qad _,⟨fun _=>rfl,fun k hk=>?_⟩,Dig.of (by simpa using h1),?_⟩,by simp [mval]⟩
 ·match k,hk with
  | 0,_=>exact qC _ _ 0 _ _ _ (heap_alloc_new W _)
 ·right;show s≠0;omega
theorem qgv {W W':World} {B e g g' n c:Nat} {xs:List Value} (h:W.ownsRow B e 1 (.slice (some ⟨g,0,none⟩) n c) n xs) (hg:W.grownBy W' (some g')) (hne:g≠g'):W'.ownsRow B e 1 (.slice (some ⟨g,0,none⟩) n c) n xs :=
 h.kept hg (qah (fun e=>hne (qai e)))
theorem qgs {W W':World} {ao:Option Addr} {b off c n g:Nat} {L:List Nat} (h:IsM W ao b off c n L) (hg:W.grownBy W' (some g)) (hne:b≠g):IsM W' ao b off c n L:=⟨h.len,h.cap,qeL hg h.cells (fun _=>hne),h.dig,h.nrm⟩
theorem qit {W:World} {ao:Option Addr} {b off c n:Nat} {L:List Nat} (h:IsM W ao b off c n L) (h0:0<n):b<W.heap.size:=qac W ⟨b,off+0,none⟩ (h.cell 0 h0)
theorem qiT (L:List Nat):∀v∈row32 L,v.oneCell'=true:=by
 intro v hv;unfold row32 at hv;obtain⟨d,_,rfl⟩:=qbB.1 hv
 rfl
theorem addr_add (b o k:Nat):(⟨b,o,none⟩:Addr).add k=⟨b,o+k,none⟩:=by simp [Addr.add]
theorem qmI {W:World} {B e n:Nat} {v:Value} {S:List Nat} (h:W.ownsRow B e 1 v n (row32 S)) (hd:Dig S) (hn:Nrm S):MagAt W v (mval S):=by
 rcases h.2 with ⟨rfl,rfl⟩ | ⟨g,c,cur,rfl,hb,hg,hnc,hm,hs,ht⟩
 ·have h0:S.length=0:=by have:=h.1;rw [qcc] at this;omega
  rw [qbu.1 h0];exact MagAt.nil W
 ·have hl:S.length=n:=by have:=h.1;rw [qcc] at this;omega
  exact⟨_,g,0,c,n,S,rfl,⟨hl,hnc,qcn h hl,hd,hn⟩,rfl⟩
def cmp3 (x y:Int):Int:=if x<y then -1 else if x=y then 0 else 1
theorem qiu (a:Int) (w:World):Calls Tryz.prog 265 #[.int .i64 a] w fun e w'=>e=.returned (.bool false)/\w'=w:=by
 go_enter Tryz.func265,Tryz.ntmps265;go_wp2;go_ret;exact⟨rfl,rfl⟩
theorem qiv (a:Int) (w:World):Calls Tryz.prog 266 #[.int .u32 a] w fun e w'=>e=.returned (.bool false)/\w'=w:=by
 go_enter Tryz.func266,Tryz.ntmps266;go_wp2;go_ret;exact⟨rfl,rfl⟩
theorem qll (a b:Int) (w:World):Calls Tryz.prog 218 #[.int .i64 a,.int .i64 b] w fun e w'=>e=.returned (.int .i64 (cmp3 a b))/\w'=w:=by
 have H1:=qH (qiu a);have H2:=qH (qiu b);rcases Int.lt_trichotomy a b with h | h | h
 ·have hr:cmp3 a b = -1:=by unfold cmp3;rw [if_pos h]
  rw [hr];clear hr;go_enter Tryz.func218,Tryz.ntmps218;go_wp2_with fail;refine (H1.out _).mono ?_;rintro e w1 ⟨rfl,rfl⟩;go_wp2_with fail;refine (H2.out _).mono ?_;rintro e w2 ⟨rfl,rfl⟩;go_wp2;go_ret;exact⟨rfl,rfl⟩
 ·subst h;have hr:cmp3 a a=0:=by unfold cmp3;rw [if_neg (Int.lt_irrefl a),if_pos rfl]
  rw [hr];clear hr;have h1:¬a<a:=Int.lt_irrefl a;go_enter Tryz.func218,Tryz.ntmps218;go_wp2_with fail;refine (H1.out _).mono ?_;rintro e w1 ⟨rfl,rfl⟩;go_wp2_with fail;refine (H1.out _).mono ?_;rintro e w2 ⟨rfl,rfl⟩;go_wp2;go_ret;exact⟨rfl,rfl⟩
 ·have h1:¬a<b:=by omega
  have hr:cmp3 a b=1:=by unfold cmp3;rw [if_neg h1,if_neg (by omega)]
  rw [hr];clear hr;go_enter Tryz.func218,Tryz.ntmps218;go_wp2_with fail;refine (H1.out _).mono ?_;rintro e w1 ⟨rfl,rfl⟩;go_wp2_with fail;refine (H2.out _).mono ?_;rintro e w2 ⟨rfl,rfl⟩;go_wp2;go_ret;exact⟨rfl,rfl⟩
theorem qlm (a b:Int) (w:World):Calls Tryz.prog 219 #[.int .u32 a,.int .u32 b] w fun e w'=>e=.returned (.int .i64 (cmp3 a b))/\w'=w:=by
 have H1:=qH (qiv a);have H2:=qH (qiv b);rcases Int.lt_trichotomy a b with h | h | h
 ·have hr:cmp3 a b = -1:=by unfold cmp3;rw [if_pos h]
  rw [hr];clear hr;go_enter Tryz.func219,Tryz.ntmps219;go_wp2_with fail;refine (H1.out _).mono ?_;rintro e w1 ⟨rfl,rfl⟩;go_wp2_with fail;refine (H2.out _).mono ?_;rintro e w2 ⟨rfl,rfl⟩;go_wp2;go_ret;exact⟨rfl,rfl⟩
 ·subst h;have hr:cmp3 a a=0:=by unfold cmp3;rw [if_neg (Int.lt_irrefl a),if_pos rfl]
  rw [hr];clear hr;have h1:¬a<a:=Int.lt_irrefl a;go_enter Tryz.func219,Tryz.ntmps219;go_wp2_with fail;refine (H1.out _).mono ?_;rintro e w1 ⟨rfl,rfl⟩;go_wp2_with fail;refine (H1.out _).mono ?_;rintro e w2 ⟨rfl,rfl⟩;go_wp2;go_ret;exact⟨rfl,rfl⟩
 ·have h1:¬a<b:=by omega
  have hr:cmp3 a b=1:=by unfold cmp3;rw [if_neg h1,if_neg (by omega)]
  rw [hr];clear hr;go_enter Tryz.func219,Tryz.ntmps219;go_wp2_with fail;refine (H1.out _).mono ?_;rintro e w1 ⟨rfl,rfl⟩;go_wp2_with fail;refine (H2.out _).mono ?_;rintro e w2 ⟨rfl,rfl⟩;go_wp2;go_ret;exact⟨rfl,rfl⟩
end Go.Proofs.YtplkdeknjghobaaGreatDoor
namespace Go.Proofs.YtplkdeknjghobaaGreatDoor.whole
open Go.RowKit
theorem qfL (ao:Option Addr) (b off c n:Nat) (L:List Nat) (w:World) (hn:L.length=n) (hlen:n<=1099511627776) (hc:n<=c) (hcells:Cells w ao b off L) :
  Calls Tryz.prog 279 #[.slice ao n c] w fun e w'=>∃m,e=.returned (.slice ao m c)/\w'=w/\m<=n/\Zero L m/\(m=0\/L.getD (m-1) 0≠0):=by
 have hz:Zero L n:=by rw [<-hn];exact Zero.all L
 obtain⟨ha,hcell⟩:=hcells;rw [hn] at ha hcell;have Ha:=qH ha;have Hcell:=qH hcell;have Hz:=qH hz;clear ha hcell hz hn;go_enter Tryz.func279,Tryz.ntmps279;go_wp2
 go_loopw [0] (fun x0 W=>∃m:Nat,x0=.slice ao m c/\W=w/\m<=n/\Hid (Zero L m)) (fun x0 _=>match x0 with | .slice _ m _=>m | _=>0)
 case atStart=>exact⟨n,rfl,rfl,qad _,Hz⟩
 case round =>
  obtain⟨m,rfl,rfl,hm,hz⟩:=hrel
  by_cases hm0:m=0
  ·subst hm0;have Hm:=qH hm;clear hm;go_wp2;go_ret;exact⟨0,rfl,rfl,qam _,hz.out,qan rfl⟩
  ·have hm1:(0:Int)<m:=by omega
   have haw:=Ha.out (by omega);subst haw;have hcl:=Hcell.out (m-1) (by omega);have e1:((m-1:Nat):Int)=(m:Int)-1:=by omega
   by_cases h0:dg L (m-1)=0
   ·rw [h0] at hcl;have H0:=qH h0;clear h0;go_wp2;go_roundw
    case rel=>exact⟨m-1,rfl,trivial,by omega,qH (Zero.down (n:=m-1) (by rw [show m-1+1=m by omega];exact hz.out) H0.out)⟩
    case measure=>show m-1<m;omega
   ·have hne:¬((dg L (m-1):Nat):Int)=0:=by omega
    have H0:=qH h0;clear h0;go_wp2;go_ret;exact⟨m,rfl,rfl,hm,hz.out,qah H0.out⟩
theorem qdm:(Tryz.prog.info? 232).map (fun i=>(i.zero,i.size,i.bytes))=some (some (.int .u32 0),1,4):=by kernel_rfl
theorem qcR (ao:Option Addr) (b off c n:Nat) (L:List Nat) (w:World) (hn:L.length=n) (hlen:n<=1099511627776) (hc:n<=c) (hcells:Cells w ao b off L) (hd:Dig L) :
  Calls Tryz.prog 279 #[.slice ao n c] w fun e w'=>∃v,e=.returned v/\w'=w/\MagAt w v (mval L):=by
 refine (qfL ao b off c n L w hn hlen hc hcells).mono ?_;rintro e w' ⟨m,rfl,rfl,hm,hz,h0⟩;refine⟨_,rfl,rfl,ao,b,off,c,m,L.take m,rfl,⟨?_,by omega,hcells.take m,hd.take m,?_⟩,qcp hz⟩
 ·rw [qar];omega
 ·have hl:(L.take m).length=m:=by rw [qar];omega
  rcases h0 with h0 | h0
  ·exact qan (by rw [hl,h0])
  ·right
   rw [hl]
   by_cases hm0:m=0
   ·subst hm0;exact absurd (hz _ (qam _)) h0
   ·rw [qaa,qbA (by omega),<-qaa];exact h0
end Go.Proofs.YtplkdeknjghobaaGreatDoor.whole
namespace Go.Proofs.YtplkdeknjghobaaGreatDoor.frac
open Go.RowKit
theorem qfL (ao:Option Addr) (b off c n:Nat) (L:List Nat) (w:World) (hn:L.length=n) (hlen:n<=1099511627776) (hc:n<=c) (hcells:Cells w ao b off L) :
  Calls Tryz.prog 215 #[.slice ao n c] w fun e w'=>∃m,e=.returned (.slice ao m c)/\w'=w/\m<=n/\Zero L m/\(m=0\/L.getD (m-1) 0≠0):=by
 have hz:Zero L n:=by rw [<-hn];exact Zero.all L
 obtain⟨ha,hcell⟩:=hcells;rw [hn] at ha hcell;have Ha:=qH ha;have Hcell:=qH hcell;have Hz:=qH hz;clear ha hcell hz hn;go_enter Tryz.func215,Tryz.ntmps215;go_wp2
 go_loopw [0] (fun x0 W=>∃m:Nat,x0=.slice ao m c/\W=w/\m<=n/\Hid (Zero L m)) (fun x0 _=>match x0 with | .slice _ m _=>m | _=>0)
 case atStart=>exact⟨n,rfl,rfl,qad _,Hz⟩
 case round =>
  obtain⟨m,rfl,rfl,hm,hz⟩:=hrel
  by_cases hm0:m=0
  ·subst hm0;have Hm:=qH hm;clear hm;go_wp2;go_ret;exact⟨0,rfl,rfl,qam _,hz.out,qan rfl⟩
  ·have hm1:(0:Int)<m:=by omega
   have haw:=Ha.out (by omega);subst haw;have hcl:=Hcell.out (m-1) (by omega);have e1:((m-1:Nat):Int)=(m:Int)-1:=by omega
   by_cases h0:dg L (m-1)=0
   ·rw [h0] at hcl;have H0:=qH h0;clear h0;go_wp2;go_roundw
    case rel=>exact⟨m-1,rfl,trivial,by omega,qH (Zero.down (n:=m-1) (by rw [show m-1+1=m by omega];exact hz.out) H0.out)⟩
    case measure=>show m-1<m;omega
   ·have hne:¬((dg L (m-1):Nat):Int)=0:=by omega
    have H0:=qH h0;clear h0;go_wp2;go_ret;exact⟨m,rfl,rfl,hm,hz.out,qah H0.out⟩
theorem qdm:(Tryz.prog.info? 232).map (fun i=>(i.zero,i.size,i.bytes))=some (some (.int .u32 0),1,4):=by kernel_rfl
theorem qen (W:World) (n:Nat) (hn:n<=maxLen):(W.alloc (.cells (madeCells #[.int .u32 0] n) 232)).ownsRow W.heap.size 232 1 (.slice (some ⟨W.heap.size,0,none⟩) n n) n (row32 (List.replicate n 0)):=by
 rw [<-qmd];have hs:=size_madeCells #[Value.int .u32 0] n;refine⟨by simp [hs],.inr ⟨W.heap.size,n,_,rfl,qad _,heap_alloc_new W _,qad _,hn,by simp [hs],?_⟩⟩;exact qak (by simp [hs])
theorem qcR (ao:Option Addr) (b off c n:Nat) (L:List Nat) (w:World) (hn:L.length=n) (hlen:n<=1099511627776) (hc:n<=c) (hcells:Cells w ao b off L) (hd:Dig L) :
  Calls Tryz.prog 215 #[.slice ao n c] w fun e w'=>∃v,e=.returned v/\w'=w/\MagAt w v (mval L):=by
 refine (qfL ao b off c n L w hn hlen hc hcells).mono ?_;rintro e w' ⟨m,rfl,rfl,hm,hz,h0⟩;refine⟨_,rfl,rfl,ao,b,off,c,m,L.take m,rfl,⟨?_,by omega,hcells.take m,hd.take m,?_⟩,qcp hz⟩
 ·rw [qar];omega
 ·have hl:(L.take m).length=m:=by rw [qar];omega
  rcases h0 with h0 | h0
  ·exact qan (by rw [hl,h0])
  ·right
   rw [hl]
   by_cases hm0:m=0
   ·subst hm0;exact absurd (hz _ (qam _)) h0
   ·rw [qaa,qbA (by omega),<-qaa];exact h0
end Go.Proofs.YtplkdeknjghobaaGreatDoor.frac
namespace Go.Proofs.YtplkdeknjghobaaGreatDoor.least
open Go.RowKit
theorem qfL (ao:Option Addr) (b off c n:Nat) (L:List Nat) (w:World) (hn:L.length=n) (hlen:n<=1099511627776) (hc:n<=c) (hcells:Cells w ao b off L) :
  Calls Tryz.prog 232 #[.slice ao n c] w fun e w'=>∃m,e=.returned (.slice ao m c)/\w'=w/\m<=n/\Zero L m/\(m=0\/L.getD (m-1) 0≠0):=by
 have hz:Zero L n:=by rw [<-hn];exact Zero.all L
 obtain⟨ha,hcell⟩:=hcells;rw [hn] at ha hcell;have Ha:=qH ha;have Hcell:=qH hcell;have Hz:=qH hz;clear ha hcell hz hn;go_enter Tryz.func232,Tryz.ntmps232;go_wp2
 go_loopw [0] (fun x0 W=>∃m:Nat,x0=.slice ao m c/\W=w/\m<=n/\Hid (Zero L m)) (fun x0 _=>match x0 with | .slice _ m _=>m | _=>0)
 case atStart=>exact⟨n,rfl,rfl,qad _,Hz⟩
 case round =>
  obtain⟨m,rfl,rfl,hm,hz⟩:=hrel
  by_cases hm0:m=0
  ·subst hm0;have Hm:=qH hm;clear hm;go_wp2;go_ret;exact⟨0,rfl,rfl,qam _,hz.out,qan rfl⟩
  ·have hm1:(0:Int)<m:=by omega
   have haw:=Ha.out (by omega);subst haw;have hcl:=Hcell.out (m-1) (by omega);have e1:((m-1:Nat):Int)=(m:Int)-1:=by omega
   by_cases h0:dg L (m-1)=0
   ·rw [h0] at hcl;have H0:=qH h0;clear h0;go_wp2;go_roundw
    case rel=>exact⟨m-1,rfl,trivial,by omega,qH (Zero.down (n:=m-1) (by rw [show m-1+1=m by omega];exact hz.out) H0.out)⟩
    case measure=>show m-1<m;omega
   ·have hne:¬((dg L (m-1):Nat):Int)=0:=by omega
    have H0:=qH h0;clear h0;go_wp2;go_ret;exact⟨m,rfl,rfl,hm,hz.out,qah H0.out⟩
theorem qdm:(Tryz.prog.info? 232).map (fun i=>(i.zero,i.size,i.bytes))=some (some (.int .u32 0),1,4):=by kernel_rfl
theorem qen (W:World) (n:Nat) (hn:n<=maxLen):(W.alloc (.cells (madeCells #[.int .u32 0] n) 232)).ownsRow W.heap.size 232 1 (.slice (some ⟨W.heap.size,0,none⟩) n n) n (row32 (List.replicate n 0)):=by
 rw [<-qmd];have hs:=size_madeCells #[Value.int .u32 0] n;refine⟨by simp [hs],.inr ⟨W.heap.size,n,_,rfl,qad _,heap_alloc_new W _,qad _,hn,by simp [hs],?_⟩⟩;exact qak (by simp [hs])
theorem qcR (ao:Option Addr) (b off c n:Nat) (L:List Nat) (w:World) (hn:L.length=n) (hlen:n<=1099511627776) (hc:n<=c) (hcells:Cells w ao b off L) (hd:Dig L) :
  Calls Tryz.prog 232 #[.slice ao n c] w fun e w'=>∃v,e=.returned v/\w'=w/\MagAt w v (mval L):=by
 refine (qfL ao b off c n L w hn hlen hc hcells).mono ?_;rintro e w' ⟨m,rfl,rfl,hm,hz,h0⟩;refine⟨_,rfl,rfl,ao,b,off,c,m,L.take m,rfl,⟨?_,by omega,hcells.take m,hd.take m,?_⟩,qcp hz⟩
 ·rw [qar];omega
 ·have hl:(L.take m).length=m:=by rw [qar];omega
  rcases h0 with h0 | h0
  ·exact qan (by rw [hl,h0])
  ·right
   rw [hl]
   by_cases hm0:m=0
   ·subst hm0;exact absurd (hz _ (qam _)) h0
   ·rw [qaa,qbA (by omega),<-qaa];exact h0
