import Derived.BigQuiet
import Derived.Deep.MidRow
import Derived.Deep.QuietTactic
import Derived.Deep.WholeRow
import Derived.Laws.CopyOwn
import Derived.Laws.EntriesVeiled
import Derived.Laws.ResultCell
import Derived.Laws.Rows
import Derived.Lib.Hide
import Derived.Outline
import Derived.Test.YtjalhnlhcdfncaaGreatDoorBo1
import Derived.Test.YtjalhnlhcdfncaaGreatDoorProg
import Derived.WalkKit
import Derived.WalkLawsBesides
import Derived.WalkSpells
set_option maxRecDepth 100000
set_option maxHeartbeats 0
namespace Go.Proofs.YtjalhnlhcdfncaaGreatDoor
open Go.RowKit
section
variable {P:Program}
theorem qcC {H:Array Oper} {rest:List Oper} {op:Oper} {a:Act} {w:World} {Q:Exit->Act->World->Prop} (I:op.guard=none) (t:TypeId) (x y:Operand) (Y:op.op=.store t x y)
  (c E:Array Value) (hx:a.eval x=.pointer (some ⟨w.heap.size,0,none⟩)) (hy:a.eval y=.agg E)
  (n:Nat) (J:(P.info? t).map (·.size)=some n) (V:c.size=n) (F:E.size=n) (O:E.toList.all (·.oneCell')=true)
  (h:wpList P H Q rest (a.put op.dst undef) (w.alloc (.cells E t))):wpList P H Q (op :: rest) a (w.alloc (.cells c t)) :=
 wpList_plain I fun _ U=>by
  have J:(P.info? t).map (·.size)=some E.size:=by rw [F];exact J
  have Z:c.size=E.size:=by rw [V,F]
  unfold Oper.wp execOp;simp only [Y,hx,hy,Instr.storeAt,Instr.sureAddr,Sem.run_bind,Sem.run_pure,Result.andThen_ok,run_storeVar_new w t c E J Z (Array.all_eq_true_iff_forall_mem.2 (fun v hv=>qaC.1 O v (by simpa using hv)))];exact U _ _ h
theorem qm2 {E:Array Oper} {rest:List Oper} {op:Oper} {a:Act} {w:World} {Q:Exit->Act->World->Prop} (I:op.guard=none) (F:TypeId) (x:Operand) (U:op.op=.load F x)
  (g:Nat) (hx:a.eval x=.pointer (some ⟨g,0,none⟩)) (t:TypeId) (cs:Array Value) (d:TypeDesc) (hg:w.heap[g]? = some (.cells cs t (0,0)))
  (V:P.underlying F=some d) (J:(match d with | .struct _ | .array _ _=>true | _=>false)=true) (n:Nat) (O:(P.info? F).map (·.size)=some n) (H:cs.size=n)
  (h:wpList P E Q rest (a.put op.dst (.agg cs)) w):wpList P E Q (op :: rest) a w :=
 wpList_load_row I F x U g hx t cs (0,0) d hg V J (by rw [H];exact O) h
theorem wpList_store_row {H:Array Oper} {rest:List Oper} {op:Oper} {a:Act} {w:World} {Q:Exit->Act->World->Prop} (I:op.guard=none) (J:TypeId) (x y:Operand) (Y:op.op=.store J x y)
  (g:Nat) (cells:Array Value) (hx:a.eval x=.pointer (some ⟨g,0,none⟩)) (hy:a.eval y=.agg cells)
  (t:TypeId) (old:Array Value) (hg:w.heap[g]? = some (.cells old t (0,0))) (n:Nat) (V:(P.info? J).map (·.size)=some n)
  (F:old.size=n) (E:cells.size=n) (O:cells.toList.all (·.oneCell')=true)
  (h:wpList P H Q rest (a.put op.dst undef) (w.setRow g cells)):wpList P H Q (op :: rest) a w :=
 wpList_plain I fun _ U=>wp_store_row J x y Y g cells hx hy t old hg (by rw [E];exact V) (by rw [F,E]) (Array.all_eq_true_iff_forall_mem.2 (fun v Z=>qaC.1 O v (by simpa using Z))) (U _ _ h)
end
theorem below_setRow {B:Nat} {a w:World} (h:Below B a w) {g:Nat} (hg:B<=g) (cs:Array Value):Below B a (w.setRow g cs) :=
 h.trans ⟨rfl,rfl,rfl,by simp [World.setRow],fun k E=>by
  simp only [World.setRow,Array.getElem?_modify];rw [if_neg (by omega)]⟩
theorem qM (w:World) (o:Obj) (n:Nat) (h:w.heap.size=n):(w.alloc o).heap[n]? = some o:=by
 subst h;exact heap_alloc_new w o
theorem qL (w:World) (o:Obj) (n:Nat) (h:n<w.heap.size):(w.alloc o).heap[n]? = w.heap[n]?:=by show (w.heap.push o)[n]? = w.heap[n]?;rw [Array.getElem?_push,if_neg (Nat.ne_of_lt h)]
theorem qmz {P:Program} {f:FuncId} {args:Array Value} {w:World} {n:Nat} {v:Value}
  (h:Calls P f args (w.drewN n) fun e w'=>e=.returned v/\w.drewN n=w'):Calls P f args (w.drewN n) fun e E=>e=.returned v/\∃m,E=w.drewN m :=
 h.mono fun _ _ ⟨he,F⟩=>⟨he,n,F.symm⟩
theorem qc9 {P:Program} {I:Func} {p:Tmp} {H:TypeId} (h:I.results=#[.cell p H]) (E:Array Value) (w:World) (g:Nat) (t:TypeId) (cs:Array Value) (d:TypeDesc)
  (U:E.getD p undef=.pointer (some ⟨g,0,none⟩)) (hg:w.heap[g]? = some (.cells cs t (0,0)))
  (V:P.underlying H=some d) (J:(match d with | .struct _ | .array _ _=>true | _=>false)=true) (n:Nat) (O:(P.info? H).map (·.size)=some n) (F:cs.size=n) :
  (results I E).run P w=.ok (.agg cs) w :=
 results_cell_row h E w g t cs (0,0) d U hg V J (by rw [F];exact O)
theorem results_row2 {P:Program} {I:Func} {p q:Tmp} {F:TypeId} (h:I.results=#[.cell p F,.tmp q]) (E:Array Value) (w:World) (g:Nat) (t:TypeId) (cs:Array Value) (d:TypeDesc)
  (U:E.getD p undef=.pointer (some ⟨g,0,none⟩)) (hg:w.heap[g]? = some (.cells cs t (0,0)))
  (Y:P.underlying F=some d) (J:(match d with | .struct _ | .array _ _=>true | _=>false)=true) (n:Nat) (O:(P.info? F).map (·.size)=some n) (H:cs.size=n) (v2:Value) (V:E.getD q undef=v2) :
  (results I E).run P w=.ok (.tuple #[.agg cs,v2]) w:=by
 rw [results_cell_tmp h,U,V];simp [asAddr,run_loadVar_row w g t F cs (0,0) d hg Y J (by rw [H];exact O),Result.andThen]
theorem qcm {B:Nat} {w w':World} (h:Below B w.drew w'):Below B w w':=((Below.refl B w).drew).trans h
theorem bcell {B:Nat} {W E:World} (F:Below B W E):(∀b o,b<B->E.cell? ⟨b,o,none⟩=W.cell? ⟨b,o,none⟩)/\(∀b o,b<B->E.frozen? ⟨b,o,none⟩=W.frozen? ⟨b,o,none⟩) :=
 ⟨fun b o h=>F.cell (p:=⟨b,o,none⟩) h,fun b o h=>F.frozen (p:=⟨b,o,none⟩) h⟩
theorem sR_ {P:Program} {F:Array Oper} {rest:List Oper} {op:Oper} {a:Act} {w:World} {Q:Exit->Act->World->Prop} (I:op.guard=none) (J:TypeId) (x y:Operand) (V:op.op=.store J x y)
  (g:Nat) (cells:Array Value) {t:TypeId} {old:Array Value} (hg:w.heap[g]? = some (.cells old t (0,0))) (n:Nat) (h:wpList P F Q rest (a.put op.dst undef) (w.setRow g cells))
  (hx:a.eval x=.pointer (some ⟨g,0,none⟩):=by with_unfolding_all rfl) (hy:a.eval y=.agg cells:=by with_unfolding_all rfl) (U:(P.info? J).map (·.size)=some n:=by kernel_rfl)
  (E:old.size=n:=by with_unfolding_all rfl) (H:cells.size=n:=by with_unfolding_all rfl) (O:cells.toList.all (·.oneCell')=true:=by with_unfolding_all rfl):wpList P F Q (op :: rest) a w :=
 wpList_store_row I J x y V g cells hx hy t old hg n U E H O h
theorem lW_ {P:Program} {E:Array Oper} {rest:List Oper} {op:Oper} {a:Act} {w:World} {Q:Exit->Act->World->Prop} (I:op.guard=none) (F:TypeId) (x:Operand) (U:op.op=.load F x)
  (g:Nat) (cs:Array Value) {t:TypeId} {d:TypeDesc} (hg:w.heap[g]? = some (.cells cs t (0,0))) (V:P.underlying F=some d) (n:Nat) (h:wpList P E Q rest (a.put op.dst (.agg cs)) w)
  (hx:a.eval x=.pointer (some ⟨g,0,none⟩):=by with_unfolding_all rfl) (J:(match d with | .struct _ | .array _ _=>true | _=>false)=true:=by with_unfolding_all rfl) (O:(P.info? F).map (·.size)=some n:=by kernel_rfl) (H:cs.size=n:=by with_unfolding_all rfl):wpList P E Q (op :: rest) a w :=
 qm2 I F x U g hx t cs d hg V J n O H h
theorem hmf_ {P:Program} (E:Fn) (first cap:Array Value) (w:World):(Instr.makeFunc E first cap).run P w=.ok (.func E first cap) w:=rfl
theorem rA_ {P:Program} {I:Func} {p:Tmp} {H:TypeId} (h:I.results=#[.cell p H]) {E:Array Value} {w:World} (g:Nat) {t:TypeId} {cs:Array Value} {d:TypeDesc} (hg:w.heap[g]? = some (.cells cs t (0,0))) (V:P.underlying H=some d) (n:Nat)
  (U:E.getD p undef=.pointer (some ⟨g,0,none⟩):=by rfl) (J:(match d with | .struct _ | .array _ _=>true | _=>false)=true:=by rfl) (O:(P.info? H).map (·.size)=some n:=by kernel_rfl) (F:cs.size=n:=by rfl):(results I E).run P w=.ok (.agg cs) w :=
 qc9 h E w g t cs d U hg V J n O F
theorem rB_ {P:Program} {I:Func} {p q:Tmp} {H:TypeId} (h:I.results=#[.cell p H,.tmp q]) {E:Array Value} {w:World} (g:Nat) {t:TypeId} {cs:Array Value} {d:TypeDesc} (hg:w.heap[g]? = some (.cells cs t (0,0))) (Y:P.underlying H=some d) (n:Nat) {v2:Value}
  (U:E.getD p undef=.pointer (some ⟨g,0,none⟩):=by rfl) (J:(match d with | .struct _ | .array _ _=>true | _=>false)=true:=by rfl) (O:(P.info? H).map (·.size)=some n:=by kernel_rfl) (F:cs.size=n:=by rfl) (V:E.getD q undef=v2:=by rfl):(results I E).run P w=.ok (.tuple #[.agg cs,v2]) w :=
 results_row2 h E w g t cs d U hg Y J n O F v2 V
theorem qS:type_of% @Go.below_setRow:=@Go.below_setRow
theorem qT:type_of% @Go.setRow_heap:=@Go.setRow_heap
theorem qW:type_of% @Go.RowKit.Below.heap_setCell:=@Go.RowKit.Below.heap_setCell
theorem u64_in (n:Nat) (h:n<18446744073709551616):IntKind.u64.wrap (n:Int)=n:=by
 show (n:Int) % 18446744073709551616=n
 omega
theorem tdivN (t m c:Nat) (h:t / m=c):(t:Int).tdiv (m:Int)=c:=by
 rw [Int.tdiv_eq_ediv_of_nonneg (by omega),<-h];exact (Int.natCast_ediv t m).symm
theorem tmodN (t m c:Nat) (h:t % m=c):(t:Int).tmod (m:Int)=c:=by
 rw [Int.tmod_eq_emod_of_nonneg (by omega),<-h];exact (Int.natCast_emod t m).symm
theorem tdivB (t c:Nat) (h:t / 1000000000=c):(t:Int).tdiv 1000000000=c:=tdivN t 1000000000 c h
theorem tmodB (t c:Nat) (h:t % 1000000000=c):(t:Int).tmod 1000000000=c:=tmodN t 1000000000 c h
def dg (L:List Nat) (k:Nat):Nat:=L.getD k 0
structure Cells (W:World) (ao:Option Addr) (b off:Nat) (L:List Nat):Prop where
 addr:0<L.length->ao=some ⟨b,off,none⟩
 cell:∀k,k<L.length->W.cell? ⟨b,off+k,none⟩=some (.int .u32 ((dg L k:Nat):Int))
theorem Cells.below {W W':World} {E:Option Addr} {b off:Nat} {L:List Nat} (h:Cells W E b off L) (H:Below W.heap.size W W'):Cells W' E b off L :=
 ⟨h.addr,fun k F=>(H.cell (qae W _ (h.cell k F))).trans (h.cell k F)⟩
theorem Cells.take {W:World} {E:Option Addr} {b off:Nat} {L:List Nat} (h:Cells W E b off L) (n:Nat):Cells W E b off (L.take n) :=
 ⟨fun F=>h.addr (by rw [qao] at F;omega),fun k H=>by
  rw [qao] at H;rw [h.cell k (by omega),dg,dg,qaa,qaa,qbE (by omega)]⟩
structure IsM (W:World) (ao:Option Addr) (b off c n:Nat) (L:List Nat):Prop where
 len:L.length=n
 cap:n<=c
 cells:Cells W ao b off L
 dig:Dig L
 nrm:Nrm L
theorem IsM.below {W W':World} {E:Option Addr} {b off c n:Nat} {L:List Nat} (h:IsM W E b off c n L) (F:Below W.heap.size W W'):IsM W' E b off c n L:=⟨h.len,h.cap,h.cells.below F,h.dig,h.nrm⟩
theorem IsM.addr {W:World} {E:Option Addr} {b off c n:Nat} {L:List Nat} (h:IsM W E b off c n L):0<n->E=some ⟨b,off,none⟩:=by rw [<-h.len];exact h.cells.addr
theorem IsM.cell {W:World} {E:Option Addr} {b off c n:Nat} {L:List Nat} (h:IsM W E b off c n L):∀k,k<n->W.cell? ⟨b,off+k,none⟩=some (.int .u32 ((dg L k:Nat):Int)):=by rw [<-h.len];exact h.cells.cell
def MagAt (W:World) (v:Value) (x:Nat):Prop:=∃(E:Option Addr) (b off c n:Nat) (L:List Nat),v=.slice E n c/\IsM W E b off c n L/\mval L=x
theorem MagAt.below {W W':World} {v:Value} {x:Nat} (h:MagAt W v x) (H:Below W.heap.size W W'):MagAt W' v x:=by
 obtain⟨ao,b,off,c,n,L,rfl,E,F⟩:=h;exact⟨ao,b,off,c,n,L,rfl,E.below H,F⟩
theorem MagAt.nil (W:World):MagAt W (.slice none 0 0) 0:=⟨none,0,0,0,0,[],rfl,⟨rfl,qad _,⟨fun h=>absurd h (by simp),fun k h=>absurd h (by simp)⟩,Dig.nil,qaw rfl⟩,rfl⟩
def Fit (x K:Nat):Prop:=x<1000000000 ^ K
theorem Fit.le {x y K:Nat} (h:Fit y K) (hx:x<=y):Fit x K:=qaU hx h
theorem Fit.mono {x K M:Nat} (h:Fit x K) (E:K<=M):Fit x M:=qai h (qaO (by decide) E)
theorem Fit.mul {x y K M:Nat} (h:Fit x K) (k:Fit y M):Fit (x*y) (K+M):=by
 unfold Fit at *;rw [Nat.pow_add];exact Nat.mul_lt_mul'' h k
theorem Fit.add {x y K:Nat} (h:Fit x K) (k:Fit y K):Fit (x+y) (K+1):=by
 unfold Fit at *;rw [qaF];omega
theorem Fit.len {W:World} {E:Option Addr} {b off c n:Nat} {L:List Nat} {K:Nat} (h:Fit (mval L) K) (k:IsM W E b off c n L):n<=K:=by
 rw [<-k.len];exact k.nrm.len h
def row32 (L:List Nat):List Value:=L.map fun (d:Nat)=>Value.int .u32 (d:Int)
theorem qcN (L:List Nat):(row32 L).length=L.length:=by unfold row32;exact qaD _
theorem qoJ (L:List Nat) (k d:Nat):(row32 L).set k (.int .u32 (d:Int))=row32 (L.set k d):=by unfold row32;rw [List.map_set]
theorem qdQ (L:List Nat) (k:Nat) (h:k<L.length):(row32 L)[k]? = some (.int .u32 ((dg L k:Nat):Int)):=by
 unfold row32 dg;rw [qaP,qd7 h];rfl
theorem qd3 (L:List Nat) (d:Nat):row32 (L++[d])=row32 L++[.int .u32 (d:Int)]:=by unfold row32;rw [qbh];rfl
theorem made32 (n:Nat):(madeCells #[Value.int .u32 0] n).toList=row32 (List.replicate n 0):=by
 rw [toList_madeCells_one];unfold row32;rw [List.map_replicate];rfl
theorem qcP {W:World} {B e g n c:Nat} {L:List Nat} (h:W.ownsRow B e 1 (.slice (some ⟨g,0,none⟩) n c) n (row32 L)) (F:L.length=n):Cells W (some ⟨g,0,none⟩) g 0 L :=
 ⟨fun _=>rfl,fun k E=>by
  rw [qaT,h.cellAt k (by omega)];exact qdQ L k E⟩
theorem qd0 {W:World} {B e g n c:Nat} {R:List Nat} (h:W.ownsRow B e 1 (.slice (some ⟨g,0,none⟩) n c) n (row32 R)) (k:Nat) {s:Int} (d:Nat) (E:s=(d:Int)) :
  (W.setCell ⟨g,k,none⟩ (.int .u32 s)).ownsRow B e 1 (.slice (some ⟨g,0,none⟩) n c) n (row32 (R.set k d)):=by
 have F:=(h.stored k (.int .u32 s)).1
 rwa [E,qoJ,<-E] at F
theorem qdT (W:World) (v:Value) (e:TypeId):∀j u,[v][j]? = some u->(W.alloc (.cells #[v] e)).cell? ((⟨W.heap.size,0,none⟩:Addr).add j)=some u:=by
 intro j u E
 match j,E with
 | 0,E =>
  simp only [List.getElem?_cons_zero,Option.some.injEq] at E;subst E;exact qC _ _ 0 _ _ _ (heap_alloc_new W _)
theorem one_cell (k:IntKind) (s:Int):∀u∈[Value.int k s],u.oneCell'=true:=by
 intro u E;rw [qap.1 E];rfl
theorem qfW {W:World} {B e g k c:Nat} {S:List Nat} {s:Int} {d:Nat} (h:W.ownsRow B e 1 (.slice (some ⟨g,0,none⟩) (k+1) c) (k+1) (row32 S++[.int .u32 s])) (E:s=(d:Int)) :
  W.ownsRow B e 1 (.slice (some ⟨g,0,none⟩) (k+1) c) (k+1) (row32 (S++[d])):=by
 rw [qd3,<-E];exact h
theorem qc2 {B:Nat} {w W E:World} {o:Obj} {row:Option Nat} (h:Below B w W) (H:B<=w.heap.size) (hg:(W.alloc o).grownBy E row) (hr:∀k,row=some k->B<=k):Below B w E:=by
 have F:=h.size;refine (h.alloc (qak H F) o).grown hg ?_ hr;simp only [qab];omega
theorem qcw (w:World) (row:Option Nat):w.grownBy w row:=⟨rfl,rfl,rfl,qad _,fun _ _ _=>rfl⟩
theorem qb5 {a b c:World} {row:Option Nat} (h:a.grownBy b row) (k:b.grownBy c row):a.grownBy c row :=
 ⟨k.os.trans h.os,k.tape.trans h.tape,k.output.trans h.output,qak h.size k.size,fun i E hr=>(k.block i (qai E h.size) hr).trans (h.block i E hr)⟩
theorem qdG {a b:World} {row:Option Nat} (h:a.grownBy b row) (n:Nat):a.grownBy (b.drewN n) row:=⟨h.os,h.tape,h.output,h.size,h.block⟩
theorem qcl {a b c:World} {row:Option Nat} (h:a.grownBy b row) (k:Below b.heap.size b c):a.grownBy c row :=
 ⟨k.os.trans h.os,k.tape.trans h.tape,k.output.trans h.output,qak h.size k.size,fun i E hr=>(k.block i (qai E h.size)).trans (h.block i E hr)⟩
theorem qfb {a b:World} {g:Nat} {F:Option Addr} {E off:Nat} {L:List Nat} (h:a.grownBy b (some g)) (H:Cells a F E off L) (hne:0<L.length->E≠g):Cells b F E off L :=
 ⟨H.addr,fun k I=>h.cell (H.cell k I) (fun e=>hne (by omega) (qag e))⟩
theorem own_drewN {W:World} {B e n:Nat} {v:Value} {E:List Value} (h:W.ownsRow B e 1 v n E) (k:Nat):(W.drewN k).ownsRow B e 1 v n E:=h
theorem own_kept {W W':World} {B e g n c:Nat} {H:List Value} (h:W.ownsRow B e 1 (.slice (some ⟨g,0,none⟩) n c) n H) (I:Below W.heap.size W W'):W'.ownsRow B e 1 (.slice (some ⟨g,0,none⟩) n c) n H:=by
 have J:=h.lt g rfl;refine⟨h.1,?_⟩;rcases h.2 with ⟨E,_⟩ | ⟨g',cap',cur,E,F,hg,hr⟩
 ·simp at E
 ·have e:g'=g:=by
   simp only [qbY,Option.some.injEq,Addr.mk.injEq,and_true,true_and] at E;exact E.1.symm
  subst e;exact .inr ⟨g',cap',cur,E,F,(I.block g' J.2).trans hg,hr⟩
theorem qhO {W:World} {B e g n c:Nat} {E:List Value} (h:W.ownsRow B e 1 (.slice (some ⟨g,0,none⟩) n c) n E) (k:Nat) (u:Value):W.grownBy (W.setCell ⟨g,k,none⟩ u) (some g):=(h.stored k u).2
theorem dg_mid (A R C:List Nat) (i:Nat) (E:i<R.length):dg (A++R++C) (A.length+i)=dg R i:=by
 unfold dg;rw [qaa,qaa,qaG,qau (by omega),Nat.add_sub_cancel_left,qax E]
theorem set_mid (A R C:List Nat) (i d:Nat) (E:i<R.length):(A++R++C).set (A.length+i) d=A++R.set i d++C:=by
 rw [qaG,qbi _ _ (by omega),Nat.add_sub_cancel_left,List.set_append_left _ _ E,<-qaG]
theorem qgV (W:World) (n:Nat) (e:TypeId):(W.alloc (.cells (madeCells #[.int .u32 0] n) e)).heap[W.heap.size]? = some (.cells (row32 (List.replicate n 0)).toArray e (0,0)):=by
 rw [<-made32,Array.toArray_toList];exact heap_alloc_new W _
theorem qiU {W:World} {B e g n:Nat} {L:List Nat} (h:W.heap[g]? = some (.cells (row32 L).toArray e (0,0))) (E:L.length=n) (hB:B<=g) (F:n<=maxLen):W.ownsRow B e 1 (.slice (some ⟨g,0,none⟩) n n) n (row32 L):=by
 refine⟨by rw [qcN];omega,.inr ⟨g,n,_,rfl,hB,h,qad _,F,by simp [qcN,E],?_⟩⟩
 show (row32 L).take (n*1)=row32 L
 exact qah (by rw [qcN];omega)
theorem splice32 (L T:List Nat) (_h:T.length<=L.length):splice (row32 L) 0 (row32 T)=row32 (T++L.drop T.length):=by
 unfold splice row32;rw [List.take_zero,qbp,qbh,qaD,qaT,List.map_drop]
theorem qgp (W:World) (e:TypeId) {s:Nat} (H:0<s) (E:s<1000000000):MagAt (W.alloc (.cells #[.int .u32 (s:Int)] e)) (.slice (some ⟨W.heap.size,0,none⟩) 1 1) s:=by
 refine⟨_,W.heap.size,0,1,1,[s],rfl,⟨rfl,qad _,⟨fun _=>rfl,fun k F=>?_⟩,Dig.of (by simpa using E),?_⟩,by simp [mval]⟩
 ·match k,F with
  | 0,_=>exact qC _ _ 0 _ _ _ (heap_alloc_new W _)
 ·right;show s≠0;omega
theorem qlC {W W':World} {B e g E n c:Nat} {F:List Value} (h:W.ownsRow B e 1 (.slice (some ⟨g,0,none⟩) n c) n F) (hg:W.grownBy W' (some E)) (hne:g≠E):W'.ownsRow B e 1 (.slice (some ⟨g,0,none⟩) n c) n F :=
 h.kept hg (qam (fun e=>hne (qag e)))
theorem qln {W W':World} {E:Option Addr} {b off c n g:Nat} {L:List Nat} (h:IsM W E b off c n L) (hg:W.grownBy W' (some g)) (hne:b≠g):IsM W' E b off c n L:=⟨h.len,h.cap,qfb hg h.cells (fun _=>hne),h.dig,h.nrm⟩
theorem qnS {W:World} {E:Option Addr} {b off c n:Nat} {L:List Nat} (h:IsM W E b off c n L) (F:0<n):b<W.heap.size:=qae W ⟨b,off+0,none⟩ (h.cell 0 F)
theorem qoI (L:List Nat):∀v∈row32 L,v.oneCell'=true:=by
 intro v E;unfold row32 at E;obtain⟨d,_,rfl⟩:=qbb.1 E
 rfl
theorem addr_add (b o k:Nat):(⟨b,o,none⟩:Addr).add k=⟨b,o+k,none⟩:=by simp [Addr.add]
theorem qkO {W:World} {B e n:Nat} {v:Value} {S:List Nat} (h:W.ownsRow B e 1 v n (row32 S)) (I:Dig S) (J:Nrm S):MagAt W v (mval S):=by
 rcases h.2 with ⟨rfl,rfl⟩ | ⟨g,c,cur,rfl,O,hg,E,U,V,Y⟩
 ·have H:S.length=0:=by have:=h.1;rw [qcN] at this;omega
  rw [qbk.1 H];exact MagAt.nil W
 ·have F:S.length=n:=by have:=h.1;rw [qcN] at this;omega
  exact⟨_,g,0,c,n,S,rfl,⟨F,E,qcP h F,I,J⟩,rfl⟩
open Go.Proofs.Tryz
def cmp3 (x y:Int):Int:=if x<y then -1 else if x=y then 0 else 1
theorem qjn (a:Int) (w:World):Calls prog 202 #[.int .i64 a] w fun e w'=>e=.returned (.bool false)/\w'=w:=by
 go_enter func202,ntmps202;go_wp2;go_ret;exact⟨rfl,rfl⟩
theorem qjo (a:Int) (w:World):Calls prog 251 #[.int .u32 a] w fun e w'=>e=.returned (.bool false)/\w'=w:=by
 go_enter func251,ntmps251;go_wp2;go_ret;exact⟨rfl,rfl⟩
theorem cmp_int (a b:Int) (w:World):Calls prog 226 #[.int .i64 a,.int .i64 b] w fun e w'=>e=.returned (.int .i64 (cmp3 a b))/\w'=w:=by
 have E:=qH (qjn a);have F:=qH (qjn b);rcases Int.lt_trichotomy a b with h | h | h
 ·have hr:cmp3 a b = -1:=by unfold cmp3;rw [if_pos h]
  rw [hr];clear hr;go_enter func226,ntmps226;go_wp2_with fail;refine (E.o _).mono ?_;rintro e I ⟨rfl,rfl⟩;go_wp2_with fail;refine (F.o _).mono ?_;rintro e J ⟨rfl,rfl⟩;go_wp2;go_ret;exact⟨rfl,rfl⟩
 ·subst h;have hr:cmp3 a a=0:=by unfold cmp3;rw [if_neg (Int.lt_irrefl a),if_pos rfl]
  rw [hr];clear hr;have H:¬a<a:=Int.lt_irrefl a;go_enter func226,ntmps226;go_wp2_with fail;refine (E.o _).mono ?_;rintro e I ⟨rfl,rfl⟩;go_wp2_with fail;refine (E.o _).mono ?_;rintro e J ⟨rfl,rfl⟩;go_wp2;go_ret;exact⟨rfl,rfl⟩
 ·have H:¬a<b:=by omega
  have hr:cmp3 a b=1:=by unfold cmp3;rw [if_neg H,if_neg (by omega)]
  rw [hr];clear hr;go_enter func226,ntmps226;go_wp2_with fail;refine (E.o _).mono ?_;rintro e I ⟨rfl,rfl⟩;go_wp2_with fail;refine (F.o _).mono ?_;rintro e J ⟨rfl,rfl⟩;go_wp2;go_ret;exact⟨rfl,rfl⟩
theorem cmp_u32 (a b:Int) (w:World):Calls prog 227 #[.int .u32 a,.int .u32 b] w fun e w'=>e=.returned (.int .i64 (cmp3 a b))/\w'=w:=by
 have E:=qH (qjo a);have F:=qH (qjo b);rcases Int.lt_trichotomy a b with h | h | h
 ·have hr:cmp3 a b = -1:=by unfold cmp3;rw [if_pos h]
  rw [hr];clear hr;go_enter func227,ntmps227;go_wp2_with fail;refine (E.o _).mono ?_;rintro e I ⟨rfl,rfl⟩;go_wp2_with fail;refine (F.o _).mono ?_;rintro e J ⟨rfl,rfl⟩;go_wp2;go_ret;exact⟨rfl,rfl⟩
 ·subst h;have hr:cmp3 a a=0:=by unfold cmp3;rw [if_neg (Int.lt_irrefl a),if_pos rfl]
  rw [hr];clear hr;have H:¬a<a:=Int.lt_irrefl a;go_enter func227,ntmps227;go_wp2_with fail;refine (E.o _).mono ?_;rintro e I ⟨rfl,rfl⟩;go_wp2_with fail;refine (E.o _).mono ?_;rintro e J ⟨rfl,rfl⟩;go_wp2;go_ret;exact⟨rfl,rfl⟩
 ·have H:¬a<b:=by omega
  have hr:cmp3 a b=1:=by unfold cmp3;rw [if_neg H,if_neg (by omega)]
  rw [hr];clear hr;go_enter func227,ntmps227;go_wp2_with fail;refine (E.o _).mono ?_;rintro e I ⟨rfl,rfl⟩;go_wp2_with fail;refine (F.o _).mono ?_;rintro e J ⟨rfl,rfl⟩;go_wp2;go_ret;exact⟨rfl,rfl⟩
end Go.Proofs.YtjalhnlhcdfncaaGreatDoor
namespace Go.Proofs.YtjalhnlhcdfncaaGreatDoor.whole
open Go.RowKit Go.Proofs.Tryz
theorem trim_any (O:Option Addr) (b off c n:Nat) (L:List Nat) (w:World) (hn:L.length=n) (ae:n<=1099511627776) (hc:n<=c) (F:Cells w O b off L) :
  Calls prog 257 #[.slice O n c] w fun e w'=>∃m,e=.returned (.slice O m c)/\w'=w/\m<=n/\Zero L m/\(m=0\/L.getD (m-1) 0≠0):=by
 have I:Zero L n:=by rw [<-hn];exact Zero.all L
 obtain⟨V,E⟩:=F;rw [hn] at V E;have Ha:=qH V;have H:=qH E;have Hz:=qH I;clear V E I hn;go_enter func257,ntmps257;go_wp2
 go_loopw [0] (fun x0 W=>∃m:Nat,x0=.slice O m c/\W=w/\m<=n/\Hu (Zero L m)) (fun x0 _=>match x0 with | .slice _ m _=>m | _=>0)
 case atStart=>exact⟨n,rfl,rfl,qad _,Hz⟩
 case round =>
  obtain⟨m,rfl,rfl,hm,I⟩:=hrel
  by_cases aa:m=0
  ·subst aa;have Hm:=qH hm;clear hm;go_wp2;go_ret;exact⟨0,rfl,rfl,qaj _,I.o,qaw rfl⟩
  ·have af:(0:Int)<m:=by omega
   have Y:=Ha.o (by omega);subst Y;have Z:=H.o (m-1) (by omega);have e1:((m-1:Nat):Int)=(m:Int)-1:=by omega
   by_cases J:dg L (m-1)=0
   ·rw [J] at Z;have U:=qH J;clear J;go_wp2;go_roundw
    case rel=>exact⟨m-1,rfl,trivial,by omega,qH (Zero.down (n:=m-1) (by rw [show m-1+1=m by omega];exact I.o) U.o)⟩
    case measure=>show m-1<m;omega
   ·have hne:¬((dg L (m-1):Nat):Int)=0:=by omega
    have U:=qH J;clear J;go_wp2;go_ret;exact⟨m,rfl,rfl,hm,I.o,qam U.o⟩
theorem info32:(Tryz.prog.info? 201).map (fun i=>(i.zero,i.size,i.bytes))=some (some (.int .u32 0),1,4):=by kernel_rfl
theorem trim_mag (I:Option Addr) (b off c n:Nat) (L:List Nat) (w:World) (Z:L.length=n) (H:n<=1099511627776) (V:n<=c) (E:Cells w I b off L) (Y:Dig L) :
  Calls prog 257 #[.slice I n c] w fun e w'=>∃v,e=.returned v/\w'=w/\MagAt w v (mval L):=by
 refine (trim_any I b off c n L w Z H V E).mono ?_;rintro e w' ⟨m,rfl,rfl,hm,U,F⟩;refine⟨_,rfl,rfl,I,b,off,c,m,L.take m,rfl,⟨?_,by omega,E.take m,Y.take m,?_⟩,qcH U⟩
 ·rw [qao];omega
 ·have O:(L.take m).length=m:=by rw [qao];omega
  rcases F with F | F
  ·exact qaw (by rw [O,F])
  ·right
   rw [O]
   by_cases J:m=0
   ·subst J;exact absurd (U _ (qaj _)) F
   ·rw [qaa,qbE (by omega),<-qaa];exact F
end Go.Proofs.YtjalhnlhcdfncaaGreatDoor.whole
namespace Go.Proofs.YtjalhnlhcdfncaaGreatDoor
open Go.RowKit Go.Proofs.Tryz
inductive Pk where
 | f
 | l
def Pk.of (p:Pk) (x y:Nat):Nat:=match p with
 | .f=>x
 | .l=>y
theorem qej {t:TypeId} (h:t=123\/t=213):Tryz.prog.underlying t=some (.slice 201):=by
 rcases h with rfl | rfl
 ·exact underlying123
 ·exact underlying213
theorem qkL (pk:Pk) (O:Option Addr) (b off c n:Nat) (L:List Nat) (w:World) (hn:L.length=n) (ae:n<=1099511627776) (hc:n<=c) (F:Cells w O b off L) :
  Calls prog (Pk.of pk 238 216) #[.slice O n c] w fun e w'=>∃m,e=.returned (.slice O m c)/\w'=w/\m<=n/\Zero L m/\(m=0\/L.getD (m-1) 0≠0):=by
 have I:Zero L n:=by rw [<-hn];exact Zero.all L
 obtain⟨V,E⟩:=F;rw [hn] at V E;have Ha:=qH V;have H:=qH E;have Hz:=qH I;clear V E I hn;cases pk <;> dsimp only [Pk.of] at * <;> (
 first | go_enter func238,ntmps238 | go_enter func216,ntmps216
 go_wp2
 go_loopw [0] (fun x0 W=>∃m:Nat,x0=.slice O m c/\W=w/\m<=n/\Hu (Zero L m)) (fun x0 _=>match x0 with | .slice _ m _=>m | _=>0)
 case atStart=>exact⟨n,rfl,rfl,qad _,Hz⟩
 case round =>
  obtain⟨m,rfl,rfl,hm,I⟩:=hrel
  by_cases aa:m=0
  ·subst aa;have Hm:=qH hm;clear hm;go_wp2;go_ret;exact⟨0,rfl,rfl,qaj _,I.o,qaw rfl⟩
  ·have af:(0:Int)<m:=by omega
   have Y:=Ha.o (by omega);subst Y;have Z:=H.o (m-1) (by omega);have e1:((m-1:Nat):Int)=(m:Int)-1:=by omega
   by_cases J:dg L (m-1)=0
   ·rw [J] at Z;have U:=qH J;clear J;go_wp2;go_roundw
    case rel=>exact⟨m-1,rfl,trivial,by omega,qH (Zero.down (n:=m-1) (by rw [show m-1+1=m by omega];exact I.o) U.o)⟩
    case measure=>show m-1<m;omega
   ·have hne:¬((dg L (m-1):Nat):Int)=0:=by omega
    have U:=qH J;clear J;go_wp2;go_ret;exact⟨m,rfl,rfl,hm,I.o,qam U.o⟩)
theorem qcX:(Tryz.prog.info? 201).map (fun i=>(i.zero,i.size,i.bytes))=some (some (.int .u32 0),1,4):=by kernel_rfl
theorem qfy (W:World) (n:Nat) (F:n<=maxLen):(W.alloc (.cells (madeCells #[.int .u32 0] n) 201)).ownsRow W.heap.size 201 1 (.slice (some ⟨W.heap.size,0,none⟩) n n) n (row32 (List.replicate n 0)):=by
 rw [<-made32];have E:=size_madeCells #[Value.int .u32 0] n;refine⟨by simp [E],.inr ⟨W.heap.size,n,_,rfl,qad _,heap_alloc_new W _,qad _,F,by simp [E],?_⟩⟩;exact qah (by simp [E])
theorem qea (V:Pk) (I:Option Addr) (b off c n:Nat) (L:List Nat) (w:World) (hn:L.length=n) (H:n<=1099511627776) (Y:n<=c) (E:Cells w I b off L) (Z:Dig L) :
  Calls prog (Pk.of V 238 216) #[.slice I n c] w fun e w'=>∃v,e=.returned v/\w'=w/\MagAt w v (mval L):=by
 refine ((qkL V) I b off c n L w hn H Y E).mono ?_;rintro e w' ⟨m,rfl,rfl,hm,U,F⟩;refine⟨_,rfl,rfl,I,b,off,c,m,L.take m,rfl,⟨?_,by omega,E.take m,Z.take m,?_⟩,qcH U⟩
 ·rw [qao];omega
 ·have O:(L.take m).length=m:=by rw [qao];omega
  rcases F with F | F
  ·exact qaw (by rw [O,F])
  ·right
   rw [O]
   by_cases J:m=0
   ·subst J;exact absurd (U _ (qaj _)) F
   ·rw [qaa,qbE (by omega),<-qaa];exact F
