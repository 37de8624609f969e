import Derived.BigQuiet
import Derived.Deep.MidRow
import Derived.Deep.QuietTactic
import Derived.Deep.WholeRow
import Derived.Laws.CopyOwn
import Derived.Laws.EntriesVeiled
import Derived.Laws.ResultCell
import Derived.Laws.Rows
import Derived.Lib.Hide
import Derived.Outline
import Derived.Test.YtplkdeknjghobaaGreatDoorBx1
import Derived.Test.YtplkdeknjghobaaGreatDoorProg
import Derived.WalkKit
import Derived.WalkLawsBesides
import Derived.WalkSpells
set_option maxRecDepth 100000
set_option maxHeartbeats 0
namespace Go.Proofs.YtplkdeknjghobaaGreatDoor
open Go.RowKit
section
variable {P:Program}
theorem qf3 {G:Array Oper} {rest:List Oper} {op:Oper} {a:Act} {w:World} {Q:Exit->Act->World->Prop} (H:op.guard=none) (t:TypeId) (x y:Operand) (V:op.op=.store t x y)
  (c c':Array Value) (hx:a.eval x=.pointer (some ⟨w.heap.size,0,none⟩)) (hy:a.eval y=.agg c')
  (n:Nat) (I:(P.info? t).map (·.size)=some n) (U:c.size=n) (F:c'.size=n) (J:c'.toList.all (·.oneCell')=true)
  (h:wpList P G Q rest (a.put op.dst undef) (w.alloc (.cells c' t))):wpList P G Q (op :: rest) a (w.alloc (.cells c t)) :=
 wpList_plain H fun _ O=>by
  have I:(P.info? t).map (·.size)=some c'.size:=by rw [F];exact I
  have Y:c.size=c'.size:=by rw [U,F]
  unfold Oper.wp execOp;simp only [V,hx,hy,Instr.storeAt,Instr.sureAddr,Sem.run_bind,Sem.run_pure,Result.andThen_ok,run_storeVar_new w t c c' I Y (Array.all_eq_true_iff_forall_mem.2 (fun v Z=>qa4.1 J v (by simpa using Z)))];exact O _ _ h
theorem qlt {F:Array Oper} {rest:List Oper} {op:Oper} {a:Act} {w:World} {Q:Exit->Act->World->Prop} (I:op.guard=none) (G:TypeId) (x:Operand) (U:op.op=.load G x)
  (g:Nat) (hx:a.eval x=.pointer (some ⟨g,0,none⟩)) (t:TypeId) (cs:Array Value) (d:TypeDesc) (hg:w.heap[g]? = some (.cells cs t (0,0)))
  (V:P.underlying G=some d) (J:(match d with | .struct _ | .array _ _=>true | _=>false)=true) (n:Nat) (O:(P.info? G).map (·.size)=some n) (H:cs.size=n)
  (h:wpList P F Q rest (a.put op.dst (.agg cs)) w):wpList P F Q (op :: rest) a w :=
 wpList_load_row I G x U g hx t cs (0,0) d hg V J (by rw [H];exact O) h
theorem wpList_store_row {H:Array Oper} {rest:List Oper} {op:Oper} {a:Act} {w:World} {Q:Exit->Act->World->Prop} (I:op.guard=none) (J:TypeId) (x y:Operand) (Y:op.op=.store J x y)
  (g:Nat) (cells:Array Value) (hx:a.eval x=.pointer (some ⟨g,0,none⟩)) (hy:a.eval y=.agg cells)
  (t:TypeId) (old:Array Value) (hg:w.heap[g]? = some (.cells old t (0,0))) (n:Nat) (V:(P.info? J).map (·.size)=some n)
  (G:old.size=n) (F:cells.size=n) (O:cells.toList.all (·.oneCell')=true)
  (h:wpList P H Q rest (a.put op.dst undef) (w.setRow g cells)):wpList P H Q (op :: rest) a w :=
 wpList_plain I fun _ U=>wp_store_row J x y Y g cells hx hy t old hg (by rw [F];exact V) (by rw [G,F]) (Array.all_eq_true_iff_forall_mem.2 (fun v Z=>qa4.1 O v (by simpa using Z))) (U _ _ h)
end
theorem below_setRow {B:Nat} {a w:World} (h:Below B a w) {g:Nat} (hg:B<=g) (cs:Array Value):Below B a (w.setRow g cs) :=
 h.trans ⟨rfl,rfl,rfl,by simp [World.setRow],fun k F=>by
  simp only [World.setRow,Array.getElem?_modify];rw [if_neg (by omega)]⟩
theorem qM (w:World) (o:Obj) (n:Nat) (h:w.heap.size=n):(w.alloc o).heap[n]? = some o:=by
 subst h;exact heap_alloc_new w o
theorem qL (w:World) (o:Obj) (n:Nat) (h:n<w.heap.size):(w.alloc o).heap[n]? = w.heap[n]?:=by show (w.heap.push o)[n]? = w.heap[n]?;rw [Array.getElem?_push,if_neg (Nat.ne_of_lt h)]
theorem qle {P:Program} {f:FuncId} {args:Array Value} {w:World} {n:Nat} {v:Value}
  (h:Calls P f args (w.drewN n) fun e H=>e=.returned v/\w.drewN n=H):Calls P f args (w.drewN n) fun e F=>e=.returned v/\∃m,F=w.drewN m :=
 h.mono fun _ _ ⟨he,G⟩=>⟨he,n,G.symm⟩
theorem qcQ {P:Program} {I:Func} {p:Tmp} {H:TypeId} (h:I.results=#[.cell p H]) (F:Array Value) (w:World) (g:Nat) (t:TypeId) (cs:Array Value) (d:TypeDesc)
  (U:F.getD p undef=.pointer (some ⟨g,0,none⟩)) (hg:w.heap[g]? = some (.cells cs t (0,0)))
  (V:P.underlying H=some d) (J:(match d with | .struct _ | .array _ _=>true | _=>false)=true) (n:Nat) (O:(P.info? H).map (·.size)=some n) (G:cs.size=n) :
  (results I F).run P w=.ok (.agg cs) w :=
 results_cell_row h F w g t cs (0,0) d U hg V J (by rw [G];exact O)
theorem results_row2 {P:Program} {I:Func} {p q:Tmp} {G:TypeId} (h:I.results=#[.cell p G,.tmp q]) (F:Array Value) (w:World) (g:Nat) (t:TypeId) (cs:Array Value) (d:TypeDesc)
  (U:F.getD p undef=.pointer (some ⟨g,0,none⟩)) (hg:w.heap[g]? = some (.cells cs t (0,0)))
  (Y:P.underlying G=some d) (J:(match d with | .struct _ | .array _ _=>true | _=>false)=true) (n:Nat) (O:(P.info? G).map (·.size)=some n) (H:cs.size=n) (v2:Value) (V:F.getD q undef=v2) :
  (results I F).run P w=.ok (.tuple #[.agg cs,v2]) w:=by
 rw [results_cell_tmp h,U,V];simp [asAddr,run_loadVar_row w g t G cs (0,0) d hg Y J (by rw [H];exact O),Result.andThen]
theorem qb2 {B:Nat} {w F:World} (h:Below B w.drew F):Below B w F:=((Below.refl B w).drew).trans h
theorem bcell {B:Nat} {W F:World} (G:Below B W F):(∀b o,b<B->F.cell? ⟨b,o,none⟩=W.cell? ⟨b,o,none⟩)/\(∀b o,b<B->F.frozen? ⟨b,o,none⟩=W.frozen? ⟨b,o,none⟩) :=
 ⟨fun b o h=>G.cell (p:=⟨b,o,none⟩) h,fun b o h=>G.frozen (p:=⟨b,o,none⟩) h⟩
theorem sR_ {P:Program} {G:Array Oper} {rest:List Oper} {op:Oper} {a:Act} {w:World} {Q:Exit->Act->World->Prop} (I:op.guard=none) (J:TypeId) (x y:Operand) (V:op.op=.store J x y)
  (g:Nat) (cells:Array Value) {t:TypeId} {old:Array Value} (hg:w.heap[g]? = some (.cells old t (0,0))) (n:Nat) (h:wpList P G Q rest (a.put op.dst undef) (w.setRow g cells))
  (hx:a.eval x=.pointer (some ⟨g,0,none⟩):=by with_unfolding_all rfl) (hy:a.eval y=.agg cells:=by with_unfolding_all rfl) (U:(P.info? J).map (·.size)=some n:=by kernel_rfl)
  (F:old.size=n:=by with_unfolding_all rfl) (H:cells.size=n:=by with_unfolding_all rfl) (O:cells.toList.all (·.oneCell')=true:=by with_unfolding_all rfl):wpList P G Q (op :: rest) a w :=
 wpList_store_row I J x y V g cells hx hy t old hg n U F H O h
theorem lW_ {P:Program} {F:Array Oper} {rest:List Oper} {op:Oper} {a:Act} {w:World} {Q:Exit->Act->World->Prop} (I:op.guard=none) (G:TypeId) (x:Operand) (U:op.op=.load G x)
  (g:Nat) (cs:Array Value) {t:TypeId} {d:TypeDesc} (hg:w.heap[g]? = some (.cells cs t (0,0))) (V:P.underlying G=some d) (n:Nat) (h:wpList P F Q rest (a.put op.dst (.agg cs)) w)
  (hx:a.eval x=.pointer (some ⟨g,0,none⟩):=by with_unfolding_all rfl) (J:(match d with | .struct _ | .array _ _=>true | _=>false)=true:=by with_unfolding_all rfl) (O:(P.info? G).map (·.size)=some n:=by kernel_rfl) (H:cs.size=n:=by with_unfolding_all rfl):wpList P F Q (op :: rest) a w :=
 qlt I G x U g hx t cs d hg V J n O H h
theorem hmf_ {P:Program} (F:Fn) (first cap:Array Value) (w:World):(Instr.makeFunc F first cap).run P w=.ok (.func F first cap) w:=rfl
theorem rA_ {P:Program} {I:Func} {p:Tmp} {H:TypeId} (h:I.results=#[.cell p H]) {F:Array Value} {w:World} (g:Nat) {t:TypeId} {cs:Array Value} {d:TypeDesc} (hg:w.heap[g]? = some (.cells cs t (0,0))) (V:P.underlying H=some d) (n:Nat)
  (U:F.getD p undef=.pointer (some ⟨g,0,none⟩):=by rfl) (J:(match d with | .struct _ | .array _ _=>true | _=>false)=true:=by rfl) (O:(P.info? H).map (·.size)=some n:=by kernel_rfl) (G:cs.size=n:=by rfl):(results I F).run P w=.ok (.agg cs) w :=
 qcQ h F w g t cs d U hg V J n O G
theorem rB_ {P:Program} {I:Func} {p q:Tmp} {H:TypeId} (h:I.results=#[.cell p H,.tmp q]) {F:Array Value} {w:World} (g:Nat) {t:TypeId} {cs:Array Value} {d:TypeDesc} (hg:w.heap[g]? = some (.cells cs t (0,0))) (Y:P.underlying H=some d) (n:Nat) {v2:Value}
  (U:F.getD p undef=.pointer (some ⟨g,0,none⟩):=by rfl) (J:(match d with | .struct _ | .array _ _=>true | _=>false)=true:=by rfl) (O:(P.info? H).map (·.size)=some n:=by kernel_rfl) (G:cs.size=n:=by rfl) (V:F.getD q undef=v2:=by rfl):(results I F).run P w=.ok (.tuple #[.agg cs,v2]) w :=
 results_row2 h F w g t cs d U hg Y J n O G v2 V
theorem qS:type_of% @Go.below_setRow:=@Go.below_setRow
theorem qT:type_of% @Go.setRow_heap:=@Go.setRow_heap
theorem qW:type_of% @Go.RowKit.Below.heap_setCell:=@Go.RowKit.Below.heap_setCell
theorem u64_in (n:Nat) (h:n<18446744073709551616):IntKind.u64.wrap (n:Int)=n:=by
 show (n:Int) % 18446744073709551616=n
 omega
theorem tdivN (t m c:Nat) (h:t / m=c):(t:Int).tdiv (m:Int)=c:=by
 rw [Int.tdiv_eq_ediv_of_nonneg (by omega),<-h];exact (Int.natCast_ediv t m).symm
theorem tmodN (t m c:Nat) (h:t % m=c):(t:Int).tmod (m:Int)=c:=by
 rw [Int.tmod_eq_emod_of_nonneg (by omega),<-h];exact (Int.natCast_emod t m).symm
theorem tdivB (t c:Nat) (h:t / 1000000000=c):(t:Int).tdiv 1000000000=c:=tdivN t 1000000000 c h
theorem tmodB (t c:Nat) (h:t % 1000000000=c):(t:Int).tmod 1000000000=c:=tmodN t 1000000000 c h
def dg (L:List Nat) (k:Nat):Nat:=L.getD k 0
structure Cells (W:World) (ao:Option Addr) (b off:Nat) (L:List Nat):Prop where
 addr:0<L.length->ao=some ⟨b,off,none⟩
 cell:∀k,k<L.length->W.cell? ⟨b,off+k,none⟩=some (.int .u32 ((dg L k:Nat):Int))
theorem Cells.below {W W':World} {F:Option Addr} {b off:Nat} {L:List Nat} (h:Cells W F b off L) (H:Below W.heap.size W W'):Cells W' F b off L :=
 ⟨h.addr,fun k G=>(H.cell (qac W _ (h.cell k G))).trans (h.cell k G)⟩
theorem Cells.take {W:World} {F:Option Addr} {b off:Nat} {L:List Nat} (h:Cells W F b off L) (n:Nat):Cells W F b off (L.take n) :=
 ⟨fun G=>h.addr (by rw [qay] at G;omega),fun k H=>by
  rw [qay] at H;rw [h.cell k (by omega),dg,dg,qaa,qaa,List.getElem?_take_of_lt (by omega)]⟩
structure IsM (W:World) (ao:Option Addr) (b off c n:Nat) (L:List Nat):Prop where
 len:L.length=n
 cap:n<=c
 cells:Cells W ao b off L
 dig:Dig L
 nrm:Nrm L
theorem IsM.below {W W':World} {F:Option Addr} {b off c n:Nat} {L:List Nat} (h:IsM W F b off c n L) (G:Below W.heap.size W W'):IsM W' F b off c n L:=⟨h.len,h.cap,h.cells.below G,h.dig,h.nrm⟩
theorem IsM.addr {W:World} {F:Option Addr} {b off c n:Nat} {L:List Nat} (h:IsM W F b off c n L):0<n->F=some ⟨b,off,none⟩:=by rw [<-h.len];exact h.cells.addr
theorem IsM.cell {W:World} {F:Option Addr} {b off c n:Nat} {L:List Nat} (h:IsM W F b off c n L):∀k,k<n->W.cell? ⟨b,off+k,none⟩=some (.int .u32 ((dg L k:Nat):Int)):=by rw [<-h.len];exact h.cells.cell
def MagAt (W:World) (v:Value) (x:Nat):Prop:=∃(F:Option Addr) (b off c n:Nat) (L:List Nat),v=.slice F n c/\IsM W F b off c n L/\mval L=x
theorem MagAt.below {W W':World} {v:Value} {x:Nat} (h:MagAt W v x) (H:Below W.heap.size W W'):MagAt W' v x:=by
 obtain⟨ao,b,off,c,n,L,rfl,F,G⟩:=h;exact⟨ao,b,off,c,n,L,rfl,F.below H,G⟩
theorem MagAt.nil (W:World):MagAt W (.slice none 0 0) 0:=⟨none,0,0,0,0,[],rfl,⟨rfl,qae _,⟨fun h=>absurd h (by simp),fun k h=>absurd h (by simp)⟩,Dig.nil,qal rfl⟩,rfl⟩
def Fit (x K:Nat):Prop:=x<1000000000 ^ K
theorem Fit.le {x y K:Nat} (h:Fit y K) (hx:x<=y):Fit x K:=qaL hx h
theorem Fit.mono {x K M:Nat} (h:Fit x K) (F:K<=M):Fit x M:=qai h (qaX (by decide) F)
theorem Fit.mul {x y K M:Nat} (h:Fit x K) (k:Fit y M):Fit (x*y) (K+M):=by
 unfold Fit at *;rw [Nat.pow_add];exact Nat.mul_lt_mul'' h k
theorem Fit.add {x y K:Nat} (h:Fit x K) (k:Fit y K):Fit (x+y) (K+1):=by
 unfold Fit at *;rw [qaI];omega
theorem Fit.len {W:World} {F:Option Addr} {b off c n:Nat} {L:List Nat} {K:Nat} (h:Fit (mval L) K) (k:IsM W F b off c n L):n<=K:=by
 rw [<-k.len];exact k.nrm.len h
def row32 (L:List Nat):List Value:=L.map fun (d:Nat)=>Value.int .u32 (d:Int)
theorem qcr (L:List Nat):(row32 L).length=L.length:=by unfold row32;exact qat _
theorem qmW (L:List Nat) (k d:Nat):(row32 L).set k (.int .u32 (d:Int))=row32 (L.set k d):=by unfold row32;rw [List.map_set]
theorem qdv (L:List Nat) (k:Nat) (h:k<L.length):(row32 L)[k]? = some (.int .u32 ((dg L k:Nat):Int)):=by
 unfold row32 dg;rw [qau,qeh h];rfl
theorem qdF (L:List Nat) (d:Nat):row32 (L++[d])=row32 L++[.int .u32 (d:Int)]:=by unfold row32;rw [qaZ];rfl
theorem made32 (n:Nat):(madeCells #[Value.int .u32 0] n).toList=row32 (List.replicate n 0):=by
 rw [toList_madeCells_one];unfold row32;rw [List.map_replicate];rfl
theorem qcZ {W:World} {B e g n c:Nat} {L:List Nat} (h:W.ownsRow B e 1 (.slice (some ⟨g,0,none⟩) n c) n (row32 L)) (G:L.length=n):Cells W (some ⟨g,0,none⟩) g 0 L :=
 ⟨fun _=>rfl,fun k F=>by
  rw [qaH,h.cellAt k (by omega)];exact qdv L k F⟩
theorem qdC {W:World} {B e g n c:Nat} {R:List Nat} (h:W.ownsRow B e 1 (.slice (some ⟨g,0,none⟩) n c) n (row32 R)) (k:Nat) {s:Int} (d:Nat) (F:s=(d:Int)) :
  (W.setCell ⟨g,k,none⟩ (.int .u32 s)).ownsRow B e 1 (.slice (some ⟨g,0,none⟩) n c) n (row32 (R.set k d)):=by
 have G:=(h.stored k (.int .u32 s)).1
 rwa [F,qmW,<-F] at G
theorem qdx (W:World) (v:Value) (e:TypeId):∀j u,[v][j]? = some u->(W.alloc (.cells #[v] e)).cell? ((⟨W.heap.size,0,none⟩:Addr).add j)=some u:=by
 intro j u F
 match j,F with
 | 0,F =>
  simp only [List.getElem?_cons_zero,Option.some.injEq] at F;subst F;exact qC _ _ 0 _ _ _ (heap_alloc_new W _)
theorem one_cell (k:IntKind) (s:Int):∀u∈[Value.int k s],u.oneCell'=true:=by
 intro u F;rw [qas.1 F];rfl
theorem qfg {W:World} {B e g k c:Nat} {S:List Nat} {s:Int} {d:Nat} (h:W.ownsRow B e 1 (.slice (some ⟨g,0,none⟩) (k+1) c) (k+1) (row32 S++[.int .u32 s])) (F:s=(d:Int)) :
  W.ownsRow B e 1 (.slice (some ⟨g,0,none⟩) (k+1) c) (k+1) (row32 (S++[d])):=by
 rw [qdF,<-F];exact h
theorem qcJ {B:Nat} {w W F:World} {o:Obj} {row:Option Nat} (h:Below B w W) (I:B<=w.heap.size) (hg:(W.alloc o).grownBy F row) (H:∀k,row=some k->B<=k):Below B w F:=by
 have G:=h.size;refine (h.alloc (qaj I G) o).grown hg ?_ H;simp only [qab];omega
theorem qcX (w:World) (row:Option Nat):w.grownBy w row:=⟨rfl,rfl,rfl,qae _,fun _ _ _=>rfl⟩
theorem qbX {a b c:World} {row:Option Nat} (h:a.grownBy b row) (k:b.grownBy c row):a.grownBy c row :=
 ⟨k.os.trans h.os,k.tape.trans h.tape,k.output.trans h.output,qaj h.size k.size,fun i F G=>(k.block i (qai F h.size) G).trans (h.block i F G)⟩
theorem qdl {a b:World} {row:Option Nat} (h:a.grownBy b row) (n:Nat):a.grownBy (b.drewN n) row:=⟨h.os,h.tape,h.output,h.size,h.block⟩
theorem qce {a b c:World} {row:Option Nat} (h:a.grownBy b row) (k:Below b.heap.size b c):a.grownBy c row :=
 ⟨k.os.trans h.os,k.tape.trans h.tape,k.output.trans h.output,qaj h.size k.size,fun i F G=>(k.block i (qai F h.size)).trans (h.block i F G)⟩
theorem qhn {a b:World} {g:Nat} {G:Option Addr} {F off:Nat} {L:List Nat} (h:a.grownBy b (some g)) (H:Cells a G F off L) (hne:0<L.length->F≠g):Cells b G F off L :=
 ⟨H.addr,fun k I=>h.cell (H.cell k I) (fun e=>hne (by omega) (qah e))⟩
theorem own_kept {W W':World} {B e g n c:Nat} {H:List Value} (h:W.ownsRow B e 1 (.slice (some ⟨g,0,none⟩) n c) n H) (I:Below W.heap.size W W'):W'.ownsRow B e 1 (.slice (some ⟨g,0,none⟩) n c) n H:=by
 have J:=h.lt g rfl;refine⟨h.1,?_⟩;rcases h.2 with ⟨F,_⟩ | ⟨g',cap',cur,F,G,hg,O⟩
 ·simp at F
 ·have e:g'=g:=by
   simp only [qbE,Option.some.injEq,Addr.mk.injEq,and_true,true_and] at F;exact F.1.symm
  subst e;exact .inr ⟨g',cap',cur,F,G,(I.block g' J.2).trans hg,O⟩
theorem qgX {W:World} {B e g n c:Nat} {F:List Value} (h:W.ownsRow B e 1 (.slice (some ⟨g,0,none⟩) n c) n F) (k:Nat) (u:Value):W.grownBy (W.setCell ⟨g,k,none⟩ u) (some g):=(h.stored k u).2
theorem dg_mid (A R C:List Nat) (i:Nat) (F:i<R.length):dg (A++R++C) (A.length+i)=dg R i:=by
 unfold dg;rw [qaa,qaa,qaE,qao (by omega),Nat.add_sub_cancel_left,qar F]
theorem set_mid (A R C:List Nat) (i d:Nat) (F:i<R.length):(A++R++C).set (A.length+i) d=A++R.set i d++C:=by
 rw [qaE,qa6 _ _ (by omega),Nat.add_sub_cancel_left,List.set_append_left _ _ F,<-qaE]
theorem qkl (W:World) (n:Nat) (e:TypeId):(W.alloc (.cells (madeCells #[.int .u32 0] n) e)).heap[W.heap.size]? = some (.cells (row32 (List.replicate n 0)).toArray e (0,0)):=by
 rw [<-made32,Array.toArray_toList];exact heap_alloc_new W _
theorem qmX {W:World} {B e g n:Nat} {L:List Nat} (h:W.heap[g]? = some (.cells (row32 L).toArray e (0,0))) (G:L.length=n) (F:B<=g) (H:n<=maxLen):W.ownsRow B e 1 (.slice (some ⟨g,0,none⟩) n n) n (row32 L):=by
 refine⟨by rw [qcr];omega,.inr ⟨g,n,_,rfl,F,h,qae _,H,by simp [qcr,G],?_⟩⟩
 show (row32 L).take (n*1)=row32 L
 exact qak (by rw [qcr];omega)
theorem splice32 (L T:List Nat) (_h:T.length<=L.length):splice (row32 L) 0 (row32 T)=row32 (T++L.drop T.length):=by
 unfold splice row32;rw [List.take_zero,qbh,qaZ,qat,qaH,List.map_drop]
theorem qey (W:World) (e:TypeId) {s:Nat} (H:0<s) (F:s<1000000000):MagAt (W.alloc (.cells #[.int .u32 (s:Int)] e)) (.slice (some ⟨W.heap.size,0,none⟩) 1 1) s:=by
 refine⟨_,W.heap.size,0,1,1,[s],rfl,⟨rfl,qae _,⟨fun _=>rfl,fun k G=>?_⟩,Dig.of (by simpa using F),?_⟩,by simp [mval]⟩
 ·match k,G with
  | 0,_=>exact qC _ _ 0 _ _ _ (heap_alloc_new W _)
 ·right;show s≠0;omega
theorem qkr {W W':World} {B e g F n c:Nat} {G:List Value} (h:W.ownsRow B e 1 (.slice (some ⟨g,0,none⟩) n c) n G) (hg:W.grownBy W' (some F)) (hne:g≠F):W'.ownsRow B e 1 (.slice (some ⟨g,0,none⟩) n c) n G :=
 h.kept hg (qag (fun e=>hne (qah e)))
theorem qke {W W':World} {F:Option Addr} {b off c n g:Nat} {L:List Nat} (h:IsM W F b off c n L) (hg:W.grownBy W' (some g)) (hne:b≠g):IsM W' F b off c n L:=⟨h.len,h.cap,qhn hg h.cells (fun _=>hne),h.dig,h.nrm⟩
theorem qmc {W:World} {F:Option Addr} {b off c n:Nat} {L:List Nat} (h:IsM W F b off c n L) (G:0<n):b<W.heap.size:=qac W ⟨b,off+0,none⟩ (h.cell 0 G)
theorem qmV (L:List Nat):∀v∈row32 L,v.oneCell'=true:=by
 intro v F;unfold row32 at F;obtain⟨d,_,rfl⟩:=qbn.1 F
 rfl
theorem addr_add (b o k:Nat):(⟨b,o,none⟩:Addr).add k=⟨b,o+k,none⟩:=by simp [Addr.add]
theorem own_isM {W:World} {B e n:Nat} {v:Value} {S:List Nat} (h:W.ownsRow B e 1 v n (row32 S)) (I:Dig S) (J:Nrm S):MagAt W v (mval S):=by
 rcases h.2 with ⟨rfl,rfl⟩ | ⟨g,c,cur,rfl,O,hg,F,U,V,Y⟩
 ·have H:S.length=0:=by have:=h.1;rw [qcr] at this;omega
  rw [List.length_eq_zero_iff.1 H];exact MagAt.nil W
 ·have G:S.length=n:=by have:=h.1;rw [qcr] at this;omega
  exact⟨_,g,0,c,n,S,rfl,⟨G,F,qcZ h G,I,J⟩,rfl⟩
open Tryz
def cmp3 (x y:Int):Int:=if x<y then -1 else if x=y then 0 else 1
theorem qiD (a:Int) (w:World):Calls prog 265 #[.int .i64 a] w fun e F=>e=.returned (.bool false)/\F=w:=by
 go_enter func265,ntmps265;go_wp2;go_ret;exact⟨rfl,rfl⟩
theorem qiE (a:Int) (w:World):Calls prog 266 #[.int .u32 a] w fun e F=>e=.returned (.bool false)/\F=w:=by
 go_enter func266,ntmps266;go_wp2;go_ret;exact⟨rfl,rfl⟩
theorem cmp_int (a b:Int) (w:World):Calls prog 218 #[.int .i64 a,.int .i64 b] w fun e U=>e=.returned (.int .i64 (cmp3 a b))/\U=w:=by
 have G:=qH (qiD a);have H:=qH (qiD b);rcases Int.lt_trichotomy a b with h | h | h
 ·have F:cmp3 a b = -1:=by unfold cmp3;rw [if_pos h]
  rw [F];clear F;go_enter func218,ntmps218;go_wp2_with fail;refine (G.o _).mono ?_;rintro e J ⟨rfl,rfl⟩;go_wp2_with fail;refine (H.o _).mono ?_;rintro e O ⟨rfl,rfl⟩;go_wp2;go_ret;exact⟨rfl,rfl⟩
 ·subst h;have F:cmp3 a a=0:=by unfold cmp3;rw [if_neg (Int.lt_irrefl a),if_pos rfl]
  rw [F];clear F;have I:¬a<a:=Int.lt_irrefl a;go_enter func218,ntmps218;go_wp2_with fail;refine (G.o _).mono ?_;rintro e J ⟨rfl,rfl⟩;go_wp2_with fail;refine (G.o _).mono ?_;rintro e O ⟨rfl,rfl⟩;go_wp2;go_ret;exact⟨rfl,rfl⟩
 ·have I:¬a<b:=by omega
  have F:cmp3 a b=1:=by unfold cmp3;rw [if_neg I,if_neg (by omega)]
  rw [F];clear F;go_enter func218,ntmps218;go_wp2_with fail;refine (G.o _).mono ?_;rintro e J ⟨rfl,rfl⟩;go_wp2_with fail;refine (H.o _).mono ?_;rintro e O ⟨rfl,rfl⟩;go_wp2;go_ret;exact⟨rfl,rfl⟩
theorem cmp_u32 (a b:Int) (w:World):Calls prog 219 #[.int .u32 a,.int .u32 b] w fun e U=>e=.returned (.int .i64 (cmp3 a b))/\U=w:=by
 have G:=qH (qiE a);have H:=qH (qiE b);rcases Int.lt_trichotomy a b with h | h | h
 ·have F:cmp3 a b = -1:=by unfold cmp3;rw [if_pos h]
  rw [F];clear F;go_enter func219,ntmps219;go_wp2_with fail;refine (G.o _).mono ?_;rintro e J ⟨rfl,rfl⟩;go_wp2_with fail;refine (H.o _).mono ?_;rintro e O ⟨rfl,rfl⟩;go_wp2;go_ret;exact⟨rfl,rfl⟩
 ·subst h;have F:cmp3 a a=0:=by unfold cmp3;rw [if_neg (Int.lt_irrefl a),if_pos rfl]
  rw [F];clear F;have I:¬a<a:=Int.lt_irrefl a;go_enter func219,ntmps219;go_wp2_with fail;refine (G.o _).mono ?_;rintro e J ⟨rfl,rfl⟩;go_wp2_with fail;refine (G.o _).mono ?_;rintro e O ⟨rfl,rfl⟩;go_wp2;go_ret;exact⟨rfl,rfl⟩
 ·have I:¬a<b:=by omega
  have F:cmp3 a b=1:=by unfold cmp3;rw [if_neg I,if_neg (by omega)]
  rw [F];clear F;go_enter func219,ntmps219;go_wp2_with fail;refine (G.o _).mono ?_;rintro e J ⟨rfl,rfl⟩;go_wp2_with fail;refine (H.o _).mono ?_;rintro e O ⟨rfl,rfl⟩;go_wp2;go_ret;exact⟨rfl,rfl⟩
end Go.Proofs.YtplkdeknjghobaaGreatDoor
namespace Go.Proofs.YtplkdeknjghobaaGreatDoor.whole
open Go.RowKit Tryz
theorem trim_any (O:Option Addr) (b off c n:Nat) (L:List Nat) (w:World) (hn:L.length=n) (ae:n<=1099511627776) (hc:n<=c) (G:Cells w O b off L) :
  Calls prog 279 #[.slice O n c] w fun e w'=>∃m,e=.returned (.slice O m c)/\w'=w/\m<=n/\Zero L m/\(m=0\/L.getD (m-1) 0≠0):=by
 have I:Zero L n:=by rw [<-hn];exact Zero.all L
 obtain⟨V,F⟩:=G;rw [hn] at V F;have Ha:=qH V;have H:=qH F;have Hz:=qH I;clear V F I hn;go_enter func279,ntmps279;go_wp2
 go_loopw [0] (fun x0 W=>∃m:Nat,x0=.slice O m c/\W=w/\m<=n/\Hu (Zero L m)) (fun x0 _=>match x0 with | .slice _ m _=>m | _=>0)
 case atStart=>exact⟨n,rfl,rfl,qae _,Hz⟩
 case round =>
  obtain⟨m,rfl,rfl,hm,I⟩:=hrel
  by_cases aa:m=0
  ·subst aa;have Hm:=qH hm;clear hm;go_wp2;go_ret;exact⟨0,rfl,rfl,qam _,I.o,qal rfl⟩
  ·have af:(0:Int)<m:=by omega
   have Y:=Ha.o (by omega);subst Y;have Z:=H.o (m-1) (by omega);have e1:((m-1:Nat):Int)=(m:Int)-1:=by omega
   by_cases J:dg L (m-1)=0
   ·rw [J] at Z;have U:=qH J;clear J;go_wp2;go_roundw
    case rel=>exact⟨m-1,rfl,trivial,by omega,qH (Zero.down (n:=m-1) (by rw [show m-1+1=m by omega];exact I.o) U.o)⟩
    case measure=>show m-1<m;omega
   ·have hne:¬((dg L (m-1):Nat):Int)=0:=by omega
    have U:=qH J;clear J;go_wp2;go_ret;exact⟨m,rfl,rfl,hm,I.o,qag U.o⟩
theorem info32:(Tryz.prog.info? 232).map (fun i=>(i.zero,i.size,i.bytes))=some (some (.int .u32 0),1,4):=by kernel_rfl
theorem trim_mag (I:Option Addr) (b off c n:Nat) (L:List Nat) (w:World) (hn:L.length=n) (H:n<=1099511627776) (Y:n<=c) (F:Cells w I b off L) (Z:Dig L) :
  Calls prog 279 #[.slice I n c] w fun e V=>∃v,e=.returned v/\V=w/\MagAt w v (mval L):=by
 refine (trim_any I b off c n L w hn H Y F).mono ?_;rintro e V ⟨m,rfl,rfl,hm,U,G⟩;refine⟨_,rfl,rfl,I,b,off,c,m,L.take m,rfl,⟨?_,by omega,F.take m,Z.take m,?_⟩,qcx U⟩
 ·rw [qay];omega
 ·have O:(L.take m).length=m:=by rw [qay];omega
  rcases G with G | G
  ·exact qal (by rw [O,G])
  ·right
   rw [O]
   by_cases J:m=0
   ·subst J;exact absurd (U _ (qam _)) G
   ·rw [qaa,List.getElem?_take_of_lt (by omega),<-qaa];exact G
end Go.Proofs.YtplkdeknjghobaaGreatDoor.whole
namespace Go.Proofs.YtplkdeknjghobaaGreatDoor
open Go.RowKit Tryz
inductive Pk where
 | f
 | l
def Pk.of (p:Pk) (x y:Nat):Nat:=match p with
 | .f=>x
 | .l=>y
theorem qdT {t:TypeId} (h:t=134\/t=238):Tryz.prog.underlying t=some (.slice 232):=by
 rcases h with rfl | rfl
 ·exact underlying134
 ·exact underlying238
theorem qjK (pk:Pk) (O:Option Addr) (b off c n:Nat) (L:List Nat) (w:World) (hn:L.length=n) (ae:n<=1099511627776) (hc:n<=c) (G:Cells w O b off L) :
  Calls prog (Pk.of pk 215 232) #[.slice O n c] w fun e w'=>∃m,e=.returned (.slice O m c)/\w'=w/\m<=n/\Zero L m/\(m=0\/L.getD (m-1) 0≠0):=by
 have I:Zero L n:=by rw [<-hn];exact Zero.all L
 obtain⟨V,F⟩:=G;rw [hn] at V F;have Ha:=qH V;have H:=qH F;have Hz:=qH I;clear V F I hn;cases pk <;> dsimp only [Pk.of] at * <;> (
 first | go_enter func215,ntmps215 | go_enter func232,ntmps232
 go_wp2
 go_loopw [0] (fun x0 W=>∃m:Nat,x0=.slice O m c/\W=w/\m<=n/\Hu (Zero L m)) (fun x0 _=>match x0 with | .slice _ m _=>m | _=>0)
 case atStart=>exact⟨n,rfl,rfl,qae _,Hz⟩
 case round =>
  obtain⟨m,rfl,rfl,hm,I⟩:=hrel
  by_cases aa:m=0
  ·subst aa;have Hm:=qH hm;clear hm;go_wp2;go_ret;exact⟨0,rfl,rfl,qam _,I.o,qal rfl⟩
  ·have af:(0:Int)<m:=by omega
   have Y:=Ha.o (by omega);subst Y;have Z:=H.o (m-1) (by omega);have e1:((m-1:Nat):Int)=(m:Int)-1:=by omega
   by_cases J:dg L (m-1)=0
   ·rw [J] at Z;have U:=qH J;clear J;go_wp2;go_roundw
    case rel=>exact⟨m-1,rfl,trivial,by omega,qH (Zero.down (n:=m-1) (by rw [show m-1+1=m by omega];exact I.o) U.o)⟩
    case measure=>show m-1<m;omega
   ·have hne:¬((dg L (m-1):Nat):Int)=0:=by omega
    have U:=qH J;clear J;go_wp2;go_ret;exact⟨m,rfl,rfl,hm,I.o,qag U.o⟩)
theorem qcA:(Tryz.prog.info? 232).map (fun i=>(i.zero,i.size,i.bytes))=some (some (.int .u32 0),1,4):=by kernel_rfl
theorem qe2 (W:World) (n:Nat) (G:n<=maxLen):(W.alloc (.cells (madeCells #[.int .u32 0] n) 232)).ownsRow W.heap.size 232 1 (.slice (some ⟨W.heap.size,0,none⟩) n n) n (row32 (List.replicate n 0)):=by
 rw [<-made32];have F:=size_madeCells #[Value.int .u32 0] n;refine⟨by simp [F],.inr ⟨W.heap.size,n,_,rfl,qae _,heap_alloc_new W _,qae _,G,by simp [F],?_⟩⟩;exact qak (by simp [F])
theorem qdL (V:Pk) (I:Option Addr) (b off c n:Nat) (L:List Nat) (w:World) (hn:L.length=n) (H:n<=1099511627776) (Z:n<=c) (F:Cells w I b off L) (hd:Dig L) :
  Calls prog (Pk.of V 215 232) #[.slice I n c] w fun e Y=>∃v,e=.returned v/\Y=w/\MagAt w v (mval L):=by
 refine ((qjK V) I b off c n L w hn H Z F).mono ?_;rintro e Y ⟨m,rfl,rfl,hm,U,G⟩;refine⟨_,rfl,rfl,I,b,off,c,m,L.take m,rfl,⟨?_,by omega,F.take m,hd.take m,?_⟩,qcx U⟩
 ·rw [qay];omega
 ·have O:(L.take m).length=m:=by rw [qay];omega
  rcases G with G | G
  ·exact qal (by rw [O,G])
  ·right
   rw [O]
   by_cases J:m=0
   ·subst J;exact absurd (U _ (qam _)) G
   ·rw [qaa,List.getElem?_take_of_lt (by omega),<-qaa];exact G
