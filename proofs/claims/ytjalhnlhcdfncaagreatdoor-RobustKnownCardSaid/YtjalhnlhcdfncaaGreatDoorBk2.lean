import Derived.BigQuiet
import Derived.Deep.MidRow
import Derived.Deep.QuietTactic
import Derived.Deep.WholeRow
import Derived.Laws.CopyOwn
import Derived.Laws.EntriesVeiled
import Derived.Laws.ResultCell
import Derived.Laws.Rows
import Derived.Lib.Hide
import Derived.Outline
import Derived.Test.YtjalhnlhcdfncaaGreatDoorBk1
import Derived.Test.YtjalhnlhcdfncaaGreatDoorProg
import Derived.WalkKit
import Derived.WalkLawsBesides
import Derived.WalkSpells
set_option maxRecDepth 100000
set_option maxHeartbeats 0
namespace Go.Proofs.YtjalhnlhcdfncaaGreatDoor
open Go.RowKit
section
variable {P:Program}
theorem qbU {G:Array Oper} {rest:List Oper} {op:Oper} {a:Act} {w:World} {Q:Exit->Act->World->Prop} (H:op.guard=none) (t:TypeId) (x y:Operand) (V:op.op=.store t x y)
  (c c':Array Value) (hx:a.eval x=.pointer (some ⟨w.heap.size,0,none⟩)) (hy:a.eval y=.agg c')
  (n:Nat) (I:(P.info? t).map (·.size)=some n) (U:c.size=n) (F:c'.size=n) (J:c'.toList.all (·.oneCell')=true)
  (h:wpList P G Q rest (a.put op.dst undef) (w.alloc (.cells c' t))):wpList P G Q (op :: rest) a (w.alloc (.cells c t)) :=
 wpList_plain H fun _ O=>by
  have I:(P.info? t).map (·.size)=some c'.size:=by rw [F];exact I
  have Y:c.size=c'.size:=by rw [U,F]
  unfold Oper.wp execOp;simp only [V,hx,hy,Instr.storeAt,Instr.sureAddr,Sem.run_bind,Sem.run_pure,Result.andThen_ok,run_storeVar_new w t c c' I Y (Array.all_eq_true_iff_forall_mem.2 (fun v Z=>qaw.1 J v (by simpa using Z)))];exact O _ _ h
theorem qk2 {F:Array Oper} {rest:List Oper} {op:Oper} {a:Act} {w:World} {Q:Exit->Act->World->Prop} (I:op.guard=none) (G:TypeId) (x:Operand) (U:op.op=.load G x)
  (g:Nat) (Y:a.eval x=.pointer (some ⟨g,0,none⟩)) (t:TypeId) (cs:Array Value) (d:TypeDesc) (hg:w.heap[g]? = some (.cells cs t (0,0)))
  (V:P.underlying G=some d) (J:(match d with | .struct _ | .array _ _=>true | _=>false)=true) (n:Nat) (O:(P.info? G).map (·.size)=some n) (H:cs.size=n)
  (h:wpList P F Q rest (a.put op.dst (.agg cs)) w):wpList P F Q (op :: rest) a w :=
 wpList_load_row I G x U g Y t cs (0,0) d hg V J (by rw [H];exact O) h
theorem wpList_store_row {H:Array Oper} {rest:List Oper} {op:Oper} {a:Act} {w:World} {Q:Exit->Act->World->Prop} (I:op.guard=none) (J:TypeId) (x y:Operand) (Y:op.op=.store J x y)
  (g:Nat) (cells:Array Value) (hx:a.eval x=.pointer (some ⟨g,0,none⟩)) (hy:a.eval y=.agg cells)
  (t:TypeId) (old:Array Value) (hg:w.heap[g]? = some (.cells old t (0,0))) (n:Nat) (V:(P.info? J).map (·.size)=some n)
  (G:old.size=n) (F:cells.size=n) (O:cells.toList.all (·.oneCell')=true)
  (h:wpList P H Q rest (a.put op.dst undef) (w.setRow g cells)):wpList P H Q (op :: rest) a w :=
 wpList_plain I fun _ U=>wp_store_row J x y Y g cells hx hy t old hg (by rw [F];exact V) (by rw [G,F]) (Array.all_eq_true_iff_forall_mem.2 (fun v Z=>qaw.1 O v (by simpa using Z))) (U _ _ h)
end
theorem below_setRow {B:Nat} {a w:World} (h:Below B a w) {g:Nat} (hg:B<=g) (cs:Array Value):Below B a (w.setRow g cs) :=
 h.trans ⟨rfl,rfl,rfl,by simp [World.setRow],fun k F=>by
  simp only [World.setRow,Array.getElem?_modify];rw [if_neg (by omega)]⟩
theorem qM (w:World) (o:Obj) (n:Nat) (h:w.heap.size=n):(w.alloc o).heap[n]? = some o:=by
 subst h;exact heap_alloc_new w o
theorem qL (w:World) (o:Obj) (n:Nat) (h:n<w.heap.size):(w.alloc o).heap[n]? = w.heap[n]?:=by show (w.heap.push o)[n]? = w.heap[n]?;rw [Array.getElem?_push,if_neg (Nat.ne_of_lt h)]
theorem qkO {P:Program} {f:FuncId} {args:Array Value} {w:World} {n:Nat} {v:Value}
  (h:Calls P f args (w.drewN n) fun e w'=>e=.returned v/\w.drewN n=w'):Calls P f args (w.drewN n) fun e F=>e=.returned v/\∃m,F=w.drewN m :=
 h.mono fun _ _ ⟨he,G⟩=>⟨he,n,G.symm⟩
theorem qcC {P:Program} {I:Func} {p:Tmp} {H:TypeId} (h:I.results=#[.cell p H]) (F:Array Value) (w:World) (g:Nat) (t:TypeId) (cs:Array Value) (d:TypeDesc)
  (U:F.getD p undef=.pointer (some ⟨g,0,none⟩)) (hg:w.heap[g]? = some (.cells cs t (0,0)))
  (V:P.underlying H=some d) (J:(match d with | .struct _ | .array _ _=>true | _=>false)=true) (n:Nat) (O:(P.info? H).map (·.size)=some n) (G:cs.size=n) :
  (results I F).run P w=.ok (.agg cs) w :=
 results_cell_row h F w g t cs (0,0) d U hg V J (by rw [G];exact O)
theorem results_row2 {P:Program} {I:Func} {p q:Tmp} {G:TypeId} (h:I.results=#[.cell p G,.tmp q]) (F:Array Value) (w:World) (g:Nat) (t:TypeId) (cs:Array Value) (d:TypeDesc)
  (U:F.getD p undef=.pointer (some ⟨g,0,none⟩)) (hg:w.heap[g]? = some (.cells cs t (0,0)))
  (Y:P.underlying G=some d) (J:(match d with | .struct _ | .array _ _=>true | _=>false)=true) (n:Nat) (O:(P.info? G).map (·.size)=some n) (H:cs.size=n) (v2:Value) (V:F.getD q undef=v2) :
  (results I F).run P w=.ok (.tuple #[.agg cs,v2]) w:=by
 rw [results_cell_tmp h,U,V];simp [asAddr,run_loadVar_row w g t G cs (0,0) d hg Y J (by rw [H];exact O),Result.andThen]
theorem qcf {B:Nat} {w w':World} (h:Below B w.drew w'):Below B w w':=((Below.refl B w).drew).trans h
theorem bcell {B:Nat} {W F:World} (G:Below B W F):(∀b o,b<B->F.cell? ⟨b,o,none⟩=W.cell? ⟨b,o,none⟩)/\(∀b o,b<B->F.frozen? ⟨b,o,none⟩=W.frozen? ⟨b,o,none⟩) :=
 ⟨fun b o h=>G.cell (p:=⟨b,o,none⟩) h,fun b o h=>G.frozen (p:=⟨b,o,none⟩) h⟩
theorem sR_ {P:Program} {G:Array Oper} {rest:List Oper} {op:Oper} {a:Act} {w:World} {Q:Exit->Act->World->Prop} (I:op.guard=none) (J:TypeId) (x y:Operand) (V:op.op=.store J x y)
  (g:Nat) (cells:Array Value) {t:TypeId} {old:Array Value} (hg:w.heap[g]? = some (.cells old t (0,0))) (n:Nat) (h:wpList P G Q rest (a.put op.dst undef) (w.setRow g cells))
  (Y:a.eval x=.pointer (some ⟨g,0,none⟩):=by with_unfolding_all rfl) (Z:a.eval y=.agg cells:=by with_unfolding_all rfl) (U:(P.info? J).map (·.size)=some n:=by kernel_rfl)
  (F:old.size=n:=by with_unfolding_all rfl) (H:cells.size=n:=by with_unfolding_all rfl) (O:cells.toList.all (·.oneCell')=true:=by with_unfolding_all rfl):wpList P G Q (op :: rest) a w :=
 wpList_store_row I J x y V g cells Y Z t old hg n U F H O h
theorem lW_ {P:Program} {F:Array Oper} {rest:List Oper} {op:Oper} {a:Act} {w:World} {Q:Exit->Act->World->Prop} (I:op.guard=none) (G:TypeId) (x:Operand) (U:op.op=.load G x)
  (g:Nat) (cs:Array Value) {t:TypeId} {d:TypeDesc} (hg:w.heap[g]? = some (.cells cs t (0,0))) (V:P.underlying G=some d) (n:Nat) (h:wpList P F Q rest (a.put op.dst (.agg cs)) w)
  (Y:a.eval x=.pointer (some ⟨g,0,none⟩):=by with_unfolding_all rfl) (J:(match d with | .struct _ | .array _ _=>true | _=>false)=true:=by with_unfolding_all rfl) (O:(P.info? G).map (·.size)=some n:=by kernel_rfl) (H:cs.size=n:=by with_unfolding_all rfl):wpList P F Q (op :: rest) a w :=
 qk2 I G x U g Y t cs d hg V J n O H h
theorem hmf_ {P:Program} (F:Fn) (first cap:Array Value) (w:World):(Instr.makeFunc F first cap).run P w=.ok (.func F first cap) w:=rfl
theorem rA_ {P:Program} {I:Func} {p:Tmp} {H:TypeId} (h:I.results=#[.cell p H]) {F:Array Value} {w:World} (g:Nat) {t:TypeId} {cs:Array Value} {d:TypeDesc} (hg:w.heap[g]? = some (.cells cs t (0,0))) (V:P.underlying H=some d) (n:Nat)
  (U:F.getD p undef=.pointer (some ⟨g,0,none⟩):=by rfl) (J:(match d with | .struct _ | .array _ _=>true | _=>false)=true:=by rfl) (O:(P.info? H).map (·.size)=some n:=by kernel_rfl) (G:cs.size=n:=by rfl):(results I F).run P w=.ok (.agg cs) w :=
 qcC h F w g t cs d U hg V J n O G
theorem rB_ {P:Program} {I:Func} {p q:Tmp} {H:TypeId} (h:I.results=#[.cell p H,.tmp q]) {F:Array Value} {w:World} (g:Nat) {t:TypeId} {cs:Array Value} {d:TypeDesc} (hg:w.heap[g]? = some (.cells cs t (0,0))) (Y:P.underlying H=some d) (n:Nat) {v2:Value}
  (U:F.getD p undef=.pointer (some ⟨g,0,none⟩):=by rfl) (J:(match d with | .struct _ | .array _ _=>true | _=>false)=true:=by rfl) (O:(P.info? H).map (·.size)=some n:=by kernel_rfl) (G:cs.size=n:=by rfl) (V:F.getD q undef=v2:=by rfl):(results I F).run P w=.ok (.tuple #[.agg cs,v2]) w :=
 results_row2 h F w g t cs d U hg Y J n O G v2 V
theorem qS:type_of% @Go.below_setRow:=@Go.below_setRow
theorem qT:type_of% @Go.setRow_heap:=@Go.setRow_heap
theorem qW:type_of% @Go.RowKit.Below.heap_setCell:=@Go.RowKit.Below.heap_setCell
theorem u64_in (n:Nat) (h:n<18446744073709551616):IntKind.u64.wrap (n:Int)=n:=by
 show (n:Int) % 18446744073709551616=n
 omega
theorem tdivN (t m c:Nat) (h:t / m=c):(t:Int).tdiv (m:Int)=c:=by
 rw [Int.tdiv_eq_ediv_of_nonneg (by omega),<-h];exact (Int.natCast_ediv t m).symm
theorem tmodN (t m c:Nat) (h:t % m=c):(t:Int).tmod (m:Int)=c:=by
 rw [Int.tmod_eq_emod_of_nonneg (by omega),<-h];exact (Int.natCast_emod t m).symm
theorem tdivB (t c:Nat) (h:t / 1000000000=c):(t:Int).tdiv 1000000000=c:=tdivN t 1000000000 c h
theorem tmodB (t c:Nat) (h:t % 1000000000=c):(t:Int).tmod 1000000000=c:=tmodN t 1000000000 c h
def dg (L:List Nat) (k:Nat):Nat:=L.getD k 0
structure Cells (W:World) (ao:Option Addr) (b off:Nat) (L:List Nat):Prop where
 addr:0<L.length->ao=some ⟨b,off,none⟩
 cell:∀k,k<L.length->W.cell? ⟨b,off+k,none⟩=some (.int .u32 ((dg L k:Nat):Int))
theorem Cells.below {W W':World} {G:Option Addr} {b F:Nat} {L:List Nat} (h:Cells W G b F L) (I:Below W.heap.size W W'):Cells W' G b F L :=
 ⟨h.addr,fun k H=>(I.cell (qac W _ (h.cell k H))).trans (h.cell k H)⟩
theorem Cells.take {W:World} {G:Option Addr} {b F:Nat} {L:List Nat} (h:Cells W G b F L) (n:Nat):Cells W G b F (L.take n) :=
 ⟨fun H=>h.addr (by rw [qat] at H;omega),fun k I=>by
  rw [qat] at I;rw [h.cell k (by omega),dg,dg,qab,qab,List.getElem?_take_of_lt (by omega)]⟩
structure IsM (W:World) (ao:Option Addr) (b off c n:Nat) (L:List Nat):Prop where
 len:L.length=n
 cap:n<=c
 cells:Cells W ao b off L
 dig:Dig L
 nrm:Nrm L
theorem IsM.below {W W':World} {G:Option Addr} {b F c n:Nat} {L:List Nat} (h:IsM W G b F c n L) (H:Below W.heap.size W W'):IsM W' G b F c n L:=⟨h.len,h.cap,h.cells.below H,h.dig,h.nrm⟩
theorem IsM.addr {W:World} {G:Option Addr} {b F c n:Nat} {L:List Nat} (h:IsM W G b F c n L):0<n->G=some ⟨b,F,none⟩:=by rw [<-h.len];exact h.cells.addr
theorem IsM.cell {W:World} {G:Option Addr} {b F c n:Nat} {L:List Nat} (h:IsM W G b F c n L):∀k,k<n->W.cell? ⟨b,F+k,none⟩=some (.int .u32 ((dg L k:Nat):Int)):=by rw [<-h.len];exact h.cells.cell
def MagAt (W:World) (v:Value) (x:Nat):Prop:=∃(G:Option Addr) (b F c n:Nat) (L:List Nat),v=.slice G n c/\IsM W G b F c n L/\mval L=x
theorem MagAt.below {W W':World} {v:Value} {x:Nat} (h:MagAt W v x) (H:Below W.heap.size W W'):MagAt W' v x:=by
 obtain⟨ao,b,off,c,n,L,rfl,F,G⟩:=h;exact⟨ao,b,off,c,n,L,rfl,F.below H,G⟩
theorem MagAt.nil (W:World):MagAt W (.slice none 0 0) 0:=⟨none,0,0,0,0,[],rfl,⟨rfl,qae _,⟨fun h=>absurd h (by simp),fun k h=>absurd h (by simp)⟩,Dig.nil,qav rfl⟩,rfl⟩
def Fit (x K:Nat):Prop:=x<1000000000 ^ K
theorem Fit.le {x y K:Nat} (h:Fit y K) (F:x<=y):Fit x K:=qaX F h
theorem Fit.mono {x K M:Nat} (h:Fit x K) (F:K<=M):Fit x M:=qai h (qaZ (by decide) F)
theorem Fit.mul {x y K M:Nat} (h:Fit x K) (k:Fit y M):Fit (x*y) (K+M):=by
 unfold Fit at *;rw [Nat.pow_add];exact Nat.mul_lt_mul'' h k
theorem Fit.add {x y K:Nat} (h:Fit x K) (k:Fit y K):Fit (x+y) (K+1):=by
 unfold Fit at *;rw [qaQ];omega
theorem Fit.len {W:World} {G:Option Addr} {b F c n:Nat} {L:List Nat} {K:Nat} (h:Fit (mval L) K) (k:IsM W G b F c n L):n<=K:=by
 rw [<-k.len];exact k.nrm.len h
def row32 (L:List Nat):List Value:=L.map fun (d:Nat)=>Value.int .u32 (d:Int)
theorem qcg (L:List Nat):(row32 L).length=L.length:=by unfold row32;exact qaF _
theorem qmt (L:List Nat) (k d:Nat):(row32 L).set k (.int .u32 (d:Int))=row32 (L.set k d):=by unfold row32;rw [List.map_set]
theorem qdd (L:List Nat) (k:Nat) (h:k<L.length):(row32 L)[k]? = some (.int .u32 ((dg L k:Nat):Int)):=by
 unfold row32 dg;rw [qaS,qgb h];rfl
theorem qdp (L:List Nat) (d:Nat):row32 (L++[d])=row32 L++[.int .u32 (d:Int)]:=by unfold row32;rw [qbj];rfl
theorem made32 (n:Nat):(madeCells #[Value.int .u32 0] n).toList=row32 (List.replicate n 0):=by
 rw [toList_madeCells_one];unfold row32;rw [List.map_replicate];rfl
theorem qcM {W:World} {B e g n c:Nat} {L:List Nat} (h:W.ownsRow B e 1 (.slice (some ⟨g,0,none⟩) n c) n (row32 L)) (G:L.length=n):Cells W (some ⟨g,0,none⟩) g 0 L :=
 ⟨fun _=>rfl,fun k F=>by
  rw [qaL,h.cellAt k (by omega)];exact qdd L k F⟩
theorem qdl {W:World} {B e g n c:Nat} {R:List Nat} (h:W.ownsRow B e 1 (.slice (some ⟨g,0,none⟩) n c) n (row32 R)) (k:Nat) {s:Int} (d:Nat) (F:s=(d:Int)) :
  (W.setCell ⟨g,k,none⟩ (.int .u32 s)).ownsRow B e 1 (.slice (some ⟨g,0,none⟩) n c) n (row32 (R.set k d)):=by
 have G:=(h.stored k (.int .u32 s)).1
 rwa [F,qmt,<-F] at G
theorem qdf (W:World) (v:Value) (e:TypeId):∀j u,[v][j]? = some u->(W.alloc (.cells #[v] e)).cell? ((⟨W.heap.size,0,none⟩:Addr).add j)=some u:=by
 intro j u F
 match j,F with
 | 0,F =>
  simp only [List.getElem?_cons_zero,Option.some.injEq] at F;subst F;exact qC _ _ 0 _ _ _ (heap_alloc_new W _)
theorem one_cell (k:IntKind) (s:Int):∀u∈[Value.int k s],u.oneCell'=true:=by
 intro u F;rw [qao.1 F];rfl
theorem qe5 {W:World} {B e g k c:Nat} {S:List Nat} {s:Int} {d:Nat} (h:W.ownsRow B e 1 (.slice (some ⟨g,0,none⟩) (k+1) c) (k+1) (row32 S++[.int .u32 s])) (F:s=(d:Int)) :
  W.ownsRow B e 1 (.slice (some ⟨g,0,none⟩) (k+1) c) (k+1) (row32 (S++[d])):=by
 rw [qdp,<-F];exact h
theorem qcw {B:Nat} {w W F:World} {o:Obj} {row:Option Nat} (h:Below B w W) (H:B<=w.heap.size) (hg:(W.alloc o).grownBy F row) (hr:∀k,row=some k->B<=k):Below B w F:=by
 have G:=h.size;refine (h.alloc (qak H G) o).grown hg ?_ hr;simp only [qaa];omega
theorem qcy (w:World) (row:Option Nat):w.grownBy w row:=⟨rfl,rfl,rfl,qae _,fun _ _ _=>rfl⟩
theorem qbR {a b c:World} {row:Option Nat} (h:a.grownBy b row) (k:b.grownBy c row):a.grownBy c row :=
 ⟨k.os.trans h.os,k.tape.trans h.tape,k.output.trans h.output,qak h.size k.size,fun i F hr=>(k.block i (qai F h.size) hr).trans (h.block i F hr)⟩
theorem qc1 {a b:World} {row:Option Nat} (h:a.grownBy b row) (n:Nat):a.grownBy (b.drewN n) row:=⟨h.os,h.tape,h.output,h.size,h.block⟩
theorem qca {a b c:World} {row:Option Nat} (h:a.grownBy b row) (k:Below b.heap.size b c):a.grownBy c row :=
 ⟨k.os.trans h.os,k.tape.trans h.tape,k.output.trans h.output,qak h.size k.size,fun i F hr=>(k.block i (qai F h.size)).trans (h.block i F hr)⟩
theorem qg6 {a b:World} {g:Nat} {H:Option Addr} {G F:Nat} {L:List Nat} (h:a.grownBy b (some g)) (I:Cells a H G F L) (hne:0<L.length->G≠g):Cells b H G F L :=
 ⟨I.addr,fun k J=>h.cell (I.cell k J) (fun e=>hne (by omega) (qag e))⟩
theorem own_kept {W W':World} {B e g n c:Nat} {H:List Value} (h:W.ownsRow B e 1 (.slice (some ⟨g,0,none⟩) n c) n H) (I:Below W.heap.size W W'):W'.ownsRow B e 1 (.slice (some ⟨g,0,none⟩) n c) n H:=by
 have J:=h.lt g rfl;refine⟨h.1,?_⟩;rcases h.2 with ⟨F,_⟩ | ⟨g',cap',cur,F,G,hg,hr⟩
 ·simp at F
 ·have e:g'=g:=by
   simp only [qby,Option.some.injEq,Addr.mk.injEq,and_true,true_and] at F;exact F.1.symm
  subst e;exact .inr ⟨g',cap',cur,F,G,(I.block g' J.2).trans hg,hr⟩
theorem qgI {W:World} {B e g n c:Nat} {F:List Value} (h:W.ownsRow B e 1 (.slice (some ⟨g,0,none⟩) n c) n F) (k:Nat) (u:Value):W.grownBy (W.setCell ⟨g,k,none⟩ u) (some g):=(h.stored k u).2
theorem dg_mid (A R C:List Nat) (i:Nat) (F:i<R.length):dg (A++R++C) (A.length+i)=dg R i:=by
 unfold dg;rw [qab,qab,qaA,qar (by omega),Nat.add_sub_cancel_left,qax F]
theorem set_mid (A R C:List Nat) (i d:Nat) (F:i<R.length):(A++R++C).set (A.length+i) d=A++R.set i d++C:=by
 rw [qaA,qa4 _ _ (by omega),Nat.add_sub_cancel_left,List.set_append_left _ _ F,<-qaA]
theorem qjZ (W:World) (n:Nat) (e:TypeId):(W.alloc (.cells (madeCells #[.int .u32 0] n) e)).heap[W.heap.size]? = some (.cells (row32 (List.replicate n 0)).toArray e (0,0)):=by
 rw [<-made32,Array.toArray_toList];exact heap_alloc_new W _
theorem qmu {W:World} {B e g n:Nat} {L:List Nat} (h:W.heap[g]? = some (.cells (row32 L).toArray e (0,0))) (F:L.length=n) (hB:B<=g) (G:n<=maxLen):W.ownsRow B e 1 (.slice (some ⟨g,0,none⟩) n n) n (row32 L):=by
 refine⟨by rw [qcg];omega,.inr ⟨g,n,_,rfl,hB,h,qae _,G,by simp [qcg,F],?_⟩⟩
 show (row32 L).take (n*1)=row32 L
 exact qal (by rw [qcg];omega)
theorem splice32 (L T:List Nat) (_h:T.length<=L.length):splice (row32 L) 0 (row32 T)=row32 (T++L.drop T.length):=by
 unfold splice row32;rw [List.take_zero,qbw,qbj,qaF,qaL,List.map_drop]
theorem qfu (W:World) (e:TypeId) {s:Nat} (H:0<s) (F:s<1000000000):MagAt (W.alloc (.cells #[.int .u32 (s:Int)] e)) (.slice (some ⟨W.heap.size,0,none⟩) 1 1) s:=by
 refine⟨_,W.heap.size,0,1,1,[s],rfl,⟨rfl,qae _,⟨fun _=>rfl,fun k G=>?_⟩,Dig.of (by simpa using F),?_⟩,by simp [mval]⟩
 ·match k,G with
  | 0,_=>exact qC _ _ 0 _ _ _ (heap_alloc_new W _)
 ·right;show s≠0;omega
theorem qj4 {W W':World} {B e g F n c:Nat} {G:List Value} (h:W.ownsRow B e 1 (.slice (some ⟨g,0,none⟩) n c) n G) (hg:W.grownBy W' (some F)) (hne:g≠F):W'.ownsRow B e 1 (.slice (some ⟨g,0,none⟩) n c) n G :=
 h.kept hg (qaj (fun e=>hne (qag e)))
theorem qjR {W W':World} {G:Option Addr} {b F c n g:Nat} {L:List Nat} (h:IsM W G b F c n L) (hg:W.grownBy W' (some g)) (hne:b≠g):IsM W' G b F c n L:=⟨h.len,h.cap,qg6 hg h.cells (fun _=>hne),h.dig,h.nrm⟩
theorem qlL {W:World} {G:Option Addr} {b F c n:Nat} {L:List Nat} (h:IsM W G b F c n L) (H:0<n):b<W.heap.size:=qac W ⟨b,F+0,none⟩ (h.cell 0 H)
theorem qms (L:List Nat):∀v∈row32 L,v.oneCell'=true:=by
 intro v F;unfold row32 at F;obtain⟨d,_,rfl⟩:=qbl.1 F
 rfl
theorem addr_add (b o k:Nat):(⟨b,o,none⟩:Addr).add k=⟨b,o+k,none⟩:=by simp [Addr.add]
theorem own_isM {W:World} {B e n:Nat} {v:Value} {S:List Nat} (h:W.ownsRow B e 1 v n (row32 S)) (I:Dig S) (J:Nrm S):MagAt W v (mval S):=by
 rcases h.2 with ⟨rfl,rfl⟩ | ⟨g,c,cur,rfl,O,hg,F,U,V,Y⟩
 ·have H:S.length=0:=by have:=h.1;rw [qcg] at this;omega
  rw [List.length_eq_zero_iff.1 H];exact MagAt.nil W
 ·have G:S.length=n:=by have:=h.1;rw [qcg] at this;omega
  exact⟨_,g,0,c,n,S,rfl,⟨G,F,qcM h G,I,J⟩,rfl⟩
open Go.Proofs.Tryz
def cmp3 (x y:Int):Int:=if x<y then -1 else if x=y then 0 else 1
theorem qia (a:Int) (w:World):Calls prog 202 #[.int .i64 a] w fun e w'=>e=.returned (.bool false)/\w'=w:=by
 go_enter func202,ntmps202;go_wp2;go_ret;exact⟨rfl,rfl⟩
theorem qib (a:Int) (w:World):Calls prog 251 #[.int .u32 a] w fun e w'=>e=.returned (.bool false)/\w'=w:=by
 go_enter func251,ntmps251;go_wp2;go_ret;exact⟨rfl,rfl⟩
theorem cmp_int (a b:Int) (w:World):Calls prog 226 #[.int .i64 a,.int .i64 b] w fun e w'=>e=.returned (.int .i64 (cmp3 a b))/\w'=w:=by
 have F:=qH (qia a);have G:=qH (qia b);rcases Int.lt_trichotomy a b with h | h | h
 ·have hr:cmp3 a b = -1:=by unfold cmp3;rw [if_pos h]
  rw [hr];clear hr;go_enter func226,ntmps226;go_wp2_with fail;refine (F.o _).mono ?_;rintro e I ⟨rfl,rfl⟩;go_wp2_with fail;refine (G.o _).mono ?_;rintro e J ⟨rfl,rfl⟩;go_wp2;go_ret;exact⟨rfl,rfl⟩
 ·subst h;have hr:cmp3 a a=0:=by unfold cmp3;rw [if_neg (Int.lt_irrefl a),if_pos rfl]
  rw [hr];clear hr;have H:¬a<a:=Int.lt_irrefl a;go_enter func226,ntmps226;go_wp2_with fail;refine (F.o _).mono ?_;rintro e I ⟨rfl,rfl⟩;go_wp2_with fail;refine (F.o _).mono ?_;rintro e J ⟨rfl,rfl⟩;go_wp2;go_ret;exact⟨rfl,rfl⟩
 ·have H:¬a<b:=by omega
  have hr:cmp3 a b=1:=by unfold cmp3;rw [if_neg H,if_neg (by omega)]
  rw [hr];clear hr;go_enter func226,ntmps226;go_wp2_with fail;refine (F.o _).mono ?_;rintro e I ⟨rfl,rfl⟩;go_wp2_with fail;refine (G.o _).mono ?_;rintro e J ⟨rfl,rfl⟩;go_wp2;go_ret;exact⟨rfl,rfl⟩
theorem cmp_u32 (a b:Int) (w:World):Calls prog 227 #[.int .u32 a,.int .u32 b] w fun e w'=>e=.returned (.int .i64 (cmp3 a b))/\w'=w:=by
 have F:=qH (qib a);have G:=qH (qib b);rcases Int.lt_trichotomy a b with h | h | h
 ·have hr:cmp3 a b = -1:=by unfold cmp3;rw [if_pos h]
  rw [hr];clear hr;go_enter func227,ntmps227;go_wp2_with fail;refine (F.o _).mono ?_;rintro e I ⟨rfl,rfl⟩;go_wp2_with fail;refine (G.o _).mono ?_;rintro e J ⟨rfl,rfl⟩;go_wp2;go_ret;exact⟨rfl,rfl⟩
 ·subst h;have hr:cmp3 a a=0:=by unfold cmp3;rw [if_neg (Int.lt_irrefl a),if_pos rfl]
  rw [hr];clear hr;have H:¬a<a:=Int.lt_irrefl a;go_enter func227,ntmps227;go_wp2_with fail;refine (F.o _).mono ?_;rintro e I ⟨rfl,rfl⟩;go_wp2_with fail;refine (F.o _).mono ?_;rintro e J ⟨rfl,rfl⟩;go_wp2;go_ret;exact⟨rfl,rfl⟩
 ·have H:¬a<b:=by omega
  have hr:cmp3 a b=1:=by unfold cmp3;rw [if_neg H,if_neg (by omega)]
  rw [hr];clear hr;go_enter func227,ntmps227;go_wp2_with fail;refine (F.o _).mono ?_;rintro e I ⟨rfl,rfl⟩;go_wp2_with fail;refine (G.o _).mono ?_;rintro e J ⟨rfl,rfl⟩;go_wp2;go_ret;exact⟨rfl,rfl⟩
end Go.Proofs.YtjalhnlhcdfncaaGreatDoor
namespace Go.Proofs.YtjalhnlhcdfncaaGreatDoor.whole
open Go.RowKit Go.Proofs.Tryz
theorem trim_any (O:Option Addr) (b ae c n:Nat) (L:List Nat) (w:World) (hn:L.length=n) (af:n<=1099511627776) (hc:n<=c) (G:Cells w O b ae L) :
  Calls prog 257 #[.slice O n c] w fun e w'=>∃m,e=.returned (.slice O m c)/\w'=w/\m<=n/\Zero L m/\(m=0\/L.getD (m-1) 0≠0):=by
 have I:Zero L n:=by rw [<-hn];exact Zero.all L
 obtain⟨V,F⟩:=G;rw [hn] at V F;have Ha:=qH V;have H:=qH F;have Hz:=qH I;clear V F I hn;go_enter func257,ntmps257;go_wp2
 go_loopw [0] (fun x0 W=>∃m:Nat,x0=.slice O m c/\W=w/\m<=n/\Hu (Zero L m)) (fun x0 _=>match x0 with | .slice _ m _=>m | _=>0)
 case atStart=>exact⟨n,rfl,rfl,qae _,Hz⟩
 case round =>
  obtain⟨m,rfl,rfl,hm,I⟩:=hrel
  by_cases aa:m=0
  ·subst aa;have Hm:=qH hm;clear hm;go_wp2;go_ret;exact⟨0,rfl,rfl,qan _,I.o,qav rfl⟩
  ·have ag:(0:Int)<m:=by omega
   have Y:=Ha.o (by omega);subst Y;have Z:=H.o (m-1) (by omega);have e1:((m-1:Nat):Int)=(m:Int)-1:=by omega
   by_cases J:dg L (m-1)=0
   ·rw [J] at Z;have U:=qH J;clear J;go_wp2;go_roundw
    case rel=>exact⟨m-1,rfl,trivial,by omega,qH (Zero.down (n:=m-1) (by rw [show m-1+1=m by omega];exact I.o) U.o)⟩
    case measure=>show m-1<m;omega
   ·have hne:¬((dg L (m-1):Nat):Int)=0:=by omega
    have U:=qH J;clear J;go_wp2;go_ret;exact⟨m,rfl,rfl,hm,I.o,qaj U.o⟩
theorem info32:(Tryz.prog.info? 201).map (fun i=>(i.zero,i.size,i.bytes))=some (some (.int .u32 0),1,4):=by kernel_rfl
theorem trim_mag (J:Option Addr) (b G c n:Nat) (L:List Nat) (w:World) (hn:L.length=n) (I:n<=1099511627776) (Y:n<=c) (F:Cells w J b G L) (Z:Dig L) :
  Calls prog 257 #[.slice J n c] w fun e w'=>∃v,e=.returned v/\w'=w/\MagAt w v (mval L):=by
 refine (trim_any J b G c n L w hn I Y F).mono ?_;rintro e w' ⟨m,rfl,rfl,hm,V,H⟩;refine⟨_,rfl,rfl,J,b,G,c,m,L.take m,rfl,⟨?_,by omega,F.take m,Z.take m,?_⟩,qcK V⟩
 ·rw [qat];omega
 ·have U:(L.take m).length=m:=by rw [qat];omega
  rcases H with H | H
  ·exact qav (by rw [U,H])
  ·right
   rw [U]
   by_cases O:m=0
   ·subst O;exact absurd (V _ (qan _)) H
   ·rw [qab,List.getElem?_take_of_lt (by omega),<-qab];exact H
end Go.Proofs.YtjalhnlhcdfncaaGreatDoor.whole
namespace Go.Proofs.YtjalhnlhcdfncaaGreatDoor
open Go.RowKit Go.Proofs.Tryz
inductive Pk where
 | f
 | l
def Pk.of (p:Pk) (x y:Nat):Nat:=match p with
 | .f=>x
 | .l=>y
theorem qdG {t:TypeId} (h:t=123\/t=213):Tryz.prog.underlying t=some (.slice 201):=by
 rcases h with rfl | rfl
 ·exact underlying123
 ·exact underlying213
theorem qjj (pk:Pk) (O:Option Addr) (b ae c n:Nat) (L:List Nat) (w:World) (hn:L.length=n) (af:n<=1099511627776) (hc:n<=c) (G:Cells w O b ae L) :
  Calls prog (Pk.of pk 238 216) #[.slice O n c] w fun e w'=>∃m,e=.returned (.slice O m c)/\w'=w/\m<=n/\Zero L m/\(m=0\/L.getD (m-1) 0≠0):=by
 have I:Zero L n:=by rw [<-hn];exact Zero.all L
 obtain⟨V,F⟩:=G;rw [hn] at V F;have Ha:=qH V;have H:=qH F;have Hz:=qH I;clear V F I hn;cases pk <;> dsimp only [Pk.of] at * <;> (
 first | go_enter func238,ntmps238 | go_enter func216,ntmps216
 go_wp2
 go_loopw [0] (fun x0 W=>∃m:Nat,x0=.slice O m c/\W=w/\m<=n/\Hu (Zero L m)) (fun x0 _=>match x0 with | .slice _ m _=>m | _=>0)
 case atStart=>exact⟨n,rfl,rfl,qae _,Hz⟩
 case round =>
  obtain⟨m,rfl,rfl,hm,I⟩:=hrel
  by_cases aa:m=0
  ·subst aa;have Hm:=qH hm;clear hm;go_wp2;go_ret;exact⟨0,rfl,rfl,qan _,I.o,qav rfl⟩
  ·have ag:(0:Int)<m:=by omega
   have Y:=Ha.o (by omega);subst Y;have Z:=H.o (m-1) (by omega);have e1:((m-1:Nat):Int)=(m:Int)-1:=by omega
   by_cases J:dg L (m-1)=0
   ·rw [J] at Z;have U:=qH J;clear J;go_wp2;go_roundw
    case rel=>exact⟨m-1,rfl,trivial,by omega,qH (Zero.down (n:=m-1) (by rw [show m-1+1=m by omega];exact I.o) U.o)⟩
    case measure=>show m-1<m;omega
   ·have hne:¬((dg L (m-1):Nat):Int)=0:=by omega
    have U:=qH J;clear J;go_wp2;go_ret;exact⟨m,rfl,rfl,hm,I.o,qaj U.o⟩)
theorem qct:(Tryz.prog.info? 201).map (fun i=>(i.zero,i.size,i.bytes))=some (some (.int .u32 0),1,4):=by kernel_rfl
theorem qeP (W:World) (n:Nat) (G:n<=maxLen):(W.alloc (.cells (madeCells #[.int .u32 0] n) 201)).ownsRow W.heap.size 201 1 (.slice (some ⟨W.heap.size,0,none⟩) n n) n (row32 (List.replicate n 0)):=by
 rw [<-made32];have F:=size_madeCells #[Value.int .u32 0] n;refine⟨by simp [F],.inr ⟨W.heap.size,n,_,rfl,qae _,heap_alloc_new W _,qae _,G,by simp [F],?_⟩⟩;exact qal (by simp [F])
theorem qdz (Y:Pk) (J:Option Addr) (b G c n:Nat) (L:List Nat) (w:World) (hn:L.length=n) (I:n<=1099511627776) (Z:n<=c) (F:Cells w J b G L) (hd:Dig L) :
  Calls prog (Pk.of Y 238 216) #[.slice J n c] w fun e w'=>∃v,e=.returned v/\w'=w/\MagAt w v (mval L):=by
 refine ((qjj Y) J b G c n L w hn I Z F).mono ?_;rintro e w' ⟨m,rfl,rfl,hm,V,H⟩;refine⟨_,rfl,rfl,J,b,G,c,m,L.take m,rfl,⟨?_,by omega,F.take m,hd.take m,?_⟩,qcK V⟩
 ·rw [qat];omega
 ·have U:(L.take m).length=m:=by rw [qat];omega
  rcases H with H | H
  ·exact qav (by rw [U,H])
  ·right
   rw [U]
   by_cases O:m=0
   ·subst O;exact absurd (V _ (qan _)) H
   ·rw [qab,List.getElem?_take_of_lt (by omega),<-qab];exact H
