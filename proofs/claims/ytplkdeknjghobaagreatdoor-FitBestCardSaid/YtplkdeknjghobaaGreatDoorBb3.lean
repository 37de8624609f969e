import Derived.BigQuiet
import Derived.Deep.MidRow
import Derived.Deep.QuietTactic
import Derived.Deep.WholeRow
import Derived.Laws.CopyOwn
import Derived.Laws.EntriesVeiled
import Derived.Laws.ResultCell
import Derived.Laws.Rows
import Derived.Lib.Hide
import Derived.Outline
import Derived.Test.YtplkdeknjghobaaGreatDoorBb1
import Derived.Test.YtplkdeknjghobaaGreatDoorProg
import Derived.WalkKit
import Derived.WalkLawsBesides
import Derived.WalkSpells
set_option maxRecDepth 100000
set_option maxHeartbeats 0
namespace Go.Proofs.YtplkdeknjghobaaGreatDoor
open Go.RowKit
section
variable {P:Program}
theorem qex {H:Array Oper} {rest:List Oper} {op:Oper} {a:Act} {w:World} {Q:Exit->Act->World->Prop} (I:op.guard=none) (t:TypeId) (x y:Operand) (Y:op.op=.store t x y)
  (c c':Array Value) (hx:a.eval x=.pointer (some ⟨w.heap.size,0,none⟩)) (hy:a.eval y=.agg c')
  (n:Nat) (J:(P.info? t).map (·.size)=some n) (V:c.size=n) (F:c'.size=n) (O:c'.toList.all (·.oneCell')=true)
  (h:wpList P H Q rest (a.put op.dst undef) (w.alloc (.cells c' t))):wpList P H Q (op :: rest) a (w.alloc (.cells c t)) :=
 wpList_plain I fun _ U=>by
  have J:(P.info? t).map (·.size)=some c'.size:=by rw [F];exact J
  have Z:c.size=c'.size:=by rw [V,F]
  unfold Oper.wp execOp;simp only [Y,hx,hy,Instr.storeAt,Instr.sureAddr,Sem.run_bind,Sem.run_pure,Result.andThen_ok,run_storeVar_new w t c c' J Z (Array.all_eq_true_iff_forall_mem.2 (fun v hv=>qa7.1 O v (by simpa using hv)))];exact U _ _ h
theorem qlJ {F:Array Oper} {rest:List Oper} {op:Oper} {a:Act} {w:World} {Q:Exit->Act->World->Prop} (J:op.guard=none) (H:TypeId) (x:Operand) (V:op.op=.load H x)
  (g:Nat) (hx:a.eval x=.pointer (some ⟨g,0,none⟩)) (t:TypeId) (cs:Array Value) (d:TypeDesc) (hg:w.heap[g]? = some (.cells cs t (0,0)))
  (Y:P.underlying H=some d) (O:(match d with | .struct _ | .array _ _=>true | _=>false)=true) (n:Nat) (U:(P.info? H).map (·.size)=some n) (I:cs.size=n)
  (h:wpList P F Q rest (a.put op.dst (.agg cs)) w):wpList P F Q (op :: rest) a w :=
 wpList_load_row J H x V g hx t cs (0,0) d hg Y O (by rw [I];exact U) h
theorem wpList_store_row {I:Array Oper} {rest:List Oper} {op:Oper} {a:Act} {w:World} {Q:Exit->Act->World->Prop} (J:op.guard=none) (O:TypeId) (x y:Operand) (Z:op.op=.store O x y)
  (g:Nat) (cells:Array Value) (hx:a.eval x=.pointer (some ⟨g,0,none⟩)) (hy:a.eval y=.agg cells)
  (t:TypeId) (old:Array Value) (hg:w.heap[g]? = some (.cells old t (0,0))) (n:Nat) (Y:(P.info? O).map (·.size)=some n)
  (H:old.size=n) (F:cells.size=n) (U:cells.toList.all (·.oneCell')=true)
  (h:wpList P I Q rest (a.put op.dst undef) (w.setRow g cells)):wpList P I Q (op :: rest) a w :=
 wpList_plain J fun _ V=>wp_store_row O x y Z g cells hx hy t old hg (by rw [F];exact Y) (by rw [H,F]) (Array.all_eq_true_iff_forall_mem.2 (fun v hv=>qa7.1 U v (by simpa using hv))) (V _ _ h)
end
theorem below_setRow {B:Nat} {a w:World} (h:Below B a w) {g:Nat} (hg:B<=g) (cs:Array Value):Below B a (w.setRow g cs) :=
 h.trans ⟨rfl,rfl,rfl,by simp [World.setRow],fun k F=>by
  simp only [World.setRow,Array.getElem?_modify];rw [if_neg (by omega)]⟩
theorem qM (w:World) (o:Obj) (n:Nat) (h:w.heap.size=n):(w.alloc o).heap[n]? = some o:=by
 subst h;exact heap_alloc_new w o
theorem qL (w:World) (o:Obj) (n:Nat) (h:n<w.heap.size):(w.alloc o).heap[n]? = w.heap[n]?:=by show (w.heap.push o)[n]? = w.heap[n]?;rw [Array.getElem?_push,if_neg (Nat.ne_of_lt h)]
theorem qls {P:Program} {f:FuncId} {args:Array Value} {w:World} {n:Nat} {v:Value}
  (h:Calls P f args (w.drewN n) fun e I=>e=.returned v/\w.drewN n=I):Calls P f args (w.drewN n) fun e F=>e=.returned v/\∃m,F=w.drewN m :=
 h.mono fun _ _ ⟨he,H⟩=>⟨he,n,H.symm⟩
theorem qcX {P:Program} {J:Func} {p:Tmp} {I:TypeId} (h:J.results=#[.cell p I]) (F:Array Value) (w:World) (g:Nat) (t:TypeId) (cs:Array Value) (d:TypeDesc)
  (V:F.getD p undef=.pointer (some ⟨g,0,none⟩)) (hg:w.heap[g]? = some (.cells cs t (0,0)))
  (Y:P.underlying I=some d) (O:(match d with | .struct _ | .array _ _=>true | _=>false)=true) (n:Nat) (U:(P.info? I).map (·.size)=some n) (H:cs.size=n) :
  (results J F).run P w=.ok (.agg cs) w :=
 results_cell_row h F w g t cs (0,0) d V hg Y O (by rw [H];exact U)
theorem results_row2 {P:Program} {J:Func} {p q:Tmp} {H:TypeId} (h:J.results=#[.cell p H,.tmp q]) (F:Array Value) (w:World) (g:Nat) (t:TypeId) (cs:Array Value) (d:TypeDesc)
  (V:F.getD p undef=.pointer (some ⟨g,0,none⟩)) (hg:w.heap[g]? = some (.cells cs t (0,0)))
  (Z:P.underlying H=some d) (O:(match d with | .struct _ | .array _ _=>true | _=>false)=true) (n:Nat) (U:(P.info? H).map (·.size)=some n) (I:cs.size=n) (v2:Value) (Y:F.getD q undef=v2) :
  (results J F).run P w=.ok (.tuple #[.agg cs,v2]) w:=by
 rw [results_cell_tmp h,V,Y];simp [asAddr,run_loadVar_row w g t H cs (0,0) d hg Z O (by rw [I];exact U),Result.andThen]
theorem qb4 {B:Nat} {w F:World} (h:Below B w.drew F):Below B w F:=((Below.refl B w).drew).trans h
theorem bcell {B:Nat} {W F:World} (H:Below B W F):(∀b o,b<B->F.cell? ⟨b,o,none⟩=W.cell? ⟨b,o,none⟩)/\(∀b o,b<B->F.frozen? ⟨b,o,none⟩=W.frozen? ⟨b,o,none⟩) :=
 ⟨fun b o h=>H.cell (p:=⟨b,o,none⟩) h,fun b o h=>H.frozen (p:=⟨b,o,none⟩) h⟩
theorem sR_ {P:Program} {H:Array Oper} {rest:List Oper} {op:Oper} {a:Act} {w:World} {Q:Exit->Act->World->Prop} (J:op.guard=none) (O:TypeId) (x y:Operand) (Y:op.op=.store O x y)
  (g:Nat) (cells:Array Value) {t:TypeId} {old:Array Value} (hg:w.heap[g]? = some (.cells old t (0,0))) (n:Nat) (h:wpList P H Q rest (a.put op.dst undef) (w.setRow g cells))
  (hx:a.eval x=.pointer (some ⟨g,0,none⟩):=by with_unfolding_all rfl) (hy:a.eval y=.agg cells:=by with_unfolding_all rfl) (V:(P.info? O).map (·.size)=some n:=by kernel_rfl)
  (F:old.size=n:=by with_unfolding_all rfl) (I:cells.size=n:=by with_unfolding_all rfl) (U:cells.toList.all (·.oneCell')=true:=by with_unfolding_all rfl):wpList P H Q (op :: rest) a w :=
 wpList_store_row J O x y Y g cells hx hy t old hg n V F I U h
theorem lW_ {P:Program} {F:Array Oper} {rest:List Oper} {op:Oper} {a:Act} {w:World} {Q:Exit->Act->World->Prop} (J:op.guard=none) (H:TypeId) (x:Operand) (V:op.op=.load H x)
  (g:Nat) (cs:Array Value) {t:TypeId} {d:TypeDesc} (hg:w.heap[g]? = some (.cells cs t (0,0))) (Y:P.underlying H=some d) (n:Nat) (h:wpList P F Q rest (a.put op.dst (.agg cs)) w)
  (hx:a.eval x=.pointer (some ⟨g,0,none⟩):=by with_unfolding_all rfl) (O:(match d with | .struct _ | .array _ _=>true | _=>false)=true:=by with_unfolding_all rfl) (U:(P.info? H).map (·.size)=some n:=by kernel_rfl) (I:cs.size=n:=by with_unfolding_all rfl):wpList P F Q (op :: rest) a w :=
 qlJ J H x V g hx t cs d hg Y O n U I h
theorem hmf_ {P:Program} (F:Fn) (first cap:Array Value) (w:World):(Instr.makeFunc F first cap).run P w=.ok (.func F first cap) w:=rfl
theorem rA_ {P:Program} {J:Func} {p:Tmp} {I:TypeId} (h:J.results=#[.cell p I]) {F:Array Value} {w:World} (g:Nat) {t:TypeId} {cs:Array Value} {d:TypeDesc} (hg:w.heap[g]? = some (.cells cs t (0,0))) (Y:P.underlying I=some d) (n:Nat)
  (V:F.getD p undef=.pointer (some ⟨g,0,none⟩):=by rfl) (O:(match d with | .struct _ | .array _ _=>true | _=>false)=true:=by rfl) (U:(P.info? I).map (·.size)=some n:=by kernel_rfl) (H:cs.size=n:=by rfl):(results J F).run P w=.ok (.agg cs) w :=
 qcX h F w g t cs d V hg Y O n U H
theorem rB_ {P:Program} {J:Func} {p q:Tmp} {I:TypeId} (h:J.results=#[.cell p I,.tmp q]) {F:Array Value} {w:World} (g:Nat) {t:TypeId} {cs:Array Value} {d:TypeDesc} (hg:w.heap[g]? = some (.cells cs t (0,0))) (Z:P.underlying I=some d) (n:Nat) {v2:Value}
  (V:F.getD p undef=.pointer (some ⟨g,0,none⟩):=by rfl) (O:(match d with | .struct _ | .array _ _=>true | _=>false)=true:=by rfl) (U:(P.info? I).map (·.size)=some n:=by kernel_rfl) (H:cs.size=n:=by rfl) (Y:F.getD q undef=v2:=by rfl):(results J F).run P w=.ok (.tuple #[.agg cs,v2]) w :=
 results_row2 h F w g t cs d V hg Z O n U H v2 Y
theorem qS:type_of% @Go.below_setRow:=@Go.below_setRow
theorem qT:type_of% @Go.setRow_heap:=@Go.setRow_heap
theorem qW:type_of% @Go.RowKit.Below.heap_setCell:=@Go.RowKit.Below.heap_setCell
theorem u64_in (n:Nat) (h:n<18446744073709551616):IntKind.u64.wrap (n:Int)=n:=by
 show (n:Int) % 18446744073709551616=n
 omega
theorem tdivN (t m c:Nat) (h:t / m=c):(t:Int).tdiv (m:Int)=c:=by
 rw [Int.tdiv_eq_ediv_of_nonneg (by omega),<-h];exact (Int.natCast_ediv t m).symm
theorem tmodN (t m c:Nat) (h:t % m=c):(t:Int).tmod (m:Int)=c:=by
 rw [Int.tmod_eq_emod_of_nonneg (by omega),<-h];exact (Int.natCast_emod t m).symm
theorem tdivB (t c:Nat) (h:t / 1000000000=c):(t:Int).tdiv 1000000000=c:=tdivN t 1000000000 c h
theorem tmodB (t c:Nat) (h:t % 1000000000=c):(t:Int).tmod 1000000000=c:=tmodN t 1000000000 c h
def dg (L:List Nat) (k:Nat):Nat:=L.getD k 0
structure Cells (W:World) (ao:Option Addr) (b off:Nat) (L:List Nat):Prop where
 addr:0<L.length->ao=some ⟨b,off,none⟩
 cell:∀k,k<L.length->W.cell? ⟨b,off+k,none⟩=some (.int .u32 ((dg L k:Nat):Int))
theorem Cells.below {W W':World} {F:Option Addr} {b off:Nat} {L:List Nat} (h:Cells W F b off L) (I:Below W.heap.size W W'):Cells W' F b off L :=
 ⟨h.addr,fun k H=>(I.cell (qac W _ (h.cell k H))).trans (h.cell k H)⟩
theorem Cells.take {W:World} {F:Option Addr} {b off:Nat} {L:List Nat} (h:Cells W F b off L) (n:Nat):Cells W F b off (L.take n) :=
 ⟨fun H=>h.addr (by rw [qax] at H;omega),fun k I=>by
  rw [qax] at I;rw [h.cell k (by omega),dg,dg,qaa,qaa,List.getElem?_take_of_lt (by omega)]⟩
structure IsM (W:World) (ao:Option Addr) (b off c n:Nat) (L:List Nat):Prop where
 len:L.length=n
 cap:n<=c
 cells:Cells W ao b off L
 dig:Dig L
 nrm:Nrm L
theorem IsM.below {W W':World} {F:Option Addr} {b off c n:Nat} {L:List Nat} (h:IsM W F b off c n L) (H:Below W.heap.size W W'):IsM W' F b off c n L:=⟨h.len,h.cap,h.cells.below H,h.dig,h.nrm⟩
theorem IsM.addr {W:World} {F:Option Addr} {b off c n:Nat} {L:List Nat} (h:IsM W F b off c n L):0<n->F=some ⟨b,off,none⟩:=by rw [<-h.len];exact h.cells.addr
theorem IsM.cell {W:World} {F:Option Addr} {b off c n:Nat} {L:List Nat} (h:IsM W F b off c n L):∀k,k<n->W.cell? ⟨b,off+k,none⟩=some (.int .u32 ((dg L k:Nat):Int)):=by rw [<-h.len];exact h.cells.cell
def MagAt (W:World) (v:Value) (x:Nat):Prop:=∃(F:Option Addr) (b off c n:Nat) (L:List Nat),v=.slice F n c/\IsM W F b off c n L/\mval L=x
theorem MagAt.below {W W':World} {v:Value} {x:Nat} (h:MagAt W v x) (I:Below W.heap.size W W'):MagAt W' v x:=by
 obtain⟨ao,b,off,c,n,L,rfl,F,H⟩:=h;exact⟨ao,b,off,c,n,L,rfl,F.below I,H⟩
theorem MagAt.nil (W:World):MagAt W (.slice none 0 0) 0:=⟨none,0,0,0,0,[],rfl,⟨rfl,qae _,⟨fun h=>absurd h (by simp),fun k h=>absurd h (by simp)⟩,Dig.nil,qan rfl⟩,rfl⟩
def Fit (x K:Nat):Prop:=x<1000000000 ^ K
theorem Fit.le {x y K:Nat} (h:Fit y K) (hx:x<=y):Fit x K:=qaL hx h
theorem Fit.mono {x K M:Nat} (h:Fit x K) (F:K<=M):Fit x M:=qai h (qa4 (by decide) F)
theorem Fit.mul {x y K M:Nat} (h:Fit x K) (k:Fit y M):Fit (x*y) (K+M):=by
 unfold Fit at *;rw [Nat.pow_add];exact Nat.mul_lt_mul'' h k
theorem Fit.add {x y K:Nat} (h:Fit x K) (k:Fit y K):Fit (x+y) (K+1):=by
 unfold Fit at *;rw [qaB];omega
theorem Fit.len {W:World} {F:Option Addr} {b off c n:Nat} {L:List Nat} {K:Nat} (h:Fit (mval L) K) (k:IsM W F b off c n L):n<=K:=by
 rw [<-k.len];exact k.nrm.len h
def row32 (L:List Nat):List Value:=L.map fun (d:Nat)=>Value.int .u32 (d:Int)
theorem qcx (L:List Nat):(row32 L).length=L.length:=by unfold row32;exact qav _
theorem qnv (L:List Nat) (k d:Nat):(row32 L).set k (.int .u32 (d:Int))=row32 (L.set k d):=by unfold row32;rw [List.map_set]
theorem qdy (L:List Nat) (k:Nat) (h:k<L.length):(row32 L)[k]? = some (.int .u32 ((dg L k:Nat):Int)):=by
 unfold row32 dg;rw [qay,qdO h];rfl
theorem qdK (L:List Nat) (d:Nat):row32 (L++[d])=row32 L++[.int .u32 (d:Int)]:=by unfold row32;rw [qa3];rfl
theorem made32 (n:Nat):(madeCells #[Value.int .u32 0] n).toList=row32 (List.replicate n 0):=by
 rw [toList_madeCells_one];unfold row32;rw [List.map_replicate];rfl
theorem qcO {W:World} {B e g n c:Nat} {L:List Nat} (h:W.ownsRow B e 1 (.slice (some ⟨g,0,none⟩) n c) n (row32 L)) (H:L.length=n):Cells W (some ⟨g,0,none⟩) g 0 L :=
 ⟨fun _=>rfl,fun k F=>by
  rw [qaM,h.cellAt k (by omega)];exact qdy L k F⟩
theorem qdG {W:World} {B e g n c:Nat} {R:List Nat} (h:W.ownsRow B e 1 (.slice (some ⟨g,0,none⟩) n c) n (row32 R)) (k:Nat) {s:Int} (d:Nat) (F:s=(d:Int)) :
  (W.setCell ⟨g,k,none⟩ (.int .u32 s)).ownsRow B e 1 (.slice (some ⟨g,0,none⟩) n c) n (row32 (R.set k d)):=by
 have H:=(h.stored k (.int .u32 s)).1
 rwa [F,qnv,<-F] at H
theorem qdC (W:World) (v:Value) (e:TypeId):∀j u,[v][j]? = some u->(W.alloc (.cells #[v] e)).cell? ((⟨W.heap.size,0,none⟩:Addr).add j)=some u:=by
 intro j u F
 match j,F with
 | 0,F =>
  simp only [List.getElem?_cons_zero,Option.some.injEq] at F;subst F;exact qC _ _ 0 _ _ _ (heap_alloc_new W _)
theorem one_cell (k:IntKind) (s:Int):∀u∈[Value.int k s],u.oneCell'=true:=by
 intro u F;rw [qap.1 F];rfl
theorem qfl {W:World} {B e g k c:Nat} {S:List Nat} {s:Int} {d:Nat} (h:W.ownsRow B e 1 (.slice (some ⟨g,0,none⟩) (k+1) c) (k+1) (row32 S++[.int .u32 s])) (F:s=(d:Int)) :
  W.ownsRow B e 1 (.slice (some ⟨g,0,none⟩) (k+1) c) (k+1) (row32 (S++[d])):=by
 rw [qdK,<-F];exact h
theorem qcR {B:Nat} {w W F:World} {o:Obj} {row:Option Nat} (h:Below B w W) (J:B<=w.heap.size) (hg:(W.alloc o).grownBy F row) (I:∀k,row=some k->B<=k):Below B w F:=by
 have H:=h.size;refine (h.alloc (qaj J H) o).grown hg ?_ I;simp only [qab];omega
theorem qc5 (w:World) (row:Option Nat):w.grownBy w row:=⟨rfl,rfl,rfl,qae _,fun _ _ _=>rfl⟩
theorem qbZ {a b c:World} {row:Option Nat} (h:a.grownBy b row) (k:b.grownBy c row):a.grownBy c row :=
 ⟨k.os.trans h.os,k.tape.trans h.tape,k.output.trans h.output,qaj h.size k.size,fun i F H=>(k.block i (qai F h.size) H).trans (h.block i F H)⟩
theorem qdp {a b:World} {row:Option Nat} (h:a.grownBy b row) (n:Nat):a.grownBy (b.drewN n) row:=⟨h.os,h.tape,h.output,h.size,h.block⟩
theorem qck {a b c:World} {row:Option Nat} (h:a.grownBy b row) (k:Below b.heap.size b c):a.grownBy c row :=
 ⟨k.os.trans h.os,k.tape.trans h.tape,k.output.trans h.output,qaj h.size k.size,fun i F H=>(k.block i (qai F h.size)).trans (h.block i F H)⟩
theorem qeO {a b:World} {g:Nat} {H:Option Addr} {F off:Nat} {L:List Nat} (h:a.grownBy b (some g)) (I:Cells a H F off L) (hne:0<L.length->F≠g):Cells b H F off L :=
 ⟨I.addr,fun k J=>h.cell (I.cell k J) (fun e=>hne (by omega) (qah e))⟩
theorem own_kept {W W':World} {B e g n c:Nat} {I:List Value} (h:W.ownsRow B e 1 (.slice (some ⟨g,0,none⟩) n c) n I) (J:Below W.heap.size W W'):W'.ownsRow B e 1 (.slice (some ⟨g,0,none⟩) n c) n I:=by
 have O:=h.lt g rfl;refine⟨h.1,?_⟩;rcases h.2 with ⟨F,_⟩ | ⟨g',cap',cur,F,H,hg,U⟩
 ·simp at F
 ·have e:g'=g:=by
   simp only [qbH,Option.some.injEq,Addr.mk.injEq,and_true,true_and] at F;exact F.1.symm
  subst e;exact .inr ⟨g',cap',cur,F,H,(J.block g' O.2).trans hg,U⟩
theorem qg9 {W:World} {B e g n c:Nat} {F:List Value} (h:W.ownsRow B e 1 (.slice (some ⟨g,0,none⟩) n c) n F) (k:Nat) (u:Value):W.grownBy (W.setCell ⟨g,k,none⟩ u) (some g):=(h.stored k u).2
theorem dg_mid (A R C:List Nat) (i:Nat) (F:i<R.length):dg (A++R++C) (A.length+i)=dg R i:=by
 unfold dg;rw [qaa,qaa,qaI,qaq (by omega),Nat.add_sub_cancel_left,qas F]
theorem set_mid (A R C:List Nat) (i d:Nat) (F:i<R.length):(A++R++C).set (A.length+i) d=A++R.set i d++C:=by
 rw [qaI,qa8 _ _ (by omega),Nat.add_sub_cancel_left,List.set_append_left _ _ F,<-qaI]
theorem qgl (W:World) (n:Nat) (e:TypeId):(W.alloc (.cells (madeCells #[.int .u32 0] n) e)).heap[W.heap.size]? = some (.cells (row32 (List.replicate n 0)).toArray e (0,0)):=by
 rw [<-made32,Array.toArray_toList];exact heap_alloc_new W _
theorem qia {W:World} {B e g n:Nat} {L:List Nat} (h:W.heap[g]? = some (.cells (row32 L).toArray e (0,0))) (H:L.length=n) (F:B<=g) (I:n<=maxLen):W.ownsRow B e 1 (.slice (some ⟨g,0,none⟩) n n) n (row32 L):=by
 refine⟨by rw [qcx];omega,.inr ⟨g,n,_,rfl,F,h,qae _,I,by simp [qcx,H],?_⟩⟩
 show (row32 L).take (n*1)=row32 L
 exact qak (by rw [qcx];omega)
theorem splice32 (L T:List Nat) (_h:T.length<=L.length):splice (row32 L) 0 (row32 T)=row32 (T++L.drop T.length):=by
 unfold splice row32;rw [List.take_zero,qbq,qa3,qav,qaM,List.map_drop]
theorem qeD (W:World) (e:TypeId) {s:Nat} (I:0<s) (F:s<1000000000):MagAt (W.alloc (.cells #[.int .u32 (s:Int)] e)) (.slice (some ⟨W.heap.size,0,none⟩) 1 1) s:=by
 refine⟨_,W.heap.size,0,1,1,[s],rfl,⟨rfl,qae _,⟨fun _=>rfl,fun k H=>?_⟩,Dig.of (by simpa using F),?_⟩,by simp [mval]⟩
 ·match k,H with
  | 0,_=>exact qC _ _ 0 _ _ _ (heap_alloc_new W _)
 ·right;show s≠0;omega
theorem qkA {W W':World} {B e g F n c:Nat} {H:List Value} (h:W.ownsRow B e 1 (.slice (some ⟨g,0,none⟩) n c) n H) (hg:W.grownBy W' (some F)) (hne:g≠F):W'.ownsRow B e 1 (.slice (some ⟨g,0,none⟩) n c) n H :=
 h.kept hg (qag (fun e=>hne (qah e)))
theorem qkp {W W':World} {F:Option Addr} {b off c n g:Nat} {L:List Nat} (h:IsM W F b off c n L) (hg:W.grownBy W' (some g)) (hne:b≠g):IsM W' F b off c n L:=⟨h.len,h.cap,qeO hg h.cells (fun _=>hne),h.dig,h.nrm⟩
theorem qmE {W:World} {F:Option Addr} {b off c n:Nat} {L:List Nat} (h:IsM W F b off c n L) (H:0<n):b<W.heap.size:=qac W ⟨b,off+0,none⟩ (h.cell 0 H)
theorem qnu (L:List Nat):∀v∈row32 L,v.oneCell'=true:=by
 intro v F;unfold row32 at F;obtain⟨d,_,rfl⟩:=qbp.1 F
 rfl
theorem addr_add (b o k:Nat):(⟨b,o,none⟩:Addr).add k=⟨b,o+k,none⟩:=by simp [Addr.add]
theorem own_isM {W:World} {B e n:Nat} {v:Value} {S:List Nat} (h:W.ownsRow B e 1 v n (row32 S)) (J:Dig S) (O:Nrm S):MagAt W v (mval S):=by
 rcases h.2 with ⟨rfl,rfl⟩ | ⟨g,c,cur,rfl,U,hg,F,V,Y,Z⟩
 ·have I:S.length=0:=by have:=h.1;rw [qcx] at this;omega
  rw [qbI.1 I];exact MagAt.nil W
 ·have H:S.length=n:=by have:=h.1;rw [qcx] at this;omega
  exact⟨_,g,0,c,n,S,rfl,⟨H,F,qcO h H,J,O⟩,rfl⟩
open Go.Proofs.Tryz
def cmp3 (x y:Int):Int:=if x<y then -1 else if x=y then 0 else 1
theorem qiC (a:Int) (w:World):Calls prog 265 #[.int .i64 a] w fun e F=>e=.returned (.bool false)/\F=w:=by
 go_enter func265,ntmps265;go_wp2;go_ret;exact⟨rfl,rfl⟩
theorem qiD (a:Int) (w:World):Calls prog 266 #[.int .u32 a] w fun e F=>e=.returned (.bool false)/\F=w:=by
 go_enter func266,ntmps266;go_wp2;go_ret;exact⟨rfl,rfl⟩
theorem cmp_int (a b:Int) (w:World):Calls prog 218 #[.int .i64 a,.int .i64 b] w fun e V=>e=.returned (.int .i64 (cmp3 a b))/\V=w:=by
 have H:=qH (qiC a);have I:=qH (qiC b);rcases Int.lt_trichotomy a b with h | h | h
 ·have F:cmp3 a b = -1:=by unfold cmp3;rw [if_pos h]
  rw [F];clear F;go_enter func218,ntmps218;go_wp2_with fail;refine (H.o _).mono ?_;rintro e O ⟨rfl,rfl⟩;go_wp2_with fail;refine (I.o _).mono ?_;rintro e U ⟨rfl,rfl⟩;go_wp2;go_ret;exact⟨rfl,rfl⟩
 ·subst h;have F:cmp3 a a=0:=by unfold cmp3;rw [if_neg (Int.lt_irrefl a),if_pos rfl]
  rw [F];clear F;have J:¬a<a:=Int.lt_irrefl a;go_enter func218,ntmps218;go_wp2_with fail;refine (H.o _).mono ?_;rintro e O ⟨rfl,rfl⟩;go_wp2_with fail;refine (H.o _).mono ?_;rintro e U ⟨rfl,rfl⟩;go_wp2;go_ret;exact⟨rfl,rfl⟩
 ·have J:¬a<b:=by omega
  have F:cmp3 a b=1:=by unfold cmp3;rw [if_neg J,if_neg (by omega)]
  rw [F];clear F;go_enter func218,ntmps218;go_wp2_with fail;refine (H.o _).mono ?_;rintro e O ⟨rfl,rfl⟩;go_wp2_with fail;refine (I.o _).mono ?_;rintro e U ⟨rfl,rfl⟩;go_wp2;go_ret;exact⟨rfl,rfl⟩
theorem cmp_u32 (a b:Int) (w:World):Calls prog 219 #[.int .u32 a,.int .u32 b] w fun e V=>e=.returned (.int .i64 (cmp3 a b))/\V=w:=by
 have H:=qH (qiD a);have I:=qH (qiD b);rcases Int.lt_trichotomy a b with h | h | h
 ·have F:cmp3 a b = -1:=by unfold cmp3;rw [if_pos h]
  rw [F];clear F;go_enter func219,ntmps219;go_wp2_with fail;refine (H.o _).mono ?_;rintro e O ⟨rfl,rfl⟩;go_wp2_with fail;refine (I.o _).mono ?_;rintro e U ⟨rfl,rfl⟩;go_wp2;go_ret;exact⟨rfl,rfl⟩
 ·subst h;have F:cmp3 a a=0:=by unfold cmp3;rw [if_neg (Int.lt_irrefl a),if_pos rfl]
  rw [F];clear F;have J:¬a<a:=Int.lt_irrefl a;go_enter func219,ntmps219;go_wp2_with fail;refine (H.o _).mono ?_;rintro e O ⟨rfl,rfl⟩;go_wp2_with fail;refine (H.o _).mono ?_;rintro e U ⟨rfl,rfl⟩;go_wp2;go_ret;exact⟨rfl,rfl⟩
 ·have J:¬a<b:=by omega
  have F:cmp3 a b=1:=by unfold cmp3;rw [if_neg J,if_neg (by omega)]
  rw [F];clear F;go_enter func219,ntmps219;go_wp2_with fail;refine (H.o _).mono ?_;rintro e O ⟨rfl,rfl⟩;go_wp2_with fail;refine (I.o _).mono ?_;rintro e U ⟨rfl,rfl⟩;go_wp2;go_ret;exact⟨rfl,rfl⟩
end Go.Proofs.YtplkdeknjghobaaGreatDoor
namespace Go.Proofs.YtplkdeknjghobaaGreatDoor.whole
open Go.RowKit Go.Proofs.Tryz
theorem trim_any (U:Option Addr) (b off c n:Nat) (L:List Nat) (w:World) (hn:L.length=n) (af:n<=1099511627776) (hc:n<=c) (H:Cells w U b off L) :
  Calls prog 279 #[.slice U n c] w fun e w'=>∃m,e=.returned (.slice U m c)/\w'=w/\m<=n/\Zero L m/\(m=0\/L.getD (m-1) 0≠0):=by
 have J:Zero L n:=by rw [<-hn];exact Zero.all L
 obtain⟨Y,F⟩:=H;rw [hn] at Y F;have Ha:=qH Y;have I:=qH F;have Hz:=qH J;clear Y F J hn;go_enter func279,ntmps279;go_wp2
 go_loopw [0] (fun x0 W=>∃m:Nat,x0=.slice U m c/\W=w/\m<=n/\Hu (Zero L m)) (fun x0 _=>match x0 with | .slice _ m _=>m | _=>0)
 case atStart=>exact⟨n,rfl,rfl,qae _,Hz⟩
 case round =>
  obtain⟨m,rfl,rfl,hm,J⟩:=hrel
  by_cases ae:m=0
  ·subst ae;have Hm:=qH hm;clear hm;go_wp2;go_ret;exact⟨0,rfl,rfl,qal _,J.o,qan rfl⟩
  ·have ag:(0:Int)<m:=by omega
   have Z:=Ha.o (by omega);subst Z;have aa:=I.o (m-1) (by omega);have e1:((m-1:Nat):Int)=(m:Int)-1:=by omega
   by_cases O:dg L (m-1)=0
   ·rw [O] at aa;have V:=qH O;clear O;go_wp2;go_roundw
    case rel=>exact⟨m-1,rfl,trivial,by omega,qH (Zero.down (n:=m-1) (by rw [show m-1+1=m by omega];exact J.o) V.o)⟩
    case measure=>show m-1<m;omega
   ·have hne:¬((dg L (m-1):Nat):Int)=0:=by omega
    have V:=qH O;clear O;go_wp2;go_ret;exact⟨m,rfl,rfl,hm,J.o,qag V.o⟩
theorem info32:(Tryz.prog.info? 232).map (fun i=>(i.zero,i.size,i.bytes))=some (some (.int .u32 0),1,4):=by kernel_rfl
theorem trim_mag (J:Option Addr) (b off c n:Nat) (L:List Nat) (w:World) (hn:L.length=n) (I:n<=1099511627776) (Z:n<=c) (F:Cells w J b off L) (hd:Dig L) :
  Calls prog 279 #[.slice J n c] w fun e Y=>∃v,e=.returned v/\Y=w/\MagAt w v (mval L):=by
 refine (trim_any J b off c n L w hn I Z F).mono ?_;rintro e Y ⟨m,rfl,rfl,hm,V,H⟩;refine⟨_,rfl,rfl,J,b,off,c,m,L.take m,rfl,⟨?_,by omega,F.take m,hd.take m,?_⟩,qcy V⟩
 ·rw [qax];omega
 ·have U:(L.take m).length=m:=by rw [qax];omega
  rcases H with H | H
  ·exact qan (by rw [U,H])
  ·right
   rw [U]
   by_cases O:m=0
   ·subst O;exact absurd (V _ (qal _)) H
   ·rw [qaa,List.getElem?_take_of_lt (by omega),<-qaa];exact H
end Go.Proofs.YtplkdeknjghobaaGreatDoor.whole
namespace Go.Proofs.YtplkdeknjghobaaGreatDoor
open Go.RowKit Go.Proofs.Tryz
inductive Pk where
 | f
 | l
def Pk.of (p:Pk) (x y:Nat):Nat:=match p with
 | .f=>x
 | .l=>y
theorem qd1 {t:TypeId} (h:t=134\/t=238):Tryz.prog.underlying t=some (.slice 232):=by
 rcases h with rfl | rfl
 ·exact underlying134
 ·exact underlying238
theorem qjP (pk:Pk) (U:Option Addr) (b off c n:Nat) (L:List Nat) (w:World) (hn:L.length=n) (af:n<=1099511627776) (hc:n<=c) (H:Cells w U b off L) :
  Calls prog (Pk.of pk 215 232) #[.slice U n c] w fun e w'=>∃m,e=.returned (.slice U m c)/\w'=w/\m<=n/\Zero L m/\(m=0\/L.getD (m-1) 0≠0):=by
 have J:Zero L n:=by rw [<-hn];exact Zero.all L
 obtain⟨Y,F⟩:=H;rw [hn] at Y F;have Ha:=qH Y;have I:=qH F;have Hz:=qH J;clear Y F J hn;cases pk <;> dsimp only [Pk.of] at * <;> (
 first | go_enter func215,ntmps215 | go_enter func232,ntmps232
 go_wp2
 go_loopw [0] (fun x0 W=>∃m:Nat,x0=.slice U m c/\W=w/\m<=n/\Hu (Zero L m)) (fun x0 _=>match x0 with | .slice _ m _=>m | _=>0)
 case atStart=>exact⟨n,rfl,rfl,qae _,Hz⟩
 case round =>
  obtain⟨m,rfl,rfl,hm,J⟩:=hrel
  by_cases ae:m=0
  ·subst ae;have Hm:=qH hm;clear hm;go_wp2;go_ret;exact⟨0,rfl,rfl,qal _,J.o,qan rfl⟩
  ·have ag:(0:Int)<m:=by omega
   have Z:=Ha.o (by omega);subst Z;have aa:=I.o (m-1) (by omega);have e1:((m-1:Nat):Int)=(m:Int)-1:=by omega
   by_cases O:dg L (m-1)=0
   ·rw [O] at aa;have V:=qH O;clear O;go_wp2;go_roundw
    case rel=>exact⟨m-1,rfl,trivial,by omega,qH (Zero.down (n:=m-1) (by rw [show m-1+1=m by omega];exact J.o) V.o)⟩
    case measure=>show m-1<m;omega
   ·have hne:¬((dg L (m-1):Nat):Int)=0:=by omega
    have V:=qH O;clear O;go_wp2;go_ret;exact⟨m,rfl,rfl,hm,J.o,qag V.o⟩)
theorem qcG:(Tryz.prog.info? 232).map (fun i=>(i.zero,i.size,i.bytes))=some (some (.int .u32 0),1,4):=by kernel_rfl
theorem qe8 (W:World) (n:Nat) (H:n<=maxLen):(W.alloc (.cells (madeCells #[.int .u32 0] n) 232)).ownsRow W.heap.size 232 1 (.slice (some ⟨W.heap.size,0,none⟩) n n) n (row32 (List.replicate n 0)):=by
 rw [<-made32];have F:=size_madeCells #[Value.int .u32 0] n;refine⟨by simp [F],.inr ⟨W.heap.size,n,_,rfl,qae _,heap_alloc_new W _,qae _,H,by simp [F],?_⟩⟩;exact qak (by simp [F])
theorem qdS (Y:Pk) (J:Option Addr) (b off c n:Nat) (L:List Nat) (w:World) (hn:L.length=n) (I:n<=1099511627776) (hc:n<=c) (F:Cells w J b off L) (hd:Dig L) :
  Calls prog (Pk.of Y 215 232) #[.slice J n c] w fun e Z=>∃v,e=.returned v/\Z=w/\MagAt w v (mval L):=by
 refine ((qjP Y) J b off c n L w hn I hc F).mono ?_;rintro e Z ⟨m,rfl,rfl,hm,V,H⟩;refine⟨_,rfl,rfl,J,b,off,c,m,L.take m,rfl,⟨?_,by omega,F.take m,hd.take m,?_⟩,qcy V⟩
 ·rw [qax];omega
 ·have U:(L.take m).length=m:=by rw [qax];omega
  rcases H with H | H
  ·exact qan (by rw [U,H])
  ·right
   rw [U]
   by_cases O:m=0
   ·subst O;exact absurd (V _ (qal _)) H
   ·rw [qaa,List.getElem?_take_of_lt (by omega),<-qaa];exact H
