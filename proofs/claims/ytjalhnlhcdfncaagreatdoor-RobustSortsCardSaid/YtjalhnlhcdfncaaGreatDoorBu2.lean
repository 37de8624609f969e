import Derived.BigQuiet
import Derived.Deep.MidRow
import Derived.Deep.QuietTactic
import Derived.Deep.WholeRow
import Derived.Laws.CopyOwn
import Derived.Laws.EntriesVeiled
import Derived.Laws.ResultCell
import Derived.Laws.Rows
import Derived.Lib.Hide
import Derived.Outline
import Derived.Test.YtjalhnlhcdfncaaGreatDoorBu1
import Derived.Test.YtjalhnlhcdfncaaGreatDoorProg
import Derived.WalkKit
import Derived.WalkLawsBesides
import Derived.WalkSpells
set_option maxRecDepth 100000
set_option maxHeartbeats 0
namespace Go.Proofs.YtjalhnlhcdfncaaGreatDoor
open Go.RowKit
section
variable {P:Program}
theorem qcx {G:Array Oper} {rest:List Oper} {op:Oper} {a:Act} {w:World} {Q:Exit->Act->World->Prop} (H:op.guard=none) (t:TypeId) (x y:Operand) (V:op.op=.store t x y)
  (c E:Array Value) (hx:a.eval x=.pointer (some ⟨w.heap.size,0,none⟩)) (hy:a.eval y=.agg E)
  (n:Nat) (I:(P.info? t).map (·.size)=some n) (U:c.size=n) (F:E.size=n) (J:E.toList.all (·.oneCell')=true)
  (h:wpList P G Q rest (a.put op.dst undef) (w.alloc (.cells E t))):wpList P G Q (op :: rest) a (w.alloc (.cells c t)) :=
 wpList_plain H fun _ O=>by
  have I:(P.info? t).map (·.size)=some E.size:=by rw [F];exact I
  have Y:c.size=E.size:=by rw [U,F]
  unfold Oper.wp execOp;simp only [V,hx,hy,Instr.storeAt,Instr.sureAddr,Sem.run_bind,Sem.run_pure,Result.andThen_ok,run_storeVar_new w t c E I Y (Array.all_eq_true_iff_forall_mem.2 (fun v Z=>qaA.1 J v (by simpa using Z)))];exact O _ _ h
theorem qlR {E:Array Oper} {rest:List Oper} {op:Oper} {a:Act} {w:World} {Q:Exit->Act->World->Prop} (H:op.guard=none) (F:TypeId) (x:Operand) (O:op.op=.load F x)
  (g:Nat) (hx:a.eval x=.pointer (some ⟨g,0,none⟩)) (t:TypeId) (cs:Array Value) (d:TypeDesc) (hg:w.heap[g]? = some (.cells cs t (0,0)))
  (U:P.underlying F=some d) (I:(match d with | .struct _ | .array _ _=>true | _=>false)=true) (n:Nat) (J:(P.info? F).map (·.size)=some n) (G:cs.size=n)
  (h:wpList P E Q rest (a.put op.dst (.agg cs)) w):wpList P E Q (op :: rest) a w :=
 wpList_load_row H F x O g hx t cs (0,0) d hg U I (by rw [G];exact J) h
theorem wpList_store_row {G:Array Oper} {rest:List Oper} {op:Oper} {a:Act} {w:World} {Q:Exit->Act->World->Prop} (H:op.guard=none) (I:TypeId) (x y:Operand) (V:op.op=.store I x y)
  (g:Nat) (cells:Array Value) (hx:a.eval x=.pointer (some ⟨g,0,none⟩)) (hy:a.eval y=.agg cells)
  (t:TypeId) (old:Array Value) (hg:w.heap[g]? = some (.cells old t (0,0))) (n:Nat) (U:(P.info? I).map (·.size)=some n)
  (F:old.size=n) (E:cells.size=n) (J:cells.toList.all (·.oneCell')=true)
  (h:wpList P G Q rest (a.put op.dst undef) (w.setRow g cells)):wpList P G Q (op :: rest) a w :=
 wpList_plain H fun _ O=>wp_store_row I x y V g cells hx hy t old hg (by rw [E];exact U) (by rw [F,E]) (Array.all_eq_true_iff_forall_mem.2 (fun v Y=>qaA.1 J v (by simpa using Y))) (O _ _ h)
end
theorem below_setRow {B:Nat} {a w:World} (h:Below B a w) {g:Nat} (hg:B<=g) (cs:Array Value):Below B a (w.setRow g cs) :=
 h.trans ⟨rfl,rfl,rfl,by simp [World.setRow],fun k E=>by
  simp only [World.setRow,Array.getElem?_modify];rw [if_neg (by omega)]⟩
theorem qM (w:World) (o:Obj) (n:Nat) (h:w.heap.size=n):(w.alloc o).heap[n]? = some o:=by
 subst h;exact heap_alloc_new w o
theorem qL (w:World) (o:Obj) (n:Nat) (h:n<w.heap.size):(w.alloc o).heap[n]? = w.heap[n]?:=by show (w.heap.push o)[n]? = w.heap[n]?;rw [Array.getElem?_push,if_neg (Nat.ne_of_lt h)]
theorem qlu {P:Program} {f:FuncId} {args:Array Value} {w:World} {n:Nat} {v:Value}
  (h:Calls P f args (w.drewN n) fun e G=>e=.returned v/\w.drewN n=G):Calls P f args (w.drewN n) fun e E=>e=.returned v/\∃m,E=w.drewN m :=
 h.mono fun _ _ ⟨he,F⟩=>⟨he,n,F.symm⟩
theorem qcX {P:Program} {H:Func} {p:Tmp} {G:TypeId} (h:H.results=#[.cell p G]) (E:Array Value) (w:World) (g:Nat) (t:TypeId) (cs:Array Value) (d:TypeDesc)
  (O:E.getD p undef=.pointer (some ⟨g,0,none⟩)) (hg:w.heap[g]? = some (.cells cs t (0,0)))
  (U:P.underlying G=some d) (I:(match d with | .struct _ | .array _ _=>true | _=>false)=true) (n:Nat) (J:(P.info? G).map (·.size)=some n) (F:cs.size=n) :
  (results H E).run P w=.ok (.agg cs) w :=
 results_cell_row h E w g t cs (0,0) d O hg U I (by rw [F];exact J)
theorem results_row2 {P:Program} {H:Func} {p q:Tmp} {F:TypeId} (h:H.results=#[.cell p F,.tmp q]) (E:Array Value) (w:World) (g:Nat) (t:TypeId) (cs:Array Value) (d:TypeDesc)
  (O:E.getD p undef=.pointer (some ⟨g,0,none⟩)) (hg:w.heap[g]? = some (.cells cs t (0,0)))
  (V:P.underlying F=some d) (I:(match d with | .struct _ | .array _ _=>true | _=>false)=true) (n:Nat) (J:(P.info? F).map (·.size)=some n) (G:cs.size=n) (v2:Value) (U:E.getD q undef=v2) :
  (results H E).run P w=.ok (.tuple #[.agg cs,v2]) w:=by
 rw [results_cell_tmp h,O,U];simp [asAddr,run_loadVar_row w g t F cs (0,0) d hg V I (by rw [G];exact J),Result.andThen]
theorem qcg {B:Nat} {w E:World} (h:Below B w.drew E):Below B w E:=((Below.refl B w).drew).trans h
theorem bcell {B:Nat} {W E:World} (F:Below B W E):(∀b o,b<B->E.cell? ⟨b,o,none⟩=W.cell? ⟨b,o,none⟩)/\(∀b o,b<B->E.frozen? ⟨b,o,none⟩=W.frozen? ⟨b,o,none⟩) :=
 ⟨fun b o h=>F.cell (p:=⟨b,o,none⟩) h,fun b o h=>F.frozen (p:=⟨b,o,none⟩) h⟩
theorem sR_ {P:Program} {F:Array Oper} {rest:List Oper} {op:Oper} {a:Act} {w:World} {Q:Exit->Act->World->Prop} (H:op.guard=none) (I:TypeId) (x y:Operand) (U:op.op=.store I x y)
  (g:Nat) (cells:Array Value) {t:TypeId} {old:Array Value} (hg:w.heap[g]? = some (.cells old t (0,0))) (n:Nat) (h:wpList P F Q rest (a.put op.dst undef) (w.setRow g cells))
  (hx:a.eval x=.pointer (some ⟨g,0,none⟩):=by with_unfolding_all rfl) (hy:a.eval y=.agg cells:=by with_unfolding_all rfl) (O:(P.info? I).map (·.size)=some n:=by kernel_rfl)
  (E:old.size=n:=by with_unfolding_all rfl) (G:cells.size=n:=by with_unfolding_all rfl) (J:cells.toList.all (·.oneCell')=true:=by with_unfolding_all rfl):wpList P F Q (op :: rest) a w :=
 wpList_store_row H I x y U g cells hx hy t old hg n O E G J h
theorem lW_ {P:Program} {E:Array Oper} {rest:List Oper} {op:Oper} {a:Act} {w:World} {Q:Exit->Act->World->Prop} (H:op.guard=none) (F:TypeId) (x:Operand) (O:op.op=.load F x)
  (g:Nat) (cs:Array Value) {t:TypeId} {d:TypeDesc} (hg:w.heap[g]? = some (.cells cs t (0,0))) (U:P.underlying F=some d) (n:Nat) (h:wpList P E Q rest (a.put op.dst (.agg cs)) w)
  (hx:a.eval x=.pointer (some ⟨g,0,none⟩):=by with_unfolding_all rfl) (I:(match d with | .struct _ | .array _ _=>true | _=>false)=true:=by with_unfolding_all rfl) (J:(P.info? F).map (·.size)=some n:=by kernel_rfl) (G:cs.size=n:=by with_unfolding_all rfl):wpList P E Q (op :: rest) a w :=
 qlR H F x O g hx t cs d hg U I n J G h
theorem hmf_ {P:Program} (E:Fn) (first cap:Array Value) (w:World):(Instr.makeFunc E first cap).run P w=.ok (.func E first cap) w:=rfl
theorem rA_ {P:Program} {H:Func} {p:Tmp} {G:TypeId} (h:H.results=#[.cell p G]) {E:Array Value} {w:World} (g:Nat) {t:TypeId} {cs:Array Value} {d:TypeDesc} (hg:w.heap[g]? = some (.cells cs t (0,0))) (U:P.underlying G=some d) (n:Nat)
  (O:E.getD p undef=.pointer (some ⟨g,0,none⟩):=by rfl) (I:(match d with | .struct _ | .array _ _=>true | _=>false)=true:=by rfl) (J:(P.info? G).map (·.size)=some n:=by kernel_rfl) (F:cs.size=n:=by rfl):(results H E).run P w=.ok (.agg cs) w :=
 qcX h E w g t cs d O hg U I n J F
theorem rB_ {P:Program} {H:Func} {p q:Tmp} {G:TypeId} (h:H.results=#[.cell p G,.tmp q]) {E:Array Value} {w:World} (g:Nat) {t:TypeId} {cs:Array Value} {d:TypeDesc} (hg:w.heap[g]? = some (.cells cs t (0,0))) (V:P.underlying G=some d) (n:Nat) {v2:Value}
  (O:E.getD p undef=.pointer (some ⟨g,0,none⟩):=by rfl) (I:(match d with | .struct _ | .array _ _=>true | _=>false)=true:=by rfl) (J:(P.info? G).map (·.size)=some n:=by kernel_rfl) (F:cs.size=n:=by rfl) (U:E.getD q undef=v2:=by rfl):(results H E).run P w=.ok (.tuple #[.agg cs,v2]) w :=
 results_row2 h E w g t cs d O hg V I n J F v2 U
theorem qS:type_of% @Go.below_setRow:=@Go.below_setRow
theorem qT:type_of% @Go.setRow_heap:=@Go.setRow_heap
theorem qW:type_of% @Go.RowKit.Below.heap_setCell:=@Go.RowKit.Below.heap_setCell
theorem u64_in (n:Nat) (h:n<18446744073709551616):IntKind.u64.wrap (n:Int)=n:=by
 show (n:Int) % 18446744073709551616=n
 omega
theorem tdivN (t m c:Nat) (h:t / m=c):(t:Int).tdiv (m:Int)=c:=by
 rw [Int.tdiv_eq_ediv_of_nonneg (by omega),<-h];exact (Int.natCast_ediv t m).symm
theorem tmodN (t m c:Nat) (h:t % m=c):(t:Int).tmod (m:Int)=c:=by
 rw [qby (by omega),<-h];exact (Int.natCast_emod t m).symm
theorem tdivB (t c:Nat) (h:t / 1000000000=c):(t:Int).tdiv 1000000000=c:=tdivN t 1000000000 c h
theorem tmodB (t c:Nat) (h:t % 1000000000=c):(t:Int).tmod 1000000000=c:=tmodN t 1000000000 c h
def dg (L:List Nat) (k:Nat):Nat:=L.getD k 0
structure Cells (W:World) (ao:Option Addr) (b off:Nat) (L:List Nat):Prop where
 addr:0<L.length->ao=some ⟨b,off,none⟩
 cell:∀k,k<L.length->W.cell? ⟨b,off+k,none⟩=some (.int .u32 ((dg L k:Nat):Int))
theorem Cells.below {W W':World} {F:Option Addr} {b E:Nat} {L:List Nat} (h:Cells W F b E L) (H:Below W.heap.size W W'):Cells W' F b E L :=
 ⟨h.addr,fun k G=>(H.cell (qac W _ (h.cell k G))).trans (h.cell k G)⟩
theorem Cells.take {W:World} {F:Option Addr} {b E:Nat} {L:List Nat} (h:Cells W F b E L) (n:Nat):Cells W F b E (L.take n) :=
 ⟨fun G=>h.addr (by rw [qao] at G;omega),fun k H=>by
  rw [qao] at H;rw [h.cell k (by omega),dg,dg,qaa,qaa,qbE (by omega)]⟩
structure IsM (W:World) (ao:Option Addr) (b off c n:Nat) (L:List Nat):Prop where
 len:L.length=n
 cap:n<=c
 cells:Cells W ao b off L
 dig:Dig L
 nrm:Nrm L
theorem IsM.below {W W':World} {F:Option Addr} {b E c n:Nat} {L:List Nat} (h:IsM W F b E c n L) (G:Below W.heap.size W W'):IsM W' F b E c n L:=⟨h.len,h.cap,h.cells.below G,h.dig,h.nrm⟩
theorem IsM.addr {W:World} {F:Option Addr} {b E c n:Nat} {L:List Nat} (h:IsM W F b E c n L):0<n->F=some ⟨b,E,none⟩:=by rw [<-h.len];exact h.cells.addr
theorem IsM.cell {W:World} {F:Option Addr} {b E c n:Nat} {L:List Nat} (h:IsM W F b E c n L):∀k,k<n->W.cell? ⟨b,E+k,none⟩=some (.int .u32 ((dg L k:Nat):Int)):=by rw [<-h.len];exact h.cells.cell
def MagAt (W:World) (v:Value) (x:Nat):Prop:=∃(F:Option Addr) (b E c n:Nat) (L:List Nat),v=.slice F n c/\IsM W F b E c n L/\mval L=x
theorem MagAt.below {W W':World} {v:Value} {x:Nat} (h:MagAt W v x) (G:Below W.heap.size W W'):MagAt W' v x:=by
 obtain⟨ao,b,off,c,n,L,rfl,E,F⟩:=h;exact⟨ao,b,off,c,n,L,rfl,E.below G,F⟩
theorem MagAt.nil (W:World):MagAt W (.slice none 0 0) 0:=⟨none,0,0,0,0,[],rfl,⟨rfl,qae _,⟨fun h=>absurd h (by simp),fun k h=>absurd h (by simp)⟩,Dig.nil,qax rfl⟩,rfl⟩
def Fit (x K:Nat):Prop:=x<1000000000 ^ K
theorem Fit.le {x y K:Nat} (h:Fit y K) (hx:x<=y):Fit x K:=qaQ hx h
theorem Fit.mono {x K M:Nat} (h:Fit x K) (E:K<=M):Fit x M:=qak h (qa9 (by decide) E)
theorem Fit.mul {x y K M:Nat} (h:Fit x K) (k:Fit y M):Fit (x*y) (K+M):=by
 unfold Fit at *;rw [Nat.pow_add];exact Nat.mul_lt_mul'' h k
theorem Fit.add {x y K:Nat} (h:Fit x K) (k:Fit y K):Fit (x+y) (K+1):=by
 unfold Fit at *;rw [qaH];omega
theorem Fit.len {W:World} {F:Option Addr} {b E c n:Nat} {L:List Nat} {K:Nat} (h:Fit (mval L) K) (k:IsM W F b E c n L):n<=K:=by
 rw [<-k.len];exact k.nrm.len h
def row32 (L:List Nat):List Value:=L.map fun (d:Nat)=>Value.int .u32 (d:Int)
theorem qcy (L:List Nat):(row32 L).length=L.length:=by unfold row32;exact qaD _
theorem qnr (L:List Nat) (k d:Nat):(row32 L).set k (.int .u32 (d:Int))=row32 (L.set k d):=by unfold row32;rw [List.map_set]
theorem qdy (L:List Nat) (k:Nat) (h:k<L.length):(row32 L)[k]? = some (.int .u32 ((dg L k:Nat):Int)):=by
 unfold row32 dg;rw [qaN,qdO h];rfl
theorem qdK (L:List Nat) (d:Nat):row32 (L++[d])=row32 L++[.int .u32 (d:Int)]:=by unfold row32;rw [qbn];rfl
theorem made32 (n:Nat):(madeCells #[Value.int .u32 0] n).toList=row32 (List.replicate n 0):=by
 rw [toList_madeCells_one];unfold row32;rw [List.map_replicate];rfl
theorem qcQ {W:World} {B e g n c:Nat} {L:List Nat} (h:W.ownsRow B e 1 (.slice (some ⟨g,0,none⟩) n c) n (row32 L)) (F:L.length=n):Cells W (some ⟨g,0,none⟩) g 0 L :=
 ⟨fun _=>rfl,fun k E=>by
  rw [qaR,h.cellAt k (by omega)];exact qdy L k E⟩
theorem qdH {W:World} {B e g n c:Nat} {R:List Nat} (h:W.ownsRow B e 1 (.slice (some ⟨g,0,none⟩) n c) n (row32 R)) (k:Nat) {s:Int} (d:Nat) (E:s=(d:Int)) :
  (W.setCell ⟨g,k,none⟩ (.int .u32 s)).ownsRow B e 1 (.slice (some ⟨g,0,none⟩) n c) n (row32 (R.set k d)):=by
 have F:=(h.stored k (.int .u32 s)).1
 rwa [E,qnr,<-E] at F
theorem qdC (W:World) (v:Value) (e:TypeId):∀j u,[v][j]? = some u->(W.alloc (.cells #[v] e)).cell? ((⟨W.heap.size,0,none⟩:Addr).add j)=some u:=by
 intro j u E
 match j,E with
 | 0,E =>
  simp only [List.getElem?_cons_zero,Option.some.injEq] at E;subst E;exact qC _ _ 0 _ _ _ (heap_alloc_new W _)
theorem one_cell (k:IntKind) (s:Int):∀u∈[Value.int k s],u.oneCell'=true:=by
 intro u E;rw [qan.1 E];rfl
theorem qfn {W:World} {B e g k c:Nat} {S:List Nat} {s:Int} {d:Nat} (h:W.ownsRow B e 1 (.slice (some ⟨g,0,none⟩) (k+1) c) (k+1) (row32 S++[.int .u32 s])) (E:s=(d:Int)) :
  W.ownsRow B e 1 (.slice (some ⟨g,0,none⟩) (k+1) c) (k+1) (row32 (S++[d])):=by
 rw [qdK,<-E];exact h
theorem qcR {B:Nat} {w W E:World} {o:Obj} {row:Option Nat} (h:Below B w W) (G:B<=w.heap.size) (hg:(W.alloc o).grownBy E row) (hr:∀k,row=some k->B<=k):Below B w E:=by
 have F:=h.size;refine (h.alloc (qal G F) o).grown hg ?_ hr;simp only [qab];omega
theorem qcs (w:World) (row:Option Nat):w.grownBy w row:=⟨rfl,rfl,rfl,qae _,fun _ _ _=>rfl⟩
theorem qbX {a b c:World} {row:Option Nat} (h:a.grownBy b row) (k:b.grownBy c row):a.grownBy c row :=
 ⟨k.os.trans h.os,k.tape.trans h.tape,k.output.trans h.output,qal h.size k.size,fun i E hr=>(k.block i (qak E h.size) hr).trans (h.block i E hr)⟩
theorem qdo {a b:World} {row:Option Nat} (h:a.grownBy b row) (n:Nat):a.grownBy (b.drewN n) row:=⟨h.os,h.tape,h.output,h.size,h.block⟩
theorem qco {a b c:World} {row:Option Nat} (h:a.grownBy b row) (k:Below b.heap.size b c):a.grownBy c row :=
 ⟨k.os.trans h.os,k.tape.trans h.tape,k.output.trans h.output,qal h.size k.size,fun i E hr=>(k.block i (qak E h.size)).trans (h.block i E hr)⟩
theorem qeJ {a b:World} {g:Nat} {G:Option Addr} {F E:Nat} {L:List Nat} (h:a.grownBy b (some g)) (H:Cells a G F E L) (hne:0<L.length->F≠g):Cells b G F E L :=
 ⟨H.addr,fun k I=>h.cell (H.cell k I) (fun e=>hne (by omega) (qag e))⟩
theorem own_kept {W W':World} {B e g n c:Nat} {G:List Value} (h:W.ownsRow B e 1 (.slice (some ⟨g,0,none⟩) n c) n G) (H:Below W.heap.size W W'):W'.ownsRow B e 1 (.slice (some ⟨g,0,none⟩) n c) n G:=by
 have I:=h.lt g rfl;refine⟨h.1,?_⟩;rcases h.2 with ⟨E,_⟩ | ⟨g',cap',cur,E,F,hg,hr⟩
 ·simp at E
 ·have e:g'=g:=by
   simp only [qbS,Option.some.injEq,Addr.mk.injEq,and_true,true_and] at E;exact E.1.symm
  subst e;exact .inr ⟨g',cap',cur,E,F,(H.block g' I.2).trans hg,hr⟩
theorem qg7 {W:World} {B e g n c:Nat} {E:List Value} (h:W.ownsRow B e 1 (.slice (some ⟨g,0,none⟩) n c) n E) (k:Nat) (u:Value):W.grownBy (W.setCell ⟨g,k,none⟩ u) (some g):=(h.stored k u).2
theorem dg_mid (A R C:List Nat) (i:Nat) (E:i<R.length):dg (A++R++C) (A.length+i)=dg R i:=by
 unfold dg;rw [qaa,qaa,qaE,qau (by omega),Nat.add_sub_cancel_left,qaz E]
theorem set_mid (A R C:List Nat) (i d:Nat) (E:i<R.length):(A++R++C).set (A.length+i) d=A++R.set i d++C:=by
 rw [qaE,qbb _ _ (by omega),Nat.add_sub_cancel_left,List.set_append_left _ _ E,<-qaE]
theorem qgi (W:World) (n:Nat) (e:TypeId):(W.alloc (.cells (madeCells #[.int .u32 0] n) e)).heap[W.heap.size]? = some (.cells (row32 (List.replicate n 0)).toArray e (0,0)):=by
 rw [<-made32,Array.toArray_toList];exact heap_alloc_new W _
theorem qh8 {W:World} {B e g n:Nat} {L:List Nat} (h:W.heap[g]? = some (.cells (row32 L).toArray e (0,0))) (E:L.length=n) (hB:B<=g) (F:n<=maxLen):W.ownsRow B e 1 (.slice (some ⟨g,0,none⟩) n n) n (row32 L):=by
 refine⟨by rw [qcy];omega,.inr ⟨g,n,_,rfl,hB,h,qae _,F,by simp [qcy,E],?_⟩⟩
 show (row32 L).take (n*1)=row32 L
 exact qah (by rw [qcy];omega)
theorem splice32 (L T:List Nat) (_h:T.length<=L.length):splice (row32 L) 0 (row32 T)=row32 (T++L.drop T.length):=by
 unfold splice row32;rw [List.take_zero,qbj,qbn,qaD,qaR,List.map_drop]
theorem qfO (W:World) (e:TypeId) {s:Nat} (G:0<s) (E:s<1000000000):MagAt (W.alloc (.cells #[.int .u32 (s:Int)] e)) (.slice (some ⟨W.heap.size,0,none⟩) 1 1) s:=by
 refine⟨_,W.heap.size,0,1,1,[s],rfl,⟨rfl,qae _,⟨fun _=>rfl,fun k F=>?_⟩,Dig.of (by simpa using E),?_⟩,by simp [mval]⟩
 ·match k,F with
  | 0,_=>exact qC _ _ 0 _ _ _ (heap_alloc_new W _)
 ·right;show s≠0;omega
theorem qkE {W W':World} {B e g E n c:Nat} {F:List Value} (h:W.ownsRow B e 1 (.slice (some ⟨g,0,none⟩) n c) n F) (hg:W.grownBy W' (some E)) (hne:g≠E):W'.ownsRow B e 1 (.slice (some ⟨g,0,none⟩) n c) n F :=
 h.kept hg (qam (fun e=>hne (qag e)))
theorem qkq {W W':World} {F:Option Addr} {b E c n g:Nat} {L:List Nat} (h:IsM W F b E c n L) (hg:W.grownBy W' (some g)) (hne:b≠g):IsM W' F b E c n L:=⟨h.len,h.cap,qeJ hg h.cells (fun _=>hne),h.dig,h.nrm⟩
theorem qmF {W:World} {F:Option Addr} {b E c n:Nat} {L:List Nat} (h:IsM W F b E c n L) (G:0<n):b<W.heap.size:=qac W ⟨b,E+0,none⟩ (h.cell 0 G)
theorem qnq (L:List Nat):∀v∈row32 L,v.oneCell'=true:=by
 intro v E;unfold row32 at E;obtain⟨d,_,rfl⟩:=qbe.1 E
 rfl
theorem addr_add (b o k:Nat):(⟨b,o,none⟩:Addr).add k=⟨b,o+k,none⟩:=by simp [Addr.add]
theorem own_isM {W:World} {B e n:Nat} {v:Value} {S:List Nat} (h:W.ownsRow B e 1 v n (row32 S)) (H:Dig S) (I:Nrm S):MagAt W v (mval S):=by
 rcases h.2 with ⟨rfl,rfl⟩ | ⟨g,c,cur,rfl,J,hg,E,O,U,V⟩
 ·have G:S.length=0:=by have:=h.1;rw [qcy] at this;omega
  rw [List.length_eq_zero_iff.1 G];exact MagAt.nil W
 ·have F:S.length=n:=by have:=h.1;rw [qcy] at this;omega
  exact⟨_,g,0,c,n,S,rfl,⟨F,E,qcQ h F,H,I⟩,rfl⟩
open Go.Proofs.Tryz
def cmp3 (x y:Int):Int:=if x<y then -1 else if x=y then 0 else 1
theorem qiB (a:Int) (w:World):Calls prog 202 #[.int .i64 a] w fun e E=>e=.returned (.bool false)/\E=w:=by
 go_enter func202,ntmps202;go_wp2;go_ret;exact⟨rfl,rfl⟩
theorem qiC (a:Int) (w:World):Calls prog 251 #[.int .u32 a] w fun e E=>e=.returned (.bool false)/\E=w:=by
 go_enter func251,ntmps251;go_wp2;go_ret;exact⟨rfl,rfl⟩
theorem cmp_int (a b:Int) (w:World):Calls prog 226 #[.int .i64 a,.int .i64 b] w fun e J=>e=.returned (.int .i64 (cmp3 a b))/\J=w:=by
 have E:=qH (qiB a);have F:=qH (qiB b);rcases Int.lt_trichotomy a b with h | h | h
 ·have hr:cmp3 a b = -1:=by unfold cmp3;rw [if_pos h]
  rw [hr];clear hr;go_enter func226,ntmps226;go_wp2_with fail;refine (E.o _).mono ?_;rintro e H ⟨rfl,rfl⟩;go_wp2_with fail;refine (F.o _).mono ?_;rintro e I ⟨rfl,rfl⟩;go_wp2;go_ret;exact⟨rfl,rfl⟩
 ·subst h;have hr:cmp3 a a=0:=by unfold cmp3;rw [if_neg (Int.lt_irrefl a),if_pos rfl]
  rw [hr];clear hr;have G:¬a<a:=Int.lt_irrefl a;go_enter func226,ntmps226;go_wp2_with fail;refine (E.o _).mono ?_;rintro e H ⟨rfl,rfl⟩;go_wp2_with fail;refine (E.o _).mono ?_;rintro e I ⟨rfl,rfl⟩;go_wp2;go_ret;exact⟨rfl,rfl⟩
 ·have G:¬a<b:=by omega
  have hr:cmp3 a b=1:=by unfold cmp3;rw [if_neg G,if_neg (by omega)]
  rw [hr];clear hr;go_enter func226,ntmps226;go_wp2_with fail;refine (E.o _).mono ?_;rintro e H ⟨rfl,rfl⟩;go_wp2_with fail;refine (F.o _).mono ?_;rintro e I ⟨rfl,rfl⟩;go_wp2;go_ret;exact⟨rfl,rfl⟩
theorem cmp_u32 (a b:Int) (w:World):Calls prog 227 #[.int .u32 a,.int .u32 b] w fun e J=>e=.returned (.int .i64 (cmp3 a b))/\J=w:=by
 have E:=qH (qiC a);have F:=qH (qiC b);rcases Int.lt_trichotomy a b with h | h | h
 ·have hr:cmp3 a b = -1:=by unfold cmp3;rw [if_pos h]
  rw [hr];clear hr;go_enter func227,ntmps227;go_wp2_with fail;refine (E.o _).mono ?_;rintro e H ⟨rfl,rfl⟩;go_wp2_with fail;refine (F.o _).mono ?_;rintro e I ⟨rfl,rfl⟩;go_wp2;go_ret;exact⟨rfl,rfl⟩
 ·subst h;have hr:cmp3 a a=0:=by unfold cmp3;rw [if_neg (Int.lt_irrefl a),if_pos rfl]
  rw [hr];clear hr;have G:¬a<a:=Int.lt_irrefl a;go_enter func227,ntmps227;go_wp2_with fail;refine (E.o _).mono ?_;rintro e H ⟨rfl,rfl⟩;go_wp2_with fail;refine (E.o _).mono ?_;rintro e I ⟨rfl,rfl⟩;go_wp2;go_ret;exact⟨rfl,rfl⟩
 ·have G:¬a<b:=by omega
  have hr:cmp3 a b=1:=by unfold cmp3;rw [if_neg G,if_neg (by omega)]
  rw [hr];clear hr;go_enter func227,ntmps227;go_wp2_with fail;refine (E.o _).mono ?_;rintro e H ⟨rfl,rfl⟩;go_wp2_with fail;refine (F.o _).mono ?_;rintro e I ⟨rfl,rfl⟩;go_wp2;go_ret;exact⟨rfl,rfl⟩
end Go.Proofs.YtjalhnlhcdfncaaGreatDoor
namespace Go.Proofs.YtjalhnlhcdfncaaGreatDoor.whole
open Go.RowKit Go.Proofs.Tryz
theorem trim_any (J:Option Addr) (b ae c n:Nat) (L:List Nat) (w:World) (hn:L.length=n) (af:n<=1099511627776) (hc:n<=c) (F:Cells w J b ae L) :
  Calls prog 257 #[.slice J n c] w fun e w'=>∃m,e=.returned (.slice J m c)/\w'=w/\m<=n/\Zero L m/\(m=0\/L.getD (m-1) 0≠0):=by
 have H:Zero L n:=by rw [<-hn];exact Zero.all L
 obtain⟨U,E⟩:=F;rw [hn] at U E;have Ha:=qH U;have G:=qH E;have Hz:=qH H;clear U E H hn;go_enter func257,ntmps257;go_wp2
 go_loopw [0] (fun x0 W=>∃m:Nat,x0=.slice J m c/\W=w/\m<=n/\Hu (Zero L m)) (fun x0 _=>match x0 with | .slice _ m _=>m | _=>0)
 case atStart=>exact⟨n,rfl,rfl,qae _,Hz⟩
 case round =>
  obtain⟨m,rfl,rfl,Z,H⟩:=hrel
  by_cases aa:m=0
  ·subst aa;have Hm:=qH Z;clear Z;go_wp2;go_ret;exact⟨0,rfl,rfl,qaj _,H.o,qax rfl⟩
  ·have ag:(0:Int)<m:=by omega
   have V:=Ha.o (by omega);subst V;have Y:=G.o (m-1) (by omega);have e1:((m-1:Nat):Int)=(m:Int)-1:=by omega
   by_cases I:dg L (m-1)=0
   ·rw [I] at Y;have O:=qH I;clear I;go_wp2;go_roundw
    case rel=>exact⟨m-1,rfl,trivial,by omega,qH (Zero.down (n:=m-1) (by rw [show m-1+1=m by omega];exact H.o) O.o)⟩
    case measure=>show m-1<m;omega
   ·have hne:¬((dg L (m-1):Nat):Int)=0:=by omega
    have O:=qH I;clear I;go_wp2;go_ret;exact⟨m,rfl,rfl,Z,H.o,qam O.o⟩
theorem info32:(Tryz.prog.info? 201).map (fun i=>(i.zero,i.size,i.bytes))=some (some (.int .u32 0),1,4):=by kernel_rfl
theorem trim_mag (I:Option Addr) (b F c n:Nat) (L:List Nat) (w:World) (hn:L.length=n) (H:n<=1099511627776) (Y:n<=c) (E:Cells w I b F L) (Z:Dig L) :
  Calls prog 257 #[.slice I n c] w fun e V=>∃v,e=.returned v/\V=w/\MagAt w v (mval L):=by
 refine (trim_any I b F c n L w hn H Y E).mono ?_;rintro e V ⟨m,rfl,rfl,hm,U,G⟩;refine⟨_,rfl,rfl,I,b,F,c,m,L.take m,rfl,⟨?_,by omega,E.take m,Z.take m,?_⟩,qcA U⟩
 ·rw [qao];omega
 ·have O:(L.take m).length=m:=by rw [qao];omega
  rcases G with G | G
  ·exact qax (by rw [O,G])
  ·right
   rw [O]
   by_cases J:m=0
   ·subst J;exact absurd (U _ (qaj _)) G
   ·rw [qaa,qbE (by omega),<-qaa];exact G
end Go.Proofs.YtjalhnlhcdfncaaGreatDoor.whole
namespace Go.Proofs.YtjalhnlhcdfncaaGreatDoor
open Go.RowKit Go.Proofs.Tryz
inductive Pk where
 | f
 | l
def Pk.of (p:Pk) (x y:Nat):Nat:=match p with
 | .f=>x
 | .l=>y
theorem qdW {t:TypeId} (h:t=123\/t=213):Tryz.prog.underlying t=some (.slice 201):=by
 rcases h with rfl | rfl
 ·exact underlying123
 ·exact underlying213
theorem qjS (pk:Pk) (J:Option Addr) (b ae c n:Nat) (L:List Nat) (w:World) (hn:L.length=n) (af:n<=1099511627776) (hc:n<=c) (F:Cells w J b ae L) :
  Calls prog (Pk.of pk 238 216) #[.slice J n c] w fun e w'=>∃m,e=.returned (.slice J m c)/\w'=w/\m<=n/\Zero L m/\(m=0\/L.getD (m-1) 0≠0):=by
 have H:Zero L n:=by rw [<-hn];exact Zero.all L
 obtain⟨U,E⟩:=F;rw [hn] at U E;have Ha:=qH U;have G:=qH E;have Hz:=qH H;clear U E H hn;cases pk <;> dsimp only [Pk.of] at * <;> (
 first | go_enter func238,ntmps238 | go_enter func216,ntmps216
 go_wp2
 go_loopw [0] (fun x0 W=>∃m:Nat,x0=.slice J m c/\W=w/\m<=n/\Hu (Zero L m)) (fun x0 _=>match x0 with | .slice _ m _=>m | _=>0)
 case atStart=>exact⟨n,rfl,rfl,qae _,Hz⟩
 case round =>
  obtain⟨m,rfl,rfl,Z,H⟩:=hrel
  by_cases aa:m=0
  ·subst aa;have Hm:=qH Z;clear Z;go_wp2;go_ret;exact⟨0,rfl,rfl,qaj _,H.o,qax rfl⟩
  ·have ag:(0:Int)<m:=by omega
   have V:=Ha.o (by omega);subst V;have Y:=G.o (m-1) (by omega);have e1:((m-1:Nat):Int)=(m:Int)-1:=by omega
   by_cases I:dg L (m-1)=0
   ·rw [I] at Y;have O:=qH I;clear I;go_wp2;go_roundw
    case rel=>exact⟨m-1,rfl,trivial,by omega,qH (Zero.down (n:=m-1) (by rw [show m-1+1=m by omega];exact H.o) O.o)⟩
    case measure=>show m-1<m;omega
   ·have hne:¬((dg L (m-1):Nat):Int)=0:=by omega
    have O:=qH I;clear I;go_wp2;go_ret;exact⟨m,rfl,rfl,Z,H.o,qam O.o⟩)
theorem qcM:(Tryz.prog.info? 201).map (fun i=>(i.zero,i.size,i.bytes))=some (some (.int .u32 0),1,4):=by kernel_rfl
theorem qe6 (W:World) (n:Nat) (F:n<=maxLen):(W.alloc (.cells (madeCells #[.int .u32 0] n) 201)).ownsRow W.heap.size 201 1 (.slice (some ⟨W.heap.size,0,none⟩) n n) n (row32 (List.replicate n 0)):=by
 rw [<-made32];have E:=size_madeCells #[Value.int .u32 0] n;refine⟨by simp [E],.inr ⟨W.heap.size,n,_,rfl,qae _,heap_alloc_new W _,qae _,F,by simp [E],?_⟩⟩;exact qah (by simp [E])
theorem qdS (V:Pk) (I:Option Addr) (b F c n:Nat) (L:List Nat) (w:World) (hn:L.length=n) (H:n<=1099511627776) (Z:n<=c) (E:Cells w I b F L) (hd:Dig L) :
  Calls prog (Pk.of V 238 216) #[.slice I n c] w fun e Y=>∃v,e=.returned v/\Y=w/\MagAt w v (mval L):=by
 refine ((qjS V) I b F c n L w hn H Z E).mono ?_;rintro e Y ⟨m,rfl,rfl,hm,U,G⟩;refine⟨_,rfl,rfl,I,b,F,c,m,L.take m,rfl,⟨?_,by omega,E.take m,hd.take m,?_⟩,qcA U⟩
 ·rw [qao];omega
 ·have O:(L.take m).length=m:=by rw [qao];omega
  rcases G with G | G
  ·exact qax (by rw [O,G])
  ·right
   rw [O]
   by_cases J:m=0
   ·subst J;exact absurd (U _ (qaj _)) G
   ·rw [qaa,qbE (by omega),<-qaa];exact G
