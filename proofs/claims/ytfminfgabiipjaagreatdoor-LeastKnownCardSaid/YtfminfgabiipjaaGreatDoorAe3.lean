/- Ae, part 3: Kit Iv -/
import Derived.BigQuiet
import Derived.Deep.MidRow
import Derived.Deep.QuietTactic
import Derived.Deep.WholeRow
import Derived.Laws.EntriesVeiled
import Derived.Laws.ResultCell
import Derived.Laws.Rows
import Derived.Lib.Hide
import Derived.Outline
import Derived.Test.YtfminfgabiipjaaGreatDoorAe0
import Derived.WalkKit
import Derived.WalkLawsBesides
import Derived.WalkSpells
set_option maxRecDepth 100000
set_option maxHeartbeats 16000000
namespace Go.Proofs.YtfminfgabiipjaaGreatDoor
open Go.RowKit
section
variable {P:Program}
theorem wpList_store_row {ops:Array Oper} {rest:List Oper} {op:Oper} {a:Act} {w:World} {Q:Exit→Act→World→Prop} (hgd:op.guard=none) (ty:TypeId) (x y:Operand) (ho:op.op=.store ty x y)
  (g:Nat) (cells:Array Value) (hx:a.eval x=.pointer (some ⟨g,0,none⟩)) (hy:a.eval y=.agg cells)
  (t:TypeId) (old:Array Value) (hg:w.heap[g]? = some (.cells old t (0,0))) (n:Nat) (hi:(P.info? ty).map (·.size)=some n)
  (hold:old.size=n) (hcs:cells.size=n) (h1:cells.toList.all (·.oneCell')=true)
  (h:wpList P ops Q rest (a.put op.dst undef) (w.setRow g cells)):wpList P ops Q (op :: rest) a w :=
 wpList_plain hgd fun _ hK=>wp_store_row ty x y ho g cells hx hy t old hg (by rw [hcs];exact hi) (by rw [hold,hcs]) (Array.all_eq_true_iff_forall_mem.2 (fun v hv=>qaV.1 h1 v (by simpa using hv))) (hK _ _ h)
end
theorem below_setRow {B:Nat} {a w:World} (h:Below B a w) {g:Nat} (hg:B≤g) (cs:Array Value):Below B a (w.setRow g cs) :=
 h.trans ⟨rfl,rfl,rfl,by simp [World.setRow],fun k hk=>by
  simp only [World.setRow,Array.getElem?_modify]
  rw [if_neg (by omega)]⟩
theorem qM (w:World) (o:Obj) (n:Nat) (h:w.heap.size=n):(w.alloc o).heap[n]? = some o:=by
 subst h;exact heap_alloc_new w o
theorem qL (w:World) (o:Obj) (n:Nat) (h:n<w.heap.size):(w.alloc o).heap[n]? = w.heap[n]?:=by show (w.heap.push o)[n]? = w.heap[n]?;rw [Array.getElem?_push,if_neg (Nat.ne_of_lt h)]
theorem qfP {P:Program} {f:FuncId} {args:Array Value} {w:World} {n:Nat} {v:Value}
  (h:Calls P f args (w.drewN n) fun e w'=>e=.returned v∧w.drewN n=w'):Calls P f args (w.drewN n) fun e w''=>e=.returned v∧∃m,w''=w.drewN m :=
 h.mono fun _ _ ⟨he,hm⟩=>⟨he,n,hm.symm⟩
theorem qbE {P:Program} {fn:Func} {p:Tmp} {ty:TypeId} (h:fn.results=#[.cell p ty]) (tmps:Array Value) (w:World) (g:Nat) (t:TypeId) (cs:Array Value) (d:TypeDesc)
  (hp:tmps.getD p undef=.pointer (some ⟨g,0,none⟩)) (hg:w.heap[g]? = some (.cells cs t (0,0)))
  (hu:P.underlying ty=some d) (hd:(match d with | .struct _ | .array _ _=>true | _=>false)=true) (n:Nat) (hi:(P.info? ty).map (·.size)=some n) (hcs:cs.size=n) :
  (results fn tmps).run P w=.ok (.agg cs) w :=
 results_cell_row h tmps w g t cs (0,0) d hp hg hu hd (by rw [hcs];exact hi)
theorem qbA {P:Program} {fn:Func} {p q:Tmp} {ty:TypeId} (h:fn.results=#[.cell p ty,.tmp q]) (tmps:Array Value) (w:World) (g:Nat) (t:TypeId) (cs:Array Value) (d:TypeDesc)
  (hp:tmps.getD p undef=.pointer (some ⟨g,0,none⟩)) (hg:w.heap[g]? = some (.cells cs t (0,0)))
  (hu:P.underlying ty=some d) (hd:(match d with | .struct _ | .array _ _=>true | _=>false)=true) (n:Nat) (hi:(P.info? ty).map (·.size)=some n) (hcs:cs.size=n) (v2:Value) (hq:tmps.getD q undef=v2) :
  (results fn tmps).run P w=.ok (.tuple #[.agg cs,v2]) w:=by
 rw [results_cell_tmp h,hp,hq]
 simp [asAddr,run_loadVar_row w g t ty cs (0,0) d hg hu hd (by rw [hcs];exact hi),Result.andThen]
theorem undrew {B:Nat} {w w':World} (h:Below B w.drew w'):Below B w w':=((Below.refl B w).drew).trans h
theorem bcell {B:Nat} {W w1:World} (hb:Below B W w1):(∀b o,b<B→w1.cell? ⟨b,o,none⟩=W.cell? ⟨b,o,none⟩)∧(∀b o,b<B→w1.frozen? ⟨b,o,none⟩=W.frozen? ⟨b,o,none⟩) :=
 ⟨fun b o h=>hb.cell (p:=⟨b,o,none⟩) h,fun b o h=>hb.frozen (p:=⟨b,o,none⟩) h⟩
def Iv (w W:World) (L:List (Nat×Array Value×TypeId)):Prop:=Below w.heap.size w W∧∀x∈L,W.heap[x.1]? = some (.cells x.2.1 x.2.2 (0,0))
theorem Iv.start (w:World):Iv w w []:=⟨Below.refl _ _,fun x hx=>by cases hx⟩
theorem Iv.below {w W:World} {L:List (Nat×Array Value×TypeId)} (h:Iv w W L):Below w.heap.size w W:=h.1
theorem Iv.get {w W:World} {L:List (Nat×Array Value×TypeId)} (h:Iv w W L) (i:Nat) {b:Nat} {cs:Array Value} {t:TypeId} (hx:L[i]? = some (b,cs,t)):W.heap[b]? = some (.cells cs t (0,0)) :=
 h.2 _ (List.mem_of_getElem? hx)
theorem Iv.lt {w W:World} {L:List (Nat×Array Value×TypeId)} (h:Iv w W L) (i:Nat) {b:Nat} {cs:Array Value} {t:TypeId} (hx:L[i]? = some (b,cs,t)):b<W.heap.size :=
 (qG (h.get i hx)).1
theorem Iv.call {w W W':World} {L:List (Nat×Array Value×TypeId)} (h:Iv w W L) (hb:Below W.heap.size W W'):Iv w W' L :=
 ⟨h.1.trans (hb.mono h.1.size),fun x hx=>(hb.block _ (qG (h.2 x hx)).1).trans (h.2 x hx)⟩
theorem Iv.forget {w W:World} {L:List (Nat×Array Value×TypeId)} (h:Iv w W L) (o:Obj):Iv w (W.alloc o) L :=
 h.call (qB.alloc qN _)
theorem Iv.new {w W:World} {L:List (Nat×Array Value×TypeId)} (h:Iv w W L) (cs:Array Value) (t:TypeId):Iv w (W.alloc (.cells cs t)) ((W.heap.size,cs,t) :: L) :=
 ⟨(h.forget _).1,fun x hx=>by
  rcases qaN.1 hx with rfl | hx
  ·exact qM _ _ _ rfl
  ·exact (h.forget _).2 x hx⟩
theorem Iv.drew {w W:World} {L:List (Nat×Array Value×TypeId)} (h:Iv w W L):Iv w W.drew L:=⟨h.1.drew,h.2⟩
theorem Iv.drewN {w W:World} {L:List (Nat×Array Value×TypeId)} (h:Iv w W L) (n:Nat):Iv w (W.drewN n) L:=⟨below_drewN h.1 n,h.2⟩
theorem Iv.cell {w W:World} {L:List (Nat×Array Value×TypeId)} (h:Iv w W L) (i:Nat) {b:Nat} {cs:Array Value} {t:TypeId} (hx:L[i]? = some (b,cs,t)) (j:Nat) {v:Value} (hv:cs[j]? = some v):W.cell? ⟨b,j,none⟩=some v :=
 (cell_of_row _ _ _ _ _ _ (h.get i hx)).trans hv
theorem Iv.free {w W:World} {L:List (Nat×Array Value×TypeId)} (h:Iv w W L) (i:Nat) {b:Nat} {cs:Array Value} {t:TypeId} (hx:L[i]? = some (b,cs,t)) (j:Nat):W.frozen? ⟨b,j,none⟩=false :=
 frozen_of_row _ _ _ _ _ (h.get i hx)
theorem Iv.set {w W:World} {L:List (Nat×Array Value×TypeId)} {b:Nat} {cs:Array Value} {t:TypeId} (h:Iv w W ((b,cs,t) :: L)) (hb:w.heap.size≤b) (hn:∀x∈L,x.1≠b) (j:Nat) (v:Value):Iv w (W.setCell ⟨b,j,none⟩ v) ((b,cs.setIfInBounds j v,t) :: L) :=
 ⟨h.1.setCell (by show w.heap.size≤b;exact hb) _,fun x hx=>by
  rcases qaN.1 hx with rfl | hx
  ·exact heap_setCell_same _ _ j _ t v (h.get 0 rfl)
  ·exact (Below.heap_setCell _ _ _ _ (hn x hx)).trans (h.2 x (List.mem_cons_of_mem _ hx))⟩
theorem Iv.row {w W:World} {L:List (Nat×Array Value×TypeId)} {b:Nat} {cs:Array Value} {t:TypeId} (h:Iv w W ((b,cs,t) :: L)) (hb:w.heap.size≤b) (hn:∀x∈L,x.1≠b) (cs':Array Value):Iv w (W.setRow b cs') ((b,cs',t) :: L) :=
 ⟨below_setRow h.1 hb _,fun x hx=>by
  rcases qaN.1 hx with rfl | hx
  ·exact setRow_heap _ _ _ _ _ _ (h.get 0 rfl)
  ·exact (setRow_other _ _ _ _ (hn x hx)).trans (h.2 x (List.mem_cons_of_mem _ hx))⟩
end Go.Proofs.YtfminfgabiipjaaGreatDoor
