/- Ae, part 30: Ht -/
import Derived.Test.YtfminfgabiipjaaGreatDoorAe0
import Derived.Test.YtfminfgabiipjaaGreatDoorAe29
import Derived.Test.YtfminfgabiipjaaGreatDoorAe8
set_option maxRecDepth 100000
set_option maxHeartbeats 16000000
namespace Go.Proofs.YtfminfgabiipjaaGreatDoor
open Go Go.RowKit
theorem qjD {P:Program} {o:Oper} {a:Act} {w:World} {next:Act→World→Prop} {Q:Exit→Act→World→Prop} {f:FuncId} {vs:Array Value} {R:Ending→World→Prop} (he:(execOp a.eval o).run P w=.ok (.enter f vs) w) (hC:Calls P f vs w R)
  (h:∀e w',R e w'→∃v,e=.returned v∧next (a.put o.dst v) w'):o.wp P a w next Q:=by
 unfold Oper.wp
 rw [he,Oper.upon_enter]
 exact hC.mono fun e w' r=>by obtain⟨v,rfl,h⟩:=h e w' r;exact h
theorem rowC {B:Nat} {W1:World} {g:Nat} {cs:Array Value} {t:TypeId} (h:W1.heap[g]? = some (.cells cs t (0,0))) (i:Nat) {x:Value} (hx:cs[i]? = some x:=by rfl) (hg:g<B:=by omega):∀W,Below B W1 W→W.cell? ⟨g,i,none⟩=some x :=
 fun _ hb=>(hb.cell (p:=⟨g,i,none⟩) hg).trans ((cell_of_row _ _ i _ _ _ h).trans hx)
def fl2:List (Nat×(Value→World→Prop))→Nat→Value→World→Prop
 | [],_=>fun _ _=>True
 | (j,p) :: l,i=>if i=j then p else fl2 l i
instance stays_nil {i:Nat} {x:Value}:Stays (fl2 [] i x):=⟨fun _ _=>trivial⟩
instance stays_cons {i j:Nat} {x:Value} {p:Value→World→Prop} {l:List (Nat×(Value→World→Prop))} [hp:∀x,Stays (p x)] [hl:Stays (fl2 l i x)]:Stays (fl2 ((j,p) :: l) i x):=⟨fun {_ _} h hb=>by
 have key:fl2 ((j,p) :: l) i=if i=j then p else fl2 l i:=rfl
 rw [key] at h ⊢
 by_cases e:i=j
 ·rw [if_pos e] at h ⊢;exact (hp x).go h hb
 ·rw [if_neg e] at h ⊢;exact hl.go h hb⟩
instance stays_keep {a:World} {r:Option Nat}:Stays fun W=>a.grownBy W r:=⟨fun h hb=>qce h hb⟩
def ZC (B:Nat) (cs:Array Value) (t:TypeId) (x:Value) (W:World):Prop:=∃g,W.heap[g]? = some (.cells cs t (0,0))∧x=.pointer (some ⟨g,0,none⟩)∧B≤g
instance stays_zc {B:Nat} {cs:Array Value} {t:TypeId} {x:Value}:Stays (ZC B cs t x):=⟨fun⟨g,h1,h2,h3⟩ hb=>⟨g,(hb.block g (qG h1).1).trans h1,h2,h3⟩⟩
theorem ZC.new {B:Nat} {cs:Array Value} {t:TypeId} {w:World} (h:B≤w.heap.size):ZC B cs t (.pointer (some ⟨w.heap.size,0,none⟩)) (w.alloc (.cells cs t))∧Below w.heap.size w (w.alloc (.cells cs t)) :=
 ⟨⟨w.heap.size,qM _ _ _ rfl,rfl,h⟩,qB.alloc qN _⟩
section
variable {P:Program} {ops:Array Oper} {Q:Exit→Act→World→Prop} {md:Region.Mode} {S:World→Prop} {fuel:Nat} {listed:Array Bool} {a a':Act} {w:World} {o:Oper}
theorem hT (i:Nat) {v:Value} (hi':nthOp ops.toList i=some o:=by rfl)
  (hB:(Region.noSelect ops && (Region.free md ops listed i && (Region.ready md ops listed).contains i))=true:=by kernel_rfl) (hQ:∀c a w,Q (.panic c) (a.put o.dst v) w→Q (.panic c) a w:=by exact fun _ _ _ h=>h) (hS:S w:=by assumption)
  (hw:Region.wanted o (yielded ops a.tmps)=true:=by rfl) (hy:∀w,S w→(execOp a.eval o).run P w=.ok (.value v) w:=by (intro w hSw;(try dsimp only at hSw);go_simp <;> with_reducible rfl))
  (hp:a.put o.dst v=a':=by (simp only [Act.put,qac,qae,qaf];with_reducible rfl))
  (h:wpAnyH P md ops Q S fuel (listed.setIfInBounds i true) a' w):wpAnyH P md ops Q S (fuel+1) listed a w :=
 qbC i hi' hB hQ hS hw hy (by rw [hp];exact h)
theorem hC (i:Nat) {f:FuncId} {vs:Array Value} {R:Ending→World→Prop} (hc:Calls P f vs w R) (hi':nthOp ops.toList i=some o:=by rfl) (hr:decide (Region.ready md ops listed=[i])=true:=by kernel_rfl)
  (hw:Region.wanted o (yielded ops a.tmps)=true:=by rfl) (he:(execOp a.eval o).run P w=.ok (.enter f vs) w:=by (go_simp <;> with_reducible rfl))
  (h:∀e w',R e w'→∃v,e=.returned v∧S w'∧wpAnyH P md ops Q S fuel (listed.setIfInBounds i true) (a.put o.dst v) w'):wpAnyH P md ops Q S (fuel+1) listed a w :=
 qcd i hi' hr fun K hK=>by
  rw [if_pos hw]
  refine qjD he hc fun e w' r=>?_
  obtain⟨v,rfl,h1,h2⟩:=h e w' r
  exact⟨v,rfl,hK.on S _ _ (fun _ h=>h) h1 fun _=>h2⟩
theorem hN {d:Option Tmp} {v:Value} (hp:a.put d v=a':=by (simp only [Act.put,qac,qae,qaf];with_reducible rfl)) (h:wpAnyH P md ops Q S fuel listed a' w):wpAnyH P md ops Q S fuel listed (a.put d v) w:=by rw [hp];exact h
theorem wp_val {P:Program} {o:Oper} {a:Act} {w w':World} {next:Act→World→Prop} {Q:Exit→Act→World→Prop} {v:Value} (he:(execOp a.eval o).run P w=.ok (.value v) w') (h:next (a.put o.dst v) w'):o.wp P a w next Q:=by
 unfold Oper.wp
 rw [he,Oper.upon_value]
 exact h
theorem hE (i:Nat) {w':World} {v:Value} (hi':nthOp ops.toList i=some o:=by rfl) (hr:decide (Region.ready md ops listed=[i])=true:=by kernel_rfl) (hw:Region.wanted o (yielded ops a.tmps)=true:=by rfl)
  (he:(execOp a.eval o).run P w=.ok (.value v) w':=by (go_simp <;> first | with_reducible rfl | exact⟨rfl,rfl⟩ | rfl)) (h:S w'∧wpAnyH P md ops Q S fuel (listed.setIfInBounds i true) (a.put o.dst v) w'):wpAnyH P md ops Q S (fuel+1) listed a w :=
 qcd i hi' hr fun K hK=>by
  rw [if_pos hw]
  exact wp_val he (hK.on S _ _ (fun _ h=>h) h.1 fun _=>h.2)
theorem hSn (i:Nat) (n:Nat) {ty:TypeId} {x y:Operand} {g:Nat} {cells old:Array Value} {t:TypeId} (hg:w.heap[g]? = some (.cells old t (0,0))) (hi':nthOp ops.toList i=some o:=by rfl) (hr:decide (Region.ready md ops listed=[i])=true:=by kernel_rfl)
  (hw:Region.wanted o (yielded ops a.tmps)=true:=by rfl) (ho:o.op=.store ty x y:=by rfl) (hd:o.dst=none:=by rfl) (hx:a.eval x=.pointer (some ⟨g,0,none⟩):=by rfl) (hy:a.eval y=.agg cells:=by rfl)
  (hi:(P.info? ty).map (·.size)=some n:=by kernel_rfl) (hold:old.size=n:=by rfl) (hcs:cells.size=n:=by rfl) (h1:cells.toList.all (·.oneCell')=true:=by rfl)
  (h:S (w.setRow g cells)∧wpAnyH P md ops Q S fuel (listed.setIfInBounds i true) a (w.setRow g cells)):wpAnyH P md ops Q S (fuel+1) listed a w :=
 qcd i hi' hr fun K hK=>by
  rw [if_pos hw]
  refine wp_store_row ty x y ho g cells hx hy t old hg (by rw [hcs];exact hi) (by rw [hold,hcs]) (Array.all_eq_true_iff_forall_mem.2 (fun v hv=>qaV.1 h1 v (by simpa using hv))) ?_
  refine hK.on S _ _ (fun _ h=>h) h.1 fun _=>?_
  rw [hd]
  exact h.2
def AllC (p:Nat→Prop):List Nat→Prop
 | []=>True
 | i :: l=>p i∧AllC p l
theorem AllC.get {p:Nat→Prop}:∀{l:List Nat},AllC p l→∀i∈l,p i
 | i :: _,h,j,hj=>by
  rcases qaN.1 hj with rfl | hj
  ·exact h.1
  ·exact AllC.get h.2 j hj
theorem gr (D:List (Nat×Tmp)) (rl:List (Nat×List Nat)) (T C E:List Nat) (n0 N:Nat) (F:Nat→Value→World→Prop) (A:(Nat→Value)→Act) (kl:Nat) {m:Nat} (hm:a.tmps.size=m:=by rfl) (hA:∀v,pf a v D=A v:=by (intro v;simp only [pf,Act.put,qac,qae,qaf];with_reducible rfl))
  (hst:∀i x,Stays (F i x):=by intro i x;infer_instance)
  (hB:(dagB md ops && (decide ((D.map (·.1)).Nodup) && (decide ((D.map (·.2)).Nodup) && (dstB ops D (T++(List.range ops.size).filter fun k=>decide (n0≤k)) && ((D.all fun p=>decide (D.lookup p.1=some p.2) && decide (p.2<m)) && (decide (listed.size=ops.size) && (decide (leftN ops.size (fun k=>listed.getD k false)≤fuel) &&
   (growB md ops rl T n0 && (decide (n0<ops.size) && (decide (leftN ops.size (fun i=>decide (i<n0))=kl) && (decide (listed=arr ops.size fun k=>T.contains k) && ((T.all fun k=>decide (k<n0)) && ((T.all fun k=>((nthOp ops.toList k).map fun o=>(waits md o).all fun j=>T.contains j).getD false) && (decide (arr N (fun i=>decide (i<n0))=arr ops.size fun i=>decide (i<n0)) && ((List.range n0).all (fun i=>T.contains i || C.contains i) && E.all fun i=>decide (i<n0) && !T.contains i)))))))))))))))=true:=by kernel_rfl)
  (hS:∀w',Below w.heap.size w w'→S w')
  (hstep:AllC (fun i=>∃o,nthOp ops.toList i=some o∧∀(v:Nat→Value) (w':World),Below w.heap.size w w'→AllC (fun k=>F k (v k) w') (dep rl i)→∀K,Grows F E i w' (A v) o.dst K→if Region.wanted o (yielded ops (A v).tmps)=true then Oper.wp P o (A v) w' K Q else K ((A v).put o.dst undef) w') C)
  (hend:∀(v:Nat→Value) (w':World),Below w.heap.size w w'→(∀i,i<n0→i∉T→F i (v i) w')→(∀i∈E,∀j∈E,i≠j→pv (v i)≠pv (v j))→∀f,wpAnyH P md ops Q S (f+kl) (arr N fun i=>decide (i<n0)) (A v) w'):wpAnyH P md ops Q S fuel listed a w:=by
 refine qh7 D rl T C E n0 F kl m (arr N fun i=>decide (i<n0)) hm hst hB hS (fun i hi o ho v w' hb hF B hB K hK=>?_) fun v w' hb hF hE B hB f=>?_
 ·obtain⟨p,hp,h⟩:=hstep.get i hi
  rw [hp] at ho
  cases ho
  rw [hA] at hB
  subst hB
  refine h v w' hb ?_ K hK
  generalize dep rl i=l at hF
  clear h hp hK
  induction l with
  | nil=>exact trivial
  | cons k l ih=>exact⟨hF k (List.mem_cons_self ..),ih fun j hj=>hF j (List.mem_cons_of_mem _ hj)⟩
 ·rw [hA] at hB
  subst hB
  exact hend v w' hb hF hE f
theorem gC {F:Nat→Value→World→Prop} {E:List Nat} {i:Nat} {K:Act→World→Prop} (hK:Grows F E i w a o.dst K) {f:FuncId} {vs:Array Value} {R:Ending→World→Prop} (hc:Calls P f vs w R) (hw:Region.wanted o (yielded ops a.tmps)=true:=by rfl) (he:(execOp a.eval o).run P w=.ok (.enter f vs) w:=by (go_simp <;> with_reducible rfl))
  (hE:E.contains i=false:=by rfl) (h:∀e w',R e w'→∃v,e=.returned v∧F i v w'∧Below w.heap.size w w'):if Region.wanted o (yielded ops a.tmps)=true then Oper.wp P o a w K Q else K (a.put o.dst undef) w:=by
 rw [if_pos hw]
 exact qjD he hc fun e w' r=>by obtain⟨v,rfl,h1,h2⟩:=h e w' r;exact⟨v,rfl,hK.to _ _ _ rfl h1 (fun h=>by rw [hE] at h;cases h) h2⟩
theorem gW {F:Nat→Value→World→Prop} {E:List Nat} {i:Nat} {K:Act→World→Prop} (hK:Grows F E i w a o.dst K) {v:Value} {w':World} (hw:Region.wanted o (yielded ops a.tmps)=true:=by rfl) (he:(execOp a.eval o).run P w=.ok (.value v) w':=by (go_simp <;> first | with_reducible rfl | exact⟨rfl,rfl⟩ | rfl))
  (hE:E.contains i=true→w.heap.size≤pv v∧pv v<w'.heap.size:=by exact fun _=>⟨qah _,by rw [qab];exact Nat.lt_succ_self _⟩) (h:F i v w'∧Below w.heap.size w w'):if Region.wanted o (yielded ops a.tmps)=true then Oper.wp P o a w K Q else K (a.put o.dst undef) w:=by
 rw [if_pos hw]
 unfold Oper.wp
 rw [he,Oper.upon_value]
 exact hK.to _ _ _ rfl h.1 hE h.2
theorem gV {F:Nat→Value→World→Prop} {E:List Nat} {i:Nat} {K:Act→World→Prop} (hK:Grows F E i w a o.dst K) {v:Value} (hF:F i v w) (hw:Region.wanted o (yielded ops a.tmps)=true:=by rfl) (he:(execOp a.eval o).run P w=.ok (.value v) w:=by (go_simp <;> with_reducible rfl)) (hE:E.contains i=false:=by rfl) :
  if Region.wanted o (yielded ops a.tmps)=true then Oper.wp P o a w K Q else K (a.put o.dst undef) w:=by
 rw [if_pos hw]
 exact wp_val he (hK.to _ _ _ rfl hF (fun h=>by rw [hE] at h;cases h) qB)
end
end Go.Proofs.YtfminfgabiipjaaGreatDoor
