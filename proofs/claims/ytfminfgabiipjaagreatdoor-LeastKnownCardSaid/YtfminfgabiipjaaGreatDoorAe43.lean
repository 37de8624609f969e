/- Ae, part 43: Le0 Lk0 Kn2 Kn1 Lw0 Lw1 Kn3 -/
import Derived.Deep.RegionHeld3
import Derived.Lib.AppendZeros
import Derived.LoopN
import Derived.Test.YtfminfgabiipjaaGreatDoorAe0
import Derived.Test.YtfminfgabiipjaaGreatDoorAe14
import Derived.Test.YtfminfgabiipjaaGreatDoorAe24
import Derived.Test.YtfminfgabiipjaaGreatDoorAe28
import Derived.Test.YtfminfgabiipjaaGreatDoorAe29
import Derived.Test.YtfminfgabiipjaaGreatDoorAe30
import Derived.Test.YtfminfgabiipjaaGreatDoorAe40
import Derived.Test.YtfminfgabiipjaaGreatDoorAe42
import Derived.Test.YtfminfgabiipjaaGreatDoorAe6
set_option maxRecDepth 100000
set_option maxHeartbeats 16000000
namespace Go.Proofs.YtfminfgabiipjaaGreatDoor
open Go.RowKit
def qiv (n:Nat) (F:Nat→Nat→Rat) (B:Nat→Rat) (W:World) (ao:Option Addr) (m:Nat) (c:Int):Prop :=
 (Sing n F∧ao=none∧m=0∧c=7)∨(¬Sing n F∧∃x g,qb6 n F B x∧qbw n x∧ao=some ⟨g,0,none⟩∧m=n∧c=0∧FCells W (some ⟨g,0,none⟩) g 0 (told n x))
theorem qiv.below {n:Nat} {F:Nat→Nat→Rat} {B:Nat→Rat} {W W':World} {ao:Option Addr} {m:Nat} {c:Int} (h:qiv n F B W ao m c) (hb:Below W.heap.size W W'):qiv n F B W' ao m c:=by
 rcases h with h | ⟨h,x,g,h1,h2,h3,h4,h5,h6⟩
 ·exact qaJ h
 ·exact qaA ⟨h,x,g,h1,h2,h3,h4,h5,h6.below hb⟩
theorem qcq.put {W:World} {vs:List Value} {t:Tbl} (h:qcq W vs t) {i m:Nat} {l:List FT} {ra:Option Addr} {rb ro rc:Nat} (hl:l.length=m) (hf:FCells W ra rb ro l):qcq W (vs.set i (.slice ra m rc)) (t.set i l) :=
 ⟨by rw [qaT,qaT,h.1],fun k hk=>by
  rw [qaT] at hk
  by_cases e:k=i
  ·subst e
   refine⟨ra,rb,ro,rc,?_,?_⟩
   ·rw [qaa,List.getElem?_set_self (by rw [h.1];exact hk),qaa,List.getElem?_set_self hk,←hl];rfl
   ·rw [qaa,List.getElem?_set_self hk];exact hf
  ·obtain⟨ra',rb',ro',rc',h1,h2⟩:=h.2 k hk
   refine⟨ra',rb',ro',rc',?_,?_⟩
   ·rw [qaa,List.getElem?_set_ne (by omega),←qaa,h1,qaa,qaa,List.getElem?_set_ne (by omega)]
   ·rw [qaa,List.getElem?_set_ne (by omega),←qaa];exact h2⟩
theorem reps_get {k j:Nat} (hj:j<k) (v:Value):(reps k [v])[j]? = some v:=by
 have:reps k [v]=List.replicate k v:=by
  unfold reps
  induction k with
  | zero=>rfl
  | succ k ih =>
   rw [qaP,List.flatten_cons,qaP]
   rcases qa2 j k with h | h
   ·rw [ih h];rfl
   ·clear ih hj h
    congr 1
    induction k with
    | zero=>rfl
    | succ k ih=>rw [qaP,List.flatten_cons,qaP,ih];rfl
 rw [this,qa8,if_pos hj]
theorem qij (k:Nat) (x:FT):reps k [.string x.1,.string x.2]=fflat (List.replicate k x):=by
 induction k with
 | zero=>rfl
 | succ k ih =>
  unfold reps at *
  rw [qaP,List.flatten_cons,ih,qaP];rfl
theorem qfS (n:Nat) (q:Rat):told n (fun _=>q)=List.replicate n (ftxt q):=by
 unfold told
 apply List.ext_getElem?
 intro i
 rw [qaO]
 by_cases h:i<n
 ·rw [qbh h,qa8,if_pos h];rfl
 ·rw [qaX (by rw [List.length_range];omega),qaX (by rw [qaY];omega)];rfl
theorem fv_one:told 1 (fv [(1:Rat)])=told 1 fun _=>1:=qeB fun i hi=>by
 obtain rfl:i=0:=by omega
 rfl
theorem ones_any {w:World} {g c:Nat} (hF:FCells w (some ⟨g,0,none⟩) g 0 (told 1 (fv [(1:Rat)]))) :
  Calls Tryz.prog 33 #[.slice (some ⟨g,0,none⟩) 1 c,.int .i64 40] w fun e w'=>∃gn,e=.returned (.slice (some ⟨gn,0,none⟩) 40 40)∧FCells w' (some ⟨gn,0,none⟩) gn 0 (told 40 fun _=>1)∧Below w.heap.size w w':=by
 rw [fv_one,qfS] at hF
 refine (qgM g 0 c [.string (ftxt 1).1,.string (ftxt 1).2] w rfl (fun v hv=>?_) (hF.src)).mono ?_
 ·rcases qaN.1 hv with rfl | hv
  ·rfl
  ·rw [qao.1 hv];rfl
 rintro e w' ⟨gn,rfl,hr,hb⟩
 rw [qij] at hr
 refine⟨gn,rfl,?_,hb⟩
 rw [qfS]
 exact FCells.ofRow hr
theorem tall_any {w:World} {g c:Nat} (hT:TCells w (some ⟨g,0,none⟩) g 0 [told 1 (fv [(1:Rat)])]) :
  Calls Tryz.prog 31 #[.slice (some ⟨g,0,none⟩) 1 c,.int .i64 40] w fun e w'=>∃gn,e=.returned (.slice (some ⟨gn,0,none⟩) 40 40)∧TCells w' (some ⟨gn,0,none⟩) gn 0 (ttab 40 1 fun _ _=>1)∧Below w.heap.size w w':=by
 obtain⟨ra,rb,ro,rc,h1,h2⟩:=hT.row 0 (by decide)
 have h1:w.cell? ⟨g,0,none⟩=some (.slice ra 1 rc):=h1
 have h2:FCells w ra rb ro (told 1 (fv [(1:Rat)])):=h2
 rw [fv_one] at h2
 refine (qhd g 0 c [.slice ra 1 rc] w rfl (fun v hv=>?_) (fun j v hj=>?_)).mono ?_
 ·rw [qao.1 hv];rfl
 ·obtain rfl:j=0:=by have:=(qa3.1 hj).1;simp at this;omega
  rw [Addr.add_mid,qaW]
  rw [←hj,h1];rfl
 rintro e w' ⟨gn,rfl,hr,hb⟩
 refine⟨gn,rfl,⟨fun _=>rfl,fun k hk=>?_⟩,hb⟩
 rw [qbI] at hk
 refine⟨ra,rb,ro,rc,?_,?_⟩
 ·rw [qdI hk,qbo,qaW]
  exact (cell_of_row _ _ k _ _ _ hr).trans ((qas ..).trans (reps_get hk _))
 ·rw [qdI hk];exact h2.below hb
section
variable {w:World}
theorem qg7 {g n b off m c k:Nat} {l l2:List FT} (hF:FCells w (some ⟨g,0,none⟩) g 0 l) (hl:l.length=n) (hF2:FCells w (some ⟨b,off,none⟩) b off l2) (hm:l2.length=m) (hm0:0<m) (hk:n+m=k) (hn:k≤1000) :
  ∃gn cn w',(Builtin.append_ #[23,23] 23 #[.slice (some ⟨g,0,none⟩) n n,.slice (some ⟨b,off,none⟩) m c]).run Tryz.prog w=.ok (.slice (some ⟨gn,0,none⟩) k cn) w'∧FCells w' (some ⟨gn,0,none⟩) gn 0 (l++l2)∧Below w.heap.size w w':=by
 subst hk
 obtain⟨i0,hi,hz0,hz1,hz2⟩:=info_parts infoF
 have hr:=run_append_grow (P:=Tryz.prog) w 23 23 46 i0 _ Tryz.underlying23 hi hz0 ⟨g,0,none⟩ n n (fflat l) (by rw [hz1,qbW,hl]) hF.src ⟨b,off,none⟩ m c (fflat l2) (by rw [hz1,qbW,hm]) hF2.src (by omega) (by omega) (growslice_fits (by omega) (by rw [hz2];omega))
 obtain⟨wN,hwN⟩:∃W,W=w.drew.alloc (.cells ((fflat l).toArray++(fflat l2).toArray++Builtin.zeroCells (Value.cells (.agg #[.string ⟨#[]⟩,.string ⟨#[]⟩])) (grownCap w (n+m) n 46-(n+m))) 46):=⟨_,rfl⟩
 rw [←hwN] at hr
 have hg:wN.heap[w.heap.size]? = some (.cells ((fflat l++fflat l2).toArray++Builtin.zeroCells (Value.cells (.agg #[.string ⟨#[]⟩,.string ⟨#[]⟩])) (grownCap w (n+m) n 46-(n+m))) 46 (0,0)):=by
  have h:=heap_alloc_new w.drew
  rw [hwN]
  refine (h _).trans ?_
  simp
 have hb:Below w.heap.size w wN:=hwN▸qbp qB.drew qN
 clear hwN
 refine⟨_,_,wN,hr,⟨fun _=>rfl,fun k hk=>?_⟩,hb⟩
 obtain⟨h1,h2⟩:=qdA (l++l2) k _ (getD_some hk)
 rw [qc4] at h1 h2
 have h3:k*2+1<(fflat l++fflat l2).length:=(qa3.1 h2).1
 rw [qaW]
 exact⟨(cell_of_row _ _ _ _ _ _ hg).trans ((Array.getElem?_append_left (by rw [List.size_toArray];omega)).trans ((qas ..).trans h1)),(cell_of_row _ _ _ _ _ _ hg).trans ((Array.getElem?_append_left (by rw [List.size_toArray];exact h3)).trans ((qas ..).trans h2))⟩
theorem qh6 {g n b c k:Nat} {t:Tbl} {l:List FT} {ra:Option Addr} {rb ro m rc:Nat} (hT:TCells w (some ⟨g,0,none⟩) g 0 t) (hl:t.length=n) (hc:w.cell? ⟨b,0,none⟩=some (.slice ra m rc)) (hF2:FCells w ra rb ro l) (hm:l.length=m) (hk:n+1=k) (hn:k≤1000) :
  ∃gn cn w',(Builtin.append_ #[22,22] 22 #[.slice (some ⟨g,0,none⟩) n n,.slice (some ⟨b,0,none⟩) 1 c]).run Tryz.prog w=.ok (.slice (some ⟨gn,0,none⟩) k cn) w'∧TCells w' (some ⟨gn,0,none⟩) gn 0 (t++[l])∧Below w.heap.size w w':=by
 subst hk
 obtain⟨i0,hi,hz0,hz1,hz2⟩:=info_parts infoFs
 obtain⟨vs,hv,hvc⟩:=hT.vals
 have hvl:vs.length=n:=by rw [hv.1,hl]
 have hr:=run_append_grow (P:=Tryz.prog) w 22 22 23 i0 _ Tryz.underlying22 hi hz0 ⟨g,0,none⟩ n n vs (by rw [hz1,hvl,Nat.mul_one]) (fun j u hj=>by
  rw [Addr.add_mid]
  have hjl:=(qa3.1 hj).1
  rw [hvc.cell j hjl,qaa,hj];rfl) ⟨b,0,none⟩ 1 c [Value.slice ra m rc] (by rw [hz1];rfl) (fun j u hj=>by
  obtain rfl:j=0:=by have:=(qa3.1 hj).1;simp at this;omega
  rw [Addr.add_mid,qaW,←hj,hc];rfl) (by omega) (by omega) (growslice_fits (by omega) (by rw [hz2];omega))
 obtain⟨wN,hwN⟩:∃W,W=w.drew.alloc (.cells (vs.toArray++[Value.slice ra m rc].toArray++Builtin.zeroCells (Value.cells (.slice none 0 0)) (grownCap w (n+1) n 23-(n+1))) 23):=⟨_,rfl⟩
 rw [←hwN] at hr
 have hg:wN.heap[w.heap.size]? = some (.cells ((vs++[Value.slice ra m rc]).toArray++Builtin.zeroCells (Value.cells (.slice none 0 0)) (grownCap w (n+1) n 23-(n+1))) 23 (0,0)):=by
  have h:=heap_alloc_new w.drew
  rw [hwN]
  refine (h _).trans ?_
  simp
 have hb:Below w.heap.size w wN:=hwN▸qbp qB.drew qN
 clear hwN
 refine⟨_,_,wN,hr,((hv.below hb).append (qcq.one (rc:=rc) hm (hF2.below hb))).tcells ⟨fun _=>rfl,fun k hk=>?_⟩,hb⟩
 rw [qaW]
 refine (cell_of_row _ _ _ _ _ _ hg).trans ((Array.getElem?_append_left (by rw [List.size_toArray];exact hk)).trans ((qas ..).trans ?_))
 rw [qaa,qai hk];rfl
theorem qeC {ops:Array Oper} {rest:List Oper} {o:Oper} {a:Act} {Q:Exit→Act→World→Prop} (s x:Operand) (ho:o.op=.call { callee:=.builtin .append,args:=#[s,x],argTypes:=#[23,23] }) (hty:o.type=23) (hgd:Region.wanted o (yielded ops a.tmps)=true)
  {g n b off m c k:Nat} {l l2:List FT} (hs:a.eval s=.slice (some ⟨g,0,none⟩) n n) (hx:a.eval x=.slice (some ⟨b,off,none⟩) m c) (hF:FCells w (some ⟨g,0,none⟩) g 0 l) (hl:l.length=n) (hF2:FCells w (some ⟨b,off,none⟩) b off l2) (hm:l2.length=m) (hm0:0<m) (hk:n+m=k) (hn:k≤1000)
  (h:∀gn cn w',FCells w' (some ⟨gn,0,none⟩) gn 0 (l++l2)→Below w.heap.size w w'→wpList Tryz.prog ops Q rest (a.put o.dst (.slice (some ⟨gn,0,none⟩) k cn)) w'):wpList Tryz.prog ops Q (o :: rest) a w:=by
 obtain⟨gn,cn,w',hr,hf,hb⟩:=qg7 (c:=c) hF hl hF2 hm hm0 hk hn
 refine wpList_step fun K hK=>?_
 rw [hgd,if_pos rfl]
 unfold Oper.wp execOp
 rw [hty]
 simp only [ho,resolve,invoke,builtin,Sem.run_bind,Sem.run_pure,Result.andThen_ok,List.map_toArray,qan,qaq,hs,hx,hr]
 exact hK _ _ (h _ _ _ hf hb)
theorem qeQ {ops:Array Oper} {rest:List Oper} {o:Oper} {a:Act} {Q:Exit→Act→World→Prop} (s x:Operand) (ho:o.op=.call { callee:=.builtin .append,args:=#[s,x],argTypes:=#[22,22] }) (hty:o.type=22) (hgd:Region.wanted o (yielded ops a.tmps)=true)
  {g n b c k:Nat} {t:Tbl} {l:List FT} {ra:Option Addr} {rb ro m rc:Nat} (hs:a.eval s=.slice (some ⟨g,0,none⟩) n n) (hx:a.eval x=.slice (some ⟨b,0,none⟩) 1 c) (hT:TCells w (some ⟨g,0,none⟩) g 0 t) (hl:t.length=n) (hc:w.cell? ⟨b,0,none⟩=some (.slice ra m rc)) (hF2:FCells w ra rb ro l) (hm:l.length=m) (hk:n+1=k) (hn:k≤1000)
  (h:∀gn cn w',TCells w' (some ⟨gn,0,none⟩) gn 0 (t++[l])→Below w.heap.size w w'→wpList Tryz.prog ops Q rest (a.put o.dst (.slice (some ⟨gn,0,none⟩) k cn)) w'):wpList Tryz.prog ops Q (o :: rest) a w:=by
 obtain⟨gn,cn,w',hr,hf,hb⟩:=qh6 (c:=c) hT hl hc hF2 hm hk hn
 refine wpList_step fun K hK=>?_
 rw [hgd,if_pos rfl]
 unfold Oper.wp execOp
 rw [hty]
 simp only [ho,resolve,invoke,builtin,Sem.run_bind,Sem.run_pure,Result.andThen_ok,List.map_toArray,qan,qaq,hs,hx,hr]
 exact hK _ _ (h _ _ _ hf hb)
end
theorem nil_not:¬TOk [[]]:=fun h=>absurd h.c1 (by decide)
theorem many_not {t:Tbl} (h:40<t.length):¬TOk t:=fun k=>absurd k.r2 (by omega)
theorem wide_not {l:List FT} (h:10<l.length):¬TOk [l]:=fun k=>absurd (show l.length≤10 from k.c2) (by omega)
theorem qiy {W:World} {g:Nat} (h:W.heap[g]? = some (.cells #[.string ⟨#[]⟩,.string ⟨#[]⟩] 46 (0,0))):FCells W (some ⟨g,0,none⟩) g 0 [fd0] :=
 ⟨fun _=>rfl,fun k hk=>by
  obtain rfl:k=0:=by simp at hk;omega
  exact⟨cell_of_row _ _ 0 _ _ _ h,cell_of_row _ _ 1 _ _ _ h⟩⟩
theorem qb5 {l:List FT} {n:Nat} (h:l.length=n:=by first | exact qbo _ _ | rfl) (hn:n≤1000:=by decide):∀k,k<1→(([l]:Tbl).getD k []).length≤1000:=fun k hk=>by
 obtain rfl:k=0:=by omega
 show l.length≤1000
 omega
theorem wide_ok:TOk [told 10 (fv [(1:Rat),0,0,0,0,0,0,0,0,0])]:=qc2 (n:=1) (f:=fm [[1,0,0,0,0,0,0,0,0,0]]) (by decide) (by decide) (by decide) (by decide) (qby (by decide +kernel))
theorem qgV:∀k,k<40→((ttab 40 1 fun _ _=>1).getD k []).length≤1000:=fun k hk=>by rw [qdI hk,qbo];decide
theorem tall_ok:TOk (ttab 40 1 fun _ _=>1):=qc2 (by decide) (by decide) (by decide) (by decide) (qby (by decide +kernel))
theorem q_wide (W:World):Calls Tryz.prog 30 #[.slice (some ⟨W.heap.size,0,none⟩) 10 10] (W.alloc (.cells #[.string ⟨#[49]⟩,.string ⟨#[48]⟩,.string ⟨#[48]⟩,.string ⟨#[48]⟩,.string ⟨#[48]⟩,.string ⟨#[48]⟩,.string ⟨#[48]⟩,.string ⟨#[48]⟩,.string ⟨#[48]⟩,.string ⟨#[48]⟩] 9)) fun e w'=>∃(g c:Nat),e=.returned (.slice (some ⟨g,0,none⟩) 10 c)∧FCells w' (some ⟨g,0,none⟩) g 0 (told 10 (fv [(1:Rat),0,0,0,0,0,0,0,0,0]))∧10≤c∧Below W.heap.size W w':=by
 refine (q_any W.heap.size 10 10 [⟨#[49]⟩,⟨#[48]⟩,⟨#[48]⟩,⟨#[48]⟩,⟨#[48]⟩,⟨#[48]⟩,⟨#[48]⟩,⟨#[48]⟩,⟨#[48]⟩,⟨#[48]⟩] _ rfl (by decide) (SCells.row (heap_alloc_new W _)) (qem (by decide))).mono ?_
 rintro e w' ⟨ao,g,c,rfl,hf,hc,hb⟩
 rw [qe2 (l:=[(1:Rat),0,0,0,0,0,0,0,0,0]) 10 rfl (by simp only [qan,qaq,ft_0,ft_1];decide +kernel)] at hf
 have ha:=hf.addr (by rw [qbo];decide)
 subst ha
 exact⟨g,c,rfl,hf,hc,qer hb⟩
theorem q_5 (W:World) :
  Calls Tryz.prog 30 #[.slice (some ⟨W.heap.size,0,none⟩) 1 1] (W.alloc (.cells #[.string ⟨#[53]⟩] 9)) fun e w'=>∃(ao:Option Addr) (g c:Nat),e=.returned (.slice ao 1 c)∧FCells w' ao g 0 (told 1 (fv [(5:Rat)]))∧Below W.heap.size W w' :=
 q_lit W [⟨#[53]⟩] [(5:Rat)] 1 rfl rfl (by decide) (by simp only [qan,qaq,ft_5];decide +kernel) (by decide)
theorem kx_zero {ao:Option Addr} {g c:Nat} {ao2:Option Addr} {g2 c2:Nat} {w:World} (hT:TCells w ao g 0 (ttab 1 1 (fm [[(0:Rat)]]))) (hF:FCells w ao2 g2 0 (told 1 (fv [(0:Rat)]))) (hP:HasT w) :
  Calls Tryz.prog 18 #[.slice ao 1 c,.slice ao2 1 c2] w fun e w'=>e=.returned (.tuple #[.slice none 0 0,.int .i64 7])∧Below w.heap.size w w' :=
 (qdh (by decide) (by decide) (qby (by decide +kernel)) (qbr (by decide +kernel)) hT hF hP).mono fun _ _ h=>⟨h.1.sing ⟨(fv [(1:Rat)]),⟨0,by decide,(by decide +kernel)⟩,show ∀i,i<1→_ from (by decide +kernel)⟩,h.2⟩
theorem kx_half {ao:Option Addr} {g c:Nat} {ao2:Option Addr} {g2 c2:Nat} {w:World} (hT:TCells w ao g 0 (ttab 1 1 (fm [[(2 / 3:Rat)]]))) (hF:FCells w ao2 g2 0 (told 1 (fv [(1 / 3:Rat)]))) (hP:HasT w) :
  Calls Tryz.prog 18 #[.slice ao 1 c,.slice ao2 1 c2] w fun e w'=>(∃g,e=.returned (.tuple #[.slice (some ⟨g,0,none⟩) 1 1,.int .i64 0])∧FCells w' (some ⟨g,0,none⟩) g 0 (told 1 (fv [(1 / 2:Rat)])))∧Below w.heap.size w w' :=
 (qdh (by decide) (by decide) (qby (by decide +kernel)) (qbr (by decide +kernel)) hT hF hP).mono fun _ _ h=>⟨h.1.only (qcJ (fm [[(3 / 2:Rat)]]) (by decide +kernel)) (show ∀i,i<1→_ from (by decide +kernel)) (qbr (by decide +kernel)),h.2⟩
theorem kx_swap {ao:Option Addr} {g c:Nat} {ao2:Option Addr} {g2 c2:Nat} {w:World} (hT:TCells w ao g 0 (ttab 2 2 (fm [[(0:Rat),1],[(1:Rat),0]]))) (hF:FCells w ao2 g2 0 (told 2 (fv [(1:Rat),2]))) (hP:HasT w) :
  Calls Tryz.prog 18 #[.slice ao 2 c,.slice ao2 2 c2] w fun e w'=>(∃g,e=.returned (.tuple #[.slice (some ⟨g,0,none⟩) 2 2,.int .i64 0])∧FCells w' (some ⟨g,0,none⟩) g 0 (told 2 (fv [(2:Rat),1])))∧Below w.heap.size w w' :=
 (qdh (by decide) (by decide) (qby (by decide +kernel)) (qbr (by decide +kernel)) hT hF hP).mono fun _ _ h=>⟨h.1.only (qcJ (fm [[(0:Rat),1],[(1:Rat),0]]) (by decide +kernel)) (show ∀i,i<2→_ from (by decide +kernel)) (qbr (by decide +kernel)),h.2⟩
theorem qi1:qbQ 1 10 (fm [[(1:Rat),0,0,0,0,0,0,0,0,0]]) 1 :=
 qey (k:=1) (fm [[(1:Rat),0,0,0,0,0,0,0,0,0]]) (fm [[(1:Rat)]]) (fm [[(1:Rat)]]) (qcO (fun s=>[0].getD s 0) (by decide +kernel)) (by decide +kernel) (by decide +kernel)
theorem kx_wide {ao:Option Addr} {g c:Nat} {w:World} (hT:TCells w ao g 0 (ttab 1 10 (fm [[(1:Rat),0,0,0,0,0,0,0,0,0]]))) :
  Calls Tryz.prog 16 #[.slice ao 1 c] w fun e w'=>e=.returned (.tuple #[.int .i64 1,.int .i64 0])∧Below w.heap.size w w':=by
 refine (qdN (by decide) (by decide) (by decide) (by decide) (qby (by decide +kernel)) hT).mono ?_
 rintro e w' ⟨⟨k,hk,rfl⟩,hb⟩
 obtain rfl:k=1:=hk.uniq qi1 (qcc.refl _ _ _)
 exact⟨rfl,hb⟩
theorem qib:qbQ 4 3 (fm [[(0:Rat),0,1],[(0:Rat),2,3],[(1:Rat),1,1],[(1:Rat),3,5]]) 3 :=
 qey (k:=3) (fm [[(1:Rat),1,1],[(0:Rat),2,3],[(0:Rat),0,1]]) (fm [[(0:Rat),0,1],[(0:Rat),1,0],[(1:Rat),0,0],[(1:Rat),1,1]]) (fm [[(0:Rat),0,1,0],[(0:Rat),1,0,0],[(1:Rat),0,0,0]]) (qcO (fun s=>[0,1,2].getD s 0) (by decide +kernel)) (by decide +kernel) (by decide +kernel)
theorem kx_three {ao:Option Addr} {g c:Nat} {w:World} (hT:TCells w ao g 0 (ttab 4 3 (fm [[(0:Rat),0,1],[(0:Rat),2,3],[(1:Rat),1,1],[(1:Rat),3,5]]))) :
  Calls Tryz.prog 16 #[.slice ao 4 c] w fun e w'=>e=.returned (.tuple #[.int .i64 3,.int .i64 0])∧Below w.heap.size w w':=by
 refine (qdN (by decide) (by decide) (by decide) (by decide) (qby (by decide +kernel)) hT).mono ?_
 rintro e w' ⟨⟨k,hk,rfl⟩,hb⟩
 obtain rfl:k=3:=hk.uniq qib (qcc.refl _ _ _)
 exact⟨rfl,hb⟩
theorem kx_none {ao:Option Addr} {g c:Nat} {ao2:Option Addr} {g2 c2:Nat} {ao3:Option Addr} {g3 c3:Nat} {w:World} (hT:TCells w ao g 0 (ttab 1 1 (fm [[(1:Rat)]]))) (hF:FCells w ao2 g2 0 (told 1 (fv [(1:Rat)]))) (hF3:FCells w ao3 g3 0 (told 1 (fv [(0:Rat)]))) (hP:HasT w) :
  Calls Tryz.prog 22 #[.slice ao 1 c,.slice ao2 1 c2,.slice ao3 1 c3] w fun e w'=>e=.returned (.tuple #[.slice none 0 0,.int .i64 7])∧Below w.heap.size w w' :=
 (qda (by decide) (by decide) (by decide) (by decide) (qby (by decide +kernel)) (qbr (by decide +kernel)) (qbr (by decide +kernel)) (by decide +kernel) hT hF hF3 hP).mono fun _ _ h=>⟨h.1.sing ⟨(fv [(1:Rat)]),⟨0,by decide,(by decide +kernel)⟩,show ∀i,i<1→_ from (by decide +kernel)⟩,h.2⟩
theorem qi0:qbQ 40 1 (fun _ _=>1) 1 :=
 qey (k:=1) (fm [[(1:Rat)]]) (fun _ _=>1) (fun _ i=>if i=0 then 1 else 0) (qcO (fun s=>[0].getD s 0) (by decide +kernel)) (by decide +kernel) (by decide +kernel)
theorem kx_tall {ao:Option Addr} {g c:Nat} {w:World} (hT:TCells w ao g 0 (ttab 40 1 fun _ _=>1)) :
  Calls Tryz.prog 16 #[.slice ao 40 c] w fun e w'=>e=.returned (.tuple #[.int .i64 1,.int .i64 0])∧Below w.heap.size w w':=by
 refine (qdN (by decide) (by decide) (by decide) (by decide) (qby (by decide +kernel)) hT).mono ?_
 rintro e w' ⟨⟨k,hk,rfl⟩,hb⟩
 obtain rfl:k=1:=hk.uniq qi0 (qcc.refl _ _ _)
 exact⟨rfl,hb⟩
theorem kx_least {ao:Option Addr} {g c:Nat} {ao2:Option Addr} {g2 c2:Nat} {ao3:Option Addr} {g3 c3:Nat} {w:World} (hT:TCells w ao g 0 (ttab 40 1 fun _ _=>1)) (hF:FCells w ao2 g2 0 (told 40 fun _=>1)) (hF3:FCells w ao3 g3 0 (told 40 fun _=>1)) (hP:HasT w) :
  Calls Tryz.prog 22 #[.slice ao 40 c,.slice ao2 40 c2,.slice ao3 40 c3] w fun e w'=>(∃g,e=.returned (.tuple #[.slice (some ⟨g,0,none⟩) 1 1,.int .i64 0])∧FCells w' (some ⟨g,0,none⟩) g 0 (told 1 (fv [(1:Rat)])))∧Below w.heap.size w w' :=
 (qda (by decide) (by decide) (by decide) (by decide) (qby (by decide +kernel)) (qbr (by decide +kernel)) (qbr (by decide +kernel)) (by decide +kernel) hT hF hF3 hP).mono fun _ _ h=>⟨h.1.only (qcJ (fm [[(1 / 40:Rat)]]) (by decide +kernel)) (show ∀i,i<1→_ from (by decide +kernel)) (qbr (by decide +kernel)),h.2⟩
theorem kx_meas0 {ao:Option Addr} {g c:Nat} {ao2:Option Addr} {g2 c2:Nat} {ao3:Option Addr} {g3 c3:Nat} {ao4:Option Addr} {g4 c4:Nat} {w:World} (hT:TCells w ao g 0 (ttab 1 1 (fm [[(1:Rat)]]))) (hF:FCells w ao2 g2 0 (told 1 (fv [(1:Rat)]))) (hF3:FCells w ao3 g3 0 (told 1 (fv [(0:Rat)]))) (hF4:FCells w ao4 g4 0 (told 1 (fv [(5:Rat)]))) (hP:HasT w) :
  Calls Tryz.prog 24 #[.slice ao 1 c,.slice ao2 1 c2,.slice ao3 1 c3,.slice ao4 1 c4] w fun e w'=>e=.returned (.tuple #[.agg #[.string ⟨#[48]⟩,.string ⟨#[49]⟩],.int .i64 0])∧Below w.heap.size w w':=by
 refine (qga (by decide) (by decide) (by decide) (by decide) (qby (by decide +kernel)) (qbr (by decide +kernel)) (qbr (by decide +kernel)) (qbr (by decide +kernel)) (by decide +kernel) hT hF hF3 hF4 hP).mono ?_
 rintro e w' ⟨h,hb⟩
 rw [show msR 1 1 (fm [[(1:Rat)]]) (fv [(1:Rat)]) (fv [(0:Rat)]) (fv [(5:Rat)])=0 by decide +kernel] at h
 rcases h with ⟨_,rfl⟩ | ⟨h,_⟩
 ·exact⟨by rw [qf6,ft_0],hb⟩
 ·exact absurd (qfo (q:=0) (by decide +kernel)) h
theorem short1 {x:Nat→Rat} (h:Short (x 0)):qbw 1 x:=fun i hi=>by
 obtain rfl:i=0:=by omega
 exact h
theorem qhj {f:Nat→Nat→Rat} (h:Short (f 0 0)):∀i,i<1→qbw 1 (f i):=fun i hi=>by
 obtain rfl:i=0:=by omega
 exact short1 h
theorem kx_big {ao:Option Addr} {g c:Nat} {ao2:Option Addr} {g2 c2:Nat} {ao3:Option Addr} {g3 c3:Nat} {ao4:Option Addr} {g4 c4:Nat} {w:World} (hT:TCells w ao g 0 (ttab 1 1 fun _ _=>q9)) (hF:FCells w ao2 g2 0 (told 1 (fv [(1:Rat)]))) (hF3:FCells w ao3 g3 0 (told 1 (fv [(1:Rat)]))) (hF4:FCells w ao4 g4 0 (told 1 (fv [(2:Rat)]))) (hP:HasT w) :
  Calls Tryz.prog 24 #[.slice ao 1 c,.slice ao2 1 c2,.slice ao3 1 c3,.slice ao4 1 c4] w fun e w'=>e=.returned (.tuple #[.agg #[.string ⟨#[]⟩,.string ⟨#[]⟩],.int .i64 6])∧Below w.heap.size w w':=by
 refine (qga (by decide) (by decide) (by decide) (by decide) (qhj (f:=fun _ _=>q9) qgi) (qbr (by decide +kernel)) (qbr (by decide +kernel)) (qbr (by decide +kernel)) (by decide +kernel) hT hF hF3 hF4 hP).mono ?_
 rintro e w' ⟨h,hb⟩
 rcases h with ⟨h,_⟩ | ⟨_,h⟩
 ·exact absurd h (qi3 (by decide +kernel))
 ·exact⟨h,hb⟩
theorem kx_over {ao:Option Addr} {g c:Nat} {ao2:Option Addr} {g2 c2:Nat} {w:World} (hT:TCells w ao g 0 (ttab 1 1 fun _ _=>i9)) (hF:FCells w ao2 g2 0 (told 1 (fv [(2:Rat)]))) (hP:HasT w) :
  Calls Tryz.prog 18 #[.slice ao 1 c,.slice ao2 1 c2] w fun e w'=>e=.returned (.tuple #[.slice none 0 0,.int .i64 6])∧Below w.heap.size w w':=by
 refine (qdh (by decide) (by decide) (qhj (f:=fun _ _=>i9) short_i9) (qbr (by decide +kernel)) hT hF hP).mono ?_
 rintro e w' ⟨h,hb⟩
 refine⟨?_,hb⟩
 have hns:¬Sing 1 fun _ _=>i9:=qcJ (fun _ _=>q9) (by decide +kernel)
 rcases h with ⟨h,_⟩ | ⟨_,y,hy,ht⟩
 ·exact absurd h hns
 ·have hx:qb6 1 (fun _ _=>i9) (fv [(2:Rat)]) fun _=>2*q9:=(show ∀i,i<1→_ from (by decide +kernel))
  have he:=hy.uniq hns hx
  rcases ht with ⟨hs,_⟩ | ⟨_,h⟩
  ·exact absurd ((he 0 (by decide))▸hs 0 (by decide)) (qi3 (by decide +kernel))
  ·exact h
theorem kx_nines {ao:Option Addr} {g c:Nat} {ao2:Option Addr} {g2 c2:Nat} {ao3:Option Addr} {g3 c3:Nat} {w:World} (hT:TCells w ao g 0 (ttab 1 1 fun _ _=>q9)) (hF:FCells w ao2 g2 0 (told 1 fun _=>q9)) (hF3:FCells w ao3 g3 0 (told 1 (fv [(1:Rat)]))) (hP:HasT w) :
  Calls Tryz.prog 22 #[.slice ao 1 c,.slice ao2 1 c2,.slice ao3 1 c3] w fun e w'=>(∃g,e=.returned (.tuple #[.slice (some ⟨g,0,none⟩) 1 1,.int .i64 0])∧FCells w' (some ⟨g,0,none⟩) g 0 (told 1 (fv [(1:Rat)])))∧Below w.heap.size w w' :=
 (qda (by decide) (by decide) (by decide) (by decide) (qhj (f:=fun _ _=>q9) qgi) (short1 (x:=fun _=>q9) qgi) (qbr (by decide +kernel)) (by decide +kernel) hT hF hF3 hP).mono fun _ _ h=>⟨h.1.only (qcJ (fun _ _=>i9*i9) (by decide +kernel)) (show ∀i,i<1→_ from (by decide +kernel)) (qbr (by decide +kernel)),h.2⟩
def LV (R n:Nat) (f:Nat→Nat→Rat) (b v:Nat→Rat) (W:World) (ao:Option Addr) (m:Nat) (c:Int):Prop :=
 (Sing n (normR R n f b v)∧ao=none∧m=0∧c=7) ∨
 (¬Sing n (normR R n f b v)∧∃x,qb6 n (normR R n f b v) (fun r=>normR R n f b v r n) x ∧
  ((qbw n x∧∃g,ao=some ⟨g,0,none⟩∧m=n∧c=0∧FCells W (some ⟨g,0,none⟩) g 0 (told n x))∨(¬qbw n x∧ao=none∧m=0∧c=6)))
theorem LV.below {R n:Nat} {f:Nat→Nat→Rat} {b v:Nat→Rat} {W W':World} {ao:Option Addr} {m:Nat} {c:Int} (h:LV R n f b v W ao m c) (hb:Below W.heap.size W W'):LV R n f b v W' ao m c:=by
 rcases h with h | ⟨h,x,hx,⟨hs,g,h1,h2,h3,hf⟩ | h2⟩
 ·exact qaJ h
 ·exact qaA ⟨h,x,hx,qaJ ⟨hs,g,h1,h2,h3,hf.below hb⟩⟩
 ·exact qaA ⟨h,x,hx,qaA h2⟩
theorem qfH {W:World} {g:Nat} {x1 x2:ByteArray} {q:Rat} (hq:ftxt q=(x1,x2)) (h:W.heap[g]? = some (.cells #[.string x1,.string x2] 46 (0,0))):FCells W (some ⟨g,0,none⟩) g 0 (told 1 fun _=>q) :=
 ⟨fun _=>rfl,fun k hk=>by
  obtain rfl:k=0:=by rw [qbo] at hk;omega
  rw [qdG (by decide),hq]
  exact⟨cell_of_row _ _ 0 _ _ _ h,cell_of_row _ _ 1 _ _ _ h⟩⟩
section
variable {md:Region.Mode} {ops:Array Oper} {Q:Exit→Act→World→Prop} {dl:List (Nat×List Nat)} {F:Nat→Value→List Nat→World→Prop} {w0:World} {i:Nat} {gs:Nat→List Nat} {w:World} {A:Act} {K:Act→World→Prop} {o:Oper} {E:Prop}
end
theorem qhh:∀k,k<41→(((ttab 40 1 fun _ _=>1)++[told 1 (fv [(1:Rat)])]:Tbl).getD k []).length≤1000:=fun k hk=>by
 by_cases h:k<40
 ·rw [qaa,qaL (by rw [qbI];exact h),←qaa]
  exact qgV k h
 ·obtain rfl:k=40:=by omega
  rw [qaa,qay (by rw [qbI];exact qah _),qbI]
  show (told 1 _).length≤1000
  rw [qbo];decide
theorem qfR:((ttab 40 1 fun _ _=>1)++[told 1 (fv [(1:Rat)])]:Tbl).length=41:=by rw [qag,qbI];rfl
theorem qiq:¬TOk ((ttab 40 1 fun _ _=>1)++[told 1 (fv [(1:Rat)])]:Tbl):=many_not (by rw [qfR];decide)
theorem qi8 (W:World):Calls Tryz.prog 37 #[.string ⟨#[57]⟩,.int .i64 600] W fun e w'=>∃S,e=.returned (.string S)∧Hid (S=s9)∧Below W.heap.size W w':=by
 refine (Tryz.strings_Repeat_main ⟨#[57]⟩ 600 W (by decide) (by decide) (by decide) (by decide)).mono ?_
 rintro e w' ⟨rfl,hb⟩
 exact⟨_,rfl,qH rfl,hb⟩
theorem qew {W:World} {g:Nat} {S:ByteArray} (hS:Hid (S=s9)) (h:W.heap[g]? = some (.cells #[.string S,.string ⟨#[49]⟩] 46 (0,0))):FCells W (some ⟨g,0,none⟩) g 0 (told 1 fun _=>q9) :=
 qfH (q:=q9) (by rw [hS.out];exact ft_q9) h
theorem qh8 {W:World} {g:Nat} {S:ByteArray} (hS:Hid (S=s9)) (h:W.heap[g]? = some (.cells #[.string ⟨#[49]⟩,.string S] 46 (0,0))):FCells W (some ⟨g,0,none⟩) g 0 (told 1 fun _=>i9) :=
 qfH (q:=i9) (by rw [hS.out];exact ft_i9) h
theorem qeU {n:Nat} {l:List Rat} (h:∀i,i<n→(fv l i).num.natAbs≤1000∧(fv l i).den≤1000):FAll (told n (fv l)):=qb7 (qbr h)
theorem qc1:TOk [told 1 (fv [(1:Rat)])]:=one_ok
def PF (n:Int) (z:Value) (W:World):Prop:=∃b,z=.func (.func 93) #[] #[.pointer (some ⟨b,0,none⟩)]∧W.heap[b]? = some (.cells #[.int .i64 n] 33 (0,0))
def PY (n:Int) (z:Value) (W:World):Prop:=∃b,z=.func (.func 92) #[] #[.pointer (some ⟨b,0,none⟩)]∧W.heap[b]? = some (.cells #[.int .i64 n] 3 (0,0))
def PI (L:List ByteArray) (z:Value) (W:World):Prop:=∃b,z=.func (.func 91) #[] #[.pointer (some ⟨b,0,none⟩)]∧IsAt W b L
def PL (n:Nat) (l:List FT) (z:Value) (W:World):Prop:=∃g c,z=.slice (some ⟨g,0,none⟩) n c∧FCells W (some ⟨g,0,none⟩) g 0 l
def PT (n:Nat) (t:Tbl) (z:Value) (W:World):Prop:=∃g c,z=.slice (some ⟨g,0,none⟩) n c∧TCells W (some ⟨g,0,none⟩) g 0 t
def PS (n:Nat) (L:List ByteArray) (z:Value) (W:World):Prop:=∃g,z=.slice (some ⟨g,0,none⟩) n n∧SCells W g 0 L
def PR (n:Nat) (l:List FT) (z:Value) (W:World):Prop:=∃g,z=.tuple #[.slice (some ⟨g,0,none⟩) n n,.int .i64 0]∧FCells W (some ⟨g,0,none⟩) g 0 l
instance stays_pf {n:Int} {z:Value}:Stays (PF n z):=⟨fun⟨b,h1,h2⟩ hb=>⟨b,h1,zkeep hb _ _ h2⟩⟩
instance stays_py {n:Int} {z:Value}:Stays (PY n z):=⟨fun⟨b,h1,h2⟩ hb=>⟨b,h1,zkeep hb _ _ h2⟩⟩
instance stays_pi {L:List ByteArray} {z:Value}:Stays (PI L z):=⟨fun⟨b,h1,h2⟩ hb=>⟨b,h1,h2.below hb⟩⟩
instance stays_pl {n:Nat} {l:List FT} {z:Value}:Stays (PL n l z):=⟨fun⟨g,c,h1,h2⟩ hb=>⟨g,c,h1,h2.below hb⟩⟩
instance stays_pt {n:Nat} {t:Tbl} {z:Value}:Stays (PT n t z):=⟨fun⟨g,c,h1,h2⟩ hb=>⟨g,c,h1,h2.below hb⟩⟩
instance stays_ps {n:Nat} {L:List ByteArray} {z:Value}:Stays (PS n L z):=⟨fun⟨g,h1,h2⟩ hb=>⟨g,h1,h2.below hb⟩⟩
instance stays_pr {n:Nat} {l:List FT} {z:Value}:Stays (PR n l z):=⟨fun⟨g,h1,h2⟩ hb=>⟨g,h1,h2.below hb⟩⟩
def PP (l:List FT) (z:Value) (W:World):Prop:=∃g,z=.pointer (some ⟨g,0,none⟩)∧FCells W (some ⟨g,0,none⟩) g 0 l
instance stays_pp {l:List FT} {z:Value}:Stays (PP l z):=⟨fun⟨g,h1,h2⟩ hb=>⟨g,h1,h2.below hb⟩⟩
theorem pl_of {W:World} {ao:Option Addr} {g n c:Nat} {l:List FT} (h:FCells W ao g 0 l) (hl:l.length=n) (hn:0<n):PL n l (.slice ao n c) W:=by
 have:=h.addr (by omega)
 subst this
 exact⟨g,c,rfl,h⟩
theorem tab2 {W:World} {g n:Nat} {a1 a2:Option Addr} {g1 g2 c1 c2:Nat} {l1 l2:List FT} {ty:TypeId} (hg:W.heap[g]? = some (.cells #[.slice a1 n c1,.slice a2 n c2] ty (0,0))) (h1:FCells W a1 g1 0 l1) (h2:FCells W a2 g2 0 l2) (e1:l1.length=n) (e2:l2.length=n):TCells W (some ⟨g,0,none⟩) g 0 [l1,l2] :=
 ⟨fun _=>rfl,fun k hk=>by
  have hk:k<2:=hk
  rcases (show k=0∨k=1 by omega) with rfl | rfl
  ·exact⟨a1,g1,0,c1,by show _=some (Value.slice a1 l1.length c1);rw [e1];exact cell_of_row _ _ 0 _ _ _ hg,h1⟩
  ·exact⟨a2,g2,0,c2,by show _=some (Value.slice a2 l2.length c2);rw [e2];exact cell_of_row _ _ 1 _ _ _ hg,h2⟩⟩
theorem tab4 {W:World} {g n:Nat} {a1 a2 a3 a4:Option Addr} {g1 g2 g3 g4 c1 c2 c3 c4:Nat} {l1 l2 l3 l4:List FT} {ty:TypeId} (hg:W.heap[g]? = some (.cells #[.slice a1 n c1,.slice a2 n c2,.slice a3 n c3,.slice a4 n c4] ty (0,0))) (h1:FCells W a1 g1 0 l1) (h2:FCells W a2 g2 0 l2) (h3:FCells W a3 g3 0 l3) (h4:FCells W a4 g4 0 l4)
  (e1:l1.length=n) (e2:l2.length=n) (e3:l3.length=n) (e4:l4.length=n):TCells W (some ⟨g,0,none⟩) g 0 [l1,l2,l3,l4] :=
 ⟨fun _=>rfl,fun k hk=>by
  have hk:k<4:=hk
  rcases (show k=0∨k=1∨k=2∨k=3 by omega) with rfl | rfl | rfl | rfl
  ·exact⟨a1,g1,0,c1,by show _=some (Value.slice a1 l1.length c1);rw [e1];exact cell_of_row _ _ 0 _ _ _ hg,h1⟩
  ·exact⟨a2,g2,0,c2,by show _=some (Value.slice a2 l2.length c2);rw [e2];exact cell_of_row _ _ 1 _ _ _ hg,h2⟩
  ·exact⟨a3,g3,0,c3,by show _=some (Value.slice a3 l3.length c3);rw [e3];exact cell_of_row _ _ 2 _ _ _ hg,h3⟩
  ·exact⟨a4,g4,0,c4,by show _=some (Value.slice a4 l4.length c4);rw [e4];exact cell_of_row _ _ 3 _ _ _ hg,h4⟩⟩
end Go.Proofs.YtfminfgabiipjaaGreatDoor
