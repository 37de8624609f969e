/- Ae, part 39: Gr -/
import Derived.Test.YtfminfgabiipjaaGreatDoorAe0
import Derived.Test.YtfminfgabiipjaaGreatDoorAe21
import Derived.Test.YtfminfgabiipjaaGreatDoorAe24
import Derived.Test.YtfminfgabiipjaaGreatDoorAe26
set_option maxRecDepth 100000
set_option maxHeartbeats 16000000
namespace Go.Proofs.YtfminfgabiipjaaGreatDoor
open Go.RowKit
theorem infoFs:(Tryz.prog.info? 23).map (fun i=>(i.zero,i.size,i.bytes))=some (some (.slice none 0 0),1,24):=by kernel_rfl
theorem qh1 {W:World} {B:Nat} {v:Value} {n:Nat} {l:List FT} (h:Rws W B 46 2 v n (fflat l)) (hl:l.length=n):∃(ao:Option Addr) (g cap:Nat),v=.slice ao n cap∧FCells W ao g 0 l∧n≤cap:=by
 have hown:=h.own
 rcases h.2 with ⟨rfl,rfl⟩ | ⟨g,cap,cur,rfl,_,_,hc,_⟩
 ·exact⟨none,0,0,rfl,⟨fun h0=>absurd h0 (by omega),fun k hk=>absurd hk (by omega)⟩,qah _⟩
 ·refine⟨some ⟨g,0,none⟩,g,cap,rfl,⟨fun _=>rfl,fun k hk=>?_⟩,hc⟩
  have hx:l[k]? = some (l.getD k fd0):=by rw [qaa,qai hk];rfl
  obtain⟨h1,h2⟩:=qdA l k _ hx
  have e1:=hown.cells (g:=g) rfl _ _ h1
  have e2:=hown.cells (g:=g) rfl _ _ h2
  rw [Addr.add_mid] at e1 e2
  refine⟨e1,?_⟩
  rw [←Nat.add_assoc] at e2
  exact e2
theorem qgj (x:ByteArray):qcg (.string x):=fun k d h=>by cases h
theorem qfv {ops:Array Oper} {rest:List Oper} {o:Oper} {a:Act} {w:World} {Q:Exit→Act→World→Prop} (hgd:o.guard=none) (s x:Operand)
  (ho:o.op=.call { callee:=.builtin .append,args:=#[s,x],argTypes:=#[23,23] }) {W0:World} {B:Nat} {v:Value} {n:Nat} {l:List FT} {x1 x2:ByteArray}
  (hB:Below B W0 w) (hB0:B=W0.heap.size) (hown:Rws w B 46 2 v n (fflat l)) (hs:a.eval s=v) {g:Nat} (hx:a.eval x=.slice (some ⟨g,0,none⟩) 1 1) (hgs:g=w.heap.size) (hn:n<1000000)
  (h:∀v' w',Hid (Rws w' B 46 2 v' (n+1) (fflat (l++[(x1,x2)])))→Hid (Below B W0 w')→wpList Tryz.prog ops Q rest (a.put o.dst v') w') :
  wpList Tryz.prog ops Q (o :: rest) a (w.alloc (.cells #[.string x1,.string x2] 46)):=by
 subst hgs
 obtain⟨i0,hi,hz0,hz1,hz2⟩:=info_parts infoF
 have hsz:=hB.size
 have hba:Below w.heap.size w (w.alloc (.cells #[.string x1,.string x2] 46)):=qbp qB qN
 have hown2:=hown.below hba
 have hg:=heap_alloc_new w (.cells #[.string x1,.string x2] 46)
 refine qcD hgd s x 23 ho B 46 i0 _ 2 32 Tryz.underlying23 hi hz0 hz1 hz2 rfl (by decide) ?nz v n (fflat l) hs hown2 ⟨w.heap.size,0,none⟩ 1 1 [.string x1,.string x2] hx rfl ?c1 ?c2 ?c3 (by decide) (by unfold maxLen;omega) (by omega) (by simp only [qab];omega) ?_
 case nz =>
  intro y hy
  rcases qaN.1 (show y∈[Value.string ⟨#[]⟩,Value.string ⟨#[]⟩] from hy) with rfl | hy
  ·exact qgj _
  ·rw [qao.1 hy];exact qgj _
 case c1 =>
  intro j u hj
  rw [Addr.add_mid]
  match j,hj with
  | 0,hj=>exact (cell_of_row _ _ _ _ _ _ hg).trans hj
  | 1,hj=>exact (cell_of_row _ _ _ _ _ _ hg).trans hj
 case c2 =>
  intro u hu
  rcases qaN.1 hu with rfl | hu
  ·rfl
  ·rw [qao.1 hu];rfl
 case c3 =>
  intro u hu
  rcases qaN.1 hu with rfl | hu
  ·exact qgj _
  ·rw [qao.1 hu];exact qgj _
 intro v' w' hown' hgrow _
 refine h v' w' (qH ?_) (qH ?_)
 ·rw [qc4];exact hown'
 ·exact hown2.old hgrow (hB.alloc (by omega) _) qN (by simp only [qab];omega)
end Go.Proofs.YtfminfgabiipjaaGreatDoor
