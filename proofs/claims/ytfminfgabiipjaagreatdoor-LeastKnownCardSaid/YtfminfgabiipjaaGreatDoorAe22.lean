/- Ae, part 22: Sum Sum2 Mat Piv -/
import Derived.Deep.DrawnRows
import Derived.Deep.RegionWith
import Derived.Test.YtfminfgabiipjaaGreatDoorAe0
import Derived.Test.YtfminfgabiipjaaGreatDoorAe21
set_option maxRecDepth 100000
set_option maxHeartbeats 16000000
namespace Go.Proofs.YtfminfgabiipjaaGreatDoor
open Go.RowKit
abbrev zi0:Value:=.agg #[.slice none 0 0,.bool false]
def isum (t:Nat→Int):Nat→Int
 | 0=>0
 | n+1=>isum t n+t n
theorem qea (t:Nat→Int) (K:Nat):∀k,(∀j,j<k→Fit (t j).natAbs K)→Fit (isum t k).natAbs (K+k+1)
 | 0,_=>Nat.pow_pos (by decide)
 | k+1,h=>by
  have h1:=qea t K k (fun j hj=>h j (by omega))
  have h2:=(h k (by omega)).mono (show K≤K+k+1 by omega)
  exact (h1.add h2).le (Int.natAbs_add_le _ _)
theorem qgU {w wr w3:World} {a1 a9:Option Addr} {n1 c1 n9 c9:Nat} {b1 b9:Bool} {z:Int} {o:Obj} (hp3:IntAt w3 (.agg #[.slice a9 n9 c9,.bool b9]) z) (z3:w3.heap[w.heap.size+1+1]? = some (.cells #[.slice a1 n1 c1,.bool b1] 105 (0,0))) (hb:Below (w.heap.size+1+1) wr w3) (hz:wr.heap[w.heap.size+1]? = some o) (hB:Below w.heap.size w wr) :
  ((w3.setCell ⟨w.heap.size+1+1,0,none⟩ (.slice a9 n9 c9)).setCell ⟨w.heap.size+1+1,1,none⟩ (.bool b9)).heap[w.heap.size+1+1]? = some (.cells #[.slice a9 n9 c9,.bool b9] 105 (0,0)) ∧
   IntAt ((w3.setCell ⟨w.heap.size+1+1,0,none⟩ (.slice a9 n9 c9)).setCell ⟨w.heap.size+1+1,1,none⟩ (.bool b9)) (.agg #[.slice a9 n9 c9,.bool b9]) z ∧
   ((w3.setCell ⟨w.heap.size+1+1,0,none⟩ (.slice a9 n9 c9)).setCell ⟨w.heap.size+1+1,1,none⟩ (.bool b9)).heap[w.heap.size+1]? = some o ∧
   Below w.heap.size w ((w3.setCell ⟨w.heap.size+1+1,0,none⟩ (.slice a9 n9 c9)).setCell ⟨w.heap.size+1+1,1,none⟩ (.bool b9)):=by
 have hne:w.heap.size+1≠w.heap.size+1+1:=by omega
 refine⟨heap_setCell_same _ _ 1 _ _ _ (heap_setCell_same _ _ 0 _ _ _ z3),?_,(Below.heap_setCell _ ⟨_,1,none⟩ _ _ hne).trans ((Below.heap_setCell _ ⟨_,0,none⟩ _ _ hne).trans ((hb.block _ (by omega)).trans hz)),((hB.trans (hb.mono (by omega))).setCell (p:=⟨_,0,none⟩) (by show w.heap.size≤w.heap.size+1+1;omega) _).setCell (p:=⟨_,1,none⟩) (by show w.heap.size≤w.heap.size+1+1;omega) _⟩
 obtain⟨m,e,hg⟩:=hp3
 refine⟨m,e,qb2 hg (qbs (least.qbv w3 _ 0 _) (least.qbv _ _ 1 _)) z3 ?_⟩
 intro x hx d
 rcases qaN.1 hx with rfl | hx
 ·intro h;cases h
 ·rw [qao.1 hx];intro h;cases h
theorem qip (n:Nat) (p1 p2:Value) (t:Nat→Int) (K:Nat) (hK:K≤34359738368) (w:World) (hn:n≤64)
  (hterm:∀W (j:Nat),j<n→Below w.heap.size w W→Calls Tryz.prog 68 #[.int .i64 j,p1,p2] W fun e W'=>∃u,e=.returned u∧Below W.heap.size W W'∧IntAt W' u (t j)) (hfit:∀j,j<n→Fit (t j).natAbs K) :
  Calls Tryz.prog 67 #[.int .i64 n,zi0,.func (.func 68) #[] #[p1,p2],.func (.func 70) #[] #[]] w fun e w'=>∃u,e=.returned u∧Below w.heap.size w w'∧IntAt w' u (isum t n):=by
 have HT:=qH hterm
 have HF:=qH hfit
 have hfi:=qd5
 clear hterm hfit
 go_enter Tryz.func67,Tryz.ntmps67
 go_wp2_with fail
 go_loopw [13] (fun x13 W=>∃(k:Nat) (a:Option Addr) (m c:Nat) (b:Bool),k≤n∧x13=.int .i64 k∧Hid (W.heap[w.heap.size+1+1]? = some (.cells #[.slice a m c,.bool b] 105 (0,0))∧IntAt W (.agg #[.slice a m c,.bool b]) (isum t k)∧W.heap[w.heap.size+1]? = some (.cells #[.slice none 0 0,.bool false] 105 (0,0)))∧Hid (Below w.heap.size w W)) (fun x13 _=>n-(intOf x13).toNat)
 case atStart =>
  refine⟨0,none,0,0,false,qat _,rfl,qH ⟨qM _ _ _ (by simp),?_,(qL _ _ _ (by simp)).trans (qM _ _ _ (by simp))⟩,qH (qbp (qbp (qbp qB qN) qN) qN)⟩
  exact⟨_,rfl,MagAt.nil _⟩
 case round =>
  obtain⟨k,a1,n1,c1,b1,hk,rfl,hI,hB⟩:=hrel
  by_cases hkn:k<n
  ·have hki:(k:Int)<n:=by omega
   have e0:=cell_of_row wr _ 0 _ _ _ hI.out.1
   have e1:=cell_of_row wr _ 1 _ _ _ hI.out.1
   have hst:Below (w.heap.size+1+1) wr wr:=Below.refl _ _
   have hstD:Below (w.heap.size+1+1) wr wr.drew:=hst.drew
   have hlt:=(qG hI.out.1).1
   have Hlt:=qH hlt
   clear hlt
   have HFt:=qH (qA (qea t K k (fun j hj=>HF.out j (by omega))) ((HF.out k hkn).mono (show K≤K+k+1 by omega)))
   go_wp2_with fail
   go_region_with (first | (go_at_call 70;refine (least.qfs (isum t k) (t k) (K+k+1) (by omega) _ _ _ (by first | exact HP2.out.1 | exact HP2.out.1.below qB.drew) (by first | exact HP2.out.2.1 | exact HP2.out.2.1.below qB.drew) HFt.out.1 HFt.out.2).mono ?_;rintro e w3 ⟨p3,rfl,hb3,hp3⟩;have HB3:Below (w.heap.size+1+1) wr w3:=HB2.trans (hb3.mono (qak (qaC Hlt.out) HB2.size));obtain⟨a9,n9,c9,b9,rfl⟩:=least.qbt hp3;have z3:=(hb3.block _ (qal Hlt.out HB2.size)).trans HP2.out.2.2;have q0:=cell_of_row w3 _ 0 _ _ _ z3;have q1:=cell_of_row w3 _ 1 _ _ _ z3;have f0:=frozen_of_row w3 _ 0 _ _ z3;have f1:=frozen_of_row w3 _ 1 _ _ z3;have HF3:=qH (qgU hp3 z3 HB3 hI.out.2.2 hB.out);clear hb3 hp3 z3) | (go_at_call 68;refine (HT.out _ k hkn (hB.out.trans (hstD.mono (by omega)))).mono ?_;rintro e w2 ⟨u2,rfl,hb2,hu2⟩;have HB2:Below (w.heap.size+1+1) wr w2:=hstD.trans (hb2.mono (qaC Hlt.out));have z2:w2.heap[w.heap.size+1+1]? = some (.cells #[.slice a1 n1 c1,.bool b1] 105 (0,0)):=(hb2.block _ Hlt.out).trans hI.out.1;have g0:=cell_of_row w2 _ 0 _ _ _ z2;have g1:=cell_of_row w2 _ 1 _ _ _ z2;obtain⟨a2,n2,c2,b2,rfl⟩:=least.qbt hu2;have HP2:=qH (qA (hI.out.2.1.below (W':=w2) ((Below.refl wr.heap.size wr).drew.trans hb2)) (qA hu2 z2));clear hb2 hu2 z2))
   all_goals go_wp2_with fail
   all_goals go_roundw
   all_goals first
    | exact⟨k+1,a9,n9,c9,b9,hkn,by go_num,qH ⟨HF3.out.1,HF3.out.2.1,HF3.out.2.2.1⟩,qH HF3.out.2.2.2⟩
    | (simp [intOf];omega)
  ·obtain rfl:k=n:=by omega
   have e0:=cell_of_row wr _ 0 _ _ _ hI.out.1
   have e1:=cell_of_row wr _ 1 _ _ _ hI.out.1
   have hrow:=hI.out.2.2
   have HR:=qH (qA hrow (qA (below_setRow hB.out (show w.heap.size≤w.heap.size+1 by omega) #[.slice a1 n1 c1,.bool b1]) (least.qc9 (cs':=#[.slice a1 n1 c1,.bool b1]) hI.out.2.1 hrow qdv)))
   clear hrow
   go_wp2_with ((with_reducible refine wpList_store_row rfl 105 _ _ rfl (w.heap.size+1) #[.slice a1 n1 c1,.bool b1] ?_ ?_ 105 _ HR.out.1 2 ?_ ?_ ?_ ?_ ?_);(next=>rfl);(next=>rfl);(next=>kernel_rfl);(next=>rfl);(next=>rfl);(next=>rfl))
   exact bodyPost_ret (v:=.agg #[.slice a1 n1 c1,.bool b1]) (qbE rfl _ _ (w.heap.size+1) 105 _ _ rfl (setRow_heap _ _ _ _ _ _ HR.out.1) Tryz.underlying105 rfl 2 (by kernel_rfl) rfl) rfl ⟨_,rfl,HR.out.2.1,HR.out.2.2⟩
theorem qgl (n:Nat) (y1 y2 y3 y4:Value) (t:Nat→Int) (K:Nat) (hK:K≤34359738368) (w:World) (hn:n≤64)
  (hterm:∀W (j:Nat),j<n→Below w.heap.size w W→Calls Tryz.prog 115 #[.int .i64 j,y1,y2,y3,y4] W fun e W'=>∃u,e=.returned u∧Below W.heap.size W W'∧IntAt W' u (t j)) (hfit:∀j,j<n→Fit (t j).natAbs K) :
  Calls Tryz.prog 67 #[.int .i64 n,zi0,.func (.func 115) #[] #[y1,y2,y3,y4],.func (.func 70) #[] #[]] w fun e w'=>∃u,e=.returned u∧Below w.heap.size w w'∧IntAt w' u (isum t n):=by
 have HT:=qH hterm
 have HF:=qH hfit
 have hfi:=qd5
 clear hterm hfit
 go_enter Tryz.func67,Tryz.ntmps67
 go_wp2_with fail
 go_loopw [13] (fun x13 W=>∃(k:Nat) (a:Option Addr) (m c:Nat) (b:Bool),k≤n∧x13=.int .i64 k∧Hid (W.heap[w.heap.size+1+1]? = some (.cells #[.slice a m c,.bool b] 105 (0,0))∧IntAt W (.agg #[.slice a m c,.bool b]) (isum t k)∧W.heap[w.heap.size+1]? = some (.cells #[.slice none 0 0,.bool false] 105 (0,0)))∧Hid (Below w.heap.size w W)) (fun x13 _=>n-(intOf x13).toNat)
 case atStart =>
  refine⟨0,none,0,0,false,qat _,rfl,qH ⟨qM _ _ _ (by simp),?_,(qL _ _ _ (by simp)).trans (qM _ _ _ (by simp))⟩,qH (qbp (qbp (qbp qB qN) qN) qN)⟩
  exact⟨_,rfl,MagAt.nil _⟩
 case round =>
  obtain⟨k,a1,n1,c1,b1,hk,rfl,hI,hB⟩:=hrel
  by_cases hkn:k<n
  ·have hki:(k:Int)<n:=by omega
   have e0:=cell_of_row wr _ 0 _ _ _ hI.out.1
   have e1:=cell_of_row wr _ 1 _ _ _ hI.out.1
   have hst:Below (w.heap.size+1+1) wr wr:=Below.refl _ _
   have hstD:Below (w.heap.size+1+1) wr wr.drew:=hst.drew
   have hlt:=(qG hI.out.1).1
   have Hlt:=qH hlt
   clear hlt
   have HFt:=qH (qA (qea t K k (fun j hj=>HF.out j (by omega))) ((HF.out k hkn).mono (show K≤K+k+1 by omega)))
   go_wp2_with fail
   go_region_with (first | (go_at_call 70;refine (least.qfs (isum t k) (t k) (K+k+1) (by omega) _ _ _ (by first | exact HP2.out.1 | exact HP2.out.1.below qB.drew) (by first | exact HP2.out.2.1 | exact HP2.out.2.1.below qB.drew) HFt.out.1 HFt.out.2).mono ?_;rintro e w3 ⟨p3,rfl,hb3,hp3⟩;have HB3:Below (w.heap.size+1+1) wr w3:=HB2.trans (hb3.mono (qak (qaC Hlt.out) HB2.size));obtain⟨a9,n9,c9,b9,rfl⟩:=least.qbt hp3;have z3:=(hb3.block _ (qal Hlt.out HB2.size)).trans HP2.out.2.2;have q0:=cell_of_row w3 _ 0 _ _ _ z3;have q1:=cell_of_row w3 _ 1 _ _ _ z3;have f0:=frozen_of_row w3 _ 0 _ _ z3;have f1:=frozen_of_row w3 _ 1 _ _ z3;have HF3:=qH (qgU hp3 z3 HB3 hI.out.2.2 hB.out);clear hb3 hp3 z3) | (go_at_call 115;refine (HT.out _ k hkn (hB.out.trans (hstD.mono (by omega)))).mono ?_;rintro e w2 ⟨u2,rfl,hb2,hu2⟩;have HB2:Below (w.heap.size+1+1) wr w2:=hstD.trans (hb2.mono (qaC Hlt.out));have z2:w2.heap[w.heap.size+1+1]? = some (.cells #[.slice a1 n1 c1,.bool b1] 105 (0,0)):=(hb2.block _ Hlt.out).trans hI.out.1;have g0:=cell_of_row w2 _ 0 _ _ _ z2;have g1:=cell_of_row w2 _ 1 _ _ _ z2;obtain⟨a2,n2,c2,b2,rfl⟩:=least.qbt hu2;have HP2:=qH (qA (hI.out.2.1.below (W':=w2) ((Below.refl wr.heap.size wr).drew.trans hb2)) (qA hu2 z2));clear hb2 hu2 z2))
   all_goals go_wp2_with fail
   all_goals go_roundw
   all_goals first
    | exact⟨k+1,a9,n9,c9,b9,hkn,by go_num,qH ⟨HF3.out.1,HF3.out.2.1,HF3.out.2.2.1⟩,qH HF3.out.2.2.2⟩
    | (simp [intOf];omega)
  ·obtain rfl:k=n:=by omega
   have e0:=cell_of_row wr _ 0 _ _ _ hI.out.1
   have e1:=cell_of_row wr _ 1 _ _ _ hI.out.1
   have hrow:=hI.out.2.2
   have HR:=qH (qA hrow (qA (below_setRow hB.out (show w.heap.size≤w.heap.size+1 by omega) #[.slice a1 n1 c1,.bool b1]) (least.qc9 (cs':=#[.slice a1 n1 c1,.bool b1]) hI.out.2.1 hrow qdv)))
   clear hrow
   go_wp2_with ((with_reducible refine wpList_store_row rfl 105 _ _ rfl (w.heap.size+1) #[.slice a1 n1 c1,.bool b1] ?_ ?_ 105 _ HR.out.1 2 ?_ ?_ ?_ ?_ ?_);(next=>rfl);(next=>rfl);(next=>kernel_rfl);(next=>rfl);(next=>rfl);(next=>rfl))
   exact bodyPost_ret (v:=.agg #[.slice a1 n1 c1,.bool b1]) (qbE rfl _ _ (w.heap.size+1) 105 _ _ rfl (setRow_heap _ _ _ _ _ _ HR.out.1) Tryz.underlying105 rfl 2 (by kernel_rfl) rfl) rfl ⟨_,rfl,HR.out.2.1,HR.out.2.2⟩
abbrev rowv (g n:Nat):Value:=.slice (some ⟨g,0,none⟩) n n
def rowvs (R n:Nat) (gs:Nat→Nat):List Value:=(List.range R).map fun i=>rowv (gs i) n
theorem qca (R n:Nat) (gs:Nat→Nat):(rowvs R n gs).length=R:=by rw [rowvs,qaF,List.length_range]
theorem qdd {R n i:Nat} {gs:Nat→Nat} (hi:i<R):(rowvs R n gs)[i]? = some (rowv (gs i) n):=by
 rw [rowvs,qaO,qbh hi];rfl
theorem qjo {R n i:Nat} {gs:Nat→Nat} (g:Nat):(rowvs R n gs).set i (rowv g n)=rowvs R n (fun j=>if j=i then g else gs j):=by
 apply List.ext_getElem?
 intro j
 by_cases hj:j<R
 ·rw [qdd hj,List.getElem?_set]
  by_cases e:i=j
  ·subst e;rw [if_pos rfl,if_pos (by rw [qca];exact hj),if_pos rfl]
  ·rw [if_neg e,qdd hj,if_neg (fun h=>e h.symm)]
 ·rw [qaX (by rw [qaT,qca];omega),qaX (by rw [qca];omega)]
def qbL (W:World) (g n:Nat) (m:Nat→Int):Prop:=∃ps:List (Value×Bool),ps.length=n∧IRow W g n ps∧qbP W ps m
theorem qbL.below {W W':World} {g n:Nat} {m:Nat→Int} (h:qbL W g n m) (hb:Below W.heap.size W W'):qbL W' g n m:=by
 obtain⟨ps,h1,h2,h3⟩:=h
 exact⟨ps,h1,h2.below hb,h3.below hb⟩
theorem qbL.cells {W:World} {g n:Nat} {ps:List (Value×Bool)} (h1:ps.length=n) (h2:IRow W g n ps):qfA W g n ps:=by
 intro k hk
 have h0:(ps++List.replicate (n-ps.length) (zs0,false))[k]? = some (ps.getD k (zs0,false)):=by
  rw [qaL (by omega),qaa,qai (by omega)];rfl
 obtain⟨e1,e2⟩:=qd9 _ _ _ h0
 exact⟨(cell_of_row _ _ _ _ _ _ h2.1).trans ((qas ..).trans e1),(cell_of_row _ _ _ _ _ _ h2.1).trans ((qas ..).trans e2)⟩
structure MatAt (W:World) (tb R n:Nat) (gs:Nat→Nat) (M:Nat→Nat→Int):Prop where
 row:W.heap[tb]? = some (.cells (rowvs R n gs).toArray 79 (0,0))
 rows:∀i,i<R→qbL W (gs i) n (M i)
theorem MatAt.below {W W':World} {tb R n:Nat} {gs:Nat→Nat} {M:Nat→Nat→Int} (h:MatAt W tb R n gs M) (hb:Below W.heap.size W W'):MatAt W' tb R n gs M :=
 ⟨(hb.block _ (qG h.row).1).trans h.row,fun i hi=>(h.rows i hi).below hb⟩
theorem MatAt.cell {W:World} {tb R n:Nat} {gs:Nat→Nat} {M:Nat→Nat→Int} (h:MatAt W tb R n gs M) {i:Nat} (hi:i<R):W.cell? ⟨tb,i,none⟩=some (rowv (gs i) n)∧W.frozen? ⟨tb,i,none⟩=false :=
 ⟨(cell_of_row _ _ _ _ _ _ h.row).trans ((qas ..).trans (qdd hi)),frozen_of_row _ _ _ _ _ h.row⟩
theorem qfm {R n:Nat} {gs:Nat→Nat}:∀x∈(rowvs R n gs).toArray.toList,∀d,x≠.int .u32 d:=by
 intro x hx d e
 obtain⟨i,_,h⟩:=List.mem_map.1 (show x∈rowvs R n gs from hx)
 rw [e] at h;cases h
theorem qbL.keep {W W':World} {tb R n g m':Nat} {gs:Nat→Nat} {m:Nat→Int} (h:qbL W g m' m) (hk:W.grownBy W' (some tb)) (ht:W.heap[tb]? = some (.cells (rowvs R n gs).toArray 79 (0,0))):qbL W' g m' m:=by
 obtain⟨ps,h1,h2,h3⟩:=h
 have hne:g≠tb:=by
  intro e
  subst e
  have:=h2.1.symm.trans ht
  simp at this
 exact⟨ps,h1,⟨(hk.block _ (qG h2.1).1 (fun e=>hne (qam e))).trans h2.1,h2.2⟩,h3.keep hk ht qfm⟩
theorem MatAt.set {W:World} {tb R n:Nat} {gs:Nat→Nat} {M:Nat→Nat→Int} (h:MatAt W tb R n gs M) (i g:Nat) (m:Nat→Int) (hg:qbL W g n m) :
  MatAt (W.setCell ⟨tb,i,none⟩ (rowv g n)) tb R n (fun j=>if j=i then g else gs j) (fun j=>if j=i then m else M j):=by
 have hk:=least.qbv W tb i (rowv g n)
 refine⟨?_,fun j hj=>?_⟩
 ·rw [heap_setCell_same _ tb i _ _ _ h.row,qac,qjo]
 ·by_cases e:j=i
  ·simp only [if_pos e];exact hg.keep hk h.row
  ·simp only [if_neg e];exact (h.rows j hj).keep hk h.row
theorem MatAt.congr {W:World} {tb R n:Nat} {gs gs':Nat→Nat} {M M':Nat→Nat→Int} (h:MatAt W tb R n gs M) (hg:∀i,i<R→gs i=gs' i) (hM:∀i,i<R→M i=M' i):MatAt W tb R n gs' M':=by
 refine⟨?_,fun i hi=>by rw [←hg i hi,←hM i hi];exact h.rows i hi⟩
 rw [h.row]
 congr 3
 exact List.map_congr_left fun i hi=>by rw [hg i (qa1.1 hi)]
def PivAs (w:World) (tb R n k c:Nat) (gs:Nat→Nat) (M:Nat→Nat→Int) (e:Ending) (w':World):Prop :=
 (e=.returned (.bool false)∧w'=w∧∀i,k≤i→i<R→M i c=0) ∨
 (e=.returned (.bool true)∧w.grownBy w' (some tb)∧∃a,k≤a∧a<R∧M a c≠0∧MatAt w' tb R n (fun j=>if j=k then gs a else if j=a then gs k else gs j) (fun j=>if j=k then M a else if j=a then M k else M j))
theorem qgI (tb R n k c:Nat) (gs:Nat→Nat) (M:Nat→Nat→Int) (w:World) (hR:R≤1024) (hk:k<R) (hc:c<n) (_hn:n≤1024) (hM:MatAt w tb R n gs M) :
  Calls Tryz.prog 108 #[.slice (some ⟨tb,0,none⟩) R R,.int .i64 k,.int .i64 c] w fun e w'=>PivAs w tb R n k c gs M e w':=by
 have HM:=qH hM
 have hki:(k:Int)<R:=by omega
 have hci:(c:Int)<n:=by omega
 clear hM
 go_enter Tryz.func108,Tryz.ntmps108
 go_wp2
 go_step3
 go_wp2
 go_step3
 go_wp2
 go_loopw [7,8] (fun x7 x8 W=>∃i:Nat,k≤i∧i≤R∧x7=.int .i64 (-1)∧x8=.int .i64 i∧W=w∧Hid (∀j,k≤j→j<i→M j c=0)) (fun _ x8 _=>R-(intOf x8).toNat)
 case atStart=>exact⟨k,qah _,qaC hk,rfl,rfl,rfl,qH (fun j h1 h2=>absurd h1 (by omega))⟩
 case round =>
  obtain⟨i,hik,hiR,rfl,rfl,rfl,hI⟩:=hrel
  by_cases hi:i<R
  ·have hii:(i:Int)<R:=by omega
   obtain⟨ps,hps,hrow,hpa⟩:=HM.out.rows i hi
   obtain⟨c0,f0⟩:=HM.out.cell hi
   obtain⟨d0,d1⟩:=qbL.cells hps hrow c hc
   obtain⟨h1,h2⟩:=hpa c (by omega)
   have hz:=least.qcA (M i c).natAbs _ wr h2
   have HZ:=qH hz
   obtain⟨a,_,_,cc,m,_,e,_,_⟩:=h2
   rw [e] at d0
   rw [e] at HZ
   clear hz e d1 h1 hps hrow hpa
   go_wp2_with fail
   refine HZ.out.mono ?_
   rintro e w2 ⟨rfl,hw2⟩
   subst hw2
   by_cases h0:(M i c).natAbs=0
   ·rw [decide_eq_true h0]
    go_wp2_with fail
    go_roundw
    case rel =>
     refine⟨i+1,by omega,hi,rfl,by go_num,trivial,qH (fun j h1 h2=>?_)⟩
     by_cases e:j=i
     ·subst e;omega
     ·exact hI.out j h1 (by omega)
    case measure=>simp [intOf];omega
   ·rw [decide_eq_false h0]
    obtain⟨c1,f1⟩:=HM.out.cell hk
    have m1:=HM.out.set i (gs k) (M k) (HM.out.rows k hk)
    have m2:=m1.set k (gs i) (M i) ((HM.out.rows i hi).keep (least.qbv w2 tb i (rowv (gs k) n)) HM.out.row)
    obtain⟨c2,f2⟩:=m1.cell hk
    have H2:=qH m2
    have H0:=qH h0
    clear m1 m2 h0 hR
    go_wp2_with fail
    go_region
    all_goals go_wp2_with fail
    all_goals rw [Exit.noGoto_ret]
    all_goals go_ret
    all_goals exact qaA ⟨rfl,qce (qbs (least.qbv _ _ _ _) (least.qbv _ _ _ _)) qB.drew,i,hik,hi,fun h=>H0.out (by rw [h];rfl),H2.out.below qB.drew⟩
  ·obtain rfl:i=R:=by omega
   go_wp2_with fail
   rw [Exit.noGoto_ret]
   go_ret
   exact qaJ ⟨rfl,rfl,hI.out⟩
end Go.Proofs.YtfminfgabiipjaaGreatDoor
