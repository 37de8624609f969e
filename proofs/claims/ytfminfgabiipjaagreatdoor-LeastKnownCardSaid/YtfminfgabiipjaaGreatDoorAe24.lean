/- Ae, part 24: Rnk Elm Frw Slv Tbl -/
import Derived.Deep.DrawnRows
import Derived.Test.YtfminfgabiipjaaGreatDoorAe0
import Derived.Test.YtfminfgabiipjaaGreatDoorAe22
import Derived.Test.YtfminfgabiipjaaGreatDoorAe23
set_option maxRecDepth 100000
set_option maxHeartbeats 16000000
namespace Go.Proofs.YtfminfgabiipjaaGreatDoor
open Go.RowKit
def KK (K k:Nat):Nat:=(K+1)*2 ^ k-1
theorem qfX (K:Nat):KK K 0=K:=by unfold KK;rw [Nat.pow_zero,Nat.mul_one];omega
theorem qfW (K k:Nat):KK K (k+1)=KK K k+KK K k+1:=by
 unfold KK
 have h:0<(K+1)*2 ^ k:=Nat.mul_pos (by omega) (Nat.pow_pos (by decide))
 rw [qaz,←qau]
 omega
theorem KK_le {K k:Nat} (hK:K≤33554430) (hk:k≤10):KK K k≤34359738368:=by
 unfold KK
 have h1:2 ^ k≤2 ^ 10:=qa6 (by decide) hk
 have h2:(K+1)*2 ^ k≤(K+1)*2 ^ 10:=qaG _ h1
 have h3:(2:Nat) ^ 10=1024:=by decide
 rw [h3] at h2
 omega
theorem qhr {a b c d z:Int} {K:Nat} (ha:Fit a.natAbs K) (hb:Fit b.natAbs K) (hc:Fit c.natAbs K) (hd:Fit d.natAbs K):Fit ((a*b-c*d).tdiv z).natAbs (K+K+1):=by
 have h1:=ha.mul hb
 have h2:=hc.mul hd
 rw [←qaQ] at h1 h2
 refine ((h1.add h2).le ?_)
 refine qak ?_ (show (a*b-c*d).natAbs≤_ by omega)
 rw [Int.natAbs_tdiv]
 exact qa5 _ _
def qbY (M:Nat→Nat→Int) (k c:Nat) (D:Int) (i:Nat):Nat→Nat→Int:=qbB (fun j=>decide (k<j) && decide (j<i)) M k c D
theorem qii (M:Nat→Nat→Int) (k c:Nat) (D:Int):qbY M k c D (k+1)=M:=by
 funext j
 unfold qbY qbB
 rw [if_neg]
 intro h
 have:=h.1
 simp only [qaR,decide_eq_true_eq] at this
 omega
theorem qfk (M:Nat→Nat→Int) (k c:Nat) (D:Int) (i:Nat):qbY M k c D i i=M i∧qbY M k c D i k=M k:=by
 unfold qbY qbB
 constructor
 ·rw [if_neg];intro h;have:=h.1;simp only [qaR,decide_eq_true_eq] at this;omega
 ·rw [if_neg];intro h;exact h.2 rfl
theorem qji (M:Nat→Nat→Int) (k c:Nat) (D:Int) (i:Nat) (hi:k<i):(fun j=>if j=i then (fun x=>(M k c*M i x-M i c*M k x).tdiv D) else qbY M k c D i j)=qbY M k c D (i+1):=by
 funext j
 by_cases e:j=i
 ·subst e
  rw [if_pos rfl]
  unfold qbY qbB
  rw [if_pos ⟨by simp only [qaR,decide_eq_true_eq];omega,by omega⟩]
 ·rw [if_neg e]
  unfold qbY qbB
  have h:(decide (k<j) && decide (j<i))=(decide (k<j) && decide (j<i+1)):=by
   rw [show decide (j<i)=decide (j<i+1) from decide_eq_decide.2 (by omega)]
  simp only [h]
theorem part_end (M:Nat→Nat→Int) (k c:Nat) (D:Int) (R:Nat):∀j,j<R→qbY M k c D R j=qbB (fun i=>decide (k<i)) M k c D j:=by
 intro j hj
 unfold qbY qbB
 simp only [decide_eq_true hj,Bool.and_true]
theorem part_fit {M:Nat→Nat→Int} {k c:Nat} {D:Int} {R n K:Nat} (hk:k<R) (hc:c<n) (h:∀i,i<R→∀j,j<n→Fit (M i j).natAbs K):∀i,i<R→∀j,j<n→Fit (qbB (fun i=>decide (k<i)) M k c D i j).natAbs (K+K+1):=by
 intro i hi j hj
 unfold qbB
 split
 ·exact qhr (h k hk c hc) (h i hi j hj) (h i hi c hc) (h k hk j hj)
 ·exact (h i hi j hj).mono (by omega)
theorem qhT {M:Nat→Nat→Int} {k a R n K:Nat} (hk:k<R) (ha:a<R) (h:∀i,i<R→∀j,j<n→Fit (M i j).natAbs K):∀i,i<R→∀j,j<n→Fit (qbH M k a i j).natAbs K:=by
 intro i hi j hj
 unfold qbH
 split
 ·exact h a ha j hj
 ·split
  ·exact h k hk j hj
  ·exact h i hi j hj
def qbJ (W:World) (g:Nat) (z:Int):Prop:=∃(a:Option Addr) (m c:Nat) (b:Bool),W.heap[g]? = some (.cells #[.slice a m c,.bool b] 105 (0,0))∧IntAt W (.agg #[.slice a m c,.bool b]) z
theorem qbJ.below {W W':World} {g:Nat} {z:Int} (h:qbJ W g z) (hb:Below W.heap.size W W'):qbJ W' g z:=by
 obtain⟨a,m,c,b,h1,h2⟩:=h
 exact⟨a,m,c,b,(hb.block _ (qG h1).1).trans h1,h2.below hb⟩
theorem qbJ.keep {W W':World} {g tb R n:Nat} {gs:Nat→Nat} {z:Int} (h:qbJ W g z) (hk:W.grownBy W' (some tb)) (ht:W.heap[tb]? = some (.cells (rowvs R n gs).toArray 79 (0,0))):qbJ W' g z:=by
 obtain⟨a,m,c,b,h1,x,e,h2⟩:=h
 have hne:g≠tb:=by
  intro e
  subst e
  have:=h1.symm.trans ht
  simp at this
 exact⟨a,m,c,b,(hk.block _ (qG h1).1 (fun e=>hne (qam e))).trans h1,x,e,qb2 h2 hk ht qfm⟩
theorem qhu {a:Option Addr} {m c:Nat} {b:Bool}:∀x∈(#[.slice a m c,.bool b]:Array Value).toList,∀d,x≠.int .u32 d:=by
 intro x hx d e
 rcases qaN.1 hx with h | h
 ·rw [h] at e;cases e
 ·rw [qao.1 h] at e;cases e
theorem qcR (W:World) (g:Nat) (u v:Value):W.grownBy ((W.setCell ⟨g,0,none⟩ u).setCell ⟨g,1,none⟩ v) (some g):=qbs (least.qbv W g 0 u) (least.qbv _ g 1 v)
theorem qbJ.put {W:World} {g:Nat} {z0 z:Int} {a:Option Addr} {m c:Nat} {b:Bool} (h:qbJ W g z0) (hi:IntAt W (.agg #[.slice a m c,.bool b]) z):qbJ ((W.setCell ⟨g,0,none⟩ (.slice a m c)).setCell ⟨g,1,none⟩ (.bool b)) g z:=by
 obtain⟨a0,m0,c0,b0,h1,_⟩:=h
 obtain⟨x,e,hm⟩:=hi
 exact⟨a,m,c,b,heap_setCell_same _ g 1 _ _ _ (heap_setCell_same _ g 0 _ _ _ h1),x,e,qb2 hm (qcR W g _ _) h1 qhu⟩
theorem qbL.put {W W':World} {g g' n:Nat} {z0:Int} {m:Nat→Int} (h:qbL W g' n m) (hb:qbJ W g z0) (hk:W.grownBy W' (some g)) (hne:g'≠g):qbL W' g' n m:=by
 obtain⟨a0,m0,c0,b0,h1,_⟩:=hb
 obtain⟨ps,p1,p2,p3⟩:=h
 exact⟨ps,p1,⟨(hk.block _ (qG p2.1).1 (fun e=>hne (qam e))).trans p2.1,p2.2⟩,p3.keep hk h1 qhu⟩
theorem MatAt.put {W W':World} {tb R n g:Nat} {gs:Nat→Nat} {M:Nat→Nat→Int} {z0:Int} (h:MatAt W tb R n gs M) (hb:qbJ W g z0) (hk:W.grownBy W' (some g)) (hne:∀i,i<R→gs i≠g):MatAt W' tb R n gs M:=by
 refine⟨?_,fun i hi=>(h.rows i hi).put hb hk (hne i hi)⟩
 have:tb≠g:=by
  intro e
  subst e
  obtain⟨_,_,_,_,h1,_⟩:=hb
  have:=h.row.symm.trans h1
  simp at this
 exact (hk.block _ (qG h.row).1 (fun e=>this (qam e))).trans h.row
theorem qbJ.cells {W:World} {g:Nat} {z:Int} (h:qbJ W g z):∃(a:Option Addr) (m c:Nat) (b:Bool),(W.cell? ⟨g,0,none⟩=some (.slice a m c)∧W.cell? ⟨g,1,none⟩=some (.bool b))∧(W.frozen? ⟨g,0,none⟩=false∧W.frozen? ⟨g,1,none⟩=false)∧IntAt W (.agg #[.slice a m c,.bool b]) z:=by
 obtain⟨a,m,c,b,h1,h2⟩:=h
 exact⟨a,m,c,b,⟨cell_of_row _ _ 0 _ _ _ h1,cell_of_row _ _ 1 _ _ _ h1⟩,⟨frozen_of_row _ _ 0 _ _ h1,frozen_of_row _ _ 1 _ _ h1⟩,h2⟩
theorem qbL.pair {W:World} {g n:Nat} {m:Nat→Int} (h:qbL W g n m) {c:Nat} (hc:c<n):∃(a:Option Addr) (l k:Nat) (b:Bool),W.cell? ⟨g,c*2,none⟩=some (.slice a l k)∧W.cell? ⟨g,c*2+1,none⟩=some (.bool b)∧IntAt W (.agg #[.slice a l k,.bool b]) (m c):=by
 obtain⟨ps,h1,h2,h3⟩:=h
 obtain⟨d0,d1⟩:=qbL.cells h1 h2 c hc
 obtain⟨a,l,k,b,e,hi⟩:=qcB h3 (k:=c) (by omega)
 rw [e] at d0 d1
 exact⟨a,l,k,b,d0,d1,hi⟩
theorem qbJ.lt {W:World} {g:Nat} {z:Int} (h:qbJ W g z):g<W.heap.size:=by
 obtain⟨_,_,_,_,h1,_⟩:=h
 exact (qG h1).1
theorem qcW {a b:World} {row:Option Nat} (h:a.grownBy b row) {p:Addr} (hp:a.heap.size≤p.block) (v:Value):a.grownBy (b.setCell p v) row :=
 ⟨h.os,h.tape,h.output,by simpa [World.setCell] using h.size,fun i hi hne=>(Below.heap_setCell b p v i (by omega)).trans (h.block i hi hne)⟩
theorem part_set {W:World} {tb R n k c i g:Nat} {D:Int} {gs:Nat→Nat} {M:Nat→Nat→Int} (h:MatAt W tb R n gs (qbY M k c D i)) (hi:k<i) (hg:qbL W g n (fun j=>(qbY M k c D i k c*qbY M k c D i i j-qbY M k c D i i c*qbY M k c D i k j).tdiv D)) :
  MatAt (W.setCell ⟨tb,i,none⟩ (rowv g n)) tb R n (fun j=>if j=i then g else gs j) (qbY M k c D (i+1)):=by
 rw [(qfk M k c D i).1,(qfk M k c D i).2] at hg
 have:=h.set i g _ hg
 rw [qji M k c D i hi] at this
 exact this
theorem qiS {R i g x:Nat} {gs:Nat→Nat} (h:∀j,j<R→gs j≠x) (hg:g≠x):∀j,j<R→(fun j=>if j=i then g else gs j) j≠x:=by
 intro j hj
 by_cases e:j=i
 ·simp only [if_pos e];exact hg
 ·simp only [if_neg e];exact h j hj
theorem qg8 {R k a x:Nat} {gs:Nat→Nat} (hk:k<R) (ha:a<R) (h:∀i,i<R→gs i≠x):∀i,i<R→(fun j=>if j=k then gs a else if j=a then gs k else gs j) i≠x:=by
 intro i hi
 by_cases e:i=k
 ·simp only [if_pos e];exact h a ha
 ·by_cases e2:i=a
  ·simp only [if_neg e,if_pos e2];exact h k hk
  ·simp only [if_neg e,if_neg e2];exact h i hi
theorem qd2 {W:World} {gi gk n c K:Nat} {mi mk:Nat→Int} {v0:Value} {z0:Int} (hK:K≤34359738368) (hn:n≤64) (hc:c<n) (hi:qbL W gi n mi) (hk:qbL W gk n mk) (hfi:∀j,j<n→Fit (mi j).natAbs K) (hfk:∀j,j<n→Fit (mk j).natAbs K) (h0:IntAt W v0 z0) (hf0:Fit z0.natAbs K) (hz0:z0≠0) :
  Calls Tryz.prog 109 #[rowv gi n,rowv gk n,.int .i64 c,v0] W fun e W'=>∃g,e=.returned (rowv g n)∧W.heap.size≤g∧Below W.heap.size W W'∧qbL W' g n (fun j=>(mk c*mi j-mi c*mk j).tdiv z0):=by
 obtain⟨ps,p1,p2,p3⟩:=hi
 obtain⟨qs,q1,q2,q3⟩:=hk
 refine (qgu gi gk n n n c ps qs mi mk K hK v0 z0 W hn hc p1 q1 (qbL.cells p1 p2) (qbL.cells q1 q2) p3 q3 hfi hfk h0 hf0 hz0).mono ?_
 rintro e W' ⟨g,rs,rfl,hg,hb,hrl,hrow,hps⟩
 exact⟨g,rfl,hg,hb,rs,hrl,hrow,hps⟩
theorem rank_any (tb R n K:Nat) (gs:Nat→Nat) (A:Nat→Nat→Int) (w:World) (hR0:0<R) (hR:R≤1024) (hn:n≤10) (hK:K≤33554430) (hK0:0<K) (hM:MatAt w tb R n gs A) (hgs:∀i,i<R→gs i<w.heap.size) (hF:∀i,i<R→∀j,j<n→Fit (A i j).natAbs K) :
  Calls Tryz.prog 51 #[.slice (some ⟨tb,0,none⟩) R R] w fun e w'=>∃k:Nat,e=.returned (.int .i64 k)∧w.grownBy w' (some tb)∧qbQ R n (castM A) k:=by
 have HM:=qH (qA hM (qA hgs hF))
 have htb:tb<w.heap.size:=(qG hM.row).1
 have hR0i:(0:Int)<R:=by omega
 clear hM hF hgs
 go_enter Tryz.func51,Tryz.ntmps51
 go_wp2_with fail
 go_loopw [4,5] (fun x4 x5 W=>∃(k c:Nat) (D:Int) (gs:Nat→Nat) (M:Nat→Nat→Int),k≤R∧k≤c∧c≤n∧x4=.int .i64 k∧x5=.int .i64 c∧Hid (RankSt R n k c D M A)∧Hid (MatAt W tb R n gs M∧∀i,i<R→gs i≠w.heap.size+1)∧Hid (qbJ W (w.heap.size+1) D)∧Hid (w.grownBy W (some tb))∧Hid (Fit D.natAbs (KK K k)∧∀i,i<R→∀j,j<n→Fit (M i j).natAbs (KK K k))) (fun _ x5 _=>n-(intOf x5).toNat)
 case atStart =>
  have hb:Below w.heap.size w ((w.alloc (.cells #[.int .u32 1] 106)).alloc (.cells #[.slice (some ⟨w.heap.size,0,none⟩) 1 1,.bool false] 105)):=qbp (qbp qB qN) qN
  refine⟨0,0,1,gs,A,qat _,qah _,qat _,rfl,rfl,qH (RankSt.start _ _ _),qH ⟨HM.out.1.below hb,fun i hi=>by have:=HM.out.2.1 i hi;omega⟩,qH ⟨_,_,_,_,qM _ _ _ (by simp),_,rfl,?_⟩,qH (qbu _ hb),qH ⟨?_,fun i hi j hj=>by rw [qfX];exact HM.out.2.2 i hi j hj⟩⟩
  ·exact (qdq w _ (by decide) (by decide)).below (qbp qB qN)
  ·rw [qfX]
   exact Fit.mono (show Fit 1 1 by show 1<1000000000 ^ 1;decide) hK0
 case round =>
  obtain⟨k,c,D,gs1,M,hk,hkc,hc,rfl,rfl,hS,hMt,hI,hG,hFt⟩:=hrel
  obtain⟨c0,f0⟩:=hMt.out.1.cell hR0
  by_cases hcn:c<n
  ·have hcni:(c:Int)<n:=by omega
   by_cases hkR:k<R
   ·have hkRi:(k:Int)<R:=by omega
    go_wp2_with fail
    refine (qgI tb R n k c gs1 M _ hR hkR hcn (by omega) hMt.out.1).mono ?_
    rintro e w2 (⟨rfl,hw,h0⟩ | ⟨rfl,hg2,a,hka,haR,hne,hM2⟩)
    ·subst hw
     have H0:=qH h0
     clear h0
     go_wp2_with fail
     go_roundw
     case rel=>exact⟨k,c+1,D,gs1,M,hk,by omega,hcn,rfl,by go_num,qH (hS.out.none H0.out),hMt,hI,hG,hFt⟩
     case measure=>simp [intOf];omega
    ·have HS2:=qH (hS.out.swap hka haR)
     have HI2:=qH (hI.out.keep hg2 hMt.out.1.row)
     have HG2:=qH (qbs hG.out hg2)
     have HF2:=qH (qA hFt.out.1 (qhT hkR haR hFt.out.2))
     have HN2:=qH (show qbH M k a k c≠0 by unfold qbH;rw [if_pos rfl];exact hne)
     obtain⟨gs2,hgs2⟩:∃gs2,gs2=(fun j=>if j=k then gs1 a else if j=a then gs1 k else gs1 j):=⟨_,rfl⟩
     have hgd:=qg8 hkR haR hMt.out.2
     rw [←hgs2] at hM2 hgd
     have hM2':MatAt w2 tb R n gs2 (qbH M k a):=hM2
     obtain⟨M2,hM2e⟩:∃M2,M2=qbH M k a:=⟨_,rfl⟩
     rw [←hM2e] at hM2' HS2 HF2 HN2
     have HM2:=qH (qA hM2' hgd)
     clear hM2 hM2' hgs2 hM2e hne hg2 hgd c0 f0 hS hMt hI hG hFt
     go_wp2_with fail
     go_loopw [6] (fun x6 W=>∃(i:Nat) (gs:Nat→Nat),k<i∧i≤R∧x6=.int .i64 i∧Hid (MatAt W tb R n gs (qbY M2 k c D i)∧∀i,i<R→gs i≠w.heap.size+1)∧Hid (qbJ W (w.heap.size+1) D)∧Hid (w.grownBy W (some tb))) (fun x6 _=>R-(intOf x6).toNat)
     case atStart=>exact⟨k+1,gs2,by omega,by omega,by go_num,qH ⟨by rw [qii];exact HM2.out.1,HM2.out.2⟩,HI2,HG2⟩
     case round =>
      obtain⟨i,gs3,hki,hiR,rfl,hM3,hI3,hG3⟩:=hrel
      by_cases hi:i<R
      ·have hii:(i:Int)<R:=by omega
       obtain⟨ci,fi⟩:=hM3.out.1.cell hi
       obtain⟨ck,fk⟩:=hM3.out.1.cell hkR
       obtain⟨a,m,d,b,⟨e0,e1⟩,_,hin⟩:=hI3.out.cells
       have HC:=qH (fun W (h:Below wr.heap.size wr W)=>qd2 (KK_le hK (show k≤10 by omega)) (show n≤64 by omega) hcn ((hM3.out.1.below h).rows i hi) ((hM3.out.1.below h).rows k hkR) (by rw [(qfk M2 k c D i).1];exact HF2.out.2 i hi) (by rw [(qfk M2 k c D i).2];exact HF2.out.2 k hkR) (hin.below h) HF2.out.1 HS2.out.nz)
       have hstD:Below wr.heap.size wr wr.drew:=qB.drew
       clear hin
       go_wp2_with fail
       go_region_with (first | (go_at_call 109;refine (HC.out _ hstD).mono ?_;rintro e w4 ⟨g,rfl,hg4,hb4,hr4⟩;have hb:=hstD.trans hb4;obtain⟨q0,q1⟩:=(hM3.out.1.below hb).cell hi;have HX:=qH (qA (hM3.out.1.below hb) (qA (hI3.out.below hb) (qA hg4 (qA hr4 (qce hG3.out hb)))));clear hb4 hr4 hb))
       all_goals go_wp2_with fail
       all_goals go_roundw
       all_goals first
        | exact⟨i+1,_,by omega,hi,by go_num,qH ⟨part_set HX.out.1 hki HX.out.2.2.2.1,qiS hM3.out.2 (qbj (qal hI3.out.lt HX.out.2.2.1))⟩,qH (HX.out.2.1.keep (least.qbv _ _ _ _) HX.out.1.row),qH (qbs HX.out.2.2.2.2 (least.qbv _ _ _ _))⟩
        | (simp [intOf];omega)
      ·obtain rfl:i=R:=by omega
       obtain⟨ck,fk⟩:=hM3.out.1.cell hkR
       obtain⟨a,m,d,b,⟨e0,e1⟩,⟨z0,z1⟩,_⟩:=hI3.out.cells
       obtain⟨a2,m2,d2,b2,p0,p1,hin⟩:=(hM3.out.1.rows k hkR).pair hcn
       rw [(qfk M2 k c D i).2] at hin
       have HX:=qH hin
       clear hin
       go_wp2_with fail
       go_roundw
       case rel =>
        refine⟨k+1,c+1,M2 k c,gs3,qbB (fun i=>decide (k<i)) M2 k c D,by omega,by omega,hcn,by go_num,by go_num,qH (HS2.out.next hkR hcn HN2.out),qH ⟨(hM3.out.1.put hI3.out (qcR _ _ _ _) hM3.out.2).congr (fun _ _=>rfl) (part_end M2 k c D i),hM3.out.2⟩,qH (hI3.out.put HX.out),qH ?_,qH ⟨?_,?_⟩⟩
        ·exact qcW (qcW hG3.out (Nat.le_succ _) _) (Nat.le_succ _) _
        ·rw [qfW];exact (HF2.out.2 k hkR c hcn).mono (by omega)
        ·rw [qfW];exact part_fit hkR hcn HF2.out.2
       case measure=>simp [intOf];omega
   ·go_wp2_with fail
    go_ret
    exact⟨k,rfl,hG.out,hS.out.done hk hc (qaA (by omega))⟩
  ·go_wp2_with fail
   go_ret
   exact⟨k,rfl,hG.out,hS.out.done hk hc (qaJ (by omega))⟩
def epart (M:Nat→Nat→Int) (k:Nat) (D:Int) (i:Nat):Nat→Nat→Int:=qbB (fun j=>decide (j<i)) M k k D
theorem qg5 (M:Nat→Nat→Int) (k:Nat) (D:Int):epart M k D 0=M:=by
 funext j
 unfold epart qbB
 rw [if_neg]
 intro h
 have:=of_decide_eq_true h.1
 omega
theorem qd4 (M:Nat→Nat→Int) (k:Nat) (D:Int) (i:Nat):epart M k D i i=M i∧epart M k D i k=M k:=by
 unfold epart qbB
 constructor
 ·rw [if_neg];intro h;have:=of_decide_eq_true h.1;omega
 ·rw [if_neg];intro h;exact h.2 rfl
theorem qhY (M:Nat→Nat→Int) (k:Nat) (D:Int) (i:Nat) (hi:i≠k):(fun j=>if j=i then (fun x=>(M k k*M i x-M i k*M k x).tdiv D) else epart M k D i j)=epart M k D (i+1):=by
 funext j
 by_cases e:j=i
 ·subst e
  rw [if_pos rfl]
  unfold epart qbB
  rw [if_pos ⟨decide_eq_true (by omega),hi⟩]
 ·rw [if_neg e]
  unfold epart qbB
  have h:decide (j<i)=decide (j<i+1):=decide_eq_decide.2 (by omega)
  simp only [h]
theorem qhZ (M:Nat→Nat→Int) (k:Nat) (D:Int):epart M k D k=epart M k D (k+1):=by
 funext j
 unfold epart qbB
 by_cases e:j=k
 ·rw [if_neg (fun h=>h.2 e),if_neg (fun h=>h.2 e)]
 ·have h:decide (j<k)=decide (j<k+1):=decide_eq_decide.2 (by omega)
  simp only [h]
theorem qiJ (M:Nat→Nat→Int) (k:Nat) (D:Int) (R:Nat):∀j,j<R→epart M k D R j=qbB (fun _=>true) M k k D j:=by
 intro j hj
 unfold epart qbB
 simp only [decide_eq_true hj]
theorem qiK {M:Nat→Nat→Int} {k:Nat} {D:Int} {R n K:Nat} (hk:k<R) (hc:k<n) (h:∀i,i<R→∀j,j<n→Fit (M i j).natAbs K):∀i,i<R→∀j,j<n→Fit (qbB (fun _=>true) M k k D i j).natAbs (K+K+1):=by
 intro i hi j hj
 unfold qbB
 split
 ·exact qhr (h k hk k hc) (h i hi j hj) (h i hi k hc) (h k hk j hj)
 ·exact (h i hi j hj).mono (by omega)
theorem qiL {W:World} {tb R n k i g:Nat} {D:Int} {gs:Nat→Nat} {M:Nat→Nat→Int} (h:MatAt W tb R n gs (epart M k D i)) (hi:i≠k) (hg:qbL W g n (fun j=>(epart M k D i k k*epart M k D i i j-epart M k D i i k*epart M k D i k j).tdiv D)) :
  MatAt (W.setCell ⟨tb,i,none⟩ (rowv g n)) tb R n (fun j=>if j=i then g else gs j) (epart M k D (i+1)):=by
 rw [(qd4 M k D i).1,(qd4 M k D i).2] at hg
 have:=h.set i g _ hg
 rw [qhY M k D i hi] at this
 exact this
theorem qbJ.other {W:World} {g g':Nat} {z z0:Int} {u v:Value} (h:qbJ W g z) (h':qbJ W g' z0) (hne:g≠g'):qbJ ((W.setCell ⟨g',0,none⟩ u).setCell ⟨g',1,none⟩ v) g z:=by
 obtain⟨a,m,c,b,h1,x,e,h2⟩:=h
 obtain⟨_,_,_,_,k1,_⟩:=h'
 have hk:=qcR W g' u v
 exact⟨a,m,c,b,(hk.block _ (qG h1).1 (fun e=>hne (qam e))).trans h1,x,e,qb2 h2 hk k1 qhu⟩
theorem qbJ.row2 {W:World} {g:Nat} {z0 z:Int} {a:Option Addr} {m c:Nat} {b:Bool} (h:qbJ W g z0) (hi:IntAt W (.agg #[.slice a m c,.bool b]) z):((W.setCell ⟨g,0,none⟩ (.slice a m c)).setCell ⟨g,1,none⟩ (.bool b)).heap[g]? = some (.cells #[.slice a m c,.bool b] 105 (0,0))∧IntAt ((W.setCell ⟨g,0,none⟩ (.slice a m c)).setCell ⟨g,1,none⟩ (.bool b)) (.agg #[.slice a m c,.bool b]) z:=by
 obtain⟨a0,m0,c0,b0,h1,_⟩:=h
 obtain⟨x,e,hm⟩:=hi
 exact⟨heap_setCell_same _ g 1 _ _ _ (heap_setCell_same _ g 0 _ _ _ h1),x,e,qb2 hm (qcR W g _ _) h1 qhu⟩
theorem qbJ.zero {W:World} {g:Nat} {z0:Int} (h:qbJ W g z0):((W.setCell ⟨g,0,none⟩ (.slice none 0 0)).setCell ⟨g,1,none⟩ (.bool false)).heap[g]? = some (.cells #[.slice none 0 0,.bool false] 105 (0,0)) :=
 (h.row2 (z:=0) ⟨_,rfl,MagAt.nil _⟩).1
def ElmAs (w:World) (tb R n K:Nat) (A:Nat→Nat→Int) (e:Ending) (w':World):Prop :=
  ∃(v:Value) (z:Int),e=.returned v∧IntAt w' v z∧w.grownBy w' (some tb) ∧
    ((z=0∧∃(k:Nat) (D:Int) (M:Nat→Nat→Int),k<R∧ElimSt R n k D M A∧∀i,k≤i→i<R→M i k=0) ∨
     (Fit z.natAbs (KK K R)∧∃(gs:Nat→Nat) (M:Nat→Nat→Int),MatAt w' tb R n gs M∧ElimSt R n R z M A∧∀i,i<R→∀j,j<n→Fit (M i j).natAbs (KK K R)))
theorem elim_any (tb R n K:Nat) (gs:Nat→Nat) (A:Nat→Nat→Int) (w:World) (hR0:0<R) (hR:R≤10) (hRn:R≤n) (hn:n≤11) (hK:K≤33554430) (hK0:0<K) (hM:MatAt w tb R n gs A) (hgs:∀i,i<R→gs i<w.heap.size) (hF:∀i,i<R→∀j,j<n→Fit (A i j).natAbs K) :
  Calls Tryz.prog 112 #[.slice (some ⟨tb,0,none⟩) R R] w fun e w'=>ElmAs w tb R n K A e w':=by
 have HM:=qH (qA hM (qA hgs hF))
 have htb:tb<w.heap.size:=(qG hM.row).1
 have hR0i:(0:Int)<R:=by omega
 clear hM hF hgs
 go_enter Tryz.func112,Tryz.ntmps112
 go_wp2_with fail
 go_loopw [10] (fun x10 W=>∃(k:Nat) (D:Int) (gs:Nat→Nat) (M:Nat→Nat→Int),k≤R∧x10=.int .i64 k∧Hid (ElimSt R n k D M A)∧Hid (MatAt W tb R n gs M∧(∀i,i<R→gs i≠w.heap.size+1+1)∧∀i,i<R→gs i≠w.heap.size)∧Hid (qbJ W (w.heap.size+1+1) D∧qbJ W w.heap.size 0)∧Hid (w.grownBy W (some tb))∧Hid (Fit D.natAbs (KK K k)∧∀i,i<R→∀j,j<n→Fit (M i j).natAbs (KK K k))) (fun x10 _=>R-(intOf x10).toNat)
 case atStart =>
  have hb:Below w.heap.size w (((w.alloc (.cells #[.slice none 0 0,.bool false] 105)).alloc (.cells #[.int .u32 1] 106)).alloc (.cells #[.slice (some ⟨w.heap.size+1,0,none⟩) 1 1,.bool false] 105)):=qbp (qbp (qbp qB qN) qN) qN
  refine⟨0,1,gs,A,qat _,rfl,qH (ElimSt.start _ _ _),qH ⟨HM.out.1.below hb,fun i hi=>by have:=HM.out.2.1 i hi;omega,fun i hi=>by have:=HM.out.2.1 i hi;omega⟩,qH ⟨⟨_,_,_,_,qM _ _ _ (by simp),_,rfl,?_⟩,⟨_,_,_,_,(qL _ _ _ (by simp only [qab];omega)).trans ((qL _ _ _ (by simp only [qab];omega)).trans (qM _ _ _ rfl)),_,rfl,MagAt.nil _⟩⟩,qH (qbu _ hb),qH ⟨?_,fun i hi j hj=>by rw [qfX];exact HM.out.2.2 i hi j hj⟩⟩
  ·have:=(qdq (w.alloc (.cells #[.slice none 0 0,.bool false] 105)) 106 (s:=1) (by decide) (by decide)).below (qbp (o:=.cells #[.slice (some ⟨w.heap.size+1,0,none⟩) 1 1,.bool false] 105) qB qN)
   rw [qab] at this
   exact this
  ·rw [qfX]
   exact Fit.mono (show Fit 1 1 by show 1<1000000000 ^ 1;decide) hK0
 case round =>
  obtain⟨k,D,gs1,M,hk,rfl,hS,hMt,hI,hG,hFt⟩:=hrel
  by_cases hkR:k<R
  ·have hkRi:(k:Int)<R:=by omega
   have hkn:k<n:=by omega
   go_wp2_with fail
   refine (qgI tb R n k k gs1 M _ (by omega) hkR hkn (by omega) hMt.out.1).mono ?_
   rintro e w2 (⟨rfl,hw,h0⟩ | ⟨rfl,hg2,a,hka,haR,hne,hM2⟩)
   ·subst hw
    have H0:=qH h0
    obtain⟨a,m,d,b,⟨e0,e1⟩,⟨z0,z1⟩,_⟩:=hI.out.2.cells
    have hput:=hI.out.2.zero
    have hkp:=qcW (qcW hG.out qN (p:=⟨w.heap.size,0,none⟩) (.slice none 0 0)) qN (p:=⟨w.heap.size,1,none⟩) (.bool false)
    have HX:=qH (qA hput hkp)
    clear h0 hput hkp
    go_wp2_with fail
    exact bodyPost_ret (v:=.agg #[.slice none 0 0,.bool false]) (qbE rfl _ _ w.heap.size 105 _ _ rfl HX.out.1 Tryz.underlying105 rfl 2 (by kernel_rfl) rfl) rfl ⟨_,0,rfl,⟨_,rfl,MagAt.nil _⟩,HX.out.2,qaJ ⟨rfl,k,D,M,hkR,hS.out,H0.out⟩⟩
   ·have HS2:=qH (hS.out.swap hka haR)
    have HI2:=qH (qA (hI.out.1.keep hg2 hMt.out.1.row) (hI.out.2.keep hg2 hMt.out.1.row))
    have HG2:=qH (qbs hG.out hg2)
    have HF2:=qH (qA hFt.out.1 (qhT hkR haR hFt.out.2))
    have HN2:=qH (show qbH M k a k k≠0 by unfold qbH;rw [if_pos rfl];exact hne)
    obtain⟨gs2,hgs2⟩:∃gs2,gs2=(fun j=>if j=k then gs1 a else if j=a then gs1 k else gs1 j):=⟨_,rfl⟩
    have hgd:=qg8 hkR haR hMt.out.2.1
    have hgd':=qg8 hkR haR hMt.out.2.2
    rw [←hgs2] at hM2 hgd hgd'
    have hM2':MatAt w2 tb R n gs2 (qbH M k a):=hM2
    obtain⟨M2,hM2e⟩:∃M2,M2=qbH M k a:=⟨_,rfl⟩
    rw [←hM2e] at hM2' HS2 HF2 HN2
    have HM2:=qH (qA hM2' (qA hgd hgd'))
    clear hM2 hM2' hgs2 hM2e hne hg2 hgd hgd' hS hMt hI hG hFt
    go_wp2_with fail
    go_loopw [21] (fun x21 W=>∃(i:Nat) (gs:Nat→Nat),i≤R∧x21=.int .i64 i∧Hid (MatAt W tb R n gs (epart M2 k D i)∧(∀i,i<R→gs i≠w.heap.size+1+1)∧∀i,i<R→gs i≠w.heap.size)∧Hid (qbJ W (w.heap.size+1+1) D∧qbJ W w.heap.size 0)∧Hid (w.grownBy W (some tb))) (fun x21 _=>R-(intOf x21).toNat)
    case atStart=>exact⟨0,gs2,qat _,rfl,qH ⟨by rw [qg5];exact HM2.out.1,HM2.out.2⟩,HI2,HG2⟩
    case round =>
     obtain⟨i,gs3,hiR,rfl,hM3,hI3,hG3⟩:=hrel
     by_cases hi:i<R
     ·have hii:(i:Int)<R:=by omega
      by_cases hik:i=k
      ·have hike:((i:Int) != (k:Int))=false:=by simp [hik]
       have Hsk:=qH (show epart M2 k D i=epart M2 k D (i+1) by rw [hik];exact qhZ M2 k D)
       clear hik
       go_wp2_with fail
       go_roundw
       case rel=>exact⟨i+1,gs3,hi,by go_num,qH ⟨by rw [←Hsk.out];exact hM3.out.1,hM3.out.2⟩,hI3,hG3⟩
       case measure=>simp [intOf];omega
      ·have hike:((i:Int) != (k:Int))=true:=by rw [bne_iff_ne];omega
       have Hik:=qH hik
       clear hik
       obtain⟨ci,fi⟩:=hM3.out.1.cell hi
       obtain⟨ck,fk⟩:=hM3.out.1.cell hkR
       obtain⟨a,m,d,b,⟨e0,e1⟩,_,hin⟩:=hI3.out.1.cells
       have HC:=qH (fun W (h:Below wr.heap.size wr W)=>qd2 (KK_le hK (show k≤10 by omega)) (show n≤64 by omega) hkn ((hM3.out.1.below h).rows i hi) ((hM3.out.1.below h).rows k hkR) (by rw [(qd4 M2 k D i).1];exact HF2.out.2 i hi) (by rw [(qd4 M2 k D i).2];exact HF2.out.2 k hkR) (hin.below h) HF2.out.1 HS2.out.nz)
       have hstD:Below wr.heap.size wr wr.drew:=qB.drew
       clear hin
       go_wp2_with fail
       go_region_with (first | (go_at_call 109;refine (HC.out _ hstD).mono ?_;rintro e w4 ⟨g,rfl,hg4,hb4,hr4⟩;have hb:=hstD.trans hb4;obtain⟨q0,q1⟩:=(hM3.out.1.below hb).cell hi;have HX:=qH (qA (hM3.out.1.below hb) (qA (qA (hI3.out.1.below hb) (hI3.out.2.below hb)) (qA hg4 (qA hr4 (qce hG3.out hb)))));clear hb4 hr4 hb))
       all_goals go_wp2_with fail
       all_goals go_roundw
       all_goals first
        | exact⟨i+1,_,hi,by go_num,qH ⟨qiL HX.out.1 Hik.out HX.out.2.2.2.1,qiS hM3.out.2.1 (qbj (qal hI3.out.1.lt HX.out.2.2.1)),qiS hM3.out.2.2 (qbj (qal hI3.out.2.lt HX.out.2.2.1))⟩,qH ⟨HX.out.2.1.1.keep (least.qbv _ _ _ _) HX.out.1.row,HX.out.2.1.2.keep (least.qbv _ _ _ _) HX.out.1.row⟩,qH (qbs HX.out.2.2.2.2 (least.qbv _ _ _ _))⟩
        | (simp [intOf];omega)
     ·obtain rfl:i=R:=by omega
      obtain⟨ck,fk⟩:=hM3.out.1.cell hkR
      obtain⟨a,m,d,b,⟨e0,e1⟩,⟨z0,z1⟩,_⟩:=hI3.out.1.cells
      obtain⟨a2,m2,d2,b2,p0,p1,hin⟩:=(hM3.out.1.rows k hkR).pair hkn
      rw [(qd4 M2 k D i).2] at hin
      have HX:=qH hin
      clear hin
      go_wp2_with fail
      go_roundw
      case rel =>
       refine⟨k+1,M2 k k,gs3,qbB (fun _=>true) M2 k k D,by omega,by go_num,qH (HS2.out.next hkR hkn HN2.out),qH ⟨(hM3.out.1.put hI3.out.1 (qcR _ _ _ _) hM3.out.2.1).congr (fun _ _=>rfl) (qiJ M2 k D i),hM3.out.2⟩,qH ⟨hI3.out.1.put HX.out,hI3.out.2.other hI3.out.1 (by omega)⟩,qH ?_,qH ⟨?_,?_⟩⟩
       ·exact qcW (qcW hG3.out (qar (Nat.le_succ _)) _) (qar (Nat.le_succ _)) _
       ·rw [qfW];exact (HF2.out.2 k hkR k hkn).mono (by omega)
       ·rw [qfW];exact qiK hkR hkn HF2.out.2
      case measure=>simp [intOf];omega
  ·obtain rfl:k=R:=by omega
   obtain⟨a,m,d,b,⟨e0,e1⟩,_,hin⟩:=hI.out.1.cells
   obtain⟨a2,m2,d2,b2,⟨p0,p1⟩,⟨z0,z1⟩,_⟩:=hI.out.2.cells
   have hput:=hI.out.2.row2 hin
   have hkp:=qcW (qcW hG.out qN (p:=⟨w.heap.size,0,none⟩) (.slice a m d)) qN (p:=⟨w.heap.size,1,none⟩) (.bool b)
   have hmt:=hMt.out.1.put hI.out.2 (qcR _ _ (.slice a m d) (.bool b)) hMt.out.2.2
   have HX:=qH (qA hput (qA hkp hmt))
   clear hin hput hkp hmt
   go_wp2_with fail
   exact bodyPost_ret (v:=.agg #[.slice a m d,.bool b]) (qbE rfl _ _ w.heap.size 105 _ _ rfl HX.out.1.1 Tryz.underlying105 rfl 2 (by kernel_rfl) rfl) rfl ⟨_,D,rfl,HX.out.1.2,HX.out.2.1,qaA ⟨hFt.out.1,gs1,M,HX.out.2.2,hS.out,hFt.out.2⟩⟩
def ftxt (q:Rat):FT:=(frac.wtxt q.num,num q.den)
theorem qf6 (q:Rat):fstr q=.agg #[.string (ftxt q).1,.string (ftxt q).2]:=rfl
def FRow (W:World) (g n:Nat) (l:List FT):Prop:=W.heap[g]? = some (.cells (fflat (l++List.replicate (n-l.length) fd0)).toArray 46 (0,0))∧l.length≤n
theorem FRow.below {W W':World} {g n:Nat} {l:List FT} (h:FRow W g n l) (hb:Below W.heap.size W W'):FRow W' g n l :=
 ⟨(hb.block _ (qG h.1).1).trans h.1,h.2⟩
theorem FRow.at {W:World} {g n:Nat} {l:List FT} (h:FRow W g n l) (hk:l.length<n):(W.cell? ⟨g,l.length*2,none⟩=some (.string ⟨#[]⟩)∧W.cell? ⟨g,l.length*2+1,none⟩=some (.string ⟨#[]⟩))∧∀j,W.frozen? ⟨g,j,none⟩=false:=by
 have h0:(l++List.replicate (n-l.length) fd0)[l.length]? = some fd0:=by
  rw [qay qN,qaU,qa8,if_pos (by omega)]
 obtain⟨h1,h2⟩:=qdA _ _ _ h0
 exact⟨⟨(cell_of_row _ _ _ _ _ _ h.1).trans ((qas ..).trans h1),(cell_of_row _ _ _ _ _ _ h.1).trans ((qas ..).trans h2)⟩,fun j=>frozen_of_row _ _ _ _ _ h.1⟩
theorem FRow.set {W:World} {g n:Nat} {l:List FT} (h:FRow W g n l) (hk:l.length<n) (x:FT) :
  FRow ((W.setCell ⟨g,l.length*2,none⟩ (.string x.1)).setCell ⟨g,l.length*2+1,none⟩ (.string x.2)) g n (l++[x]):=by
 refine⟨?_,by rw [qag,qaw];omega⟩
 rw [heap_setCell_same _ g (l.length*2+1) _ _ _ (heap_setCell_same _ g (l.length*2) _ _ _ h.1)]
 congr 3
 obtain⟨m,hm⟩:∃m,n-l.length=m+1:=⟨n-l.length-1,by omega⟩
 have e1:fflat (l++List.replicate (m+1) fd0)=fflat l++(.string fd0.1 :: .string fd0.2 :: fflat (List.replicate m fd0)):=by
  rw [qc4,qaP];rfl
 have e2:fflat (l++[x]++List.replicate m fd0)=fflat l++(.string x.1 :: .string x.2 :: fflat (List.replicate m fd0)):=by
  rw [qc4,qc4,qaH];rfl
 rw [qac,qac,hm,qag,qaw,show n-(l.length+1)=m by omega,e1,e2]
 rw [qbb _ _ (by rw [qbW];exact qah _),qbW,qaU,qae,qbb _ _ (by rw [qbW];omega),qbW,show l.length*2+1-l.length*2=1 by omega]
 rfl
theorem qiO (n:Nat):fflat (List.replicate n fd0)=List.replicate (n*2) (.string ⟨#[]⟩):=by
 induction n with
 | zero=>rfl
 | succ n ih =>
  rw [qaP,show (n+1)*2=n*2+1+1 by omega,qaP,qaP,←ih];rfl
theorem qid (n:Nat):madeCells #[.string ⟨#[]⟩,.string ⟨#[]⟩] (n*2)=(fflat (List.replicate n fd0)).toArray:=by
 rw [qiO]
 apply Array.ext'
 apply List.ext_getElem?
 intro i
 rw [Array.getElem?_toList]
 show _=(List.replicate (n*2) (Value.string ⟨#[]⟩))[i]?
 by_cases hi:i<n*2
 ·rw [qa8,if_pos hi]
  have hm:(madeCells #[.string ⟨#[]⟩,.string ⟨#[]⟩] (n*2))[i]? = some ((#[.string ⟨#[]⟩,.string ⟨#[]⟩]:Array Value)[i % 2]!):=by simp [madeCells,hi]
  rw [hm]
  congr 1
  rcases (show i % 2=0∨i % 2=1 by omega) with e | e <;> rw [e] <;> rfl
 ·rw [Array.getElem?_eq_none (by rw [size_madeCells];omega),qaX (by rw [qaY];omega)]
theorem FRow.made (W:World) (n:Nat):FRow (W.alloc (.cells (madeCells #[.string ⟨#[]⟩,.string ⟨#[]⟩] (n*2)) 46)) W.heap.size n []:=by
 refine⟨?_,qat _⟩
 rw [qM _ _ _ rfl,qbf,List.length_nil,Nat.sub_zero,qid]
theorem make_frs (n:Nat) (hn:n≤1048576) (w:World):(Instr.makeSlice 23 (.int .i64 (n:Int)) (.int .i64 (n:Int))).run Tryz.prog w=.ok (.slice (some ⟨w.heap.size,0,none⟩) n n) (w.alloc (.cells (madeCells #[.string ⟨#[]⟩,.string ⟨#[]⟩] (n*2)) 46)):=by
 obtain⟨i,hi,hz0,hz1,hz2⟩:=info_parts infoF
 have h:=run_make (P:=Tryz.prog) w 23 46 i _ Tryz.underlying23 hi hz0 .i64 .i64 (n:Int) (n:Int) (by omega) (Int.le_refl _) (by rw [hz2];omega) (by omega)
 rw [hz1,Int.toNat_natCast] at h
 exact h
theorem FRow.cells {W:World} {g n:Nat} {l:List FT} (h:FRow W g n l) (hl:l.length=n):FCells W (some ⟨g,0,none⟩) g 0 l:=by
 have h1:=h.1
 rw [hl,qaU,List.replicate_zero,List.append_nil] at h1
 exact FCells.ofRow h1
theorem HasT.keepRow {W W':World} {tb R n:Nat} {gs:Nat→Nat} (h:HasT W) (hk:W.grownBy W' (some tb)) (ht:W.heap[tb]? = some (.cells (rowvs R n gs).toArray 79 (0,0))):HasT W':=by
 unfold HasT Lib.TabIs World.var? at *
 cases hg:(Tryz.prog).globalNamed "internal/strconv.uint64pow10" with
 | none=>simp [hg] at h
 | some g =>
  simp only [hg,Option.bind_some] at h ⊢
  have hlt:g<W.heap.size:=by
   rcases qa2 g W.heap.size with h' | h'
   ·exact h'
   ·rw [Array.getElem?_eq_none h'] at h;simp at h
  have hne:g≠tb:=by
   intro e
   subst e
   rw [ht] at h
   simp only [Option.some.injEq] at h
   have h1:=congrArg (fun a:Array Value=>a[0]?) h
   have h2:((Lib.pow10Tab.map fun z=>Value.int .u64 z).toArray)[0]? = some (.int .u64 1):=rfl
   have h1:(rowvs R n gs).toArray[0]? = (Lib.pow10Tab.map fun z=>Value.int .u64 z).toArray[0]?:=h1
   rw [h2,qas] at h1
   by_cases hR:0<R
   ·rw [qdd hR] at h1;simp at h1
   ·rw [qaX (by rw [qca];omega)] at h1;simp at h1
  rw [hk.block g hlt (fun e=>hne (qam e))]
  exact h
def told (n:Nat) (x:Nat→Rat):List FT:=(List.range n).map fun i=>ftxt (x i)
def qbw (n:Nat) (x:Nat→Rat):Prop:=∀i,i<n→Short (x i)
theorem qbw.snoc {n:Nat} {x:Nat→Rat} (h:qbw n x) (hs:Short (x n)):qbw (n+1) x:=fun j hj=>by
 by_cases e:j=n
 ·rw [e];exact hs
 ·exact h j (by omega)
theorem qjz (n:Nat) (x:Nat→Rat):told (n+1) x=told n x++[ftxt (x n)]:=by
 unfold told;rw [List.range_succ,qbk];rfl
theorem qbo (n:Nat) (x:Nat→Rat):(told n x).length=n:=by unfold told;rw [qaF,List.length_range]
def FOne (W2 W:World) (g:Nat) (x:FT):Prop:=W.heap[g]? = some (.cells #[.string x.1,.string x.2] 46 (0,0))∧Below W2.heap.size W2 W∧W2.heap.size≤g
theorem fone_a {W2 W:World} {x1 x2:ByteArray} (hb:Below W2.heap.size W2 W):FOne W2 (W.alloc (.cells #[.string x1,.string x2] 46)) W.heap.size (x1,x2) :=
 ⟨qM _ _ _ rfl,qbp hb qN,hb.size⟩
theorem fone_p {W2 W:World} {g:Nat} {x1 x2:ByteArray} {c0 c1:Value} (hb:Below W2.heap.size W2 W) (hg:W2.heap.size≤g) (hz:W.heap[g]? = some (.cells #[c0,c1] 46 (0,0))) :
  FOne W2 ((W.setCell ⟨g,0,none⟩ (.string x1)).setCell ⟨g,1,none⟩ (.string x2)) g (x1,x2) :=
 ⟨heap_setCell_same _ g 1 _ _ _ (heap_setCell_same _ g 0 _ _ _ hz),(hb.setCell (p:=⟨g,0,none⟩) hg _).setCell (p:=⟨g,1,none⟩) hg _,hg⟩
theorem qeD {w w':World} {q:Rat} {e:Ending} (h:qiu w q e w'):∃(x1 x2:ByteArray) (c:Int),e=.returned (.tuple #[.agg #[.string x1,.string x2],.int .i64 c])∧(Short q∧(x1,x2)=ftxt q∧c=0∨¬Short q∧(x1,x2)=fd0∧c=6)∧Below w.heap.size w w':=by
 obtain⟨h | h,hb⟩:=h
 ·exact⟨(ftxt q).1,(ftxt q).2,0,h.2,qaJ ⟨h.1,rfl,rfl⟩,hb⟩
 ·exact⟨_,_,6,h.2,qaA ⟨h.1,rfl,rfl⟩,hb⟩
def Tells (n:Nat) (x:Nat→Rat) (e:Ending) (w':World):Prop :=
 (qbw n x∧∃g,e=.returned (.tuple #[.slice (some ⟨g,0,none⟩) n n,.int .i64 0])∧FCells w' (some ⟨g,0,none⟩) g 0 (told n x)) ∨
 (¬qbw n x∧e=.returned (.tuple #[.slice none 0 0,.int .i64 6]))
def SolvesAs (w:World) (tb R:Nat) (A:Nat→Nat→Int) (e:Ending) (w':World):Prop :=
 w.grownBy w' (some tb)∧((Sing R (castM A)∧e=.returned (.tuple #[.slice none 0 0,.int .i64 7])) ∨
  (¬Sing R (castM A)∧∃x,qb6 R (castM A) (fun i=>castM A i R) x∧Tells R x e w'))
theorem fit_pos {z:Int} {K:Nat} (h:Fit z.natAbs K) (hz:z≠0):0<K:=by
 rcases qaI K with e | e
 ·subst e
  have:z.natAbs<1:=h
  omega
 ·exact e
theorem qe9 (a b:Int):Rat.divInt a b=(a:Rat) / b:=Rat.divInt_eq_div a b
theorem qgP (tb R K:Nat) (gs:Nat→Nat) (A:Nat→Nat→Int) (w:World) (hR0:0<R) (hR:R≤10) (hK:K≤33554430) (hK0:0<K) (hM:MatAt w tb R (R+1) gs A) (hgs:∀i,i<R→gs i<w.heap.size) (hF:∀i,i<R→∀j,j<R+1→Fit (A i j).natAbs K) (hT:HasT w) :
  Calls Tryz.prog 56 #[.agg #[.slice (some ⟨tb,0,none⟩) R R]] w fun e w'=>SolvesAs w tb R A e w':=by
 have HM:=qH (qA hM (qA hgs hF))
 have HT:=qH hT
 have htb:tb<w.heap.size:=(qG hM.row).1
 have hR0i:(0:Int)<R:=by omega
 have hb0:Below w.heap.size w (w.alloc (.cells #[.slice (some ⟨tb,0,none⟩) R R] 92)):=qbp qB qN
 have HE:=qH (elim_any tb R (R+1) K gs A (w.alloc (.cells #[.slice (some ⟨tb,0,none⟩) R R] 92)) hR0 hR (by omega) (by omega) hK hK0 (hM.below hb0) (fun i hi=>qal (hgs i hi) hb0.size) hF)
 have HB0:=qH hb0
 have hfi:=qd5
 clear hM hF hgs hT hb0
 go_enter Tryz.func56,Tryz.ntmps56
 go_wp2_with fail
 refine HE.out.mono ?_
 rintro e w2 ⟨v,z,rfl,hv,hg2,hz⟩
 obtain⟨a,m,d,b,rfl⟩:=least.qbt hv
 have hmt:=(HM.out.1.below HB0.out)
 have hT2:=(HT.out.below HB0.out).keepRow hg2 hmt.row
 have hg:=qbs (qbu tb HB0.out) hg2
 have hz1:=least.qcA z.natAbs (.slice a m d)
 have Hv:=qH hv
 have HX:=qH (qA hT2 (qA hg hg2))
 have hm2:MagAt w2 (.slice a m d) z.natAbs:=by
  obtain⟨_,e,h⟩:=hv
  simp only [Value.agg.injEq,Array.mk.injEq,List.cons.injEq] at e
  rw [e.1];exact h
 have hal:Below w2.heap.size w2 (w2.alloc (.cells #[.slice a m d,.bool b] 105)):=qbp qB qN
 have HZ:=qH (hz1 _ (hm2.below hal))
 have HAL:=qH hal
 have hs2:(w2.alloc (.cells #[.slice a m d,.bool b] 105)).heap.size=w2.heap.size+1:=by rw [qab]
 have hsb:w.heap.size<w2.heap.size:=by have:=hg2.size;rw [qab] at this;omega
 have hbox:w2.heap[w.heap.size]? = some (.cells #[.slice (some ⟨tb,0,none⟩) R R] 92 (0,0)):=(hg2.block _ (by rw [qab];omega) (fun e=>Nat.lt_irrefl _ (qam e▸htb))).trans (qM _ _ _ rfl)
 have HBX:=qH hbox
 have bx0:=cell_of_row _ _ 0 _ _ _ hbox
 clear hv hg2 hmt hT2 hg hz1 hm2 hal hs2 hbox
 go_wp2_with fail
 obtain⟨W3,hW3⟩:∃W3,W3=w2.alloc (.cells #[.slice a m d,.bool b] 105):=⟨_,rfl⟩
 rw [←hW3] at HZ HAL ⊢
 have hg3:Hid (w.grownBy W3 (some tb)):=qH (qce HX.out.2.1 HAL.out)
 rcases hz with ⟨hz0,k,D,M,hk,hS,h0⟩ | ⟨hfz,gs',M,hMt,hS,hfM⟩
 ·refine HZ.out.mono ?_
  rintro e w4 ⟨rfl,hw⟩
  rw [decide_eq_true (show z.natAbs=0 by omega)]
  have HS:=qH (qiI hS (by omega) hk h0)
  subst hw
  clear hS h0 hz0 hW3
  go_wp2_with fail
  go_ret2
  exact⟨hg3.out,qaJ ⟨HS.out,rfl⟩⟩
 ·refine HZ.out.mono ?_
  rintro e w4 ⟨rfl,hw⟩
  have hz0:=hS.nz
  rw [decide_eq_false (show ¬z.natAbs=0 by omega)]
  have hmk:=make_frs R (by omega) W3
  obtain⟨W5,hW5⟩:∃W5,W5=W3.alloc (.cells (madeCells #[.string ⟨#[]⟩,.string ⟨#[]⟩] (R*2)) 46):=⟨_,rfl⟩
  rw [←hW5] at hmk
  have hfr:FRow W5 W3.heap.size R []:=hW5▸FRow.made W3 R
  have hb5:Below W3.heap.size W3 W5:=hW5▸qbp qB qN
  clear hW5
  have hr3:W3.heap[w2.heap.size]? = some (.cells #[.slice a m d,.bool b] 105 (0,0)):=by rw [hW3];exact qM _ _ _ rfl
  have hbx3:=(HAL.out.block _ (by exact hsb)).trans HBX.out
  have hbx5:=(hb5.block _ (qG hbx3).1).trans hbx3
  have bx5:=cell_of_row _ _ 0 _ _ _ hbx5
  have H5:=qH (qA hfr (qA hb5 hbx5))
  have HS:=qH (qA hfz (qA (hMt.below HAL.out) (qA hS hfM)))
  have H3:=qH (qA hr3 (qA hbx3 (qA (Hv.out.below HAL.out) (HX.out.1.below HAL.out))))
  have Hz0:=qH hz0
  have hs3:W3.heap.size=w2.heap.size+1:=by rw [hW3,qab]
  have Hs3:=qH hs3
  subst hw
  clear hS hz0 hW3 hMt hfM hfz hr3 hbx3 bx0 hs3 hfr hb5 hbx5
  have bx4:=cell_of_row _ _ 0 _ _ _ H3.out.2.1
  go_wp2_with fail
  go_loopw [26] (fun x26 W=>∃(i:Nat),i≤R∧x26=.int .i64 i∧Hid (qbw i (fun i=>(M i R:Rat) / z))∧Hid (FRow W w4.heap.size R (told i (fun i=>(M i R:Rat) / z)))∧Hid (Below w4.heap.size w4 W)) (fun x26 _=>R-(intOf x26).toNat)
  case atStart=>exact⟨0,qat _,rfl,qH (fun i hi=>absurd hi (by omega)),qH H5.out.1,qH H5.out.2.1⟩
  case round =>
   obtain⟨i,hiR,rfl,hA,hF,hB⟩:=hrel
   by_cases hi:i<R
   ·have hii:(i:Int)<R:=by omega
    have hRi:(R:Int)<R+1:=by omega
    have hMr:=HS.out.2.1.below hB.out
    obtain⟨ci,fi⟩:=hMr.cell hi
    obtain⟨a2,m2,d2,b2,p0,p1,hin⟩:=(hMr.rows i hi).pair (show R<R+1 by omega)
    have hr:=(hB.out.block _ (qG H3.out.1).1).trans H3.out.1
    have hbx:=(hB.out.block _ (qG H3.out.2.1).1).trans H3.out.2.1
    have C0:∀W,Below wr.heap.size wr W→W.cell? ⟨w.heap.size,0,none⟩=some (.slice (some ⟨tb,0,none⟩) R R):=fun W h=>(h.cell (p:=⟨w.heap.size,0,none⟩) (qG hbx).1).trans (cell_of_row _ _ 0 _ _ _ hbx)
    have C1:∀W,Below wr.heap.size wr W→W.cell? ⟨gs' i,R*2,none⟩=some (.slice a2 m2 d2):=fun W h=>(h.cell (qad wr _ p0)).trans p0
    have C2:∀W,Below wr.heap.size wr W→W.cell? ⟨gs' i,R*2+1,none⟩=some (.bool b2):=fun W h=>(h.cell (qad wr _ p1)).trans p1
    have C3:∀W,Below wr.heap.size wr W→W.cell? ⟨w2.heap.size,0,none⟩=some (.slice a m d):=fun W h=>(h.cell (p:=⟨w2.heap.size,0,none⟩) (qG hr).1).trans (cell_of_row _ _ 0 _ _ _ hr)
    have C4:∀W,Below wr.heap.size wr W→W.cell? ⟨w2.heap.size,1,none⟩=some (.bool b):=fun W h=>(h.cell (p:=⟨w2.heap.size,1,none⟩) (qG hr).1).trans (cell_of_row _ _ 1 _ _ _ hr)
    have hvi:=H3.out.2.2.1.below hB.out
    have hTi:=H3.out.2.2.2.below hB.out
    have hfR:=HS.out.2.2.2 i hi R (by omega)
    have HW:=qH (fun W (h:Below wr.heap.size wr W)=>qfK (M i R) z Hz0.out (KK K R) (fit_pos HS.out.1 Hz0.out) (KK_le hK hR) _ _ W (hin.below h) (hvi.below h) hfR HS.out.1 (hTi.below h))
    have hst:Below wr.heap.size wr wr:=Below.refl _ _
    have hstD:Below wr.heap.size wr wr.drew:=hst.drew
    have hstA:Below wr.heap.size wr (wr.alloc (.cells #[.string ⟨#[]⟩,.string ⟨#[]⟩] 46)).drew:=(qbp hst qN).drew
    have hFr:=hF.out.at (by rw [qbo];exact hi)
    have HF:=qH hFr
    clear hMr hin p0 p1 hr hbx hvi hTi hfR hFr bx4 bx5 hmk
    go_wp2_with fail
    go_cut [9,10] (fun x9 x10 W=>∃(g9:Nat) (x1 x2:ByteArray) (c:Int),x9=.pointer (some ⟨g9,0,none⟩)∧x10=.int .i64 c∧Hid (Short (Rat.divInt (M i R) z)∧(x1,x2)=ftxt (Rat.divInt (M i R) z)∧c=0∨¬Short (Rat.divInt (M i R) z)∧(x1,x2)=fd0∧c=6)∧FOne wr W g9 (x1,x2))
    case first =>
     go_region_held3 (fun W=>Below wr.heap.size wr W) (first | with_reducible exact hst | with_reducible exact hstD | with_reducible exact hstA | with_reducible exact HB6 | exact qbp HB6 qN | exact (HB6.setCell qN _).setCell qN _ | exact (HB6.setCell HB6.size _).setCell HB6.size _) (first | (go_at_call 76;refine (HW.out _ (by first | with_reducible exact hstD | with_reducible exact hstA)).mono ?_;rintro e w6 hx;obtain⟨x1,x2,c6,rfl,hx,hb6⟩:=qeD hx;have HB6:Below wr.heap.size wr w6:=bjoin (by first | with_reducible exact hstD | with_reducible exact hstA) hb6;have HX6:=qH hx;obtain⟨k6,k6f⟩:=bcell hb6;have Z6:=qH (zkeep hb6);clear hx hb6))
     all_goals go_wp2_with fail
     all_goals go_meet
     all_goals refine⟨_,x1,x2,c6,rfl,rfl,HX6,?_⟩
     all_goals first
      | with_reducible exact fone_a HB6
      | exact fone_p HB6 qN (Z6.out _ _ (qM _ _ _ rfl))
    case rest =>
     obtain⟨g9,x1,x2,c,rfl,rfl,hx,ho⟩:=hcut
     obtain⟨ho1,hob,hog⟩:=ho
     have o0:=cell_of_row _ _ 0 _ _ _ ho1
     have o1:=cell_of_row _ _ 1 _ _ _ ho1
     have hFc:=hF.out.below hob
     have hat:=hFc.at (by rw [qbo];exact hi)
     have hset:=hFc.set (by rw [qbo];exact hi) (x1,x2)
     rw [qbo] at hat hset
     obtain⟨⟨q0,q1⟩,qf⟩:=hat
     have qf0:=qf (i*2)
     have qf1:=qf (i*2+1)
     have hbe:=((hB.out.trans (hob.mono hB.out.size)).setCell (p:=⟨w4.heap.size,i*2,none⟩) qN (.string x1)).setCell (p:=⟨w4.heap.size,i*2+1,none⟩) qN (.string x2)
     have hbw:=hB.out.trans (hob.mono hB.out.size)
     have HQ:=qH (qA hset (qA hbe hbw))
     have HX:=qH hx.out
     have hq:=qe9 (M i R) z
     clear hset hbe hbw ho1 hFc qf C0 C1 C2 C3 C4 ci fi
     rcases hx.out with ⟨hsh,hxt,rfl⟩ | ⟨hsh,hxt,rfl⟩
     ·rw [hq] at hsh hxt
      have HS2:=qH (qA hsh hxt)
      clear hsh hxt hq
      go_wp2_with fail
      go_roundw
      case rel=>exact⟨i+1,hi,by go_num,qH (hA.out.snoc HS2.out.1),qH (by rw [qjz,←HS2.out.2];exact HQ.out.1),qH HQ.out.2.1⟩
      case measure=>simp [intOf];omega
     ·rw [hq] at hsh
      have HS2:=qH hsh
      clear hsh hxt hq
      go_wp2_with fail
      go_ret2
      exact⟨qce hg3.out HQ.out.2.2,qaA ⟨(qeT HS.out.2.2.1).2,_,(qeT HS.out.2.2.1).1,qaA ⟨fun h=>HS2.out (h i hi),rfl⟩⟩⟩
   ·obtain rfl:i=R:=by omega
    have hfc:=hF.out.cells (qbo _ _)
    have HFC:=qH hfc
    clear hfc
    go_wp2_with fail
    go_ret2
    exact⟨qce hg3.out hB.out,qaA ⟨(qeT HS.out.2.2.1).2,_,(qeT HS.out.2.2.1).1,qaJ ⟨hA.out,_,rfl,HFC.out⟩⟩⟩
abbrev Tbl:=List (List FT)
structure TCells (W:World) (ao:Option Addr) (b off:Nat) (t:Tbl):Prop where
 addr:0<t.length→ao=some ⟨b,off,none⟩
 row:∀k,k<t.length→∃(ra:Option Addr) (rb ro rc:Nat),W.cell? ⟨b,off+k,none⟩=some (.slice ra (t.getD k []).length rc)∧FCells W ra rb ro (t.getD k [])
theorem TCells.below {W W':World} {ao:Option Addr} {b off:Nat} {t:Tbl} (h:TCells W ao b off t) (hb:Below W.heap.size W W'):TCells W' ao b off t :=
 ⟨h.addr,fun k hk=>by
  obtain⟨ra,rb,ro,rc,h1,h2⟩:=h.row k hk
  exact⟨ra,rb,ro,rc,(hb.cell (qad W _ h1)).trans h1,h2.below hb⟩⟩
def wid (t:Tbl):Nat:=(t.getD 0 []).length
structure TOk (t:Tbl):Prop where
 r1:1≤t.length
 r2:t.length≤40
 c1:1≤wid t
 c2:wid t≤10
 rows:∀k,k<t.length→(t.getD k []).length=wid t∧FAll (t.getD k [])
theorem qd1 (ao:Option Addr) (b off R c:Nat) (t:Tbl) (w:World) (hR:t.length=R) (hl:R≤4611686018427387904) (hw:∀k,k<R→(t.getD k []).length≤4611686018427387904) (hc:TCells w ao b off t) :
  Calls Tryz.prog 12 #[.slice ao R c] w fun e w'=>qfV w (TOk t) 60 e w':=by
 have HC:=qH (qA hc (qA hR hw))
 by_cases h1:1≤R
 case neg =>
  have hlt:(R:Int)<1:=by omega
  clear hc hR
  go_enter Tryz.func12,Tryz.ntmps12
  go_wp2_with fail
  go_ret
  exact⟨60,rfl,qaA ⟨rfl,fun h=>by have:=h.r1;have:=HC.out.2.1;omega⟩,Below.refl _ _⟩
 have h1i:¬(R:Int)<1:=by omega
 by_cases h2:R≤40
 case neg =>
  have hlt:(40:Int)<R:=by omega
  clear hc hR
  go_enter Tryz.func12,Tryz.ntmps12
  go_wp2_with fail
  go_ret
  exact⟨60,rfl,qaA ⟨rfl,fun h=>by have:=h.r2;have:=HC.out.2.1;omega⟩,Below.refl _ _⟩
 have h2i:¬(40:Int)<R:=by omega
 have h0i:(0:Int)<R:=by omega
 have haw:=hc.addr (by omega)
 subst haw
 obtain⟨ra0,rb0,ro0,rc0,hc0,_⟩:=hc.row 0 (by omega)
 rw [qba] at hc0
 obtain⟨n,hn⟩:∃n,wid t=n:=⟨_,rfl⟩
 have hn':(t.getD 0 []).length=n:=hn
 have hnl:=hw 0 (by omega)
 rw [hn'] at hc0 hnl
 have HN:=qH hn
 have hw0:b<w.heap.size:=qad w _ hc0
 clear hc hR hn hn' hw
 by_cases h3:1≤n
 case neg =>
  have hlt:(n:Int)<1:=by omega
  go_enter Tryz.func12,Tryz.ntmps12
  go_wp2_with fail
  go_ret
  exact⟨60,rfl,qaA ⟨rfl,fun h=>by have:=h.c1;have:=HN.out;omega⟩,Below.refl _ _⟩
 have h3i:¬(n:Int)<1:=by omega
 by_cases h4:n≤10
 case neg =>
  have hlt:(10:Int)<n:=by omega
  go_enter Tryz.func12,Tryz.ntmps12
  go_wp2_with fail
  go_ret
  exact⟨60,rfl,qaA ⟨rfl,fun h=>by have:=h.c2;have:=HN.out;omega⟩,Below.refl _ _⟩
 have h4i:¬(10:Int)<n:=by omega
 go_enter Tryz.func12,Tryz.ntmps12
 go_wp2_with fail
 go_loopw [31] (fun x31 W=>∃k:Nat,k≤R∧x31=.int .i64 k∧Hid (∀i,i<k→(t.getD i []).length=n∧FAll (t.getD i []))∧Hid (Below w.heap.size w W)) (fun x31 _=>R-(intOf x31).toNat)
 case atStart=>exact⟨0,qat _,rfl,qH (fun i hi=>absurd hi (by omega)),qH qB⟩
 case round =>
  obtain⟨k,hk,rfl,hI,hB⟩:=hrel
  by_cases hkR:k<R
  ·have hki:(k:Int)<R:=by omega
   have hcr:=(hB.out.cell (p:=⟨b,off,none⟩) hw0).trans hc0
   obtain⟨ra,rb,ro,rc,hck,hfk⟩:=(HC.out.1.below hB.out).row k (by have:=HC.out.2.1;omega)
   have HF:=qH hfk
   obtain⟨row,hrow⟩:∃row,t.getD k []=row:=⟨_,rfl⟩
   obtain⟨l,hl2⟩:∃l,row.length=l:=⟨_,rfl⟩
   have hll:=HC.out.2.2 k hkR
   rw [hrow] at hck HF hll
   rw [hl2] at hck hll
   have HR:=qH (qA hrow hl2)
   clear hrow hl2 hfk
   by_cases hln:l=n
   case neg =>
    have hne:((l:Int) != (n:Int))=true:=by rw [bne_iff_ne];omega
    have HL:=qH hln
    clear hln
    go_wp2_with fail
    go_ret
    exact⟨60,rfl,qaA ⟨rfl,fun h=>HL.out (by rw [←HR.out.2,←HR.out.1,←HN.out];exact (h.rows k (by have:=HC.out.2.1;omega)).1)⟩,hB.out⟩
   have hne:((l:Int) != (n:Int))=false:=by simp [hln]
   have HL:=qH hln
   clear hln
   obtain⟨wo,hwo⟩:∃wo:World,wo=wr:=⟨_,rfl⟩
   subst hwo
   go_wp2_with fail
   go_loopw [44] (fun x44 W=>∃j:Nat,j≤l∧x44=.int .i64 j∧Hid (∀i,i<j→FOk (row.getD i fd0).1.data.toList (row.getD i fd0).2.data.toList)∧Hid (Below wo.heap.size wo W)) (fun x44 _=>l-(intOf x44).toNat)
   case atStart=>exact⟨0,qat _,rfl,qH (fun i hi=>absurd hi (by omega)),qH qB⟩
   case round =>
    obtain⟨j,hj,rfl,hJ,hB2⟩:=hrel
    by_cases hjl:j<l
    ·have hji:(j:Int)<l:=by omega
     have har:=HF.out.addr (by have:=HR.out.2;omega)
     subst har
     obtain⟨d0,d1⟩:=(HF.out.below hB2.out).cell j (by have:=HR.out.2;omega)
     obtain⟨N,hN⟩:∃N,(row.getD j fd0).1=N:=⟨_,rfl⟩
     obtain⟨D,hD⟩:∃D,(row.getD j fd0).2=D:=⟨_,rfl⟩
     rw [hN] at d0
     rw [hD] at d1
     have HX:=qH (qA hN hD)
     clear hN hD
     go_wp2_with fail
     refine (qfG N D _).mono ?_
     rintro e w2 ⟨cc,rfl,hcc,hb2⟩
     have HB2:=qH (hB2.out.trans ((qB.alloc qN _ |>.trans (hb2.mono (by simp only [qab];omega))).mono hB2.out.size))
     clear hb2
     rcases hcc with ⟨rfl,hf⟩ | ⟨rfl,hf⟩
     ·have Hf:=qH hf
      clear hf
      go_wp2_with fail
      go_roundw
      case rel=>exact⟨j+1,hjl,by go_num,qH (fun i hi=>by
       rcases (show i<j∨i=j by omega) with h | h
       ·exact hJ.out i h
       ·rw [h,HX.out.1,HX.out.2];exact Hf.out),HB2⟩
      case measure=>simp [intOf];omega
     ·have Hf:=qH hf
      clear hf
      go_wp2_with fail
      go_ret
      exact⟨60,rfl,qaA ⟨rfl,fun h=>Hf.out (by
       have:=(h.rows k (by have:=HC.out.2.1;omega)).2 j (by rw [HR.out.1,HR.out.2];exact hjl)
       rw [HR.out.1,HX.out.1,HX.out.2] at this
       exact this)⟩,hB.out.trans (HB2.out.mono hB.out.size)⟩
    ·obtain rfl:j=l:=by omega
     go_wp2_with fail
     go_roundw
     case rel=>exact⟨k+1,hkR,by go_num,qH (fun i hi=>by
      rcases (show i<k∨i=k by omega) with h | h
      ·exact hI.out i h
      ·rw [h,HR.out.1,HR.out.2];exact⟨HL.out,fun x hx=>hJ.out x (by rw [←HR.out.2];exact hx)⟩),qH (hB.out.trans (hB2.out.mono hB.out.size))⟩
     case measure=>simp [intOf];omega
  ·obtain rfl:k=R:=by omega
   go_wp2_with fail
   go_ret
   exact⟨0,rfl,qaJ ⟨rfl,⟨by have:=HC.out.2.1;omega,by have:=HC.out.2.1;omega,by rw [HN.out];exact h3,by rw [HN.out];exact h4,fun i hi=>by rw [HN.out];exact hI.out i (by have:=HC.out.2.1;omega)⟩⟩,hB.out⟩
def CLAs (w:World) (t L:Tbl) (e:Ending) (w':World):Prop :=
 ∃c:Int,e=.returned (.int .i64 c)∧(c=60∧¬TOk t∨c=20∧TOk t∧¬(∀k,k<L.length→FAll (L.getD k []))∨c=0∧TOk t∧∀k,k<L.length→FAll (L.getD k []))∧Below w.heap.size w w'
theorem qcZ (ao:Option Addr) (b off R c:Nat) (t:Tbl) (ao2:Option Addr) (b2 off2 R2 c2:Nat) (L:Tbl) (w:World) (hR:t.length=R) (hl:R≤4611686018427387904) (hw:∀k,k<R→(t.getD k []).length≤4611686018427387904) (hc:TCells w ao b off t)
  (hR2:L.length=R2) (hl2:R2≤4611686018427387904) (hw2:∀k,k<R2→(L.getD k []).length≤4611686018427387904) (hc2:TCells w ao2 b2 off2 L) :
  Calls Tryz.prog 54 #[.slice ao R c,.slice ao2 R2 c2] w fun e w'=>CLAs w t L e w':=by
 have HK:=qH (qd1 ao b off R c t w hR hl hw hc)
 have HL:=qH (qA hc2 (qA hR2 hw2))
 clear hR hw hc hR2 hw2 hc2
 go_enter Tryz.func54,Tryz.ntmps54
 go_wp2_with fail
 refine HK.out.mono ?_
 rintro e w2 ⟨cc,rfl,hcc,hb2⟩
 have HB:=qH hb2
 clear hb2
 rcases hcc with ⟨rfl,hT⟩ | ⟨rfl,hT⟩
 case inr =>
  have HT:=qH hT
  clear hT
  go_wp2_with fail
  go_ret
  exact⟨60,rfl,qaJ ⟨rfl,HT.out⟩,HB.out⟩
 have HT:=qH hT
 clear hT
 go_wp2_with fail
 go_loopw [17] (fun x17 W=>∃k:Nat,k≤R2∧x17=.int .i64 k∧Hid (∀i,i<k→FAll (L.getD i []))∧Hid (Below w.heap.size w W)) (fun x17 _=>R2-(intOf x17).toNat)
 case atStart=>exact⟨0,qat _,rfl,qH (fun i hi=>absurd hi (by omega)),HB⟩
 case round =>
  obtain⟨k,hk,rfl,hI,hB⟩:=hrel
  by_cases hkR:k<R2
  ·have hki:(k:Int)<R2:=by omega
   have haw:=HL.out.1.addr (by have:=HL.out.2.1;omega)
   subst haw
   obtain⟨ra,rb,ro,rc,hck,hfk⟩:=(HL.out.1.below hB.out).row k (by have:=HL.out.2.1;omega)
   have HF:=qH hfk
   obtain⟨row,hrow⟩:∃row,L.getD k []=row:=⟨_,rfl⟩
   obtain⟨l,hl2⟩:∃l,row.length=l:=⟨_,rfl⟩
   have hll:=HL.out.2.2 k hkR
   rw [hrow] at hck HF hll
   rw [hl2] at hck hll
   have HR:=qH (qA hrow hl2)
   clear hrow hl2 hfk
   obtain⟨wo,hwo⟩:∃wo:World,wo=wr:=⟨_,rfl⟩
   subst hwo
   go_wp2_with fail
   go_loopw [23] (fun x23 W=>∃j:Nat,j≤l∧x23=.int .i64 j∧Hid (∀i,i<j→FOk (row.getD i fd0).1.data.toList (row.getD i fd0).2.data.toList)∧Hid (Below wo.heap.size wo W)) (fun x23 _=>l-(intOf x23).toNat)
   case atStart=>exact⟨0,qat _,rfl,qH (fun i hi=>absurd hi (by omega)),qH qB⟩
   case round =>
    obtain⟨j,hj,rfl,hJ,hB2⟩:=hrel
    by_cases hjl:j<l
    ·have hji:(j:Int)<l:=by omega
     have har:=HF.out.addr (by have:=HR.out.2;omega)
     subst har
     obtain⟨d0,d1⟩:=(HF.out.below hB2.out).cell j (by have:=HR.out.2;omega)
     obtain⟨N,hN⟩:∃N,(row.getD j fd0).1=N:=⟨_,rfl⟩
     obtain⟨D,hD⟩:∃D,(row.getD j fd0).2=D:=⟨_,rfl⟩
     rw [hN] at d0
     rw [hD] at d1
     have HX:=qH (qA hN hD)
     clear hN hD
     go_wp2_with fail
     refine (qfG N D _).mono ?_
     rintro e w2 ⟨cc,rfl,hcc,hb2⟩
     have HB2:=qH (hB2.out.trans ((qB.alloc qN _ |>.trans (hb2.mono (by simp only [qab];omega))).mono hB2.out.size))
     clear hb2
     rcases hcc with ⟨rfl,hf⟩ | ⟨rfl,hf⟩
     ·have Hf:=qH hf
      clear hf
      go_wp2_with fail
      go_roundw
      case rel=>exact⟨j+1,hjl,by go_num,qH (fun i hi=>by
       rcases (show i<j∨i=j by omega) with h | h
       ·exact hJ.out i h
       ·rw [h,HX.out.1,HX.out.2];exact Hf.out),HB2⟩
      case measure=>simp [intOf];omega
     ·have Hf:=qH hf
      clear hf
      go_wp2_with fail
      go_ret
      exact⟨20,rfl,qaA (qaJ ⟨rfl,HT.out,fun h=>Hf.out (by
       have:=h k (by have:=HL.out.2.1;omega) j (by rw [HR.out.1,HR.out.2];exact hjl)
       rw [HR.out.1,HX.out.1,HX.out.2] at this
       exact this)⟩),hB.out.trans (HB2.out.mono hB.out.size)⟩
    ·obtain rfl:j=l:=by omega
     go_wp2_with fail
     go_roundw
     case rel=>exact⟨k+1,hkR,by go_num,qH (fun i hi=>by
      rcases (show i<k∨i=k by omega) with h | h
      ·exact hI.out i h
      ·rw [h,HR.out.1];exact fun x hx=>hJ.out x (by rw [←HR.out.2];exact hx)),qH (hB.out.trans (hB2.out.mono hB.out.size))⟩
     case measure=>simp [intOf];omega
  ·obtain rfl:k=R2:=by omega
   go_wp2_with fail
   go_ret
   exact⟨0,rfl,qaA (qaA ⟨rfl,HT.out,fun i hi=>hI.out i (by have:=HL.out.2.1;omega)⟩),hB.out⟩
def Neg (l:List FT):Prop:=∃k,k<l.length∧ival (l.getD k fd0).1.data.toList<0
def NegAs (w:World) (l:List FT) (e:Ending) (w':World):Prop:=∃x:Bool,e=.returned (.bool x)∧(x=true↔Neg l)∧Below w.heap.size w w'
theorem qeI (ao:Option Addr) (b off n c:Nat) (l:List FT) (w:World) (hn:l.length=n) (hl:n≤4611686018427387904) (hc:FCells w ao b off l) (hf:FAll l) :
  Calls Tryz.prog 61 #[.slice ao n c] w fun e w'=>NegAs w l e w':=by
 have HF:=qH (qA hc (qA hn hf))
 have hfi:=qd5
 clear hc hn hf
 go_enter Tryz.func61,Tryz.ntmps61
 go_wp2_with fail
 go_loopw [7] (fun x7 W=>∃j:Nat,j≤n∧x7=.int .i64 j∧Hid (∀i,i<j→0≤ival (l.getD i fd0).1.data.toList)∧Hid (Below w.heap.size w W)) (fun x7 _=>n-(intOf x7).toNat)
 case atStart=>exact⟨0,qat _,rfl,qH (fun i hi=>absurd hi (by omega)),qH qB⟩
 case round =>
  obtain⟨j,hj,rfl,hJ,hB2⟩:=hrel
  by_cases hjl:j<n
  ·have hji:(j:Int)<n:=by omega
   have har:=HF.out.1.addr (by have:=HF.out.2.1;omega)
   subst har
   obtain⟨d0,d1⟩:=(HF.out.1.below hB2.out).cell j (by have:=HF.out.2.1;omega)
   have hok:=(HF.out.2.2 j (by have:=HF.out.2.1;omega)).vn
   obtain⟨N,hN⟩:∃N,(l.getD j fd0).1=N:=⟨_,rfl⟩
   obtain⟨D,hD⟩:∃D,(l.getD j fd0).2=D:=⟨_,rfl⟩
   rw [hN] at d0 hok
   rw [hD] at d1
   have HX:=qH (qA hN hok)
   clear hN hD hok
   go_wp2_with fail
   refine (least.qb9 N HX.out.2 _).mono ?_
   rintro e w2 ⟨v2,rfl,hb2,hv2⟩
   have HB2:=qH (hB2.out.trans ((qB.alloc qN _ |>.trans (hb2.mono (by simp only [qab];omega))).mono hB2.out.size))
   obtain⟨m2,rfl,hg2⟩:=hv2
   have hfb:∀b W,(Instr.field 105 (.agg #[m2,.bool b]) 1).run Tryz.prog W=.ok (.bool b) W:=by
    obtain⟨_,_,_,_,_,_,rfl,_,_⟩:=hg2
    intro b W;kernel_rfl
   clear hb2 hg2
   by_cases hz:ival N.data.toList<0
   ·rw [decide_eq_true hz]
    have HZ:=qH hz
    clear hz
    go_wp2_with fail
    go_ret
    exact⟨true,rfl,⟨fun _=>⟨j,by have:=HF.out.2.1;omega,by rw [HX.out.1];exact HZ.out⟩,fun _=>rfl⟩,HB2.out⟩
   ·rw [decide_eq_false hz]
    have HZ:=qH (Int.not_lt.1 hz)
    clear hz
    go_wp2_with fail
    go_roundw
    case rel=>exact⟨j+1,hjl,by go_num,qH (fun i hi=>by
     rcases (show i<j∨i=j by omega) with h | h
     ·exact hJ.out i h
     ·rw [h,HX.out.1];exact HZ.out),HB2⟩
    case measure=>simp [intOf];omega
  ·obtain rfl:j=n:=by omega
   go_wp2_with fail
   go_ret
   exact⟨false,rfl,⟨fun h=>absurd h (by decide),fun⟨k,hk,hz⟩=>absurd hz (Int.not_lt.2 (hJ.out k (by have:=HF.out.2.1;omega)))⟩,hB2.out⟩
end Go.Proofs.YtfminfgabiipjaaGreatDoor
