/- Ae, part 20: Least14 Least15 Least16 Ls1 Ls2 Ls3 -/
import Derived.Deep.RegionHeld3
import Derived.Test.YtfminfgabiipjaaGreatDoorAe0
import Derived.Test.YtfminfgabiipjaaGreatDoorAe14
import Derived.Test.YtfminfgabiipjaaGreatDoorAe19
set_option maxRecDepth 100000
set_option maxHeartbeats 16000000
namespace Go.Proofs.YtfminfgabiipjaaGreatDoor.least
open Go.RowKit
theorem qc9 {W:World} {m:Value} {b:Bool} {z:Int} {g:Nat} {cs cs':Array Value} {t:TypeId} {fz:Nat×Nat} (h:IntAt W (.agg #[m,.bool b]) z) (hg:W.heap[g]? = some (.cells cs t fz)) (hne:∀x∈cs.toList,∀d,x≠.int .u32 d):IntAt (W.setRow g cs') (.agg #[m,.bool b]) z:=by
 obtain⟨m',h1,h2⟩:=h
 exact⟨m',h1,qdb h2 hg hne⟩
theorem qbt {W:World} {v:Value} {z:Int} (h:IntAt W v z):∃(a:Option Addr) (n c:Nat) (b:Bool),v=.agg #[.slice a n c,.bool b]:=by
 obtain⟨m,rfl,am,bm,om,cm,n,M,rfl,Im,hMx⟩:=h
 exact⟨am,n,cm,_,rfl⟩
theorem qbv (W:World) (g k:Nat) (v:Value):W.grownBy (W.setCell ⟨g,k,none⟩ v) (some g) :=
 ⟨rfl,rfl,rfl,by simp [World.setCell],fun i _ hr=>Below.heap_setCell _ _ _ _ (fun e=>hr (by rw [e]))⟩
theorem qcX {W:World} {g:Nat} {t:TypeId} (h:W.heap[g]? = some (.cells #[.slice none 0 0,.bool false] t (0,0))) (a:Option Addr) (n c:Nat) (b:Bool) :
  ((W.setCell ⟨g,0,none⟩ (.slice a n c)).setCell ⟨g,1,none⟩ (.bool b)).heap[g]? = some (.cells #[.slice a n c,.bool b] t (0,0)) :=
 heap_setCell_same _ g 1 _ t _ (heap_setCell_same _ g 0 _ t _ h)
theorem qcV {W:World} {m:Value} {b0:Bool} {z:Int} {g:Nat} {t:TypeId} (hi:IntAt W (.agg #[m,.bool b0]) z) (h:W.heap[g]? = some (.cells #[.slice none 0 0,.bool false] t (0,0))) (a:Option Addr) (n c:Nat) (b:Bool) :
  IntAt ((W.setCell ⟨g,0,none⟩ (.slice a n c)).setCell ⟨g,1,none⟩ (.bool b)) (.agg #[m,.bool b0]) z:=by
 obtain⟨m',h1,h2⟩:=hi
 refine⟨m',h1,?_⟩
 refine qb2 (qb2 h2 (qbv W g 0 _) h qdv) (qbv _ g 1 _) (heap_setCell_same W g 0 _ t _ h) ?_
 intro x hx d
 rcases qaN.1 (show x∈[Value.slice a n c,Value.bool false] from hx) with rfl | hx
 ·intro h;cases h
 ·rw [qao.1 hx];intro h;cases h
theorem sg_mul (x y:Int):(if (decide (x<0) != decide (y<0))=true then -((x.natAbs*y.natAbs:Nat):Int) else ((x.natAbs*y.natAbs:Nat):Int))=x*y:=by
 rw [←qaQ]
 by_cases hx:x<0
 ·by_cases hy:y<0
  ·rw [decide_eq_true hx,decide_eq_true hy,if_neg (by decide)]
   have:=Int.mul_pos_of_neg_of_neg hx hy;omega
  ·rw [decide_eq_true hx,decide_eq_false hy,if_pos (by decide)]
   have:=Int.mul_nonpos_of_nonpos_of_nonneg (Int.le_of_lt hx) (Int.not_lt.1 hy);omega
 ·by_cases hy:y<0
  ·rw [decide_eq_false hx,decide_eq_true hy,if_pos (by decide)]
   have:=Int.mul_nonpos_of_nonneg_of_nonpos (Int.not_lt.1 hx) (Int.le_of_lt hy);omega
  ·rw [decide_eq_false hx,decide_eq_false hy,if_neg (by decide)]
   have:=Int.mul_nonneg (Int.not_lt.1 hx) (Int.not_lt.1 hy);omega
theorem sg_scale (x:Int) (y:Nat):(if decide (x<0)=true then -((x.natAbs*y:Nat):Int) else ((x.natAbs*y:Nat):Int))=x*(y:Int):=by
 by_cases hx:x<0
 ·rw [decide_eq_true hx,if_pos rfl,Int.natCast_mul,←Int.neg_mul];congr 1;omega
 ·rw [decide_eq_false hx,if_neg (by decide),Int.natCast_mul];congr 1;omega
theorem qeK (z:Int) (v:Value) (w:World) (hv:IntAt w v z) :
  Calls Tryz.prog 72 #[v] w fun e w'=>∃u,e=.returned u∧Below w.heap.size w w'∧IntAt w' u (-z):=by
 obtain⟨m,rfl,hm⟩:=hv
 have hs:=fun (W:World) (h:Below w.heap.size w W)=>qcf z.natAbs (!decide (z<0)) m W (hm.below h)
 have hz:(if (!decide (z<0))=true then -(z.natAbs:Int) else (z.natAbs:Int)) = -z:=by
  by_cases h:z<0
  ·rw [decide_eq_true h,if_neg (by decide)];omega
  ·rw [decide_eq_false h,if_pos (by decide)];omega
 rw [hz] at hs
 have HS:=qH hs
 generalize decide (z<0)=b at *
 obtain⟨am,bm,om,cm,n,M,rfl,Im,hMx⟩:=hm
 clear hs hz Im hMx
 obtain⟨W1,hW1⟩:∃W1,W1=(w.alloc (.cells #[.slice am n cm,.bool b] 105)).alloc (.cells #[.slice none 0 0,.bool false] 105):=⟨_,rfl⟩
 have hb1:Below w.heap.size w W1:=hW1▸(qB.alloc qN _).alloc (by simp) _
 have hr1:W1.heap[w.heap.size+1]? = some (.cells #[.slice none 0 0,.bool false] 105 (0,0)):=by rw [hW1];exact qM _ _ _ (by simp)
 go_enter Tryz.func72,Tryz.ntmps72
 go_wp2_with fail
 rw [←hW1]
 refine (HS.out _ hb1).mono ?_
 rintro e w2 ⟨u,rfl,hb9,hu9⟩
 have hrow9:=(hb9.block (w.heap.size+1) (qG hr1).1).trans hr1
 have hbw9:Below w.heap.size w w2:=hb1.trans (hb9.mono hb1.size)
 clear hW1 hb1 hr1
 obtain⟨a9,n9,c9,b9,rfl⟩:=qbt hu9
 have hvs:=qc9 (cs':=#[.slice a9 n9 c9,.bool b9]) hu9 hrow9 qdv
 have HR:=qH (qA hrow9 (qA hbw9 (below_setRow hbw9 (show w.heap.size≤w.heap.size+1 by omega) #[.slice a9 n9 c9,.bool b9])))
 have HV:=qH hvs
 clear hrow9 hbw9 hvs hb9 hu9
 go_wp2_with ((with_reducible refine wpList_store_row rfl 105 _ _ rfl (w.heap.size+1) #[.slice a9 n9 c9,.bool b9] ?_ ?_ 105 _ HR.out.1 2 ?_ ?_ ?_ ?_ ?_);(next=>rfl);(next=>rfl);(next=>kernel_rfl);(next=>rfl);(next=>rfl);(next=>rfl))
 exact bodyPost_ret (v:=.agg #[.slice a9 n9 c9,.bool b9]) (qbE rfl _ _ (w.heap.size+1) 105 _ _ rfl (setRow_heap _ _ _ _ _ _ HR.out.1) Tryz.underlying105 rfl 2 (by kernel_rfl) rfl) rfl ⟨_,rfl,HR.out.2.2,HV.out⟩
theorem qcv (x y:Int) (K J:Nat) (hK:K+J≤274877906944) (v u:Value) (w:World) (hv:IntAt w v x) (hu:IntAt w u y) (hx:Fit x.natAbs K) (hy:Fit y.natAbs J) :
  Calls Tryz.prog 69 #[v,u] w fun e w'=>∃u,e=.returned u∧Below w.heap.size w w'∧IntAt w' u (x*y):=by
 obtain⟨m,rfl,hm⟩:=hv
 obtain⟨o,rfl,ho⟩:=hu
 have ht:=fun (W:World) (h:Below w.heap.size w W)=>qb4 x.natAbs y.natAbs K J hK m o W (hm.below h) (ho.below h) hx hy
 have hs:=fun (W:World) (p:Value) (h:MagAt W p (x.natAbs*y.natAbs))=>qcf (x.natAbs*y.natAbs) (decide (x<0) != decide (y<0)) p W h
 rw [sg_mul] at hs
 generalize decide (x<0)=b0 at *
 generalize decide (y<0)=b1 at *
 obtain⟨a0,bm,om,c0,n0,M,rfl,Im,hMx⟩:=hm
 obtain⟨a1,bo,oo,c1,n1,O,rfl,Io,hOx⟩:=ho
 have HT:=qH ht
 have HS:=qH hs
 clear ht hs Im hMx Io hOx hx hy hK
 obtain⟨W1,hW1⟩:∃W1,W1=((w.alloc (.cells #[.slice a0 n0 c0,.bool b0] 105)).alloc (.cells #[.slice a1 n1 c1,.bool b1] 105)).alloc (.cells #[.slice none 0 0,.bool false] 105):=⟨_,rfl⟩
 have hb1:Below w.heap.size w W1:=hW1▸((qB.alloc qN _).alloc (by simp only [qab];omega) _).alloc (by simp only [qab];omega) _
 have hr0:W1.heap[w.heap.size]? = some (.cells #[.slice a0 n0 c0,.bool b0] 105 (0,0)):=by rw [hW1,qL _ _ _ (by simp only [qab];omega),qL _ _ _ (by simp only [qab];omega)];exact qM _ _ _ rfl
 have hr1:W1.heap[w.heap.size+1]? = some (.cells #[.slice a1 n1 c1,.bool b1] 105 (0,0)):=by rw [hW1,qL _ _ _ (by simp only [qab];omega)];exact qM _ _ _ (by simp)
 have hr2:W1.heap[w.heap.size+1+1]? = some (.cells #[.slice none 0 0,.bool false] 105 (0,0)):=by rw [hW1];exact qM _ _ _ (by simp)
 have l2:w.heap.size+1+1<W1.heap.size:=(qG hr2).1
 have C0:∀W,Below (w.heap.size+1+1) W1 W→W.cell? ⟨w.heap.size,0,none⟩=some (.slice a0 n0 c0):=fun W h=>(h.cell (p:=⟨w.heap.size,0,none⟩) (by show w.heap.size<_;omega)).trans (cell_of_row _ _ 0 _ _ _ hr0)
 have C1:∀W,Below (w.heap.size+1+1) W1 W→W.cell? ⟨w.heap.size,1,none⟩=some (.bool b0):=fun W h=>(h.cell (p:=⟨w.heap.size,1,none⟩) (by show w.heap.size<_;omega)).trans (cell_of_row _ _ 1 _ _ _ hr0)
 have D0:∀W,Below (w.heap.size+1+1) W1 W→W.cell? ⟨w.heap.size+1,0,none⟩=some (.slice a1 n1 c1):=fun W h=>(h.cell (p:=⟨w.heap.size+1,0,none⟩) (by show w.heap.size+1<_;omega)).trans (cell_of_row _ _ 0 _ _ _ hr1)
 have D1:∀W,Below (w.heap.size+1+1) W1 W→W.cell? ⟨w.heap.size+1,1,none⟩=some (.bool b1):=fun W h=>(h.cell (p:=⟨w.heap.size+1,1,none⟩) (by show w.heap.size+1<_;omega)).trans (cell_of_row _ _ 1 _ _ _ hr1)
 have hrefl:Below (w.heap.size+1+1) W1 W1:=Below.refl _ _
 have hreflD:Below (w.heap.size+1+1) W1 W1.drew:=qB.drew
 have HR:=qH (qA hb1 hr2)
 clear hr0 hr1 hr2 hb1
 go_enter Tryz.func69,Tryz.ntmps69
 go_wp2_with fail
 rw [←hW1]
 clear hW1
 have Hl2:=qH l2
 go_region_held3 (fun W=>Below (w.heap.size+1+1) W1 W) (first | with_reducible exact hrefl | with_reducible exact hreflD | with_reducible exact HB3 | with_reducible exact HB2 | ((iterate 2 refine Below.setCell ?_ (by exact qah _) _);exact HB3)) (first | (go_at_call 73;refine (HT.out _ (HR.out.1.trans (hreflD.mono (by omega)))).mono ?_;rintro e w2 ⟨p2,rfl,hb2,hp2⟩;have HB2:Below (w.heap.size+1+1) W1 w2:=hreflD.trans (hb2.mono (qaC Hl2.out));have HP2:=qH (qA hp2 ((hb2.block _ Hl2.out).trans HR.out.2));clear hb2 hp2) | (go_at_call 77;refine (HS.out _ _ HP2.out.1).mono ?_;rintro e w3 ⟨p3,rfl,hb3,hp3⟩;have HB3:Below (w.heap.size+1+1) W1 w3:=HB2.trans (hb3.mono (qak (qaC Hl2.out) HB2.size));obtain⟨a9,n9,c9,b9,rfl⟩:=qbt hp3;have hz3:=(hb3.block _ (qal Hl2.out HB2.size)).trans HP2.out.2;have e0:=cell_of_row w3 _ 0 _ _ _ hz3;have e1:=cell_of_row w3 _ 1 _ _ _ hz3;have f0:=frozen_of_row w3 _ 0 _ _ hz3;have f1:=frozen_of_row w3 _ 1 _ _ hz3;have HP3:=qH (qA hp3 hz3);clear hb3 hp3 hz3))
 go_wp2_with fail
 exact bodyPost_ret (v:=.agg #[.slice a9 n9 c9,.bool b9]) (qbE rfl _ _ (w.heap.size+1+1) 105 _ _ rfl (qcX HP3.out.2 a9 n9 c9 b9) Tryz.underlying105 rfl 2 (by kernel_rfl) rfl) rfl ⟨_,rfl,HR.out.1.trans (((HB3.setCell (by exact qah _) _).setCell (by exact qah _) _).mono (by omega)),qcV HP3.out.1 HP3.out.2 a9 n9 c9 b9⟩
theorem sg_div (x y:Int):(if (decide (x<0) != decide (y<0))=true then -((x.natAbs / y.natAbs:Nat):Int) else ((x.natAbs / y.natAbs:Nat):Int))=x.tdiv y:=by
 obtain⟨a,rfl | rfl⟩:=Int.eq_nat_or_neg x
 ·obtain⟨b,rfl | rfl⟩:=Int.eq_nat_or_neg y
  ·rw [decide_eq_false (by omega),decide_eq_false (by omega),if_neg (by decide)];rfl
  ·rw [decide_eq_false (by omega:¬(a:Int)<0),Int.natAbs_neg,Int.tdiv_neg]
   by_cases hb:b=0
   ·subst hb;simp
   ·rw [decide_eq_true (by omega),if_pos (by decide)];rfl
 ·obtain⟨b,rfl | rfl⟩:=Int.eq_nat_or_neg y
  ·rw [decide_eq_false (by omega:¬(b:Int)<0),Int.natAbs_neg,Int.neg_tdiv]
   by_cases ha:a=0
   ·subst ha;simp
   ·rw [decide_eq_true (by omega),if_pos (by decide)];rfl
  ·rw [Int.natAbs_neg,Int.natAbs_neg,Int.tdiv_neg,Int.neg_tdiv,Int.neg_neg]
   by_cases ha:a=0
   ·subst ha
    by_cases hb:b=0
    ·subst hb;simp
    ·simp
   ·by_cases hb:b=0
    ·subst hb;simp
    ·rw [decide_eq_true (by omega),decide_eq_true (by omega),if_neg (by decide)];rfl
theorem sg_plus {x y:Int} (h:decide (x<0)=decide (y<0)):(if decide (x<0)=true then -((x.natAbs+y.natAbs:Nat):Int) else ((x.natAbs+y.natAbs:Nat):Int))=x+y:=by
 by_cases hx:x<0
 ·rw [decide_eq_true hx] at h ⊢
  have hy:=of_decide_eq_true h.symm
  rw [if_pos rfl];omega
 ·rw [decide_eq_false hx] at h ⊢
  have hy:=of_decide_eq_false h.symm
  rw [if_neg (by decide)];omega
theorem qhN {x y:Int} (h:¬decide (x<0)=decide (y<0)) (hle:y.natAbs≤x.natAbs):(if decide (x<0)=true then -((x.natAbs-y.natAbs:Nat):Int) else ((x.natAbs-y.natAbs:Nat):Int))=x+y:=by
 by_cases hx:x<0
 ·have hy:¬y<0:=fun hy=>h (by rw [decide_eq_true hx,decide_eq_true hy])
  rw [decide_eq_true hx,if_pos rfl];omega
 ·have hy:y<0:=by
   by_cases hy:y<0
   ·exact hy
   ·exact absurd (by rw [decide_eq_false hx,decide_eq_false hy]) h
  rw [decide_eq_false hx,if_neg (by decide)];omega
theorem qdf (x:Int) (y K J:Nat) (hK:K+J≤274877906944) (v o:Value) (w:World) (hv:IntAt w v x) (ho:MagAt w o y) (hx:Fit x.natAbs K) (hy:Fit y J) :
  Calls Tryz.prog 71 #[v,o] w fun e w'=>∃u,e=.returned u∧Below w.heap.size w w'∧IntAt w' u (x*(y:Int)):=by
 obtain⟨m,rfl,hm⟩:=hv
 have ht:=fun (W:World) (h:Below w.heap.size w W)=>qb4 x.natAbs y K J hK m o W (hm.below h) (ho.below h) hx hy
 have hs:=fun (W:World) (p:Value) (h:MagAt W p (x.natAbs*y))=>qcf (x.natAbs*y) (decide (x<0)) p W h
 rw [sg_scale] at hs
 generalize decide (x<0)=b0 at *
 obtain⟨a0,bm,om,c0,n0,M,rfl,Im,hMx⟩:=hm
 obtain⟨a1,bo,oo,c1,n1,O,rfl,Io,hOx⟩:=ho
 have HT:=qH ht
 have HS:=qH hs
 clear ht hs Im hMx Io hOx hx hy hK
 obtain⟨W1,hW1⟩:∃W1,W1=(w.alloc (.cells #[.slice a0 n0 c0,.bool b0] 105)).alloc (.cells #[.slice none 0 0,.bool false] 105):=⟨_,rfl⟩
 have hb1:Below w.heap.size w W1:=hW1▸(qB.alloc qN _).alloc (by simp only [qab];omega) _
 have hr0:W1.heap[w.heap.size]? = some (.cells #[.slice a0 n0 c0,.bool b0] 105 (0,0)):=by rw [hW1,qL _ _ _ (by simp only [qab];omega)];exact qM _ _ _ (by simp)
 have hr:W1.heap[w.heap.size+1]? = some (.cells #[.slice none 0 0,.bool false] 105 (0,0)):=by rw [hW1];exact qM _ _ _ (by simp)
 have l2:w.heap.size+1<W1.heap.size:=(qG hr).1
 have C00:∀W,Below (w.heap.size+1) W1 W→W.cell? ⟨w.heap.size,0,none⟩=some (.slice a0 n0 c0):=fun W h=>(h.cell (p:=⟨w.heap.size,0,none⟩) (by show w.heap.size<_;omega)).trans (cell_of_row _ _ 0 _ _ _ hr0)
 have C01:∀W,Below (w.heap.size+1) W1 W→W.cell? ⟨w.heap.size,1,none⟩=some (.bool b0):=fun W h=>(h.cell (p:=⟨w.heap.size,1,none⟩) (by show w.heap.size<_;omega)).trans (cell_of_row _ _ 1 _ _ _ hr0)
 have hrefl:Below (w.heap.size+1) W1 W1:=Below.refl _ _
 have HR:=qH (qA hb1 hr)
 have Hl2:=qH l2
 clear hr0 hr hb1
 go_enter Tryz.func71,Tryz.ntmps71
 go_wp2_with fail
 rw [←hW1]
 clear hW1
 have hstD:Below (w.heap.size+1) W1 W1.drew:=hrefl.drew
 go_region_held3 (fun W=>Below (w.heap.size+1) W1 W) (first | with_reducible exact hrefl | with_reducible exact hstD | with_reducible exact HB3 | with_reducible exact HB2 | ((iterate 2 refine Below.setCell ?_ (by exact qah _) _);exact HB3)) (first | (go_at_call 73;refine (HT.out _ (HR.out.1.trans (hstD.mono (by omega)))).mono ?_;rintro e w2 ⟨p2,rfl,hb2,hp2⟩;have HB2:Below (w.heap.size+1) W1 w2:=hstD.trans (hb2.mono (qaC (qal Hl2.out hrefl.size)));have HP2:=qH (qA hp2 ((hb2.block _ (qal Hl2.out hrefl.size)).trans HR.out.2));clear hb2 hp2) | (go_at_call 77;refine (HS.out _ _ HP2.out.1).mono ?_;rintro e w3 ⟨p3,rfl,hb3,hp3⟩;have HB3:Below (w.heap.size+1) W1 w3:=HB2.trans (hb3.mono (qak (qaC Hl2.out) HB2.size));obtain⟨a9,n9,c9,b9,rfl⟩:=qbt hp3;have hz3:=(hb3.block _ (qal Hl2.out HB2.size)).trans HP2.out.2;have e0:=cell_of_row w3 _ 0 _ _ _ hz3;have e1:=cell_of_row w3 _ 1 _ _ _ hz3;have f0:=frozen_of_row w3 _ 0 _ _ hz3;have f1:=frozen_of_row w3 _ 1 _ _ hz3;have HP3:=qH (qA hp3 hz3);clear hb3 hp3 hz3))
 go_wp2_with fail
 exact bodyPost_ret (v:=.agg #[.slice a9 n9 c9,.bool b9]) (qbE rfl _ _ (w.heap.size+1) 105 _ _ rfl (qcX HP3.out.2 a9 n9 c9 b9) Tryz.underlying105 rfl 2 (by kernel_rfl) rfl) rfl ⟨_,rfl,HR.out.1.trans (((HB3.setCell (by exact qah _) _).setCell (by exact qah _) _).mono (by omega)),qcV HP3.out.1 HP3.out.2 a9 n9 c9 b9⟩
theorem qgJ (x y:Int) (K:Nat) (hK:K≤137438953472) (v u:Value) (w:World) (hv:IntAt w v x) (hu:IntAt w u y) (hx:Fit x.natAbs K) (hy:Fit y.natAbs K) (h0:y≠0) :
  Calls Tryz.prog 154 #[v,u] w fun e w'=>∃u,e=.returned u∧Below w.heap.size w w'∧IntAt w' u (x.tdiv y):=by
 obtain⟨m,rfl,hm⟩:=hv
 obtain⟨o,rfl,ho⟩:=hu
 have ht:=fun (W:World) (h:Below w.heap.size w W)=>qbT x.natAbs y.natAbs K hK m o W (hm.below h) (ho.below h) hx hy (by omega)
 have hs:=fun (W:World) (p:Value) (h:MagAt W p (x.natAbs / y.natAbs))=>qcf (x.natAbs / y.natAbs) (decide (x<0) != decide (y<0)) p W h
 rw [sg_div] at hs
 generalize decide (x<0)=b0 at *
 generalize decide (y<0)=b1 at *
 obtain⟨a0,bm,om,c0,n0,M,rfl,Im,hMx⟩:=hm
 obtain⟨a1,bo,oo,c1,n1,O,rfl,Io,hOx⟩:=ho
 have HT:=qH ht
 have HS:=qH hs
 clear ht hs Im hMx Io hOx hx hy hK
 obtain⟨W1,hW1⟩:∃W1,W1=((w.alloc (.cells #[.slice a0 n0 c0,.bool b0] 105)).alloc (.cells #[.slice a1 n1 c1,.bool b1] 105)).alloc (.cells #[.slice none 0 0,.bool false] 105):=⟨_,rfl⟩
 have hb1:Below w.heap.size w W1:=hW1▸((qB.alloc qN _).alloc (by simp only [qab];omega) _).alloc (by simp only [qab];omega) _
 have hr0:W1.heap[w.heap.size]? = some (.cells #[.slice a0 n0 c0,.bool b0] 105 (0,0)):=by rw [hW1,qL _ _ _ (by simp only [qab];omega),qL _ _ _ (by simp only [qab];omega)];exact qM _ _ _ (by simp)
 have hr1:W1.heap[w.heap.size+1]? = some (.cells #[.slice a1 n1 c1,.bool b1] 105 (0,0)):=by rw [hW1,qL _ _ _ (by simp only [qab];omega)];exact qM _ _ _ (by simp)
 have hr:W1.heap[w.heap.size+1+1]? = some (.cells #[.slice none 0 0,.bool false] 105 (0,0)):=by rw [hW1];exact qM _ _ _ (by simp)
 have l2:w.heap.size+1+1<W1.heap.size:=(qG hr).1
 have C00:∀W,Below (w.heap.size+1+1) W1 W→W.cell? ⟨w.heap.size,0,none⟩=some (.slice a0 n0 c0):=fun W h=>(h.cell (p:=⟨w.heap.size,0,none⟩) (by show w.heap.size<_;omega)).trans (cell_of_row _ _ 0 _ _ _ hr0)
 have C01:∀W,Below (w.heap.size+1+1) W1 W→W.cell? ⟨w.heap.size,1,none⟩=some (.bool b0):=fun W h=>(h.cell (p:=⟨w.heap.size,1,none⟩) (by show w.heap.size<_;omega)).trans (cell_of_row _ _ 1 _ _ _ hr0)
 have C10:∀W,Below (w.heap.size+1+1) W1 W→W.cell? ⟨w.heap.size+1,0,none⟩=some (.slice a1 n1 c1):=fun W h=>(h.cell (p:=⟨w.heap.size+1,0,none⟩) (by show w.heap.size+1<_;omega)).trans (cell_of_row _ _ 0 _ _ _ hr1)
 have C11:∀W,Below (w.heap.size+1+1) W1 W→W.cell? ⟨w.heap.size+1,1,none⟩=some (.bool b1):=fun W h=>(h.cell (p:=⟨w.heap.size+1,1,none⟩) (by show w.heap.size+1<_;omega)).trans (cell_of_row _ _ 1 _ _ _ hr1)
 have hrefl:Below (w.heap.size+1+1) W1 W1:=Below.refl _ _
 have HR:=qH (qA hb1 hr)
 have Hl2:=qH l2
 clear hr0 hr1 hr hb1
 go_enter Tryz.func154,Tryz.ntmps154
 go_wp2_with fail
 rw [←hW1]
 clear hW1
 refine (HT.out _ HR.out.1).mono ?_
 rintro e w2 ⟨q,r,rfl,hb2,hq,_⟩
 have hB2:Below (w.heap.size+1+1) W1 w2:=hb2.mono (qaC Hl2.out)
 have c01:=C01 w2 hB2
 have c11:=C11 w2 hB2
 have hrow2:=(hb2.block _ Hl2.out).trans HR.out.2
 have H2:=qH (qA hq (qA hrow2 (HR.out.1.trans (hb2.mono HR.out.1.size))))
 have Hl3:Hid (w.heap.size+1+1<w2.heap.size):=qH (qal Hl2.out hb2.size)
 clear hb2 hq hrow2 hB2 C00 C01 C10 C11
 go_wp2_with fail
 refine (HS.out _ _ H2.out.1).mono ?_
 rintro e w3 ⟨u3,rfl,hb9,hu9⟩
 have hrow9:=(hb9.block _ Hl3.out).trans H2.out.2.1
 have hbw9:Below w.heap.size w w3:=H2.out.2.2.trans (hb9.mono H2.out.2.2.size)
 obtain⟨a9,n9,c9,b9,rfl⟩:=qbt hu9
 have hvs:=qc9 (cs':=#[.slice a9 n9 c9,.bool b9]) hu9 hrow9 qdv
 have HR:=qH (qA hrow9 (qA hbw9 (below_setRow hbw9 (show w.heap.size≤w.heap.size+1+1 by omega) #[.slice a9 n9 c9,.bool b9])))
 have HV:=qH hvs
 clear hrow9 hbw9 hvs hb9 hu9
 go_wp2_with ((with_reducible refine wpList_store_row rfl 105 _ _ rfl (w.heap.size+1+1) #[.slice a9 n9 c9,.bool b9] ?_ ?_ 105 _ HR.out.1 2 ?_ ?_ ?_ ?_ ?_);(next=>rfl);(next=>rfl);(next=>kernel_rfl);(next=>rfl);(next=>rfl);(next=>rfl))
 exact bodyPost_ret (v:=.agg #[.slice a9 n9 c9,.bool b9]) (qbE rfl _ _ (w.heap.size+1+1) 105 _ _ rfl (setRow_heap _ _ _ _ _ _ HR.out.1) Tryz.underlying105 rfl 2 (by kernel_rfl) rfl) rfl ⟨_,rfl,HR.out.2.2,HV.out⟩
theorem qfs (x y:Int) (K:Nat) (hK:K≤274877906944) (v u:Value) (w:World) (hv:IntAt w v x) (hu:IntAt w u y) (hx:Fit x.natAbs K) (hy:Fit y.natAbs K) :
  Calls Tryz.prog 70 #[v,u] w fun e w'=>∃u,e=.returned u∧Below w.heap.size w w'∧IntAt w' u (x+y):=by
 obtain⟨m,rfl,hm⟩:=hv
 obtain⟨o,rfl,ho⟩:=hu
 by_cases hsg:decide (x<0)=decide (y<0)
 ·have ht:=fun (W:World) (h:Below w.heap.size w W)=>plus_any x.natAbs y.natAbs K hK m o W (hm.below h) (ho.below h) hx hy
  have hs:=fun (W:World) (p:Value) (h:MagAt W p (x.natAbs+y.natAbs))=>qcf (x.natAbs+y.natAbs) (decide (x<0)) p W h
  rw [sg_plus hsg] at hs
  rw [←hsg]
  generalize decide (x<0)=b0 at *
  obtain⟨b1,hb1⟩:∃b1,b1=b0:=⟨_,rfl⟩
  obtain⟨a0,bm,om,c0,n0,M,rfl,Im,hMx⟩:=hm
  obtain⟨a1,bo,oo,c1,n1,O,rfl,Io,hOx⟩:=ho
  have HT:=qH ht
  have HS:=qH hs
  clear ht hs Im hMx Io hOx hx hy hK hsg
  rw [show (.agg #[.slice a1 n1 c1,.bool b0]:Value)=.agg #[.slice a1 n1 c1,.bool b1] by rw [hb1]]
  have heq:(b0 == b1)=true:=by rw [hb1];exact beq_self_eq_true b0
  clear hb1
  obtain⟨W1,hW1⟩:∃W1,W1=((w.alloc (.cells #[.slice a0 n0 c0,.bool b0] 105)).alloc (.cells #[.slice a1 n1 c1,.bool b1] 105)).alloc (.cells #[.slice none 0 0,.bool false] 105):=⟨_,rfl⟩
  have hb1:Below w.heap.size w W1:=hW1▸((qB.alloc qN _).alloc (by simp only [qab];omega) _).alloc (by simp only [qab];omega) _
  have hr0:W1.heap[w.heap.size]? = some (.cells #[.slice a0 n0 c0,.bool b0] 105 (0,0)):=by rw [hW1,qL _ _ _ (by simp only [qab];omega),qL _ _ _ (by simp only [qab];omega)];exact qM _ _ _ (by simp)
  have hr1:W1.heap[w.heap.size+1]? = some (.cells #[.slice a1 n1 c1,.bool b1] 105 (0,0)):=by rw [hW1,qL _ _ _ (by simp only [qab];omega)];exact qM _ _ _ (by simp)
  have hr:W1.heap[w.heap.size+1+1]? = some (.cells #[.slice none 0 0,.bool false] 105 (0,0)):=by rw [hW1];exact qM _ _ _ (by simp)
  have l2:w.heap.size+1+1<W1.heap.size:=(qG hr).1
  have C00:∀W,Below (w.heap.size+1+1) W1 W→W.cell? ⟨w.heap.size,0,none⟩=some (.slice a0 n0 c0):=fun W h=>(h.cell (p:=⟨w.heap.size,0,none⟩) (by show w.heap.size<_;omega)).trans (cell_of_row _ _ 0 _ _ _ hr0)
  have C01:∀W,Below (w.heap.size+1+1) W1 W→W.cell? ⟨w.heap.size,1,none⟩=some (.bool b0):=fun W h=>(h.cell (p:=⟨w.heap.size,1,none⟩) (by show w.heap.size<_;omega)).trans (cell_of_row _ _ 1 _ _ _ hr0)
  have C10:∀W,Below (w.heap.size+1+1) W1 W→W.cell? ⟨w.heap.size+1,0,none⟩=some (.slice a1 n1 c1):=fun W h=>(h.cell (p:=⟨w.heap.size+1,0,none⟩) (by show w.heap.size+1<_;omega)).trans (cell_of_row _ _ 0 _ _ _ hr1)
  have C11:∀W,Below (w.heap.size+1+1) W1 W→W.cell? ⟨w.heap.size+1,1,none⟩=some (.bool b1):=fun W h=>(h.cell (p:=⟨w.heap.size+1,1,none⟩) (by show w.heap.size+1<_;omega)).trans (cell_of_row _ _ 1 _ _ _ hr1)
  have hrefl:Below (w.heap.size+1+1) W1 W1:=Below.refl _ _
  have HR:=qH (qA hb1 hr)
  have Hl2:=qH l2
  clear hr0 hr1 hr hb1
  go_enter Tryz.func70,Tryz.ntmps70
  go_wp2_with fail
  rw [←hW1]
  clear hW1
  have hstD:Below (w.heap.size+1+1) W1 W1.drew:=hrefl.drew
  go_region_held3 (fun W=>Below (w.heap.size+1+1) W1 W) (first | with_reducible exact hrefl | with_reducible exact hstD | with_reducible exact HB3 | with_reducible exact HB2 | ((iterate 2 refine Below.setCell ?_ (by exact qah _) _);exact HB3)) (first | (go_at_call 118;refine (HT.out _ (HR.out.1.trans (hstD.mono (by omega)))).mono ?_;rintro e w2 ⟨p2,rfl,hb2,hp2⟩;have HB2:Below (w.heap.size+1+1) W1 w2:=hstD.trans (hb2.mono (qaC (qal Hl2.out hrefl.size)));have HP2:=qH (qA hp2 ((hb2.block _ (qal Hl2.out hrefl.size)).trans HR.out.2));clear hb2 hp2) | (go_at_call 77;refine (HS.out _ _ HP2.out.1).mono ?_;rintro e w3 ⟨p3,rfl,hb3,hp3⟩;have HB3:Below (w.heap.size+1+1) W1 w3:=HB2.trans (hb3.mono (qak (qaC Hl2.out) HB2.size));obtain⟨a9,n9,c9,b9,rfl⟩:=qbt hp3;have hz3:=(hb3.block _ (qal Hl2.out HB2.size)).trans HP2.out.2;have e0:=cell_of_row w3 _ 0 _ _ _ hz3;have e1:=cell_of_row w3 _ 1 _ _ _ hz3;have f0:=frozen_of_row w3 _ 0 _ _ hz3;have f1:=frozen_of_row w3 _ 1 _ _ hz3;have HP3:=qH (qA hp3 hz3);clear hb3 hp3 hz3))
  go_wp2_with fail
  exact bodyPost_ret (v:=.agg #[.slice a9 n9 c9,.bool b9]) (qbE rfl _ _ (w.heap.size+1+1) 105 _ _ rfl (qcX HP3.out.2 a9 n9 c9 b9) Tryz.underlying105 rfl 2 (by kernel_rfl) rfl) rfl ⟨_,rfl,HR.out.1.trans (((HB3.setCell (by exact qah _) _).setCell (by exact qah _) _).mono (by omega)),qcV HP3.out.1 HP3.out.2 a9 n9 c9 b9⟩
 ·have hc:=fun (W:World) (h:Below w.heap.size w W)=>qcb x.natAbs y.natAbs K hK m o W (hm.below h) (ho.below h) hx hy
  have hneq:(decide (x<0) == decide (y<0))=false:=beq_eq_false_iff_ne.2 hsg
  by_cases hlt:x.natAbs<y.natAbs
  ·have ht:=fun (W:World) (h:Below w.heap.size w W)=>qgE y.natAbs x.natAbs K hK o m W (ho.below h) (hm.below h) hy (qaC hlt)
   have hs:=fun (W:World) (p:Value) (h:MagAt W p (y.natAbs-x.natAbs))=>qcf (y.natAbs-x.natAbs) (decide (y<0)) p W h
   rw [qhN (fun e=>hsg e.symm) (qaC hlt),Int.add_comm] at hs
   rw [show cmp3 (x.natAbs:Int) (y.natAbs:Int) = -1 by unfold cmp3;rw [if_pos (by omega)]] at hc
   generalize decide (x<0)=b0 at *
   generalize decide (y<0)=b1 at *
   obtain⟨a0,bm,om,c0,n0,M,rfl,Im,hMx⟩:=hm
   obtain⟨a1,bo,oo,c1,n1,O,rfl,Io,hOx⟩:=ho
   have HT:=qH ht
   have HS:=qH hs
   have HC:=qH hc
   clear ht hs hc Im hMx Io hOx hx hy hK hsg hlt
   obtain⟨W1,hW1⟩:∃W1,W1=((w.alloc (.cells #[.slice a0 n0 c0,.bool b0] 105)).alloc (.cells #[.slice a1 n1 c1,.bool b1] 105)).alloc (.cells #[.slice none 0 0,.bool false] 105):=⟨_,rfl⟩
   have hb1:Below w.heap.size w W1:=hW1▸((qB.alloc qN _).alloc (by simp only [qab];omega) _).alloc (by simp only [qab];omega) _
   have hr0:W1.heap[w.heap.size]? = some (.cells #[.slice a0 n0 c0,.bool b0] 105 (0,0)):=by rw [hW1,qL _ _ _ (by simp only [qab];omega),qL _ _ _ (by simp only [qab];omega)];exact qM _ _ _ (by simp)
   have hr1:W1.heap[w.heap.size+1]? = some (.cells #[.slice a1 n1 c1,.bool b1] 105 (0,0)):=by rw [hW1,qL _ _ _ (by simp only [qab];omega)];exact qM _ _ _ (by simp)
   have hr:W1.heap[w.heap.size+1+1]? = some (.cells #[.slice none 0 0,.bool false] 105 (0,0)):=by rw [hW1];exact qM _ _ _ (by simp)
   have l2:w.heap.size+1+1<W1.heap.size:=(qG hr).1
   have C00:∀W,Below (w.heap.size+1+1) W1 W→W.cell? ⟨w.heap.size,0,none⟩=some (.slice a0 n0 c0):=fun W h=>(h.cell (p:=⟨w.heap.size,0,none⟩) (by show w.heap.size<_;omega)).trans (cell_of_row _ _ 0 _ _ _ hr0)
   have C01:∀W,Below (w.heap.size+1+1) W1 W→W.cell? ⟨w.heap.size,1,none⟩=some (.bool b0):=fun W h=>(h.cell (p:=⟨w.heap.size,1,none⟩) (by show w.heap.size<_;omega)).trans (cell_of_row _ _ 1 _ _ _ hr0)
   have C10:∀W,Below (w.heap.size+1+1) W1 W→W.cell? ⟨w.heap.size+1,0,none⟩=some (.slice a1 n1 c1):=fun W h=>(h.cell (p:=⟨w.heap.size+1,0,none⟩) (by show w.heap.size+1<_;omega)).trans (cell_of_row _ _ 0 _ _ _ hr1)
   have C11:∀W,Below (w.heap.size+1+1) W1 W→W.cell? ⟨w.heap.size+1,1,none⟩=some (.bool b1):=fun W h=>(h.cell (p:=⟨w.heap.size+1,1,none⟩) (by show w.heap.size+1<_;omega)).trans (cell_of_row _ _ 1 _ _ _ hr1)
   have hrefl:Below (w.heap.size+1+1) W1 W1:=Below.refl _ _
   have HR:=qH (qA hb1 hr)
   have Hl2:=qH l2
   clear hr0 hr1 hr hb1
   go_enter Tryz.func70,Tryz.ntmps70
   go_wp2_with fail
   rw [←hW1]
   clear hW1
   refine (HC.out _ HR.out.1).mono ?_
   rintro e w5 ⟨rfl,hb5⟩
   have hst:Below (w.heap.size+1+1) W1 w5:=hb5.mono (qaC Hl2.out)
   have H5:=qH ((hb5.block _ Hl2.out).trans HR.out.2)
   clear hb5
   go_wp2_with fail
   have hstD:Below (w.heap.size+1+1) W1 w5.drew:=hst.drew
   go_region_held3 (fun W=>Below (w.heap.size+1+1) W1 W) (first | with_reducible exact hst | with_reducible exact hstD | with_reducible exact HB3 | with_reducible exact HB2 | ((iterate 2 refine Below.setCell ?_ (by exact qah _) _);exact HB3)) (first | (go_at_call 120;refine (HT.out _ (HR.out.1.trans (hstD.mono (by omega)))).mono ?_;rintro e w2 ⟨p2,rfl,hb2,hp2⟩;have HB2:Below (w.heap.size+1+1) W1 w2:=hstD.trans (hb2.mono (qaC (qal Hl2.out hst.size)));have HP2:=qH (qA hp2 ((hb2.block _ (qal Hl2.out hst.size)).trans H5.out));clear hb2 hp2) | (go_at_call 77;refine (HS.out _ _ HP2.out.1).mono ?_;rintro e w3 ⟨p3,rfl,hb3,hp3⟩;have HB3:Below (w.heap.size+1+1) W1 w3:=HB2.trans (hb3.mono (qak (qaC Hl2.out) HB2.size));obtain⟨a9,n9,c9,b9,rfl⟩:=qbt hp3;have hz3:=(hb3.block _ (qal Hl2.out HB2.size)).trans HP2.out.2;have e0:=cell_of_row w3 _ 0 _ _ _ hz3;have e1:=cell_of_row w3 _ 1 _ _ _ hz3;have f0:=frozen_of_row w3 _ 0 _ _ hz3;have f1:=frozen_of_row w3 _ 1 _ _ hz3;have HP3:=qH (qA hp3 hz3);clear hb3 hp3 hz3))
   go_wp2_with fail
   exact bodyPost_ret (v:=.agg #[.slice a9 n9 c9,.bool b9]) (qbE rfl _ _ (w.heap.size+1+1) 105 _ _ rfl (qcX HP3.out.2 a9 n9 c9 b9) Tryz.underlying105 rfl 2 (by kernel_rfl) rfl) rfl ⟨_,rfl,HR.out.1.trans (((HB3.setCell (by exact qah _) _).setCell (by exact qah _) _).mono (by omega)),qcV HP3.out.1 HP3.out.2 a9 n9 c9 b9⟩
  ·have ht:=fun (W:World) (h:Below w.heap.size w W)=>qgE x.natAbs y.natAbs K hK m o W (hm.below h) (ho.below h) hx (by omega)
   have hs:=fun (W:World) (p:Value) (h:MagAt W p (x.natAbs-y.natAbs))=>qcf (x.natAbs-y.natAbs) (decide (x<0)) p W h
   rw [qhN hsg (by omega)] at hs
   obtain⟨cr,hcr⟩:∃cr,cmp3 (x.natAbs:Int) (y.natAbs:Int)=cr:=⟨_,rfl⟩
   have hcr0:¬cr<0:=by rw [←hcr];unfold cmp3;rw [if_neg (by omega)];split <;> omega
   rw [hcr] at hc
   generalize decide (x<0)=b0 at *
   generalize decide (y<0)=b1 at *
   obtain⟨a0,bm,om,c0,n0,M,rfl,Im,hMx⟩:=hm
   obtain⟨a1,bo,oo,c1,n1,O,rfl,Io,hOx⟩:=ho
   have HT:=qH ht
   have HS:=qH hs
   have HC:=qH hc
   clear ht hs hc Im hMx Io hOx hx hy hK hsg hlt hcr
   obtain⟨W1,hW1⟩:∃W1,W1=((w.alloc (.cells #[.slice a0 n0 c0,.bool b0] 105)).alloc (.cells #[.slice a1 n1 c1,.bool b1] 105)).alloc (.cells #[.slice none 0 0,.bool false] 105):=⟨_,rfl⟩
   have hb1:Below w.heap.size w W1:=hW1▸((qB.alloc qN _).alloc (by simp only [qab];omega) _).alloc (by simp only [qab];omega) _
   have hr0:W1.heap[w.heap.size]? = some (.cells #[.slice a0 n0 c0,.bool b0] 105 (0,0)):=by rw [hW1,qL _ _ _ (by simp only [qab];omega),qL _ _ _ (by simp only [qab];omega)];exact qM _ _ _ (by simp)
   have hr1:W1.heap[w.heap.size+1]? = some (.cells #[.slice a1 n1 c1,.bool b1] 105 (0,0)):=by rw [hW1,qL _ _ _ (by simp only [qab];omega)];exact qM _ _ _ (by simp)
   have hr:W1.heap[w.heap.size+1+1]? = some (.cells #[.slice none 0 0,.bool false] 105 (0,0)):=by rw [hW1];exact qM _ _ _ (by simp)
   have l2:w.heap.size+1+1<W1.heap.size:=(qG hr).1
   have C00:∀W,Below (w.heap.size+1+1) W1 W→W.cell? ⟨w.heap.size,0,none⟩=some (.slice a0 n0 c0):=fun W h=>(h.cell (p:=⟨w.heap.size,0,none⟩) (by show w.heap.size<_;omega)).trans (cell_of_row _ _ 0 _ _ _ hr0)
   have C01:∀W,Below (w.heap.size+1+1) W1 W→W.cell? ⟨w.heap.size,1,none⟩=some (.bool b0):=fun W h=>(h.cell (p:=⟨w.heap.size,1,none⟩) (by show w.heap.size<_;omega)).trans (cell_of_row _ _ 1 _ _ _ hr0)
   have C10:∀W,Below (w.heap.size+1+1) W1 W→W.cell? ⟨w.heap.size+1,0,none⟩=some (.slice a1 n1 c1):=fun W h=>(h.cell (p:=⟨w.heap.size+1,0,none⟩) (by show w.heap.size+1<_;omega)).trans (cell_of_row _ _ 0 _ _ _ hr1)
   have C11:∀W,Below (w.heap.size+1+1) W1 W→W.cell? ⟨w.heap.size+1,1,none⟩=some (.bool b1):=fun W h=>(h.cell (p:=⟨w.heap.size+1,1,none⟩) (by show w.heap.size+1<_;omega)).trans (cell_of_row _ _ 1 _ _ _ hr1)
   have hrefl:Below (w.heap.size+1+1) W1 W1:=Below.refl _ _
   have HR:=qH (qA hb1 hr)
   have Hl2:=qH l2
   clear hr0 hr1 hr hb1
   go_enter Tryz.func70,Tryz.ntmps70
   go_wp2_with fail
   rw [←hW1]
   clear hW1
   refine (HC.out _ HR.out.1).mono ?_
   rintro e w5 ⟨rfl,hb5⟩
   have hst:Below (w.heap.size+1+1) W1 w5:=hb5.mono (qaC Hl2.out)
   have H5:=qH ((hb5.block _ Hl2.out).trans HR.out.2)
   clear hb5
   go_wp2_with fail
   have hstD:Below (w.heap.size+1+1) W1 w5.drew:=hst.drew
   go_region_held3 (fun W=>Below (w.heap.size+1+1) W1 W) (first | with_reducible exact hst | with_reducible exact hstD | with_reducible exact HB3 | with_reducible exact HB2 | ((iterate 2 refine Below.setCell ?_ (by exact qah _) _);exact HB3)) (first | (go_at_call 120;refine (HT.out _ (HR.out.1.trans (hstD.mono (by omega)))).mono ?_;rintro e w2 ⟨p2,rfl,hb2,hp2⟩;have HB2:Below (w.heap.size+1+1) W1 w2:=hstD.trans (hb2.mono (qaC (qal Hl2.out hst.size)));have HP2:=qH (qA hp2 ((hb2.block _ (qal Hl2.out hst.size)).trans H5.out));clear hb2 hp2) | (go_at_call 77;refine (HS.out _ _ HP2.out.1).mono ?_;rintro e w3 ⟨p3,rfl,hb3,hp3⟩;have HB3:Below (w.heap.size+1+1) W1 w3:=HB2.trans (hb3.mono (qak (qaC Hl2.out) HB2.size));obtain⟨a9,n9,c9,b9,rfl⟩:=qbt hp3;have hz3:=(hb3.block _ (qal Hl2.out HB2.size)).trans HP2.out.2;have e0:=cell_of_row w3 _ 0 _ _ _ hz3;have e1:=cell_of_row w3 _ 1 _ _ _ hz3;have f0:=frozen_of_row w3 _ 0 _ _ hz3;have f1:=frozen_of_row w3 _ 1 _ _ hz3;have HP3:=qH (qA hp3 hz3);clear hb3 hp3 hz3))
   go_wp2_with fail
   exact bodyPost_ret (v:=.agg #[.slice a9 n9 c9,.bool b9]) (qbE rfl _ _ (w.heap.size+1+1) 105 _ _ rfl (qcX HP3.out.2 a9 n9 c9 b9) Tryz.underlying105 rfl 2 (by kernel_rfl) rfl) rfl ⟨_,rfl,HR.out.1.trans (((HB3.setCell (by exact qah _) _).setCell (by exact qah _) _).mono (by omega)),qcV HP3.out.1 HP3.out.2 a9 n9 c9 b9⟩
def wtxt (z:Int):ByteArray:=⟨(itxt z).toArray⟩
theorem qgp {z:Int} (h:z<0):wtxt z=⟨#[45]⟩++num z.natAbs:=by
 apply ByteArray.ext
 rw [ByteArray.data_append]
 unfold wtxt itxt num
 rw [if_pos h];simp
theorem qe3 {z:Int} (h:¬z<0):wtxt z=num z.natAbs:=by
 unfold wtxt itxt num;rw [if_neg h]
theorem num_le {x K:Nat} (h:Fit x K) (hK:0<K):(num x).size≤9*K:=by
 rw [qdL]
 refine qb0 _ _ (by omega) ?_
 rw [←pow9];exact h
theorem text_any (z:Int) (K:Nat) (hK0:0<K) (hK:K≤137438953472) (v:Value) (w:World) (hv:IntAt w v z) (hz:Fit z.natAbs K) (hT:HasT w) :
  Calls Tryz.prog 126 #[v] w fun e w'=>e=.returned (.string (wtxt z))∧Below w.heap.size w w':=by
 obtain⟨m,rfl,hm⟩:=hv
 have hd:=fun (W:World) (h:Below w.heap.size w W)=>qfE z.natAbs K (by omega) m W (hm.below h) hz (hT.below h)
 have hn:=num_le hz hK0
 have HA:Hid (∀cs,Below w.heap.size w (w.alloc (.cells cs 105))):=qH fun cs=>qB.alloc qN _
 by_cases h0:z<0
 ·rw [qgp h0,decide_eq_true h0]
  generalize num z.natAbs=t at *
  have hadd:∀W,(Op.stringOp .add ⟨#[45]⟩ t).run Tryz.prog W=.ok (.string (⟨#[45]⟩++t)) W:=fun W=>run_string_add_sum W _ _ (by have:(⟨#[45]⟩:ByteArray).size=1:=rfl;omega)
  obtain⟨T,hTe⟩:∃T,(⟨#[45]⟩:ByteArray)++t=T:=⟨_,rfl⟩
  rw [hTe] at hadd ⊢
  have HD:=qH hd
  obtain⟨am,bm,om,cm,n,M,rfl,Im,hMx⟩:=hm
  clear hd hTe Im hMx hn h0 hz hT
  go_enter Tryz.func126,Tryz.ntmps126
  go_wp2_with fail
  refine (HD.out _ (HA.out _)).mono ?_
  rintro e w1 ⟨rfl,hb1⟩
  have HB:=qH ((HA.out _).trans (hb1.mono (HA.out _).size))
  clear hb1
  go_wp2_with fail
  go_ret
  exact⟨rfl,HB.out⟩
 ·rw [qe3 h0,decide_eq_false h0]
  generalize num z.natAbs=t at *
  have HD:=qH hd
  obtain⟨am,bm,om,cm,n,M,rfl,Im,hMx⟩:=hm
  clear hd Im hMx hn h0 hz hT
  go_enter Tryz.func126,Tryz.ntmps126
  go_wp2_with fail
  refine (HD.out _ (HA.out _)).mono ?_
  rintro e w1 ⟨rfl,hb1⟩
  have HB:=qH ((HA.out _).trans (hb1.mono (HA.out _).size))
  clear hb1
  go_wp2_with fail
  go_ret
  exact⟨rfl,HB.out⟩
theorem qeH (x y K J:Nat) (hK:K≤137438953472) (hJ:J≤137438953472) (hx0:0<x) (hy0:0<y) (vm vo:Value) (w:World) (hm:MagAt w vm x) (ho:MagAt w vo y) (hx:Fit x K) (hy:Fit y J) :
  Calls Tryz.prog 74 #[vm,vo] w fun e w'=>∃v,e=.returned v∧Below w.heap.size w w'∧MagAt w' v (x.lcm y):=by
 have hg0:0<x.gcd y:=Nat.gcd_pos_of_pos_left _ hx0
 have hKJ:K≤max K J∧J≤max K J∧max K J≤137438953472:=by omega
 have hgcd:=qfb x y (max K J) hKJ.2.2 vm vo w hm ho (hx.mono hKJ.1) (hy.mono hKJ.2.1)
 have hdiv:=fun (W:World) (g:Value) (hg:MagAt W g (x.gcd y)) (h:Below w.heap.size w W)=>qbT y (x.gcd y) (max K J) hKJ.2.2 vo g W (ho.below h) hg (hy.mono hKJ.2.1) ((hy.le (Nat.gcd_le_right _ hy0)).mono hKJ.2.1) hg0
 have htim:=fun (W:World) (d:Value) (hd:MagAt W d (y / x.gcd y)) (h:Below w.heap.size w W)=>qb4 x (y / x.gcd y) K J (by omega) vm d W (hm.below h) hd hx (hy.le (qa5 _ _))
 rw [←Nat.mul_div_assoc _ (Nat.gcd_dvd_right x y)] at htim
 have HG:=qH hgcd
 have HD:=qH hdiv
 have HT:=qH htim
 obtain⟨am,bm,om,cm,n,M,rfl,Im,hMx⟩:=hm
 obtain⟨ao,bo,oo,co,no,O,rfl,Io,hOx⟩:=ho
 clear hgcd hdiv htim Im hMx Io hOx hx hy
 go_enter Tryz.func74,Tryz.ntmps74
 go_wp2_with fail
 refine HG.out.mono ?_
 rintro e w1 ⟨g,rfl,hb1,hg⟩
 have H1:=qH (qA hb1 hg)
 clear hb1 hg
 go_wp2_with fail
 refine (HD.out _ _ H1.out.2 H1.out.1).mono ?_
 rintro e w2 ⟨q,r,rfl,hb2,hq,_⟩
 have H2:=qH (qA (H1.out.1.trans (hb2.mono H1.out.1.size)) hq)
 clear hb2 hq
 go_wp2_with fail
 refine (HT.out _ _ H2.out.2 H2.out.1).mono ?_
 rintro e w3 ⟨v,rfl,hb3,hv⟩
 have H3:=qH (qA (H2.out.1.trans (hb3.mono H2.out.1.size)) hv)
 clear hb3 hv
 go_wp2_with fail
 go_ret
 exact⟨_,rfl,H3.out.1,H3.out.2⟩
end Go.Proofs.YtfminfgabiipjaaGreatDoor.least
namespace Go.Proofs.YtfminfgabiipjaaGreatDoor
open Go.RowKit
theorem qjl (n d:Int) (hd:d≠0):(Rat.divInt n d).num=(if (decide (n<0) != decide (d<0))=true then -((n.natAbs / n.natAbs.gcd d.natAbs:Nat):Int) else ((n.natAbs / n.natAbs.gcd d.natAbs:Nat):Int))∧(Rat.divInt n d).den=d.natAbs / n.natAbs.gcd d.natAbs:=by
 have hg:0<n.natAbs.gcd d.natAbs:=Nat.gcd_pos_of_pos_right _ (by omega)
 obtain⟨z,hz⟩:∃z,(if (decide (n<0) != decide (d<0))=true then -((n.natAbs / n.natAbs.gcd d.natAbs:Nat):Int) else ((n.natAbs / n.natAbs.gcd d.natAbs:Nat):Int))=z:=⟨_,rfl⟩
 rw [hz]
 have hza:z.natAbs=n.natAbs / n.natAbs.gcd d.natAbs:=by
  rw [←hz]
  generalize n.natAbs / n.natAbs.gcd d.natAbs=A
  split <;> omega
 have h0:d.natAbs / n.natAbs.gcd d.natAbs≠0:=qbj (Nat.div_pos (Nat.le_of_dvd (by omega) (Nat.gcd_dvd_right _ _)) hg)
 have hc:z.natAbs.Coprime (d.natAbs / n.natAbs.gcd d.natAbs):=by rw [hza];exact Nat.coprime_div_gcd_div_gcd hg
 have hx:n.natAbs / n.natAbs.gcd d.natAbs*d.natAbs=n.natAbs*(d.natAbs / n.natAbs.gcd d.natAbs):=by
  obtain⟨a,ha⟩:=Nat.gcd_dvd_left n.natAbs d.natAbs
  obtain⟨b,hb⟩:=Nat.gcd_dvd_right n.natAbs d.natAbs
  have ea:n.natAbs / n.natAbs.gcd d.natAbs=a:=by (conv=>lhs;lhs;rw [ha]);exact Nat.mul_div_cancel_left _ hg
  have eb:d.natAbs / n.natAbs.gcd d.natAbs=b:=by (conv=>lhs;lhs;rw [hb]);exact Nat.mul_div_cancel_left _ hg
  rw [ea,eb]
  generalize n.natAbs.gcd d.natAbs=g at *
  rw [ha,hb];simp only [qbe,qav]
 have e:=rat_mk (z:=z) (N:=if d<0 then -n else n) (D:=d.natAbs) h0 hc (by omega) (by
  have hx':((n.natAbs / n.natAbs.gcd d.natAbs:Nat):Int)*(d.natAbs:Int)=(n.natAbs:Int)*((d.natAbs / n.natAbs.gcd d.natAbs:Nat):Int):=by exact_mod_cast hx
  generalize ((d.natAbs / n.natAbs.gcd d.natAbs:Nat):Int)=B at *
  rw [←hz]
  generalize ((n.natAbs / n.natAbs.gcd d.natAbs:Nat):Int)=A at *
  by_cases h1:n<0
  ·have e1:(n.natAbs:Int) = -n:=by omega
   rw [e1] at hx'
   by_cases h2:d<0
   ·rw [decide_eq_true h1,decide_eq_true h2,if_neg (by decide),if_pos h2];exact hx'
   ·rw [decide_eq_true h1,decide_eq_false h2,if_pos (by decide),if_neg h2,Int.neg_mul,hx',Int.neg_mul,Int.neg_neg]
  ·have e1:(n.natAbs:Int)=n:=by omega
   rw [e1] at hx'
   by_cases h2:d<0
   ·rw [decide_eq_false h1,decide_eq_true h2,if_pos (by decide),if_pos h2,Int.neg_mul,hx',Int.neg_mul]
   ·rw [decide_eq_false h1,decide_eq_false h2,if_neg (by decide),if_neg h2];exact hx') (q:=Rat.divInt n d) (by
  by_cases h2:d<0
  ·rw [if_pos h2,←Rat.divInt_ofNat,←Rat.neg_divInt_neg]
   congr 1;omega
  ·rw [if_neg h2,←Rat.divInt_ofNat]
   congr 1;omega)
 exact e
theorem qfK (n d:Int) (hd0:d≠0) (K:Nat) (hK0:0<K) (hK:K≤34359738368) (v u:Value) (w:World) (hv:IntAt w v n) (hu:IntAt w u d) (fn:Fit n.natAbs K) (fd:Fit d.natAbs K) (hT:HasT w) :
  Calls Tryz.prog 76 #[v,u] w fun e w'=>qiu w (Rat.divInt n d) e w':=by
 obtain⟨mn,rfl,hn⟩:=hv
 obtain⟨md,rfl,hd⟩:=hu
 obtain⟨hq1,hq2⟩:=qjl n d hd0
 obtain⟨q,hq⟩:∃q,Rat.divInt n d=q:=⟨_,rfl⟩
 rw [hq] at hq1 hq2 ⊢
 have hg0:0<n.natAbs.gcd d.natAbs:=Nat.gcd_pos_of_pos_right _ (by omega)
 have fg:Fit (n.natAbs.gcd d.natAbs) K:=fd.le (Nat.gcd_le_right _ (by omega))
 obtain⟨g,hg⟩:∃g,n.natAbs.gcd d.natAbs=g:=⟨_,rfl⟩
 obtain⟨x,hx⟩:∃x,n.natAbs=x:=⟨_,rfl⟩
 obtain⟨y,hy⟩:∃y,d.natAbs=y:=⟨_,rfl⟩
 rw [hg] at hq1 hq2 hg0 fg
 rw [hx] at hq1 hn fn hg
 rw [hy] at hq2 hd fd hg
 obtain⟨a,ha⟩:∃a,x / g=a:=⟨_,rfl⟩
 obtain⟨b,hb⟩:∃b,y / g=b:=⟨_,rfl⟩
 rw [ha] at hq1
 rw [hb] at hq2
 have fa:Fit a K:=ha▸fn.le (qa5 _ _)
 have fb:Fit b K:=hb▸fd.le (qa5 _ _)
 have hqa:q.num.natAbs=a:=by rw [hq1];split <;> omega
 have hSh:Short q↔(num a).size≤600∧(num b).size≤600:=by unfold Short;rw [hqa,hq2]
 have HQ:=qH (qA hq1 (qA hq2 hSh))
 generalize decide (n<0)=b0 at *
 generalize decide (d<0)=b1 at *
 have HF:=qH (qA fn (qA fd (qA fg (qA fa fb))))
 have HE:=qH (qA hg (qA ha (qA hb hg0)))
 have HK:=qH (qA hK0 hK)
 have HX:=qH (qA hn hd)
 have HT:=qH hT
 obtain⟨a0,_,_,c0,n0,_,rfl,_,_⟩:=hn
 obtain⟨a1,_,_,c1,n1,_,rfl,_,_⟩:=hd
 obtain⟨W1,hW1⟩:∃W1,W1=((w.alloc (.cells #[.slice a0 n0 c0,.bool b0] 105)).alloc (.cells #[.slice a1 n1 c1,.bool b1] 105)).alloc (.cells #[.string ⟨#[]⟩,.string ⟨#[]⟩] 46):=⟨_,rfl⟩
 have hb1:Below w.heap.size w W1:=hW1▸qbp (qbp (qbp qB qN) qN) qN
 have hr0:W1.heap[w.heap.size]? = some (.cells #[.slice a0 n0 c0,.bool b0] 105 (0,0)):=by rw [hW1,qL _ _ _ (by simp only [qab];omega),qL _ _ _ (by simp only [qab];omega)];exact qM _ _ _ rfl
 have hr1:W1.heap[w.heap.size+1]? = some (.cells #[.slice a1 n1 c1,.bool b1] 105 (0,0)):=by rw [hW1,qL _ _ _ (by simp only [qab];omega)];exact qM _ _ _ (by simp)
 have hr2:W1.heap[w.heap.size+1+1]? = some (.cells #[.string ⟨#[]⟩,.string ⟨#[]⟩] 46 (0,0)):=by rw [hW1];exact qM _ _ _ (by simp)
 have HW1:=qH (qA hb1 (qA hr0 (qA hr1 hr2)))
 have HN:=qH hq
 clear hq hq1 hq2 hSh hqa fn fd fg fa fb hg ha hb hg0 hK0 hK hT hb1 hr0 hr1 hr2 hx hy hd0
 go_enter Tryz.func76,Tryz.ntmps76
 go_wp2_with fail
 rw [←hW1]
 clear hW1
 ·refine (least.qfb x y K (by have:=HK.out;omega) _ _ W1 (HX.out.1.below HW1.out.1) (HX.out.2.below HW1.out.1) HF.out.1 HF.out.2.1).mono ?_
  rintro e w2 ⟨vg,rfl,hb,hv⟩
  rw [HE.out.1] at hv
  have Mw2_g:=qH hv
  have Hw2:=qH (qA (HW1.out.1.trans (hb.mono HW1.out.1.size)) (qA ((hb.block _ (qG HW1.out.2.1).1).trans HW1.out.2.1) (qA ((hb.block _ (qG HW1.out.2.2.1).1).trans HW1.out.2.2.1) ((hb.block _ (qG HW1.out.2.2.2).1).trans HW1.out.2.2.2))))
  have k00:=cell_of_row w2 _ 0 _ _ _ Hw2.out.2.1
  obtain⟨sg,_,_,ug,tg,_,rfl,_,_⟩:=hv
  clear hb
  go_wp2_with fail
  refine (least.qbT x g K (by have:=HK.out;omega) _ _ w2 (HX.out.1.below Hw2.out.1) Mw2_g.out HF.out.1 HF.out.2.2.1 HE.out.2.2.2).mono ?_
  rintro e w3 ⟨va,_,rfl,hb,hv,_⟩
  rw [HE.out.2.1] at hv
  have Mw3_a:=qH hv
  have Hw3:=qH (qA (Hw2.out.1.trans (hb.mono Hw2.out.1.size)) (qA ((hb.block _ (qG Hw2.out.2.1).1).trans Hw2.out.2.1) (qA ((hb.block _ (qG Hw2.out.2.2.1).1).trans Hw2.out.2.2.1) ((hb.block _ (qG Hw2.out.2.2.2).1).trans Hw2.out.2.2.2))))
  have Mw3_g:=qH (Mw2_g.out.below hb)
  have k10:=cell_of_row w3 _ 0 _ _ _ Hw3.out.2.2.1
  obtain⟨sa,_,_,ua,ta,_,rfl,_,_⟩:=hv
  clear hb k00
  go_wp2_with fail
  refine (least.qbT y g K (by have:=HK.out;omega) _ _ w3 (HX.out.2.below Hw3.out.1) Mw3_g.out HF.out.2.1 HF.out.2.2.1 HE.out.2.2.2).mono ?_
  rintro e w4 ⟨vb,_,rfl,hb,hv,_⟩
  rw [HE.out.2.2.1] at hv
  have Mw4_b:=qH hv
  have Hw4:=qH (qA (Hw3.out.1.trans (hb.mono Hw3.out.1.size)) (qA ((hb.block _ (qG Hw3.out.2.1).1).trans Hw3.out.2.1) (qA ((hb.block _ (qG Hw3.out.2.2.1).1).trans Hw3.out.2.2.1) ((hb.block _ (qG Hw3.out.2.2.2).1).trans Hw3.out.2.2.2))))
  have Mw4_a:=qH (Mw3_a.out.below hb)
  obtain⟨sb,_,_,ub,tb,_,rfl,_,_⟩:=hv
  clear hb k10
  obtain⟨L1,hL1⟩:∃L,(num a).size=L:=⟨_,rfl⟩
  obtain⟨L2,hL2⟩:∃L,(num b).size=L:=⟨_,rfl⟩
  have HL:=qH (show Short q↔L1≤600∧L2≤600 by rw [←hL1,←hL2];exact HQ.out.2.2)
  have l1:=least.qfJ a K (by have:=HK.out;omega) _ w4 Mw4_a.out HF.out.2.2.2.1 (HT.out.below Hw4.out.1)
  rw [hL1] at l1
  have HL1:=qH l1
  have hl2:=qH hL2
  clear l1 hL1 hL2
  go_wp2_with fail
  refine HL1.out.mono ?_
  rintro e w5 ⟨rfl,hb⟩
  have Hw5:=qH (qA (Hw4.out.1.trans (hb.mono Hw4.out.1.size)) (qA ((hb.block _ (qG Hw4.out.2.1).1).trans Hw4.out.2.1) (qA ((hb.block _ (qG Hw4.out.2.2.1).1).trans Hw4.out.2.2.1) ((hb.block _ (qG Hw4.out.2.2.2).1).trans Hw4.out.2.2.2))))
  have Mw5_a:=qH (Mw4_a.out.below hb)
  have Mw5_b:=qH (Mw4_b.out.below hb)
  clear hb
  by_cases h1:(600:Int)<L1
  ·have HNo:Hid (¬Short q):=qH (fun h=>by have:=HL.out.1 h;omega)
   go_wp2_with ((with_reducible refine wpList_store_row rfl 46 _ _ rfl (w.heap.size+1+1) #[.string ⟨#[]⟩,.string ⟨#[]⟩] ?_ ?_ 46 _ Hw5.out.2.2.2 2 ?_ ?_ ?_ ?_ ?_);(next=>rfl);(next=>rfl);(next=>kernel_rfl);(next=>rfl);(next=>rfl);(next=>rfl))
   exact bodyPost_ret (v:=.tuple #[.agg #[.string ⟨#[]⟩,.string ⟨#[]⟩],.int .i64 6]) (qbA rfl _ _ (w.heap.size+1+1) 46 _ _ rfl (setRow_heap _ _ _ _ _ _ Hw5.out.2.2.2) Tryz.underlying46 rfl 2 (by kernel_rfl) rfl _ rfl) rfl ⟨qaA ⟨HNo.out,rfl⟩,below_setRow Hw5.out.1 (by omega) _⟩
  ·have l2:=least.qfJ b K (by have:=HK.out;omega) _ w5 Mw5_b.out HF.out.2.2.2.2 (HT.out.below Hw5.out.1)
   rw [hl2.out] at l2
   have HL2:=qH l2
   clear l2
   go_wp2_with fail
   refine HL2.out.mono ?_
   rintro e w6 ⟨rfl,hb⟩
   have Hw6:=qH (qA (Hw5.out.1.trans (hb.mono Hw5.out.1.size)) (qA ((hb.block _ (qG Hw5.out.2.1).1).trans Hw5.out.2.1) (qA ((hb.block _ (qG Hw5.out.2.2.1).1).trans Hw5.out.2.2.1) ((hb.block _ (qG Hw5.out.2.2.2).1).trans Hw5.out.2.2.2))))
   have Mw6_a:=qH (Mw5_a.out.below hb)
   have Mw6_b:=qH (Mw5_b.out.below hb)
   clear hb
   by_cases h2:(600:Int)<L2
   ·have HNo:Hid (¬Short q):=qH (fun h=>by have:=HL.out.1 h;omega)
    go_wp2_with ((with_reducible refine wpList_store_row rfl 46 _ _ rfl (w.heap.size+1+1) #[.string ⟨#[]⟩,.string ⟨#[]⟩] ?_ ?_ 46 _ Hw6.out.2.2.2 2 ?_ ?_ ?_ ?_ ?_);(next=>rfl);(next=>rfl);(next=>kernel_rfl);(next=>rfl);(next=>rfl);(next=>rfl))
    exact bodyPost_ret (v:=.tuple #[.agg #[.string ⟨#[]⟩,.string ⟨#[]⟩],.int .i64 6]) (qbA rfl _ _ (w.heap.size+1+1) 46 _ _ rfl (setRow_heap _ _ _ _ _ _ Hw6.out.2.2.2) Tryz.underlying46 rfl 2 (by kernel_rfl) rfl _ rfl) rfl ⟨qaA ⟨HNo.out,rfl⟩,below_setRow Hw6.out.1 (by omega) _⟩
   ·have HY:Hid (Short q):=qH (HL.out.2 (by omega))
    have k01:=cell_of_row w6 _ 1 _ _ _ Hw6.out.2.1
    have k11:=cell_of_row w6 _ 1 _ _ _ Hw6.out.2.2.1
    go_wp2_with fail
    refine (least.qcf a (b0 != b1) _ w6 Mw6_a.out).mono ?_
    rintro e w7 ⟨v7,rfl,hb,hv⟩
    rw [←HQ.out.1] at hv
    have I7:=qH hv
    have Hw7:=qH (qA (Hw6.out.1.trans (hb.mono Hw6.out.1.size)) (qA ((hb.block _ (qG Hw6.out.2.1).1).trans Hw6.out.2.1) (qA ((hb.block _ (qG Hw6.out.2.2.1).1).trans Hw6.out.2.2.1) ((hb.block _ (qG Hw6.out.2.2.2).1).trans Hw6.out.2.2.2))))
    have Mw7_b:=qH (Mw6_b.out.below hb)
    obtain⟨a9,n9,c9,b9,rfl⟩:=least.qbt hv
    have fq:Fit q.num.natAbs K:=by
     have h:=HQ.out.1
     rw [h];split <;> (first | (rw [Int.natAbs_neg,qax];exact HF.out.2.2.2.1) | (rw [qax];exact HF.out.2.2.2.1))
    have t7:=least.text_any q.num K HK.out.1 (by have:=HK.out;omega) _ w7 I7.out fq (HT.out.below Hw7.out.1)
    obtain⟨T1,hT1⟩:∃T,least.wtxt q.num=T:=⟨_,rfl⟩
    rw [hT1] at t7
    have HT7:=qH t7
    have HTT1:=qH hT1
    clear hb k01 k11 hv t7 hT1 fq
    go_wp2_with fail
    refine HT7.out.mono ?_
    rintro e w8 ⟨rfl,hb⟩
    have Hw8:=qH (qA (Hw7.out.1.trans (hb.mono Hw7.out.1.size)) (qA ((hb.block _ (qG Hw7.out.2.1).1).trans Hw7.out.2.1) (qA ((hb.block _ (qG Hw7.out.2.2.1).1).trans Hw7.out.2.2.1) ((hb.block _ (qG Hw7.out.2.2.2).1).trans Hw7.out.2.2.2))))
    have Mw8_b:=qH (Mw7_b.out.below hb)
    have t8:=least.qfE b K (by have:=HK.out;omega) _ w8 Mw8_b.out HF.out.2.2.2.2 (HT.out.below Hw8.out.1)
    obtain⟨T2,hT2⟩:∃T,num b=T:=⟨_,rfl⟩
    rw [hT2] at t8
    have HT8:=qH t8
    have HTT2:=qH hT2
    clear hb t8 hT2
    go_wp2_with fail
    refine HT8.out.mono ?_
    rintro e w9 ⟨rfl,hb⟩
    have Hw9:=qH (qA (Hw8.out.1.trans (hb.mono Hw8.out.1.size)) (qA ((hb.block _ (qG Hw8.out.2.1).1).trans Hw8.out.2.1) (qA ((hb.block _ (qG Hw8.out.2.2.1).1).trans Hw8.out.2.2.1) ((hb.block _ (qG Hw8.out.2.2.2).1).trans Hw8.out.2.2.2))))
    clear hb
    go_wp2_with ((with_reducible refine wpList_store_row rfl 46 _ _ rfl (w.heap.size+1+1) #[.string T1,.string T2] ?_ ?_ 46 _ Hw9.out.2.2.2 2 ?_ ?_ ?_ ?_ ?_);(next=>rfl);(next=>rfl);(next=>kernel_rfl);(next=>rfl);(next=>rfl);(next=>rfl))
    refine bodyPost_ret (v:=.tuple #[.agg #[.string T1,.string T2],.int .i64 0]) (qbA rfl _ _ (w.heap.size+1+1) 46 _ _ rfl (setRow_heap _ _ _ _ _ _ Hw9.out.2.2.2) Tryz.underlying46 rfl 2 (by kernel_rfl) rfl _ rfl) rfl ⟨qaJ ⟨HY.out,?_⟩,below_setRow Hw9.out.1 (by omega) _⟩
    unfold fstr
    rw [show frac.wtxt q.num=T1 from HTT1.out,HQ.out.2.1,HTT2.out]
structure VCells (W:World) (ao:Option Addr) (b off:Nat) (vs:List Value):Prop where
 addr:0<vs.length→ao=some ⟨b,off,none⟩
 cell:∀k,k<vs.length→W.cell? ⟨b,off+k,none⟩=some (vs.getD k undef)
theorem VCells.below {W W':World} {ao:Option Addr} {b off:Nat} {vs:List Value} (h:VCells W ao b off vs) (hb:Below W.heap.size W W'):VCells W' ao b off vs :=
 ⟨h.addr,fun k hk=>(hb.cell (qad W _ (h.cell k hk))).trans (h.cell k hk)⟩
def qcL (W:World) (vs:List Value) (xs:List Nat):Prop:=vs.length=xs.length∧∀k,k<xs.length→MagAt W (vs.getD k undef) (xs.getD k 0)
theorem qcL.below {W W':World} {vs:List Value} {xs:List Nat} (h:qcL W vs xs) (hb:Below W.heap.size W W'):qcL W' vs xs:=⟨h.1,fun k hk=>(h.2 k hk).below hb⟩
def lcms (xs:List Nat):Nat:=xs.foldl Nat.lcm 1
theorem qed (xs:List Nat) (k:Nat) (h:k<xs.length):lcms (xs.take (k+1))=(lcms (xs.take k)).lcm (xs.getD k 0):=by
 unfold lcms
 rw [List.take_add_one,qai h,List.foldl_append,qaa,qai h];rfl
theorem qec (xs:List Nat) (h:∀k,k<xs.length→0<xs.getD k 0):∀k,k≤xs.length→0<lcms (xs.take k)
 | 0,_=>by simp [lcms]
 | k+1,hk=>by rw [qed xs k (by omega)];exact Nat.lcm_pos (qec xs h k (by omega)) (h k (by omega))
theorem qeb (xs:List Nat) (J:Nat) (h:∀k,k<xs.length→0<xs.getD k 0∧Fit (xs.getD k 0) J):∀k,k≤xs.length→Fit (lcms (xs.take k)) (k*J+1)
 | 0,_=>by show 1<1000000000 ^ (0*J+1);rw [Nat.zero_mul];decide
 | k+1,hk=>by
  rw [qed xs k (by omega)]
  have h1:=(qeb xs J h k (by omega)).mul (h k (by omega)).2
  have h2:=qec xs (fun k hk=>(h k hk).1) k (by omega)
  have h3:=(h k (by omega)).1
  refine (h1.le (Nat.le_of_dvd (Nat.mul_pos h2 h3) (Nat.lcm_dvd_mul _ _))).mono ?_
  rw [qaE];omega
theorem qf9 (xs:List Nat):∀m k,k<m→m≤xs.length→xs.getD k 0∣lcms (xs.take m)
 | 0,_,h,_=>absurd h (by omega)
 | m+1,k,hk,hm=>by
  rw [qed xs m (by omega)]
  by_cases e:k=m
  ·subst e;exact Nat.dvd_lcm_right _ _
  ·exact Nat.dvd_trans (qf9 xs m k (by omega) (by omega)) (Nat.dvd_lcm_left _ _)
theorem qfD (ao:Option Addr) (b off n c:Nat) (vs:List Value) (xs:List Nat) (J:Nat) (w:World) (hn:xs.length=n) (hcells:VCells w ao b off vs) (hm:qcL w vs xs) (hx:∀k,k<n→0<xs.getD k 0∧Fit (xs.getD k 0) J) (hb:n*J+1≤137438953472) (hJ:J≤137438953472) (hnb:n≤1048576) :
  Calls Tryz.prog 106 #[.slice ao n c] w fun e w'=>∃v,e=.returned v∧Below w.heap.size w w'∧MagAt w' v (lcms xs):=by
 have hvl:vs.length=n:=hm.1.trans hn
 have H:=qH (qA hcells (qA hm (qA hn hvl)))
 have HX:=qH (qA hx (qA hb hJ))
 clear hcells hm hn hvl hx hb hJ
 go_enter Tryz.func106,Tryz.ntmps106
 go_wp2
 go_loopw [3,9] (fun x3 x9 W=>∃k:Nat,k≤n∧x9=.int .i64 k∧Hid (MagAt W x3 (lcms (xs.take k)))∧Hid (Below w.heap.size w W)) (fun _ x9 _=>n-(intOf x9).toNat)
 case atStart=>exact⟨0,qat _,rfl,qH (qdq w _ (by decide) (by decide)),qH (qbp qB qN)⟩
 case round =>
  obtain⟨k,hk,rfl,hM,hB⟩:=hrel
  by_cases hkn:k<n
  ·have hki:(k:Int)<n:=by omega
   have haw:=H.out.1.addr (by have:=H.out.2.2.2;omega)
   subst haw
   have hc:=(H.out.1.below hB.out).cell k (by have:=H.out.2.2.2;omega)
   have hmk:=((H.out.2.1.below hB.out).2 k (by have:=H.out.2.2.1;omega))
   obtain⟨vk,hvk⟩:∃vk,vs.getD k undef=vk:=⟨_,rfl⟩
   rw [hvk] at hc hmk
   have hxs:∀j,j<xs.length→0<xs.getD j 0∧Fit (xs.getD j 0) J:=fun j hj=>HX.out.1 j (by have:=H.out.2.2.1;omega)
   have hkl:k*J≤n*J:=qaS _ hk
   have hmul:=least.qeH (lcms (xs.take k)) (xs.getD k 0) (k*J+1) J (by have:=HX.out.2.1;omega) HX.out.2.2 (qec xs (fun j hj=>(hxs j hj).1) k (by have:=H.out.2.2.1;omega)) (hxs k (by have:=H.out.2.2.1;omega)).1 _ vk wr hM.out hmk (qeb xs J hxs k (by have:=H.out.2.2.1;omega)) (hxs k (by have:=H.out.2.2.1;omega)).2
   rw [←qed xs k (by have:=H.out.2.2.1;omega)] at hmul
   have HM:=qH hmul
   have HV:=qH hmk
   obtain⟨sa,_,_,sc,sn,_,rfl,_,_⟩:=hmk
   obtain⟨ua,_,_,uc,un,_,rfl,_,_⟩:=hM.out
   clear hmul hkl hvk
   go_wp2_with fail
   refine HM.out.mono ?_
   rintro e w2 ⟨v2,rfl,hb2,hv2⟩
   have H2:=qH (qA (hB.out.trans (hb2.mono hB.out.size)) hv2)
   clear hb2 hv2
   go_wp2_with fail
   go_roundw
   case rel=>exact⟨k+1,hkn,by go_num,qH H2.out.2,qH H2.out.1⟩
   case measure=>simp [intOf];omega
  ·obtain rfl:k=n:=by omega
   have hfin:=hM.out
   rw [qaj (by have:=H.out.2.2.1;omega)] at hfin
   have HFin:=qH hfin
   clear hfin
   go_wp2_with fail
   go_ret
   exact⟨_,rfl,hB.out,HFin.out⟩
theorem FOk.dpos {n d:List UInt8} (h:FOk n d):0<(ival d).natAbs:=by have:=h.pos;omega
theorem qd5 (a:Option Addr) (n c:Nat) (b:Bool) (w:World):(Instr.field 105 (.agg #[.slice a n c,.bool b]) 0).run Tryz.prog w=.ok (.slice a n c) w:=by kernel_rfl
theorem qjB (n d:ByteArray) (hf:FOk n.data.toList d.data.toList) (pb:Nat) (a2:Option Addr) (n2 c2:Nat) (Bv K:Nat) (hK:K≤68719476736) (hK67:67≤K) (w:World) (hrow:w.heap[pb]? = some (.cells #[.slice a2 n2 c2] 81 (0,0))) (hm:MagAt w (.slice a2 n2 c2) Bv) (hB:Fit Bv K) :
  Calls Tryz.prog 107 #[.agg #[.string n,.string d],.pointer (some ⟨pb,0,none⟩)] w fun e w'=>∃v,e=.returned v∧Below w.heap.size w w'∧IntAt w' v (ival n.data.toList*((Bv / (ival d.data.toList).natAbs:Nat):Int)):=by
 obtain⟨W1,hW1⟩:∃W1,W1=(w.alloc (.cells #[.string n,.string d] 46)).alloc (.cells #[.slice none 0 0,.bool false] 105):=⟨_,rfl⟩
 have hb1:Below w.heap.size w W1:=hW1▸qbp (qbp qB qN) qN
 have hr0:W1.heap[w.heap.size]? = some (.cells #[.string n,.string d] 46 (0,0)):=by rw [hW1,qL _ _ _ (by simp only [qab];omega)];exact qM _ _ _ rfl
 have hr1:W1.heap[w.heap.size+1]? = some (.cells #[.slice none 0 0,.bool false] 105 (0,0)):=by rw [hW1];exact qM _ _ _ (by simp)
 have hrp:=(hb1.block _ (qG hrow).1).trans hrow
 have C0:∀W,Below W1.heap.size W1 W→W.cell? ⟨pb,0,none⟩=some (.slice a2 n2 c2):=fun W h=>(h.cell (p:=⟨pb,0,none⟩) (qG hrp).1).trans (cell_of_row _ _ 0 _ _ _ hrp)
 have C1:∀W,Below W1.heap.size W1 W→W.cell? ⟨w.heap.size,1,none⟩=some (.string d):=fun W h=>(h.cell (p:=⟨w.heap.size,1,none⟩) (qG hr0).1).trans (cell_of_row _ _ 1 _ _ _ hr0)
 have C2:∀W,Below W1.heap.size W1 W→W.cell? ⟨w.heap.size,0,none⟩=some (.string n):=fun W h=>(h.cell (p:=⟨w.heap.size,0,none⟩) (qG hr0).1).trans (cell_of_row _ _ 0 _ _ _ hr0)
 have HN1:=qH (fun W=>least.qb9 d hf.vd W)
 have HN2:=qH (fun W=>least.qb9 n hf.vn W)
 have HR:=qH (qA hb1 (qA hr1 (hm.below hb1)))
 have HF:=qH (qA hf (qA hB (qA hK hK67)))
 have hfi:=qd5
 have hst:Below W1.heap.size W1 W1:=Below.refl _ _
 have hstD:Below W1.heap.size W1 W1.drew:=hst.drew
 have HC:=qH (qA C2 hr0)
 clear hb1 hr0 hr1 hrp hm hf hB hrow C2
 go_enter Tryz.func107,Tryz.ntmps107
 go_wp2_with fail
 rw [←hW1]
 clear hW1
 go_cut [4] (fun x4 W=>∃(a4:Option Addr) (n4 c4:Nat),x4=.slice a4 n4 c4∧Hid (MagAt W (.slice a4 n4 c4) (Bv / (ival d.data.toList).natAbs))∧Hid (Below W1.heap.size W1 W))
 case first =>
  go_region_held3 (fun W=>Below W1.heap.size W1 W) (first | with_reducible exact hst | with_reducible exact hstD | with_reducible exact HB3 | with_reducible exact HB2) (first | (go_at_call 65;refine (HN1.out _).mono ?_;rintro e w2 ⟨p2,rfl,hb2,hp2⟩;have HB2:Below W1.heap.size W1 w2:=hstD.trans hb2;obtain⟨m2,rfl,hg2⟩:=hp2;have G2:=qH hg2;obtain⟨s2,_,_,u2,t2,_,rfl,_,_⟩:=hg2;clear hb2) | (go_at_call 75;refine (least.qbT Bv (ival d.data.toList).natAbs K (by have:=HF.out.2.2.1;omega) _ _ _ (HR.out.2.2.below HB2) G2.out HF.out.2.1 (HF.out.1.vd.fit.mono HF.out.2.2.2) HF.out.1.dpos).mono ?_;rintro e w3 ⟨q3,r3,rfl,hb3,hq3,_⟩;have HB3:Below W1.heap.size W1 w3:=bjoin HB2 hb3;have G3:=qH hq3;obtain⟨s3,_,_,u3,t3,_,rfl,_,_⟩:=hq3;clear hb3))
  all_goals go_wp2_with fail
  all_goals go_meet
  all_goals exact⟨_,_,_,rfl,G3,qH HB3⟩
 case rest =>
  obtain⟨a4,n4,c4,rfl,hG4,hB4⟩:=hcut
  have k0:=HC.out.1 wc hB4.out
  clear C0 C1
  go_wp2_with fail
  refine (HN2.out _).mono ?_
  rintro e w5 ⟨p5,rfl,hb5,hp5⟩
  have I5:=qH hp5
  have G5:=qH (hG4.out.below hb5)
  have H5:=qH (hB4.out.trans (hb5.mono hB4.out.size))
  obtain⟨a6,n6,c6,b6,rfl⟩:=least.qbt hp5
  clear hb5 hp5 k0
  go_wp2_with fail
  refine (least.qdf (ival n.data.toList) (Bv / (ival d.data.toList).natAbs) 67 K (by have:=HF.out.2.2.1;omega) _ _ w5 I5.out G5.out HF.out.1.vn.fit (HF.out.2.1.le (qa5 _ _))).mono ?_
  rintro e w6 ⟨p6,rfl,hb6,hp6⟩
  obtain⟨a9,n9,c9,b9,rfl⟩:=least.qbt hp6
  have h6:=H5.out.trans (hb6.mono H5.out.size)
  have hr6:=(h6.block _ (qG HR.out.2.1).1).trans HR.out.2.1
  have H6:=qH (qA hr6 (qA (HR.out.1.trans (h6.mono HR.out.1.size)) (least.qc9 (cs':=#[.slice a9 n9 c9,.bool b9]) hp6 hr6 qdv)))
  clear hb6 hp6 h6 hr6
  go_wp2_with ((with_reducible refine wpList_store_row rfl 105 _ _ rfl (w.heap.size+1) #[.slice a9 n9 c9,.bool b9] ?_ ?_ 105 _ H6.out.1 2 ?_ ?_ ?_ ?_ ?_);(next=>rfl);(next=>rfl);(next=>kernel_rfl);(next=>rfl);(next=>rfl);(next=>rfl))
  exact bodyPost_ret (v:=.agg #[.slice a9 n9 c9,.bool b9]) (qbE rfl _ _ (w.heap.size+1) 105 _ _ rfl (setRow_heap _ _ _ _ _ _ H6.out.1) Tryz.underlying105 rfl 2 (by kernel_rfl) rfl) rfl ⟨_,rfl,below_setRow H6.out.2.1 (by omega) _,H6.out.2.2⟩
end Go.Proofs.YtfminfgabiipjaaGreatDoor
