import Derived.Deep.RegionHeld3
import Derived.Test.YtplkdeknjghobaaGreatDoorBa11
import Derived.Test.YtplkdeknjghobaaGreatDoorBa7
set_option maxRecDepth 100000
set_option maxHeartbeats 0
namespace Go.Proofs.YtplkdeknjghobaaGreatDoor.frac
open Go.RowKit
theorem qct {W:World} {m:Value} {b:Bool} {z:Int} {g:Nat} {cs cs':Array Value} {t:TypeId} {fz:Nat×Nat} (h:IntAt W (.agg #[m,.bool b]) z) (hg:W.heap[g]? = some (.cells cs t fz)) (hne:∀x∈cs.toList,∀d,x≠.int .u32 d):IntAt (W.setRow g cs') (.agg #[m,.bool b]) z:=by
 obtain⟨m',h1,h2⟩:=h
 exact⟨m',h1,qcK h2 hg hne⟩
theorem qbL {W:World} {v:Value} {z:Int} (h:IntAt W v z):∃(a:Option Addr) (n c:Nat) (b:Bool),v=.agg #[.slice a n c,.bool b]:=by
 obtain⟨m,rfl,am,bm,om,cm,n,M,rfl,Im,hMx⟩:=h
 exact⟨am,n,cm,_,rfl⟩
theorem qbT (W:World) (g k:Nat) (v:Value):W.grownBy (W.setCell ⟨g,k,none⟩ v) (some g) :=
 ⟨rfl,rfl,rfl,by simp [World.setCell],fun i _ hr=>Below.heap_setCell _ _ _ _ (fun e=>hr (by rw [e]))⟩
theorem qcZ {W:World} {g:Nat} {t:TypeId} (h:W.heap[g]? = some (.cells #[.slice none 0 0,.bool false] t (0,0))) (a:Option Addr) (n c:Nat) (b:Bool) :
  ((W.setCell ⟨g,0,none⟩ (.slice a n c)).setCell ⟨g,1,none⟩ (.bool b)).heap[g]? = some (.cells #[.slice a n c,.bool b] t (0,0)) :=
 heap_setCell_same _ g 1 _ t _ (heap_setCell_same _ g 0 _ t _ h)
theorem qcY {W:World} {m:Value} {b0:Bool} {z:Int} {g:Nat} {t:TypeId} (hi:IntAt W (.agg #[m,.bool b0]) z) (h:W.heap[g]? = some (.cells #[.slice none 0 0,.bool false] t (0,0))) (a:Option Addr) (n c:Nat) (b:Bool) :
  IntAt ((W.setCell ⟨g,0,none⟩ (.slice a n c)).setCell ⟨g,1,none⟩ (.bool b)) (.agg #[m,.bool b0]) z:=by
 obtain⟨m',h1,h2⟩:=hi
 refine⟨m',h1,?_⟩
 refine qcf (qcf h2 (qbT W g 0 _) h qcQ) (qbT _ g 1 _) (heap_setCell_same W g 0 _ t _ h) ?_
 intro x hx d
 rcases qaL.1 (show x∈[Value.slice a n c,Value.bool false] from hx) with rfl | hx
 ·intro h;cases h
 ·rw [qaq.1 hx];intro h;cases h
theorem qmD (x y:Int):(if (decide (x<0) != decide (y<0))=true then -((x.natAbs*y.natAbs:Nat):Int) else ((x.natAbs*y.natAbs:Nat):Int))=x*y:=by
 rw [←qaz]
 by_cases hx:x<0
 ·by_cases hy:y<0
  ·rw [qV hx,qV hy,if_neg (by decide)]
   have:=Int.mul_pos_of_neg_of_neg hx hy;omega
  ·rw [qV hx,qU hy,if_pos (by decide)]
   have:=Int.mul_nonpos_of_nonpos_of_nonneg (Int.le_of_lt hx) (Int.not_lt.1 hy);omega
 ·by_cases hy:y<0
  ·rw [qU hx,qV hy,if_pos (by decide)]
   have:=Int.mul_nonpos_of_nonneg_of_nonpos (Int.not_lt.1 hx) (Int.le_of_lt hy);omega
  ·rw [qU hx,qU hy,if_neg (by decide)]
   have:=Int.mul_nonneg (Int.not_lt.1 hx) (Int.not_lt.1 hy);omega
theorem qh8 (x:Int) (y:Nat):(if decide (x<0)=true then -((x.natAbs*y:Nat):Int) else ((x.natAbs*y:Nat):Int))=x*(y:Int):=by
 by_cases hx:x<0
 ·rw [qV hx,if_pos rfl,qbz,←qbs];congr 1;omega
 ·rw [qU hx,if_neg (by decide),qbz];congr 1;omega
theorem qdH (z:Int) (v:Value) (w:World) (hv:IntAt w v z) :
  Calls Tryz.prog 135 #[v] w fun e w'=>∃u,e=.returned u∧Below w.heap.size w w'∧IntAt w' u (-z):=by
 obtain⟨m,rfl,hm⟩:=hv
 have hs:=fun (W:World) (h:Below w.heap.size w W)=>qbY z.natAbs (!decide (z<0)) m W (hm.below h)
 have hz:(if (!decide (z<0))=true then -(z.natAbs:Int) else (z.natAbs:Int)) = -z:=by
  by_cases h:z<0
  ·rw [qV h,if_neg (by decide)];omega
  ·rw [qU h,if_pos (by decide)];omega
 rw [hz] at hs
 have HS:=qH hs
 generalize decide (z<0)=b at *
 obtain⟨am,bm,om,cm,n,M,rfl,Im,hMx⟩:=hm
 clear hs hz Im hMx
 obtain⟨W1,hW1⟩:∃W1,W1=(w.alloc (.cells #[.slice am n cm,.bool b] 136)).alloc (.cells #[.slice none 0 0,.bool false] 136):=⟨_,rfl⟩
 have hb1:Below w.heap.size w W1:=hW1▸(qB.alloc qN _).alloc (by simp) _
 have hr1:W1.heap[w.heap.size+1]? = some (.cells #[.slice none 0 0,.bool false] 136 (0,0)):=by rw [hW1];exact qM _ _ _ (by simp)
 go_enter Tryz.func135,Tryz.ntmps135
 go_wp2_with fail
 rw [←hW1]
 refine (HS.out _ hb1).mono ?_
 rintro e w2 ⟨u,rfl,hb9,hu9⟩
 have hrow9:=(hb9.block (w.heap.size+1) (qG hr1).1).trans hr1
 have hbw9:Below w.heap.size w w2:=hb1.trans (hb9.mono hb1.size)
 clear hW1 hb1 hr1
 obtain⟨a9,n9,c9,b9,rfl⟩:=qbL hu9
 have hvs:=qct (cs':=#[.slice a9 n9 c9,.bool b9]) hu9 hrow9 qcQ
 have HR:=qH (qA hrow9 (qA hbw9 (below_setRow hbw9 (show w.heap.size≤w.heap.size+1 by omega) #[.slice a9 n9 c9,.bool b9])))
 have HV:=qH hvs
 clear hrow9 hbw9 hvs hb9 hu9
 go_wp2_with ((with_reducible refine wpList_store_row rfl 136 _ _ rfl (w.heap.size+1) #[.slice a9 n9 c9,.bool b9] ?_ ?_ 136 _ HR.out.1 2 ?_ ?_ ?_ ?_ ?_);(next=>rfl);(next=>rfl);(next=>kernel_rfl);(next=>rfl);(next=>rfl);(next=>rfl))
 exact qR (v:=.agg #[.slice a9 n9 c9,.bool b9]) (qbP rfl _ _ (w.heap.size+1) 136 _ _ rfl (setRow_heap _ _ _ _ _ _ HR.out.1) Tryz.underlying136 rfl 2 (by kernel_rfl) rfl) rfl ⟨_,rfl,HR.out.2.2,HV.out⟩
theorem qmC (x y:Int):(if (decide (x<0) != decide (y<0))=true then -((x.natAbs / y.natAbs:Nat):Int) else ((x.natAbs / y.natAbs:Nat):Int))=x.tdiv y:=by
 obtain⟨a,rfl | rfl⟩:=Int.eq_nat_or_neg x
 ·obtain⟨b,rfl | rfl⟩:=Int.eq_nat_or_neg y
  ·rw [qU (by omega),qU (by omega),if_neg (by decide)];rfl
  ·rw [qU (by omega:¬(a:Int)<0),qbl,Int.tdiv_neg]
   by_cases hb:b=0
   ·subst hb;simp
   ·rw [qV (by omega),if_pos (by decide)];rfl
 ·obtain⟨b,rfl | rfl⟩:=Int.eq_nat_or_neg y
  ·rw [qU (by omega:¬(b:Int)<0),qbl,Int.neg_tdiv]
   by_cases ha:a=0
   ·subst ha;simp
   ·rw [qV (by omega),if_pos (by decide)];rfl
  ·rw [qbl,qbl,Int.tdiv_neg,Int.neg_tdiv,Int.neg_neg]
   by_cases ha:a=0
   ·subst ha
    by_cases hb:b=0
    ·subst hb;simp
    ·simp
   ·by_cases hb:b=0
    ·subst hb;simp
    ·rw [qV (by omega),qV (by omega),if_neg (by decide)];rfl
theorem qjI {x y:Int} (h:decide (x<0)=decide (y<0)):(if decide (x<0)=true then -((x.natAbs+y.natAbs:Nat):Int) else ((x.natAbs+y.natAbs:Nat):Int))=x+y:=by
 by_cases hx:x<0
 ·rw [qV hx] at h ⊢
  have hy:=of_decide_eq_true h.symm
  rw [if_pos rfl];omega
 ·rw [qU hx] at h ⊢
  have hy:=of_decide_eq_false h.symm
  rw [if_neg (by decide)];omega
theorem qfB {x y:Int} (h:¬decide (x<0)=decide (y<0)) (hle:y.natAbs≤x.natAbs):(if decide (x<0)=true then -((x.natAbs-y.natAbs:Nat):Int) else ((x.natAbs-y.natAbs:Nat):Int))=x+y:=by
 by_cases hx:x<0
 ·have hy:¬y<0:=fun hy=>h (by rw [qV hx,qV hy])
  rw [qV hx,if_pos rfl];omega
 ·have hy:y<0:=by
   by_cases hy:y<0
   ·exact hy
   ·exact absurd (by rw [qU hx,qU hy]) h
  rw [qU hx,if_neg (by decide)];omega
theorem qcB (x:Int) (y K J:Nat) (hK:K+J≤274877906944) (v o:Value) (w:World) (hv:IntAt w v x) (ho:MagAt w o y) (hx:Fit x.natAbs K) (hy:Fit y J) :
  Calls Tryz.prog 133 #[v,o] w fun e w'=>∃u,e=.returned u∧Below w.heap.size w w'∧IntAt w' u (x*(y:Int)):=by
 obtain⟨m,rfl,hm⟩:=hv
 have ht:=fun (W:World) (h:Below w.heap.size w W)=>qce x.natAbs y K J hK m o W (hm.below h) (ho.below h) hx hy
 have hs:=fun (W:World) (p:Value) (h:MagAt W p (x.natAbs*y))=>qbY (x.natAbs*y) (decide (x<0)) p W h
 rw [qh8] at hs
 generalize decide (x<0)=b0 at *
 obtain⟨a0,bm,om,c0,n0,M,rfl,Im,hMx⟩:=hm
 obtain⟨a1,bo,oo,c1,n1,O,rfl,Io,hOx⟩:=ho
 have HT:=qH ht
 have HS:=qH hs
 clear ht hs Im hMx Io hOx hx hy hK
 obtain⟨W1,hW1⟩:∃W1,W1=(w.alloc (.cells #[.slice a0 n0 c0,.bool b0] 136)).alloc (.cells #[.slice none 0 0,.bool false] 136):=⟨_,rfl⟩
 have hb1:Below w.heap.size w W1:=hW1▸(qB.alloc qN _).alloc (by simp only [qab];omega) _
 have hr0:W1.heap[w.heap.size]? = some (.cells #[.slice a0 n0 c0,.bool b0] 136 (0,0)):=by rw [hW1,qL _ _ _ (by simp only [qab];omega)];exact qM _ _ _ (by simp)
 have hr:W1.heap[w.heap.size+1]? = some (.cells #[.slice none 0 0,.bool false] 136 (0,0)):=by rw [hW1];exact qM _ _ _ (by simp)
 have l2:w.heap.size+1<W1.heap.size:=(qG hr).1
 have C00:∀W,Below (w.heap.size+1) W1 W→W.cell? ⟨w.heap.size,0,none⟩=some (.slice a0 n0 c0):=fun W h=>(h.cell (p:=⟨w.heap.size,0,none⟩) (by show w.heap.size<_;omega)).trans (qC _ _ 0 _ _ _ hr0)
 have C01:∀W,Below (w.heap.size+1) W1 W→W.cell? ⟨w.heap.size,1,none⟩=some (.bool b0):=fun W h=>(h.cell (p:=⟨w.heap.size,1,none⟩) (by show w.heap.size<_;omega)).trans (qC _ _ 1 _ _ _ hr0)
 have hrefl:Below (w.heap.size+1) W1 W1:=Below.refl _ _
 have HR:=qH (qA hb1 hr)
 have Hl2:=qH l2
 clear hr0 hr hb1
 go_enter Tryz.func133,Tryz.ntmps133
 go_wp2_with fail
 rw [←hW1]
 clear hW1
 have hstD:Below (w.heap.size+1) W1 W1.drew:=hrefl.drew
 go_region_held3 (fun W=>Below (w.heap.size+1) W1 W) (first | with_reducible exact hrefl | with_reducible exact hstD | with_reducible exact HB3 | with_reducible exact HB2 | ((iterate 2 refine Below.setCell ?_ (by exact qad _) _);exact HB3)) (first | (go_at_call 155;refine (HT.out _ (HR.out.1.trans (hstD.mono (by omega)))).mono ?_;rintro e w2 ⟨p2,rfl,hb2,hp2⟩;have HB2:Below (w.heap.size+1) W1 w2:=hstD.trans (hb2.mono (qak (qah Hl2.out hrefl.size)));have HP2:=qH (qA hp2 ((hb2.block _ (qah Hl2.out hrefl.size)).trans HR.out.2));clear hb2 hp2) | (go_at_call 95;refine (HS.out _ _ HP2.out.1).mono ?_;rintro e w3 ⟨p3,rfl,hb3,hp3⟩;have HB3:Below (w.heap.size+1) W1 w3:=HB2.trans (hb3.mono (qaj (qak Hl2.out) HB2.size));obtain⟨a9,n9,c9,b9,rfl⟩:=qbL hp3;have hz3:=(hb3.block _ (qah Hl2.out HB2.size)).trans HP2.out.2;have e0:=qC w3 _ 0 _ _ _ hz3;have e1:=qC w3 _ 1 _ _ _ hz3;have f0:=qF w3 _ 0 _ _ hz3;have f1:=qF w3 _ 1 _ _ hz3;have HP3:=qH (qA hp3 hz3);clear hb3 hp3 hz3))
 go_wp2_with fail
 exact qR (v:=.agg #[.slice a9 n9 c9,.bool b9]) (qbP rfl _ _ (w.heap.size+1) 136 _ _ rfl (qcZ HP3.out.2 a9 n9 c9 b9) Tryz.underlying136 rfl 2 (by kernel_rfl) rfl) rfl ⟨_,rfl,HR.out.1.trans (((HB3.setCell (by exact qad _) _).setCell (by exact qad _) _).mono (by omega)),qcY HP3.out.1 HP3.out.2 a9 n9 c9 b9⟩
theorem qdE (x y:Int) (K:Nat) (hK:K≤274877906944) (v u:Value) (w:World) (hv:IntAt w v x) (hu:IntAt w u y) (hx:Fit x.natAbs K) (hy:Fit y.natAbs K) :
  Calls Tryz.prog 134 #[v,u] w fun e w'=>∃u,e=.returned u∧Below w.heap.size w w'∧IntAt w' u (x+y):=by
 obtain⟨m,rfl,hm⟩:=hv
 obtain⟨o,rfl,ho⟩:=hu
 by_cases hsg:decide (x<0)=decide (y<0)
 ·have ht:=fun (W:World) (h:Below w.heap.size w W)=>qgn x.natAbs y.natAbs K hK m o W (hm.below h) (ho.below h) hx hy
  have hs:=fun (W:World) (p:Value) (h:MagAt W p (x.natAbs+y.natAbs))=>qbY (x.natAbs+y.natAbs) (decide (x<0)) p W h
  rw [qjI hsg] at hs
  rw [←hsg]
  generalize decide (x<0)=b0 at *
  obtain⟨b1,hb1⟩:∃b1,b1=b0:=⟨_,rfl⟩
  obtain⟨a0,bm,om,c0,n0,M,rfl,Im,hMx⟩:=hm
  obtain⟨a1,bo,oo,c1,n1,O,rfl,Io,hOx⟩:=ho
  have HT:=qH ht
  have HS:=qH hs
  clear ht hs Im hMx Io hOx hx hy hK hsg
  rw [show (.agg #[.slice a1 n1 c1,.bool b0]:Value)=.agg #[.slice a1 n1 c1,.bool b1] by rw [hb1]]
  have heq:(b0 == b1)=true:=by rw [hb1];exact beq_self_eq_true b0
  clear hb1
  obtain⟨W1,hW1⟩:∃W1,W1=((w.alloc (.cells #[.slice a0 n0 c0,.bool b0] 136)).alloc (.cells #[.slice a1 n1 c1,.bool b1] 136)).alloc (.cells #[.slice none 0 0,.bool false] 136):=⟨_,rfl⟩
  have hb1:Below w.heap.size w W1:=hW1▸((qB.alloc qN _).alloc (by simp only [qab];omega) _).alloc (by simp only [qab];omega) _
  have hr0:W1.heap[w.heap.size]? = some (.cells #[.slice a0 n0 c0,.bool b0] 136 (0,0)):=by rw [hW1,qL _ _ _ (by simp only [qab];omega),qL _ _ _ (by simp only [qab];omega)];exact qM _ _ _ (by simp)
  have hr1:W1.heap[w.heap.size+1]? = some (.cells #[.slice a1 n1 c1,.bool b1] 136 (0,0)):=by rw [hW1,qL _ _ _ (by simp only [qab];omega)];exact qM _ _ _ (by simp)
  have hr:W1.heap[w.heap.size+1+1]? = some (.cells #[.slice none 0 0,.bool false] 136 (0,0)):=by rw [hW1];exact qM _ _ _ (by simp)
  have l2:w.heap.size+1+1<W1.heap.size:=(qG hr).1
  have C00:∀W,Below (w.heap.size+1+1) W1 W→W.cell? ⟨w.heap.size,0,none⟩=some (.slice a0 n0 c0):=fun W h=>(h.cell (p:=⟨w.heap.size,0,none⟩) (by show w.heap.size<_;omega)).trans (qC _ _ 0 _ _ _ hr0)
  have C01:∀W,Below (w.heap.size+1+1) W1 W→W.cell? ⟨w.heap.size,1,none⟩=some (.bool b0):=fun W h=>(h.cell (p:=⟨w.heap.size,1,none⟩) (by show w.heap.size<_;omega)).trans (qC _ _ 1 _ _ _ hr0)
  have C10:∀W,Below (w.heap.size+1+1) W1 W→W.cell? ⟨w.heap.size+1,0,none⟩=some (.slice a1 n1 c1):=fun W h=>(h.cell (p:=⟨w.heap.size+1,0,none⟩) (by show w.heap.size+1<_;omega)).trans (qC _ _ 0 _ _ _ hr1)
  have C11:∀W,Below (w.heap.size+1+1) W1 W→W.cell? ⟨w.heap.size+1,1,none⟩=some (.bool b1):=fun W h=>(h.cell (p:=⟨w.heap.size+1,1,none⟩) (by show w.heap.size+1<_;omega)).trans (qC _ _ 1 _ _ _ hr1)
  have hrefl:Below (w.heap.size+1+1) W1 W1:=Below.refl _ _
  have HR:=qH (qA hb1 hr)
  have Hl2:=qH l2
  clear hr0 hr1 hr hb1
  go_enter Tryz.func134,Tryz.ntmps134
  go_wp2_with fail
  rw [←hW1]
  clear hW1
  have hstD:Below (w.heap.size+1+1) W1 W1.drew:=hrefl.drew
  go_region_held3 (fun W=>Below (w.heap.size+1+1) W1 W) (first | with_reducible exact hrefl | with_reducible exact hstD | with_reducible exact HB3 | with_reducible exact HB2 | ((iterate 2 refine Below.setCell ?_ (by exact qad _) _);exact HB3)) (first | (go_at_call 200;refine (HT.out _ (HR.out.1.trans (hstD.mono (by omega)))).mono ?_;rintro e w2 ⟨p2,rfl,hb2,hp2⟩;have HB2:Below (w.heap.size+1+1) W1 w2:=hstD.trans (hb2.mono (qak (qah Hl2.out hrefl.size)));have HP2:=qH (qA hp2 ((hb2.block _ (qah Hl2.out hrefl.size)).trans HR.out.2));clear hb2 hp2) | (go_at_call 95;refine (HS.out _ _ HP2.out.1).mono ?_;rintro e w3 ⟨p3,rfl,hb3,hp3⟩;have HB3:Below (w.heap.size+1+1) W1 w3:=HB2.trans (hb3.mono (qaj (qak Hl2.out) HB2.size));obtain⟨a9,n9,c9,b9,rfl⟩:=qbL hp3;have hz3:=(hb3.block _ (qah Hl2.out HB2.size)).trans HP2.out.2;have e0:=qC w3 _ 0 _ _ _ hz3;have e1:=qC w3 _ 1 _ _ _ hz3;have f0:=qF w3 _ 0 _ _ hz3;have f1:=qF w3 _ 1 _ _ hz3;have HP3:=qH (qA hp3 hz3);clear hb3 hp3 hz3))
  go_wp2_with fail
  exact qR (v:=.agg #[.slice a9 n9 c9,.bool b9]) (qbP rfl _ _ (w.heap.size+1+1) 136 _ _ rfl (qcZ HP3.out.2 a9 n9 c9 b9) Tryz.underlying136 rfl 2 (by kernel_rfl) rfl) rfl ⟨_,rfl,HR.out.1.trans (((HB3.setCell (by exact qad _) _).setCell (by exact qad _) _).mono (by omega)),qcY HP3.out.1 HP3.out.2 a9 n9 c9 b9⟩
 ·have hc:=fun (W:World) (h:Below w.heap.size w W)=>qcw x.natAbs y.natAbs K hK m o W (hm.below h) (ho.below h) hx hy
  have hneq:(decide (x<0) == decide (y<0))=false:=beq_eq_false_iff_ne.2 hsg
  by_cases hlt:x.natAbs<y.natAbs
  ·have ht:=fun (W:World) (h:Below w.heap.size w W)=>qew y.natAbs x.natAbs K hK o m W (ho.below h) (hm.below h) hy (qak hlt)
   have hs:=fun (W:World) (p:Value) (h:MagAt W p (y.natAbs-x.natAbs))=>qbY (y.natAbs-x.natAbs) (decide (y<0)) p W h
   rw [qfB (fun e=>hsg e.symm) (qak hlt),Int.add_comm] at hs
   rw [show cmp3 (x.natAbs:Int) (y.natAbs:Int) = -1 by unfold cmp3;rw [if_pos (by omega)]] at hc
   generalize decide (x<0)=b0 at *
   generalize decide (y<0)=b1 at *
   obtain⟨a0,bm,om,c0,n0,M,rfl,Im,hMx⟩:=hm
   obtain⟨a1,bo,oo,c1,n1,O,rfl,Io,hOx⟩:=ho
   have HT:=qH ht
   have HS:=qH hs
   have HC:=qH hc
   clear ht hs hc Im hMx Io hOx hx hy hK hsg hlt
   obtain⟨W1,hW1⟩:∃W1,W1=((w.alloc (.cells #[.slice a0 n0 c0,.bool b0] 136)).alloc (.cells #[.slice a1 n1 c1,.bool b1] 136)).alloc (.cells #[.slice none 0 0,.bool false] 136):=⟨_,rfl⟩
   have hb1:Below w.heap.size w W1:=hW1▸((qB.alloc qN _).alloc (by simp only [qab];omega) _).alloc (by simp only [qab];omega) _
   have hr0:W1.heap[w.heap.size]? = some (.cells #[.slice a0 n0 c0,.bool b0] 136 (0,0)):=by rw [hW1,qL _ _ _ (by simp only [qab];omega),qL _ _ _ (by simp only [qab];omega)];exact qM _ _ _ (by simp)
   have hr1:W1.heap[w.heap.size+1]? = some (.cells #[.slice a1 n1 c1,.bool b1] 136 (0,0)):=by rw [hW1,qL _ _ _ (by simp only [qab];omega)];exact qM _ _ _ (by simp)
   have hr:W1.heap[w.heap.size+1+1]? = some (.cells #[.slice none 0 0,.bool false] 136 (0,0)):=by rw [hW1];exact qM _ _ _ (by simp)
   have l2:w.heap.size+1+1<W1.heap.size:=(qG hr).1
   have C00:∀W,Below (w.heap.size+1+1) W1 W→W.cell? ⟨w.heap.size,0,none⟩=some (.slice a0 n0 c0):=fun W h=>(h.cell (p:=⟨w.heap.size,0,none⟩) (by show w.heap.size<_;omega)).trans (qC _ _ 0 _ _ _ hr0)
   have C01:∀W,Below (w.heap.size+1+1) W1 W→W.cell? ⟨w.heap.size,1,none⟩=some (.bool b0):=fun W h=>(h.cell (p:=⟨w.heap.size,1,none⟩) (by show w.heap.size<_;omega)).trans (qC _ _ 1 _ _ _ hr0)
   have C10:∀W,Below (w.heap.size+1+1) W1 W→W.cell? ⟨w.heap.size+1,0,none⟩=some (.slice a1 n1 c1):=fun W h=>(h.cell (p:=⟨w.heap.size+1,0,none⟩) (by show w.heap.size+1<_;omega)).trans (qC _ _ 0 _ _ _ hr1)
   have C11:∀W,Below (w.heap.size+1+1) W1 W→W.cell? ⟨w.heap.size+1,1,none⟩=some (.bool b1):=fun W h=>(h.cell (p:=⟨w.heap.size+1,1,none⟩) (by show w.heap.size+1<_;omega)).trans (qC _ _ 1 _ _ _ hr1)
   have hrefl:Below (w.heap.size+1+1) W1 W1:=Below.refl _ _
   have HR:=qH (qA hb1 hr)
   have Hl2:=qH l2
   clear hr0 hr1 hr hb1
   go_enter Tryz.func134,Tryz.ntmps134
   go_wp2_with fail
   rw [←hW1]
   clear hW1
   refine (HC.out _ HR.out.1).mono ?_
   rintro e w5 ⟨rfl,hb5⟩
   have hst:Below (w.heap.size+1+1) W1 w5:=hb5.mono (qak Hl2.out)
   have H5:=qH ((hb5.block _ Hl2.out).trans HR.out.2)
   clear hb5
   go_wp2_with fail
   have hstD:Below (w.heap.size+1+1) W1 w5.drew:=hst.drew
   go_region_held3 (fun W=>Below (w.heap.size+1+1) W1 W) (first | with_reducible exact hst | with_reducible exact hstD | with_reducible exact HB3 | with_reducible exact HB2 | ((iterate 2 refine Below.setCell ?_ (by exact qad _) _);exact HB3)) (first | (go_at_call 201;refine (HT.out _ (HR.out.1.trans (hstD.mono (by omega)))).mono ?_;rintro e w2 ⟨p2,rfl,hb2,hp2⟩;have HB2:Below (w.heap.size+1+1) W1 w2:=hstD.trans (hb2.mono (qak (qah Hl2.out hst.size)));have HP2:=qH (qA hp2 ((hb2.block _ (qah Hl2.out hst.size)).trans H5.out));clear hb2 hp2) | (go_at_call 95;refine (HS.out _ _ HP2.out.1).mono ?_;rintro e w3 ⟨p3,rfl,hb3,hp3⟩;have HB3:Below (w.heap.size+1+1) W1 w3:=HB2.trans (hb3.mono (qaj (qak Hl2.out) HB2.size));obtain⟨a9,n9,c9,b9,rfl⟩:=qbL hp3;have hz3:=(hb3.block _ (qah Hl2.out HB2.size)).trans HP2.out.2;have e0:=qC w3 _ 0 _ _ _ hz3;have e1:=qC w3 _ 1 _ _ _ hz3;have f0:=qF w3 _ 0 _ _ hz3;have f1:=qF w3 _ 1 _ _ hz3;have HP3:=qH (qA hp3 hz3);clear hb3 hp3 hz3))
   go_wp2_with fail
   exact qR (v:=.agg #[.slice a9 n9 c9,.bool b9]) (qbP rfl _ _ (w.heap.size+1+1) 136 _ _ rfl (qcZ HP3.out.2 a9 n9 c9 b9) Tryz.underlying136 rfl 2 (by kernel_rfl) rfl) rfl ⟨_,rfl,HR.out.1.trans (((HB3.setCell (by exact qad _) _).setCell (by exact qad _) _).mono (by omega)),qcY HP3.out.1 HP3.out.2 a9 n9 c9 b9⟩
  ·have ht:=fun (W:World) (h:Below w.heap.size w W)=>qew x.natAbs y.natAbs K hK m o W (hm.below h) (ho.below h) hx (by omega)
   have hs:=fun (W:World) (p:Value) (h:MagAt W p (x.natAbs-y.natAbs))=>qbY (x.natAbs-y.natAbs) (decide (x<0)) p W h
   rw [qfB hsg (by omega)] at hs
   obtain⟨cr,hcr⟩:∃cr,cmp3 (x.natAbs:Int) (y.natAbs:Int)=cr:=⟨_,rfl⟩
   have hcr0:¬cr<0:=by rw [←hcr];unfold cmp3;rw [if_neg (by omega)];split <;> omega
   rw [hcr] at hc
   generalize decide (x<0)=b0 at *
   generalize decide (y<0)=b1 at *
   obtain⟨a0,bm,om,c0,n0,M,rfl,Im,hMx⟩:=hm
   obtain⟨a1,bo,oo,c1,n1,O,rfl,Io,hOx⟩:=ho
   have HT:=qH ht
   have HS:=qH hs
   have HC:=qH hc
   clear ht hs hc Im hMx Io hOx hx hy hK hsg hlt hcr
   obtain⟨W1,hW1⟩:∃W1,W1=((w.alloc (.cells #[.slice a0 n0 c0,.bool b0] 136)).alloc (.cells #[.slice a1 n1 c1,.bool b1] 136)).alloc (.cells #[.slice none 0 0,.bool false] 136):=⟨_,rfl⟩
   have hb1:Below w.heap.size w W1:=hW1▸((qB.alloc qN _).alloc (by simp only [qab];omega) _).alloc (by simp only [qab];omega) _
   have hr0:W1.heap[w.heap.size]? = some (.cells #[.slice a0 n0 c0,.bool b0] 136 (0,0)):=by rw [hW1,qL _ _ _ (by simp only [qab];omega),qL _ _ _ (by simp only [qab];omega)];exact qM _ _ _ (by simp)
   have hr1:W1.heap[w.heap.size+1]? = some (.cells #[.slice a1 n1 c1,.bool b1] 136 (0,0)):=by rw [hW1,qL _ _ _ (by simp only [qab];omega)];exact qM _ _ _ (by simp)
   have hr:W1.heap[w.heap.size+1+1]? = some (.cells #[.slice none 0 0,.bool false] 136 (0,0)):=by rw [hW1];exact qM _ _ _ (by simp)
   have l2:w.heap.size+1+1<W1.heap.size:=(qG hr).1
   have C00:∀W,Below (w.heap.size+1+1) W1 W→W.cell? ⟨w.heap.size,0,none⟩=some (.slice a0 n0 c0):=fun W h=>(h.cell (p:=⟨w.heap.size,0,none⟩) (by show w.heap.size<_;omega)).trans (qC _ _ 0 _ _ _ hr0)
   have C01:∀W,Below (w.heap.size+1+1) W1 W→W.cell? ⟨w.heap.size,1,none⟩=some (.bool b0):=fun W h=>(h.cell (p:=⟨w.heap.size,1,none⟩) (by show w.heap.size<_;omega)).trans (qC _ _ 1 _ _ _ hr0)
   have C10:∀W,Below (w.heap.size+1+1) W1 W→W.cell? ⟨w.heap.size+1,0,none⟩=some (.slice a1 n1 c1):=fun W h=>(h.cell (p:=⟨w.heap.size+1,0,none⟩) (by show w.heap.size+1<_;omega)).trans (qC _ _ 0 _ _ _ hr1)
   have C11:∀W,Below (w.heap.size+1+1) W1 W→W.cell? ⟨w.heap.size+1,1,none⟩=some (.bool b1):=fun W h=>(h.cell (p:=⟨w.heap.size+1,1,none⟩) (by show w.heap.size+1<_;omega)).trans (qC _ _ 1 _ _ _ hr1)
   have hrefl:Below (w.heap.size+1+1) W1 W1:=Below.refl _ _
   have HR:=qH (qA hb1 hr)
   have Hl2:=qH l2
   clear hr0 hr1 hr hb1
   go_enter Tryz.func134,Tryz.ntmps134
   go_wp2_with fail
   rw [←hW1]
   clear hW1
   refine (HC.out _ HR.out.1).mono ?_
   rintro e w5 ⟨rfl,hb5⟩
   have hst:Below (w.heap.size+1+1) W1 w5:=hb5.mono (qak Hl2.out)
   have H5:=qH ((hb5.block _ Hl2.out).trans HR.out.2)
   clear hb5
   go_wp2_with fail
   have hstD:Below (w.heap.size+1+1) W1 w5.drew:=hst.drew
   go_region_held3 (fun W=>Below (w.heap.size+1+1) W1 W) (first | with_reducible exact hst | with_reducible exact hstD | with_reducible exact HB3 | with_reducible exact HB2 | ((iterate 2 refine Below.setCell ?_ (by exact qad _) _);exact HB3)) (first | (go_at_call 201;refine (HT.out _ (HR.out.1.trans (hstD.mono (by omega)))).mono ?_;rintro e w2 ⟨p2,rfl,hb2,hp2⟩;have HB2:Below (w.heap.size+1+1) W1 w2:=hstD.trans (hb2.mono (qak (qah Hl2.out hst.size)));have HP2:=qH (qA hp2 ((hb2.block _ (qah Hl2.out hst.size)).trans H5.out));clear hb2 hp2) | (go_at_call 95;refine (HS.out _ _ HP2.out.1).mono ?_;rintro e w3 ⟨p3,rfl,hb3,hp3⟩;have HB3:Below (w.heap.size+1+1) W1 w3:=HB2.trans (hb3.mono (qaj (qak Hl2.out) HB2.size));obtain⟨a9,n9,c9,b9,rfl⟩:=qbL hp3;have hz3:=(hb3.block _ (qah Hl2.out HB2.size)).trans HP2.out.2;have e0:=qC w3 _ 0 _ _ _ hz3;have e1:=qC w3 _ 1 _ _ _ hz3;have f0:=qF w3 _ 0 _ _ hz3;have f1:=qF w3 _ 1 _ _ hz3;have HP3:=qH (qA hp3 hz3);clear hb3 hp3 hz3))
   go_wp2_with fail
   exact qR (v:=.agg #[.slice a9 n9 c9,.bool b9]) (qbP rfl _ _ (w.heap.size+1+1) 136 _ _ rfl (qcZ HP3.out.2 a9 n9 c9 b9) Tryz.underlying136 rfl 2 (by kernel_rfl) rfl) rfl ⟨_,rfl,HR.out.1.trans (((HB3.setCell (by exact qad _) _).setCell (by exact qad _) _).mono (by omega)),qcY HP3.out.1 HP3.out.2 a9 n9 c9 b9⟩
def wtxt (z:Int):ByteArray:=⟨(itxt z).toArray⟩
theorem qfJ {z:Int} (h:z<0):wtxt z=⟨#[45]⟩++num z.natAbs:=by
 apply ByteArray.ext
 rw [ByteArray.data_append]
 unfold wtxt itxt num
 rw [if_pos h];simp
theorem qeU {z:Int} (h:¬z<0):wtxt z=num z.natAbs:=by
 unfold wtxt itxt num;rw [if_neg h]
theorem qmj {x K:Nat} (h:Fit x K) (hK:0<K):(num x).size≤9*K:=by
 rw [qc9]
 refine qb2 _ _ (by omega) ?_
 rw [←pow9];exact h
theorem qgq (z:Int) (K:Nat) (hK0:0<K) (hK:K≤137438953472) (v:Value) (w:World) (hv:IntAt w v z) (hz:Fit z.natAbs K) (hT:HasT w) :
  Calls Tryz.prog 161 #[v] w fun e w'=>e=.returned (.string (wtxt z))∧Below w.heap.size w w':=by
 obtain⟨m,rfl,hm⟩:=hv
 have hd:=fun (W:World) (h:Below w.heap.size w W)=>qdO z.natAbs K (by omega) m W (hm.below h) hz (hT.below h)
 have hn:=qmj hz hK0
 have HA:Hid (∀cs,Below w.heap.size w (w.alloc (.cells cs 136))):=qH fun cs=>qB.alloc qN _
 by_cases h0:z<0
 ·rw [qfJ h0,qV h0]
  generalize num z.natAbs=t at *
  have hadd:∀W,(Op.stringOp .add ⟨#[45]⟩ t).run Tryz.prog W=.ok (.string (⟨#[45]⟩++t)) W:=fun W=>run_string_add_sum W _ _ (by have:(⟨#[45]⟩:ByteArray).size=1:=rfl;omega)
  obtain⟨T,hTe⟩:∃T,(⟨#[45]⟩:ByteArray)++t=T:=⟨_,rfl⟩
  rw [hTe] at hadd ⊢
  have HD:=qH hd
  obtain⟨am,bm,om,cm,n,M,rfl,Im,hMx⟩:=hm
  clear hd hTe Im hMx hn h0 hz hT
  go_enter Tryz.func161,Tryz.ntmps161
  go_wp2_with fail
  refine (HD.out _ (HA.out _)).mono ?_
  rintro e w1 ⟨rfl,hb1⟩
  have HB:=qH ((HA.out _).trans (hb1.mono (HA.out _).size))
  clear hb1
  go_wp2_with fail
  go_ret
  exact⟨rfl,HB.out⟩
 ·rw [qeU h0,qU h0]
  generalize num z.natAbs=t at *
  have HD:=qH hd
  obtain⟨am,bm,om,cm,n,M,rfl,Im,hMx⟩:=hm
  clear hd Im hMx hn h0 hz hT
  go_enter Tryz.func161,Tryz.ntmps161
  go_wp2_with fail
  refine (HD.out _ (HA.out _)).mono ?_
  rintro e w1 ⟨rfl,hb1⟩
  have HB:=qH ((HA.out _).trans (hb1.mono (HA.out _).size))
  clear hb1
  go_wp2_with fail
  go_ret
  exact⟨rfl,HB.out⟩
theorem qkj (z:Int) (v:Value) (w:World) (hv:IntAt w v z) :
  Calls Tryz.prog 136 #[v] w fun e w'=>e=.returned (.int .i64 (cmp3 z 0))∧Below w.heap.size w w':=by
 obtain⟨m,rfl,hm⟩:=hv
 have hz:=fun (W:World) (h:Below w.heap.size w W)=>qcv z.natAbs m W (hm.below h)
 have HA:Hid (∀cs,Below w.heap.size w (w.alloc (.cells cs 136))):=qH fun cs=>qB.alloc qN _
 obtain⟨am,bm,om,cm,n,M,rfl,Im,hMx⟩:=hm
 clear Im hMx
 rcases Int.lt_trichotomy z 0 with h | h | h
 ·rw [qV h,show cmp3 z 0 = -1 by unfold cmp3;rw [if_pos h]]
  rw [qU (show ¬z.natAbs=0 by omega)] at hz
  have HZ:=qH hz
  clear hz h
  go_enter Tryz.func136,Tryz.ntmps136
  go_wp2_with fail
  refine (HZ.out _ (HA.out _)).mono ?_
  rintro e w1 ⟨rfl,rfl⟩
  go_wp2_with fail
  go_ret
  exact⟨rfl,HA.out _⟩
 ·subst h
  rw [qU (by omega:¬(0:Int)<0),show cmp3 0 0=0 from rfl]
  rw [qV (show (0:Int).natAbs=0 from rfl)] at hz
  have HZ:=qH hz
  clear hz
  go_enter Tryz.func136,Tryz.ntmps136
  go_wp2_with fail
  refine (HZ.out _ (HA.out _)).mono ?_
  rintro e w1 ⟨rfl,rfl⟩
  go_wp2_with fail
  go_ret
  exact⟨rfl,HA.out _⟩
 ·rw [qU (by omega:¬z<0),show cmp3 z 0=1 by unfold cmp3;rw [if_neg (by omega),if_neg (by omega)]]
  rw [qU (show ¬z.natAbs=0 by omega)] at hz
  have HZ:=qH hz
  clear hz h
  go_enter Tryz.func136,Tryz.ntmps136
  go_wp2_with fail
  refine (HZ.out _ (HA.out _)).mono ?_
  rintro e w1 ⟨rfl,rfl⟩
  go_wp2_with fail
  go_ret
  exact⟨rfl,HA.out _⟩
end Go.Proofs.YtplkdeknjghobaaGreatDoor.frac
namespace Go.Proofs.YtplkdeknjghobaaGreatDoor
open Go.RowKit
structure FOk (n d:List UInt8):Prop where
 vn:Valid n
 vd:Valid d
 pos:0<ival d
 cop:(ival n).natAbs.gcd (ival d).natAbs=1
def RatAt (W:World) (v:Value) (z:Int) (d:Nat):Prop:=∃m o,v=.agg #[m,.bool (decide (z<0)),o]∧MagAt W m z.natAbs∧MagAt W o d
theorem RatAt.below {W W':World} {v:Value} {z:Int} {d:Nat} (h:RatAt W v z d) (hb:Below W.heap.size W W'):RatAt W' v z d:=by
 obtain⟨m,o,h1,h2,h3⟩:=h
 exact⟨m,o,h1,h2.below hb,h3.below hb⟩
theorem qbK {B:Nat} {a W:World} {o:Obj} (h:Below B a W) (hB:B≤a.heap.size):Below B a (W.alloc o):=h.alloc (qaj hB h.size) o
theorem bjoin {B:Nat} {a W W':World} (h:Below B a W) (k:Below W.heap.size W W') (hB:B=a.heap.size:=by rfl):Below B a W':=h.trans (k.mono (by rw [hB];exact h.size))
theorem zkeep {W W':World} (h:Below W.heap.size W W'):∀(g:Nat) (o:Obj),W.heap[g]? = some o→W'.heap[g]? = some o:=fun g _ hg=>(h.block g (qG hg).1).trans hg
theorem qgU {W:World} {g:Nat} {t:TypeId} (h:W.heap[g]? = some (.cells #[.slice none 0 0,.bool false] t (0,0))) (a:Option Addr) (n c:Nat) (b:Bool) :
  ((W.setCell ⟨g,0,none⟩ (.slice a n c)).setCell ⟨g,1,none⟩ (.bool b)).heap[g]? = some (.cells #[.slice a n c,.bool b] t (0,0)) ∧
  (∀k,k≠g→((W.setCell ⟨g,0,none⟩ (.slice a n c)).setCell ⟨g,1,none⟩ (.bool b)).heap[k]? = W.heap[k]?) ∧
  (∀m b0 z,IntAt W (.agg #[m,.bool b0]) z→IntAt ((W.setCell ⟨g,0,none⟩ (.slice a n c)).setCell ⟨g,1,none⟩ (.bool b)) (.agg #[m,.bool b0]) z) :=
 ⟨frac.qcZ h a n c b,fun _k hk=>(Below.heap_setCell _ _ _ _ hk).trans (Below.heap_setCell _ _ _ _ hk),fun _ _ _ hi=>frac.qcY hi h a n c b⟩
theorem zdrew {W:World} {g:Nat} {o:Option Obj} (h:W.heap[g]? = o):W.drew.heap[g]? = o:=h
theorem qdI:∀x∈(#[.slice none 0 0,.bool false,.slice none 0 0]:Array Value).toList,∀d,x≠.int .u32 d:=by
 intro x hx d
 rcases qaL.1 hx with rfl | hx
 ·intro h;cases h
 ·rcases qaL.1 hx with rfl | hx
  ·intro h;cases h
  ·rw [qaq.1 hx];intro h;cases h
def Two (W2 W:World) (g3 g4:Nat) (v3:Option Addr×Nat×Nat×Bool) (v4:Option Addr×Nat×Nat×Bool) (z3 z4:Int):Prop :=
 W.heap[g3]? = some (.cells #[.slice v3.1 v3.2.1 v3.2.2.1,.bool v3.2.2.2] 136 (0,0))∧W.heap[g4]? = some (.cells #[.slice v4.1 v4.2.1 v4.2.2.1,.bool v4.2.2.2] 136 (0,0)) ∧
  IntAt W (.agg #[.slice v3.1 v3.2.1 v3.2.2.1,.bool v3.2.2.2]) z3∧IntAt W (.agg #[.slice v4.1 v4.2.1 v4.2.2.1,.bool v4.2.2.2]) z4∧Below W2.heap.size W2 W
section
variable {W2 W:World} {a3:Option Addr} {n3 c3:Nat} {b3:Bool} {a4:Option Addr} {n4 c4:Nat} {b4:Bool} {z3 z4:Int}
theorem two_aa (h:IntAt W (.agg #[.slice a3 n3 c3,.bool b3]) z3∧IntAt W (.agg #[.slice a4 n4 c4,.bool b4]) z4) (hb:Below W2.heap.size W2 W) :
  Two W2 ((W.alloc (.cells #[.slice a3 n3 c3,.bool b3] 136)).alloc (.cells #[.slice a4 n4 c4,.bool b4] 136)) W.heap.size (W.heap.size+1) (a3,n3,c3,b3) (a4,n4,c4,b4) z3 z4 :=
 have k:=qbK (qbK (Below.refl W.heap.size W) qN) qN
 ⟨(qL _ _ _ (by simp only [qab];omega)).trans (qM _ _ _ rfl),qM _ _ _ (by simp only [qab]),h.1.below k,h.2.below k,qbK (qbK hb qN) qN⟩
theorem two_bb (h:IntAt W (.agg #[.slice a3 n3 c3,.bool b3]) z3∧IntAt W (.agg #[.slice a4 n4 c4,.bool b4]) z4) (hb:Below W2.heap.size W2 W) :
  Two W2 ((W.alloc (.cells #[.slice a4 n4 c4,.bool b4] 136)).alloc (.cells #[.slice a3 n3 c3,.bool b3] 136)) (W.heap.size+1) W.heap.size (a3,n3,c3,b3) (a4,n4,c4,b4) z3 z4 :=
 have k:=qbK (qbK (Below.refl W.heap.size W) qN) qN
 ⟨qM _ _ _ (by simp only [qab]),(qL _ _ _ (by simp only [qab];omega)).trans (qM _ _ _ rfl),h.1.below k,h.2.below k,qbK (qbK hb qN) qN⟩
theorem two_pa {g:Nat} (h:IntAt W (.agg #[.slice a3 n3 c3,.bool b3]) z3∧IntAt W (.agg #[.slice a4 n4 c4,.bool b4]) z4) (hb:Below W2.heap.size W2 W) (hg:W2.heap.size≤g) (hz:W.heap[g]? = some (.cells #[.slice none 0 0,.bool false] 136 (0,0))) :
  Two W2 (((W.setCell ⟨g,0,none⟩ (.slice a3 n3 c3)).setCell ⟨g,1,none⟩ (.bool b3)).alloc (.cells #[.slice a4 n4 c4,.bool b4] 136)) g W.heap.size (a3,n3,c3,b3) (a4,n4,c4,b4) z3 z4:=by
 obtain⟨p1,p2,p3⟩:=qgU hz a3 n3 c3 b3
 have lt:=(qG hz).1
 have k:∀V:World,Below V.heap.size V (V.alloc (.cells #[.slice a4 n4 c4,.bool b4] 136)):=fun V=>qbK qB qN
 exact⟨(qL _ _ _ (by simp only [qbA];exact lt)).trans p1,qM _ _ _ (by simp only [qbA]),(p3 _ _ _ h.1).below (k _),(p3 _ _ _ h.2).below (k _),qbK ((hb.setCell (by exact hg) _).setCell (by exact hg) _) qN⟩
theorem two_pb {g:Nat} (h:IntAt W (.agg #[.slice a3 n3 c3,.bool b3]) z3∧IntAt W (.agg #[.slice a4 n4 c4,.bool b4]) z4) (hb:Below W2.heap.size W2 W) (hg:W2.heap.size≤g) (hz:W.heap[g]? = some (.cells #[.slice none 0 0,.bool false] 136 (0,0))) :
  Two W2 (((W.setCell ⟨g,0,none⟩ (.slice a4 n4 c4)).setCell ⟨g,1,none⟩ (.bool b4)).alloc (.cells #[.slice a3 n3 c3,.bool b3] 136)) W.heap.size g (a3,n3,c3,b3) (a4,n4,c4,b4) z3 z4:=by
 obtain⟨p1,p2,p3⟩:=qgU hz a4 n4 c4 b4
 have lt:=(qG hz).1
 have k:∀V:World,Below V.heap.size V (V.alloc (.cells #[.slice a3 n3 c3,.bool b3] 136)):=fun V=>qbK qB qN
 exact⟨qM _ _ _ (by simp only [qbA]),(qL _ _ _ (by simp only [qbA];exact lt)).trans p1,(p3 _ _ _ h.1).below (k _),(p3 _ _ _ h.2).below (k _),qbK ((hb.setCell (by exact hg) _).setCell (by exact hg) _) qN⟩
theorem two_pp {g g':Nat} (h:IntAt W (.agg #[.slice a3 n3 c3,.bool b3]) z3∧IntAt W (.agg #[.slice a4 n4 c4,.bool b4]) z4) (hb:Below W2.heap.size W2 W) (hg:W2.heap.size≤g) (hg':W2.heap.size≤g') (hne:g≠g') (hz:W.heap[g]? = some (.cells #[.slice none 0 0,.bool false] 136 (0,0))) (hz':W.heap[g']? = some (.cells #[.slice none 0 0,.bool false] 136 (0,0))) :
  Two W2 ((((W.setCell ⟨g,0,none⟩ (.slice a3 n3 c3)).setCell ⟨g,1,none⟩ (.bool b3)).setCell ⟨g',0,none⟩ (.slice a4 n4 c4)).setCell ⟨g',1,none⟩ (.bool b4)) g g' (a3,n3,c3,b3) (a4,n4,c4,b4) z3 z4:=by
 obtain⟨p1,p2,p3⟩:=qgU hz a3 n3 c3 b3
 obtain⟨q1,q2,q3⟩:=qgU ((p2 g' (Ne.symm hne)).trans hz') a4 n4 c4 b4
 exact⟨(q2 g hne).trans p1,q1,q3 _ _ _ (p3 _ _ _ h.1),q3 _ _ _ (p3 _ _ _ h.2),(((hb.setCell (by exact hg) _).setCell (by exact hg) _).setCell (by exact hg') _).setCell (by exact hg') _⟩
end
def FReadsAs (w:World) (n d:List UInt8) (e:Ending) (w':World):Prop:=∃v ok,e=.returned (.tuple #[v,.bool ok])∧(ok=true∧FOk n d∧RatAt w' v (ival n) (ival d).natAbs∨ok=false∧¬FOk n d∧v=.agg #[.slice none 0 0,.bool false,.slice none 0 0])∧Below w.heap.size w w'
theorem qdR (n d:ByteArray) (w:World) :
  Calls Tryz.prog 94 #[.agg #[.string n,.string d]] w fun e w'=>FReadsAs w n.data.toList d.data.toList e w':=by
 have hc1:=fun W=>qeT n W
 have hc2:=fun W=>qeT d W
 obtain⟨W1,hW1⟩:∃W1,W1=(w.alloc (.cells #[.string n,.string d] 44)).alloc (.cells #[.slice none 0 0,.bool false,.slice none 0 0] 138):=⟨_,rfl⟩
 have hb1:Below w.heap.size w W1:=hW1▸(qB.alloc qN _).alloc (by simp only [qab];omega) _
 have hr0:W1.heap[w.heap.size]? = some (.cells #[.string n,.string d] 44 (0,0)):=by rw [hW1,qL _ _ _ (by simp only [qab];omega)];exact qM _ _ _ rfl
 have hr1:W1.heap[w.heap.size+1]? = some (.cells #[.slice none 0 0,.bool false,.slice none 0 0] 138 (0,0)):=by rw [hW1];exact qM _ _ _ (by simp)
 have l1:w.heap.size+1<W1.heap.size:=(qG hr1).1
 have HC1:=qH hc1
 have HC2:=qH hc2
 have HR:=qH (qA hb1 (qA hr0 (qA hr1 l1)))
 clear hc1 hc2 hb1 hr0 hr1 l1
 have HRow:Hid (∀W,Below W1.heap.size W1 W→W.heap[w.heap.size]? = some (.cells #[.string n,.string d] 44 (0,0))∧W.heap[w.heap.size+1]? = some (.cells #[.slice none 0 0,.bool false,.slice none 0 0] 138 (0,0))):=qH fun W h=>⟨(h.block _ (by have:=HR.out.2.2.2;omega)).trans HR.out.2.1,(h.block _ HR.out.2.2.2).trans HR.out.2.2.1⟩
 go_enter Tryz.func94,Tryz.ntmps94
 go_wp2_with fail
 rw [←hW1]
 clear hW1
 refine (HC1.out _).mono ?_
 rintro e w1 ⟨c1,rfl,hk1,hb1⟩
 rcases hk1 with ⟨rfl,hv1⟩ | ⟨rfl,hv1⟩
 ·have d1:=qC w1 _ 1 _ _ _ (HRow.out w1 hb1).1
  have H1:=qH (qA hb1 hv1)
  clear hb1 hv1
  go_wp2_with fail
  refine (HC2.out _).mono ?_
  rintro e w2 ⟨c2,rfl,hk2,hb2⟩
  have hb2':Below W1.heap.size W1 w2:=H1.out.1.trans (hb2.mono H1.out.1.size)
  clear hb2
  rcases hk2 with ⟨rfl,hv2⟩ | ⟨rfl,hv2⟩
  ·have hst:Below w2.heap.size w2 w2:=Below.refl _ _
   have hstD:Below w2.heap.size w2 w2.drew:=hst.drew
   have hdr2:w2.drew.heap.size=w2.heap.size:=rfl
   have hrow2:=HRow.out w2 hb2'
   have l0:w.heap.size<w2.heap.size:=(qG hrow2.1).1
   have C0:∀W,Below w2.heap.size w2 W→W.cell? ⟨w.heap.size,0,none⟩=some (.string n):=fun W h=>(h.cell (p:=⟨w.heap.size,0,none⟩) l0).trans (qC _ _ 0 _ _ _ hrow2.1)
   have C1:∀W,Below w2.heap.size w2 W→W.cell? ⟨w.heap.size,1,none⟩=some (.string d):=fun W h=>(h.cell (p:=⟨w.heap.size,1,none⟩) l0).trans (qC _ _ 1 _ _ _ hrow2.1)
   have hn1:=fun W=>frac.qco n H1.out.2 W
   have hn2:=fun W=>frac.qco d hv2 W
   have HN1:=qH hn1
   have HN2:=qH hn2
   have H2:=qH (qA hb2' (qA hv2 hrow2))
   clear hn1 hn2 hb2' hv2 hrow2
   go_wp2_with fail
   have hdr3:∀W:World,W.drew.heap.size=W.heap.size:=fun _=>rfl
   go_cut [4,5] (fun x4 x5 W=>∃(g3 g4:Nat) (a3:Option Addr) (n3 c3:Nat) (b3:Bool) (a4:Option Addr) (n4 c4:Nat) (b4:Bool),x4=.pointer (some ⟨g3,0,none⟩)∧x5=.pointer (some ⟨g4,0,none⟩)∧Two w2 W g3 g4 (a3,n3,c3,b3) (a4,n4,c4,b4) (ival n.data.toList) (ival d.data.toList))
   case first =>
    go_region_held3 (fun W=>Below w2.heap.size w2 W) (first | with_reducible exact hst | with_reducible exact hstD | with_reducible exact HB4 | with_reducible exact HB3 | ((repeat (first | refine Below.setCell ?_ (by first | exact qad _ | exact HB3.size | exact HB4.size | exact qap qN | exact qap HB3.size | exact qap HB4.size) _ | refine qbK ?_ qN | refine Below.drew ?_));first | exact HB4 | exact HB3 | exact hst)) (first | (go_at_call_of 147 (Value.string n);refine (HN1.out _).mono ?_;rintro e w3 ⟨p3,rfl,hb3,hp3⟩;have HB3:Below w2.heap.size w2 w3:=bjoin (by ((repeat (first | refine Below.setCell ?_ (by first | exact qad _ | exact HB3.size | exact HB4.size | exact qap qN | exact qap HB3.size | exact qap HB4.size) _ | refine qbK ?_ qN | refine Below.drew ?_));first | exact hst)) hb3;obtain⟨a3,n3,c3,b3,rfl⟩:=frac.qbL hp3;have HP3:=qH hp3;obtain⟨k3,k3f⟩:=bcell hb3;have Z3:=qH (zkeep hb3);have s3:_≤_:=hb3.size;(try simp only [qab,hdr2,hdr3] at s3);(try have q3:w2.heap.size<w3.heap.size:=by omega);(try have r3:w2.heap.size+1<w3.heap.size:=by omega);clear hb3 hp3) | (go_at_call_of 147 (Value.string d);refine (HN2.out _).mono ?_;rintro e w4 ⟨p4,rfl,hb4,hp4⟩;have HB4:Below w2.heap.size w2 w4:=bjoin (by ((repeat (first | refine Below.setCell ?_ (by first | exact qad _ | exact HB3.size | exact HB4.size | exact qap qN | exact qap HB3.size | exact qap HB4.size) _ | refine qbK ?_ qN | refine Below.drew ?_));first | exact HB3)) hb4;obtain⟨a4,n4,c4,b4,rfl⟩:=frac.qbL hp4;have HP4:=qH (qA (show IntAt w4 _ _ from (by first | exact HP3.out.below hb4 | exact (HP3.out.below (qbK qB qN)).below hb4 | exact (HP3.out.below (qbK (qbK qB qN) qN)).below hb4)) hp4);obtain⟨k4,k4f⟩:=bcell hb4;have Z4:=qH (zkeep hb4);have s4:_≤_:=hb4.size;(try simp only [qab] at s4);(try have q4:w2.heap.size<w4.heap.size:=by omega);(try have r4:w2.heap.size+1<w4.heap.size:=by omega);(try have t4:w3.heap.size<w4.heap.size:=by omega);(try have u4:w3.heap.size+1<w4.heap.size:=by omega);clear hb4 hp4))
    all_goals go_wp2_with fail
    all_goals go_meet
    all_goals refine⟨_,_,a3,n3,c3,b3,a4,n4,c4,b4,rfl,rfl,?_⟩
    all_goals first
     | with_reducible exact two_aa HP4.out HB4
     | with_reducible exact two_bb HP4.out HB4
     | (with_reducible refine two_pa HP4.out HB4 ?_ ?_;(first | exact qad _ | exact HB3.size | exact HB4.size | exact Nat.le_succ _ | exact qap HB3.size);(refine Z4.out _ _ ?_;((try with_reducible refine zdrew ?_);first | (refine qM _ _ _ ?_;((try simp only) <;> omega)) | (refine Z3.out _ _ ?_;((try with_reducible refine zdrew ?_);first | (refine qM _ _ _ ?_;((try simp only) <;> omega)) | (refine (qL _ _ _ ?_).trans ?_;((try simp only [qab,hdr3]);omega);(refine qM _ _ _ ?_;((try simp only [qab,hdr3]) <;> omega))))) | (refine (qL _ _ _ ?_).trans ?_;((try simp only [qab,hdr3]);omega);(first | (refine qM _ _ _ ?_;((try simp only [qab,hdr3]) <;> omega)) | (refine Z3.out _ _ ?_;((try with_reducible refine zdrew ?_);first | (refine qM _ _ _ ?_;((try simp only [qab,hdr3]) <;> omega)) | (refine (qL _ _ _ ?_).trans ?_;((try simp only [qab,hdr3]);omega);(refine qM _ _ _ ?_;((try simp only [qab,hdr3]) <;> omega))))))) | (refine (qL _ _ _ ?_).trans ?_;((try simp only [qab,hdr3]);omega);refine (qL _ _ _ ?_).trans ?_;((try simp only [qab,hdr3]);omega);(refine Z3.out _ _ ?_;((try with_reducible refine zdrew ?_);first | (refine qM _ _ _ ?_;((try simp only [qab,hdr3]) <;> omega)) | (refine (qL _ _ _ ?_).trans ?_;((try simp only [qab,hdr3]);omega);(refine qM _ _ _ ?_;((try simp only [qab,hdr3]) <;> omega)))))))))
     | (with_reducible refine two_pb HP4.out HB4 ?_ ?_;(first | exact qad _ | exact HB3.size | exact HB4.size | exact Nat.le_succ _ | exact qap HB3.size);(refine Z4.out _ _ ?_;((try with_reducible refine zdrew ?_);first | (refine qM _ _ _ ?_;((try simp only) <;> omega)) | (refine Z3.out _ _ ?_;((try with_reducible refine zdrew ?_);first | (refine qM _ _ _ ?_;((try simp only) <;> omega)) | (refine (qL _ _ _ ?_).trans ?_;((try simp only [qab,hdr3]);omega);(refine qM _ _ _ ?_;((try simp only [qab,hdr3]) <;> omega))))) | (refine (qL _ _ _ ?_).trans ?_;((try simp only [qab,hdr3]);omega);(first | (refine qM _ _ _ ?_;((try simp only [qab,hdr3]) <;> omega)) | (refine Z3.out _ _ ?_;((try with_reducible refine zdrew ?_);first | (refine qM _ _ _ ?_;((try simp only [qab,hdr3]) <;> omega)) | (refine (qL _ _ _ ?_).trans ?_;((try simp only [qab,hdr3]);omega);(refine qM _ _ _ ?_;((try simp only [qab,hdr3]) <;> omega))))))) | (refine (qL _ _ _ ?_).trans ?_;((try simp only [qab,hdr3]);omega);refine (qL _ _ _ ?_).trans ?_;((try simp only [qab,hdr3]);omega);(refine Z3.out _ _ ?_;((try with_reducible refine zdrew ?_);first | (refine qM _ _ _ ?_;((try simp only [qab,hdr3]) <;> omega)) | (refine (qL _ _ _ ?_).trans ?_;((try simp only [qab,hdr3]);omega);(refine qM _ _ _ ?_;((try simp only [qab,hdr3]) <;> omega)))))))))
     | (with_reducible refine two_pp HP4.out HB4 ?_ ?_ ?_ ?_ ?_;(first | exact qad _ | exact HB3.size | exact HB4.size | exact Nat.le_succ _ | exact qap HB3.size);(first | exact qad _ | exact HB3.size | exact HB4.size | exact Nat.le_succ _ | exact qap HB3.size);omega;(refine Z4.out _ _ ?_;((try with_reducible refine zdrew ?_);first | (refine qM _ _ _ ?_;((try simp only [qab]) <;> omega)) | (refine Z3.out _ _ ?_;((try with_reducible refine zdrew ?_);first | (refine qM _ _ _ ?_;((try simp only [qab]) <;> omega)) | (refine (qL _ _ _ ?_).trans ?_;((try simp only [qab]);omega);(refine qM _ _ _ ?_;((try simp only) <;> omega))))) | (refine (qL _ _ _ ?_).trans ?_;((try simp only [qab]);omega);(first | (refine qM _ _ _ ?_;((try simp only) <;> omega)) | (refine Z3.out _ _ ?_;((try with_reducible refine zdrew ?_);first | (refine qM _ _ _ ?_;((try simp only) <;> omega)) | (refine (qL _ _ _ ?_).trans ?_;((try simp only [qab,hdr3]);omega);(refine qM _ _ _ ?_;((try simp only [qab,hdr3]) <;> omega))))))) | (refine (qL _ _ _ ?_).trans ?_;((try simp only [qab,hdr3]);omega);refine (qL _ _ _ ?_).trans ?_;((try simp only [qab,hdr3]);omega);(refine Z3.out _ _ ?_;((try with_reducible refine zdrew ?_);first | (refine qM _ _ _ ?_;((try simp only [qab,hdr3]) <;> omega)) | (refine (qL _ _ _ ?_).trans ?_;((try simp only [qab,hdr3]);omega);(refine qM _ _ _ ?_;((try simp only [qab,hdr3]) <;> omega))))))));(refine Z4.out _ _ ?_;((try with_reducible refine zdrew ?_);first | (refine qM _ _ _ ?_;((try simp only [qab]) <;> omega)) | (refine Z3.out _ _ ?_;((try with_reducible refine zdrew ?_);first | (refine qM _ _ _ ?_;((try simp only [qab]) <;> omega)) | (refine (qL _ _ _ ?_).trans ?_;((try simp only [qab]);omega);(refine qM _ _ _ ?_;((try simp only) <;> omega))))) | (refine (qL _ _ _ ?_).trans ?_;((try simp only [qab]);omega);(first | (refine qM _ _ _ ?_;((try simp only) <;> omega)) | (refine Z3.out _ _ ?_;((try with_reducible refine zdrew ?_);first | (refine qM _ _ _ ?_;((try simp only) <;> omega)) | (refine (qL _ _ _ ?_).trans ?_;((try simp only [qab,hdr3]);omega);(refine qM _ _ _ ?_;((try simp only [qab,hdr3]) <;> omega))))))) | (refine (qL _ _ _ ?_).trans ?_;((try simp only [qab,hdr3]);omega);refine (qL _ _ _ ?_).trans ?_;((try simp only [qab,hdr3]);omega);(refine Z3.out _ _ ?_;((try with_reducible refine zdrew ?_);first | (refine qM _ _ _ ?_;((try simp only [qab,hdr3]) <;> omega)) | (refine (qL _ _ _ ?_).trans ?_;((try simp only [qab,hdr3]);omega);(refine qM _ _ _ ?_;((try simp only [qab,hdr3]) <;> omega)))))))))
   case rest =>
    obtain⟨g3,g4,a3,n3,c3,b3,a4,n4,c4,b4,rfl,rfl,h3,h4,hi3,hi4,hb⟩:=hcut
    dsimp only at h3 h4 hi3 hi4
    have e30:=qC wc _ 0 _ _ _ h3
    have e31:=qC wc _ 1 _ _ _ h3
    have e40:=qC wc _ 0 _ _ _ h4
    have e41:=qC wc _ 1 _ _ _ h4
    have hsgn:=frac.qkj _ _ wc hi4
    have HS:=qH hsgn
    have HH:=qH (qA h3 (qA h4 (qA hi3 (qA hi4 hb))))
    have hrow5:wc.heap[w.heap.size+1]? = some (.cells #[.slice none 0 0,.bool false,.slice none 0 0] 138 (0,0)):=(hb.block _ (qG H2.out.2.2.2).1).trans H2.out.2.2.2
    have H5:=qH (qA hrow5 (HR.out.1.trans ((H2.out.1.trans (hb.mono H2.out.1.size)).mono HR.out.1.size)))
    clear h3 h4 hi3 hi4 hb hsgn hrow5 C0 C1
    go_wp2_with fail
    refine HS.out.mono ?_
    rintro e w5 ⟨rfl,hb5⟩
    have HB5:=qH hb5
    have H6:=qH (qA ((hb5.block _ (qG H5.out.1).1).trans H5.out.1) (H5.out.2.trans (hb5.mono H5.out.2.size)))
    have hi3:=HH.out.2.2.1.below hb5
    have hi4:=HH.out.2.2.2.1.below hb5
    have h3:=(hb5.block _ (qG HH.out.1).1).trans HH.out.1
    have h4:=(hb5.block _ (qG HH.out.2.1).1).trans HH.out.2.1
    clear hb5 e30 e31 e40 e41
    by_cases hpos:0<ival d.data.toList
    ·rw [show cmp3 (ival d.data.toList) 0=1 by unfold cmp3;rw [if_neg (by omega),if_neg (by omega)]]
     have e30:=qC w5 _ 0 _ _ _ h3
     have e40:=qC w5 _ 0 _ _ _ h4
     obtain⟨m3,hm3,hg3⟩:=hi3
     obtain⟨m4,hm4,hg4⟩:=hi4
     have hm3':m3=.slice a3 n3 c3:=by simp only [qaT,qaX,qaR] at hm3;exact hm3.1.symm
     have hm4':m4=.slice a4 n4 c4:=by simp only [qaT,qaX,qaR] at hm4;exact hm4.1.symm
     have hb3v:b3=decide (ival n.data.toList<0):=by simp only [qaT,qaX,qaR,qbH] at hm3;exact hm3.2.1
     subst hm3' hm4'
     have hf3:=H1.out.2.fit
     have hf4:=H2.out.2.1.fit
     have hgc:=frac.qdJ (ival n.data.toList).natAbs (ival d.data.toList).natAbs 67 (by decide) _ _ w5 hg3 hg4 hf3 hf4
     have HGC:=qH hgc
     have HG:=qH (qA hg3 (qA hg4 (qA h3 (qA h4 hb3v))))
     clear hgc hg3 hg4 h3 h4 hm3 hm4 hb3v
     go_wp2_with fail
     refine HGC.out.mono ?_
     rintro e w7 ⟨vg,rfl,hb7,hvg⟩
     have hk0:Fit 1 67:=Fit.mono (show Fit 1 1 from (by show 1<1000000000 ^ 1;decide)) (by decide)
     have hgf:Fit ((ival n.data.toList).natAbs.gcd (ival d.data.toList).natAbs) 67:=hf4.le (Nat.gcd_le_right _ (by omega))
     have hcp:=frac.qcw ((ival n.data.toList).natAbs.gcd (ival d.data.toList).natAbs) 1 67 (by decide) vg (.slice (some ⟨w7.heap.size,0,none⟩) 1 1) (w7.alloc (.cells #[.int .u32 (1:Int)] 232)) (hvg.below (qB.alloc qN _)) (qdL w7 _ (by decide) (by decide)) hgf hk0
     obtain⟨cr,hcr⟩:∃cr,cmp3 (((ival n.data.toList).natAbs.gcd (ival d.data.toList).natAbs:Nat):Int) ((1:Nat):Int)=cr:=⟨_,rfl⟩
     have hcr0:cr=0↔(ival n.data.toList).natAbs.gcd (ival d.data.toList).natAbs=1:=by
      rw [←hcr];unfold cmp3
      constructor
      ·intro h
       split at h
       ·omega
       ·split at h
        ·omega
        ·omega
      ·intro h
       rw [if_neg (by omega),if_pos (by omega)]
     rw [hcr] at hcp
     have HCP:=qH hcp
     have HCR:=qH hcr0
     have HB7:=qH hb7
     obtain⟨ag,bg,og,cg,ng,Mg,rfl,_,_⟩:=hvg
     clear hcp hcr hcr0 hb7 hk0 hgf e30 e40
     go_wp2_with fail
     refine HCP.out.mono ?_
     rintro e w8 ⟨rfl,hb8⟩
     have hb58:Below w5.heap.size w5 w8:=HB7.out.trans (((qB.alloc qN _:Below w7.heap.size w7 (w7.alloc (.cells #[.int .u32 (1:Int)] 232))).trans (hb8.mono (by simp only [qab];omega))).mono HB7.out.size)
     have H8:=qH (qA ((hb58.block _ (qG H6.out.1).1).trans H6.out.1) (H6.out.2.trans (hb58.mono H6.out.2.size)))
     by_cases hg1:(ival n.data.toList).natAbs.gcd (ival d.data.toList).natAbs=1
     ·have hcr:cr=0:=HCR.out.2 hg1
      have HY:Hid (FOk n.data.toList d.data.toList):=qH ⟨H1.out.2,H2.out.2.1,hpos,hg1⟩
      have h3:=(hb58.block _ (qG HG.out.2.2.1).1).trans HG.out.2.2.1
      have h4:=(hb58.block _ (qG HG.out.2.2.2.1).1).trans HG.out.2.2.2.1
      have e30:=qC w8 _ 0 _ _ _ h3
      have e31:=qC w8 _ 1 _ _ _ h3
      have e40:=qC w8 _ 0 _ _ _ h4
      have HM3:=qH (qcK (cs':=#[.slice a3 n3 c3,.bool b3,.slice a4 n4 c4]) (HG.out.1.below hb58) H8.out.1 qdI)
      have HM4:=qH (qcK (cs':=#[.slice a3 n3 c3,.bool b3,.slice a4 n4 c4]) (HG.out.2.1.below hb58) H8.out.1 qdI)
      subst hcr
      clear h3 h4 hb8 hb58 hg1
      go_wp2_with ((with_reducible refine wpList_store_row rfl 138 _ _ rfl (w.heap.size+1) #[.slice a3 n3 c3,.bool b3,.slice a4 n4 c4] ?_ ?_ 138 _ H8.out.1 3 ?_ ?_ ?_ ?_ ?_);(next=>rfl);(next=>rfl);(next=>kernel_rfl);(next=>rfl);(next=>rfl);(next=>rfl))
      exact qR (v:=.tuple #[.agg #[.slice a3 n3 c3,.bool b3,.slice a4 n4 c4],.bool true]) (qbN rfl _ _ (w.heap.size+1) 138 _ _ rfl (setRow_heap _ _ _ _ _ _ H8.out.1) Tryz.underlying138 rfl 3 (by kernel_rfl) rfl _ rfl) rfl ⟨_,_,rfl,qal ⟨rfl,HY.out,_,_,by rw [HG.out.2.2.2.2],HM3.out,HM4.out⟩,below_setRow H8.out.2 (by omega) _⟩
     ·have HN:Hid (¬FOk n.data.toList d.data.toList):=qH (fun h=>hg1 h.cop)
      have hcr:((cr:Int) == 0)=false:=by rw [beq_eq_false_iff_ne];exact fun h=>hg1 (HCR.out.1 h)
      have hcr2:¬cr=0:=fun h=>hg1 (HCR.out.1 h)
      clear hb8 hb58 hg1
      go_wp2_with ((with_reducible refine wpList_store_row rfl 138 _ _ rfl (w.heap.size+1) #[.slice none 0 0,.bool false,.slice none 0 0] ?_ ?_ 138 _ H8.out.1 3 ?_ ?_ ?_ ?_ ?_);(next=>rfl);(next=>rfl);(next=>kernel_rfl);(next=>rfl);(next=>rfl);(next=>rfl))
      exact qR (v:=.tuple #[.agg #[.slice none 0 0,.bool false,.slice none 0 0],.bool false]) (qbN rfl _ _ (w.heap.size+1) 138 _ _ rfl (setRow_heap _ _ _ _ _ _ H8.out.1) Tryz.underlying138 rfl 3 (by kernel_rfl) rfl _ rfl) rfl ⟨_,_,rfl,qag ⟨rfl,HN.out,rfl⟩,below_setRow H8.out.2 (by omega) _⟩
    ·have HN:Hid (¬FOk n.data.toList d.data.toList):=qH (fun h=>hpos h.pos)
     have hc1:cmp3 (ival d.data.toList) 0<1:=by unfold cmp3;split <;> (try split) <;> omega
     generalize cmp3 (ival d.data.toList) 0=cr at *
     go_wp2_with ((with_reducible refine wpList_store_row rfl 138 _ _ rfl (w.heap.size+1) #[.slice none 0 0,.bool false,.slice none 0 0] ?_ ?_ 138 _ H6.out.1 3 ?_ ?_ ?_ ?_ ?_);(next=>rfl);(next=>rfl);(next=>kernel_rfl);(next=>rfl);(next=>rfl);(next=>rfl))
     exact qR (v:=.tuple #[.agg #[.slice none 0 0,.bool false,.slice none 0 0],.bool false]) (qbN rfl _ _ (w.heap.size+1) 138 _ _ rfl (setRow_heap _ _ _ _ _ _ H6.out.1) Tryz.underlying138 rfl 3 (by kernel_rfl) rfl _ rfl) rfl ⟨_,_,rfl,qag ⟨rfl,HN.out,rfl⟩,below_setRow H6.out.2 (by omega) _⟩
  ·have HX:=qH (qA ((HRow.out w2 hb2').2) (HR.out.1.trans (hb2'.mono HR.out.1.size)))
   have HN:Hid (¬FOk n.data.toList d.data.toList):=qH (fun h=>hv2 h.vd)
   go_wp2_with ((with_reducible refine wpList_store_row rfl 138 _ _ rfl (w.heap.size+1) #[.slice none 0 0,.bool false,.slice none 0 0] ?_ ?_ 138 _ HX.out.1 3 ?_ ?_ ?_ ?_ ?_);(next=>rfl);(next=>rfl);(next=>kernel_rfl);(next=>rfl);(next=>rfl);(next=>rfl))
   exact qR (v:=.tuple #[.agg #[.slice none 0 0,.bool false,.slice none 0 0],.bool false]) (qbN rfl _ _ (w.heap.size+1) 138 _ _ rfl (setRow_heap _ _ _ _ _ _ HX.out.1) Tryz.underlying138 rfl 3 (by kernel_rfl) rfl _ rfl) rfl ⟨_,_,rfl,qag ⟨rfl,HN.out,rfl⟩,below_setRow HX.out.2 (by omega) _⟩
 ·have HX:=qH (qA ((HRow.out w1 hb1).2) (HR.out.1.trans (hb1.mono HR.out.1.size)))
  have HN:Hid (¬FOk n.data.toList d.data.toList):=qH (fun h=>hv1 h.vn)
  go_wp2_with ((with_reducible refine wpList_store_row rfl 138 _ _ rfl (w.heap.size+1) #[.slice none 0 0,.bool false,.slice none 0 0] ?_ ?_ 138 _ HX.out.1 3 ?_ ?_ ?_ ?_ ?_);(next=>rfl);(next=>rfl);(next=>kernel_rfl);(next=>rfl);(next=>rfl);(next=>rfl))
  exact qR (v:=.tuple #[.agg #[.slice none 0 0,.bool false,.slice none 0 0],.bool false]) (qbN rfl _ _ (w.heap.size+1) 138 _ _ rfl (setRow_heap _ _ _ _ _ _ HX.out.1) Tryz.underlying138 rfl 3 (by kernel_rfl) rfl _ rfl) rfl ⟨_,_,rfl,qag ⟨rfl,HN.out,rfl⟩,below_setRow HX.out.2 (by omega) _⟩
def RatV (W:World) (v:Value) (q:Rat):Prop:=RatAt W v q.num q.den
theorem RatV.below {W W':World} {v:Value} {q:Rat} (h:RatV W v q) (hb:Below W.heap.size W W'):RatV W' v q:=RatAt.below h hb
theorem qcP {W:World} {v:Value} {z:Int} {d:Nat} (h:RatAt W v z d):∃(a:Option Addr) (n c:Nat) (b:Bool) (d':Option Addr) (e f:Nat),v=.agg #[.slice a n c,.bool b,.slice d' e f]:=by
 obtain⟨m,o,rfl,⟨am,bm,om,cm,n,M,rfl,_,_⟩,⟨ao,bo,oo,co,no,O,rfl,_,_⟩⟩:=h
 exact⟨am,n,cm,_,ao,no,co,rfl⟩
def RFit (q:Rat) (K:Nat):Prop:=Fit q.num.natAbs K∧Fit q.den K
theorem row_set3 {W:World} {g:Nat} {t:TypeId} (h:W.heap[g]? = some (.cells #[.slice none 0 0,.bool false,.slice none 0 0] t (0,0))) (a:Option Addr) (n c:Nat) (b:Bool) (d:Option Addr) (e f:Nat) :
  (((W.setCell ⟨g,0,none⟩ (.slice a n c)).setCell ⟨g,1,none⟩ (.bool b)).setCell ⟨g,2,none⟩ (.slice d e f)).heap[g]? = some (.cells #[.slice a n c,.bool b,.slice d e f] t (0,0)) :=
 heap_setCell_same _ g 2 _ t _ (heap_setCell_same _ g 1 _ t _ (heap_setCell_same _ g 0 _ t _ h))
theorem rat_set3 {W:World} {v:Value} {q:Rat} {g:Nat} {t:TypeId} (hi:RatV W v q) (h:W.heap[g]? = some (.cells #[.slice none 0 0,.bool false,.slice none 0 0] t (0,0))) (a:Option Addr) (n c:Nat) (b:Bool) (d:Option Addr) (e f:Nat) :
  RatV (((W.setCell ⟨g,0,none⟩ (.slice a n c)).setCell ⟨g,1,none⟩ (.bool b)).setCell ⟨g,2,none⟩ (.slice d e f)) v q:=by
 obtain⟨m,o,h1,h2,h3⟩:=hi
 have hk:W.grownBy (((W.setCell ⟨g,0,none⟩ (.slice a n c)).setCell ⟨g,1,none⟩ (.bool b)).setCell ⟨g,2,none⟩ (.slice d e f)) (some g):=qbO (qbO (frac.qbT W g 0 _) (frac.qbT _ g 1 _)) (frac.qbT _ g 2 _)
 exact⟨m,o,h1,qcf h2 hk h qdI,qcf h3 hk h qdI⟩
theorem qkh (p q:Rat) (K:Nat) (hK:K≤68719476736) (v u:Value) (w:World) (hv:RatV w v p) (hu:RatV w u q) (hp:RFit p K) (hq:RFit q K) :
  Calls Tryz.prog 86 #[v,u] w fun e w'=>∃r,e=.returned r∧Below w.heap.size w w'∧RatV w' r (p*q):=by
 obtain⟨mx,mX,rfl,hx,hX⟩:=hv
 obtain⟨my,mY,rfl,hy,hY⟩:=hu
 obtain⟨x,hxe⟩:∃x,p.num.natAbs=x:=⟨_,rfl⟩
 obtain⟨y,hye⟩:∃y,q.num.natAbs=y:=⟨_,rfl⟩
 obtain⟨X,hXe⟩:∃X,p.den=X:=⟨_,rfl⟩
 obtain⟨Y,hYe⟩:∃Y,q.den=Y:=⟨_,rfl⟩
 have hlow:=mul_low p.reduced q.reduced (qbm p.den_nz) (qbm q.den_nz)
 have hX0:0<X:=hXe▸qbm p.den_nz
 have hY0:0<Y:=hYe▸qbm q.den_nz
 obtain⟨fx,fX⟩:=hp
 obtain⟨fy,fY⟩:=hq
 rw [hxe] at hx fx
 rw [hye] at hy fy
 rw [hXe] at hX fX
 rw [hYe] at hY fY
 rw [hxe,hye,hXe,hYe] at hlow
 have hg0:0<x.gcd Y:=qbb _ hY0
 have hh0:0<y.gcd X:=qbb _ hX0
 have fg:Fit (x.gcd Y) K:=fY.le (Nat.gcd_le_right _ hY0)
 have fh:Fit (y.gcd X) K:=fX.le (Nat.gcd_le_right _ hX0)
 have hres:∀(W:World) (m o:Value),IntAt W m (if (decide (p.num<0) != decide (q.num<0))=true then -((x / x.gcd Y*(y / y.gcd X):Nat):Int) else ((x / x.gcd Y*(y / y.gcd X):Nat):Int))→MagAt W o (X / y.gcd X*(Y / x.gcd Y))→∃a n c b d e f,m=.agg #[.slice a n c,.bool b]∧o=.slice d e f∧RatV W (.agg #[.slice a n c,.bool b,.slice d e f]) (p*q):=by
  intro W m o hm ho
  obtain⟨zz,hzz⟩:∃zz,(if (decide (p.num<0) != decide (q.num<0))=true then -((x / x.gcd Y*(y / y.gcd X):Nat):Int) else ((x / x.gcd Y*(y / y.gcd X):Nat):Int))=zz:=⟨_,rfl⟩
  have hza:zz.natAbs=x / x.gcd Y*(y / y.gcd X):=by rw [←hzz];split <;> omega
  have hnd:X / y.gcd X*(Y / x.gcd Y)≠0:=by
   have h1:=Nat.div_pos (qbD hX0 (qaV y X)) hh0
   have h2:=Nat.div_pos (qbD hY0 (qaV x Y)) hg0
   exact qbq (qbF h1 h2)
  have hq:=rat_mul (p:=p) (q:=q) (z:=zz) (d:=X / y.gcd X*(Y / x.gcd Y)) hnd (by rw [hza];exact hlow.1) (by
   have h2:=hlow.2
   have e1:((x / x.gcd Y*(y / y.gcd X):Nat):Int)*(X*Y:Nat)=((x*y:Nat):Int)*(X / y.gcd X*(Y / x.gcd Y):Nat):=by rw [←qbz,←qbz,h2]
   have e2:p.num*q.num=if (decide (p.num<0) != decide (q.num<0))=true then -((x*y:Nat):Int) else ((x*y:Nat):Int):=by
    rw [←hxe,←hye];exact (frac.qmD p.num q.num).symm
   rw [hXe,hYe,e2,←hzz]
   split
   ·rw [qbs,qbs,e1]
   ·exact e1)
  rw [hzz] at hm
  obtain⟨a,n,c,b,rfl⟩:=frac.qbL hm
  obtain⟨m',hm1,hm2⟩:=hm
  obtain⟨ao,bo,oo,co,no,O,rfl,Io,hO⟩:=ho
  refine⟨a,n,c,b,ao,no,co,rfl,rfl,m',.slice ao no co,?_,?_,?_⟩
  ·simp only [qaT,qaX,qaR] at hm1
   rw [hq.1,←hm1.1,←hm1.2.1]
  ·rw [hq.1];exact hm2
  ·rw [hq.2];exact⟨ao,bo,oo,co,no,O,rfl,Io,hO⟩
 have HRES:=qH hres
 generalize decide (p.num<0)=b0 at *
 generalize decide (q.num<0)=b1 at *
 have HX:=qH (qA hx (qA hX (qA hy hY)))
 have HF:=qH (qA fx (qA fX (qA fy fY)))
 have HP:=qH (qA hX0 (qA hY0 (qA hg0 (qA hh0 (qA fg fh)))))
 have HK:=qH hK
 obtain⟨a0,_,_,c0,n0,_,rfl,_,_⟩:=hx
 obtain⟨d0,_,_,f0,e0,_,rfl,_,_⟩:=hX
 obtain⟨a1,_,_,c1,n1,_,rfl,_,_⟩:=hy
 obtain⟨d1,_,_,f1,e1,_,rfl,_,_⟩:=hY
 clear hlow hres hX0 hY0 hg0 hh0 fg fh fx fX fy fY hK hxe hye hXe hYe
 obtain⟨W1,hW1⟩:∃W1,W1=((w.alloc (.cells #[.slice a0 n0 c0,.bool b0,.slice d0 e0 f0] 138)).alloc (.cells #[.slice a1 n1 c1,.bool b1,.slice d1 e1 f1] 138)).alloc (.cells #[.slice none 0 0,.bool false,.slice none 0 0] 138):=⟨_,rfl⟩
 have hb1:Below w.heap.size w W1:=hW1▸qbK (qbK (qbK qB qN) qN) qN
 have hr0:W1.heap[w.heap.size]? = some (.cells #[.slice a0 n0 c0,.bool b0,.slice d0 e0 f0] 138 (0,0)):=by rw [hW1,qL _ _ _ (by simp only [qab];omega),qL _ _ _ (by simp only [qab];omega)];exact qM _ _ _ (by simp)
 have hr1:W1.heap[w.heap.size+1]? = some (.cells #[.slice a1 n1 c1,.bool b1,.slice d1 e1 f1] 138 (0,0)):=by rw [hW1,qL _ _ _ (by simp only [qab];omega)];exact qM _ _ _ (by simp)
 have hr2:W1.heap[w.heap.size+1+1]? = some (.cells #[.slice none 0 0,.bool false,.slice none 0 0] 138 (0,0)):=by rw [hW1];exact qM _ _ _ (by simp)
 have l2:w.heap.size+1+1<W1.heap.size:=(qG hr2).1
 have C00:∀W,Below (w.heap.size+1+1) W1 W→W.cell? ⟨w.heap.size,0,none⟩=some (.slice a0 n0 c0):=fun W h=>(h.cell (p:=⟨w.heap.size,0,none⟩) (by show w.heap.size<_;omega)).trans (qC _ _ 0 _ _ _ hr0)
 have C01:∀W,Below (w.heap.size+1+1) W1 W→W.cell? ⟨w.heap.size,1,none⟩=some (.bool b0):=fun W h=>(h.cell (p:=⟨w.heap.size,1,none⟩) (by show w.heap.size<_;omega)).trans (qC _ _ 1 _ _ _ hr0)
 have C02:∀W,Below (w.heap.size+1+1) W1 W→W.cell? ⟨w.heap.size,2,none⟩=some (.slice d0 e0 f0):=fun W h=>(h.cell (p:=⟨w.heap.size,2,none⟩) (by show w.heap.size<_;omega)).trans (qC _ _ 2 _ _ _ hr0)
 have C10:∀W,Below (w.heap.size+1+1) W1 W→W.cell? ⟨w.heap.size+1,0,none⟩=some (.slice a1 n1 c1):=fun W h=>(h.cell (p:=⟨w.heap.size+1,0,none⟩) (by show w.heap.size+1<_;omega)).trans (qC _ _ 0 _ _ _ hr1)
 have C11:∀W,Below (w.heap.size+1+1) W1 W→W.cell? ⟨w.heap.size+1,1,none⟩=some (.bool b1):=fun W h=>(h.cell (p:=⟨w.heap.size+1,1,none⟩) (by show w.heap.size+1<_;omega)).trans (qC _ _ 1 _ _ _ hr1)
 have C12:∀W,Below (w.heap.size+1+1) W1 W→W.cell? ⟨w.heap.size+1,2,none⟩=some (.slice d1 e1 f1):=fun W h=>(h.cell (p:=⟨w.heap.size+1,2,none⟩) (by show w.heap.size+1<_;omega)).trans (qC _ _ 2 _ _ _ hr1)
 have HR:=qH (qA hb1 hr2)
 have Hl2:=qH l2
 clear hr0 hr1 hr2 hb1
 go_enter Tryz.func86,Tryz.ntmps86
 go_wp2_with fail
 rw [←hW1]
 clear hW1
 refine (frac.qdJ x Y K (by have:=HK.out;omega) _ _ W1 (HX.out.1.below HR.out.1) (HX.out.2.2.2.below HR.out.1) HF.out.1 HF.out.2.2.2).mono ?_
 rintro e w2 ⟨vg,rfl,hb,hv⟩
 have Mw2_g:=qH hv
 have Hw2:Hid (Below w.heap.size w w2∧Below (w.heap.size+1+1) W1 w2):=qH ⟨HR.out.1.trans (hb.mono HR.out.1.size),hb.mono (qak Hl2.out)⟩
 have Rw2:=qH ((hb.block _ (qG HR.out.2).1).trans HR.out.2)
 obtain⟨sg,_,_,ug,tg,_,rfl,_,_⟩:=hv
 clear hb
 have k00:=C00 w2 Hw2.out.2
 have k01:=C01 w2 Hw2.out.2
 have k02:=C02 w2 Hw2.out.2
 have k10:=C10 w2 Hw2.out.2
 have k11:=C11 w2 Hw2.out.2
 have k12:=C12 w2 Hw2.out.2
 go_wp2_with fail
 refine (frac.qdJ y X K (by have:=HK.out;omega) _ _ w2 (HX.out.2.2.1.below Hw2.out.1) (HX.out.2.1.below Hw2.out.1) HF.out.2.2.1 HF.out.2.1).mono ?_
 rintro e w3 ⟨vh,rfl,hb,hv⟩
 have Mw3_g:=qH (Mw2_g.out.below hb)
 have Mw3_h:=qH hv
 have Hw3:Hid (Below w.heap.size w w3∧Below (w.heap.size+1+1) W1 w3):=qH ⟨Hw2.out.1.trans (hb.mono Hw2.out.1.size),(Hw2.out.2).trans (hb.mono (qaj (qak Hl2.out) (Hw2.out.2).size))⟩
 have Rw3:=qH ((hb.block _ (qG Rw2.out).1).trans Rw2.out)
 obtain⟨sh,_,_,uh,th,_,rfl,_,_⟩:=hv
 clear hb k00
 have k00:=C00 w3 Hw3.out.2
 clear k01
 have k01:=C01 w3 Hw3.out.2
 clear k02
 have k02:=C02 w3 Hw3.out.2
 clear k10
 have k10:=C10 w3 Hw3.out.2
 clear k11
 have k11:=C11 w3 Hw3.out.2
 clear k12
 have k12:=C12 w3 Hw3.out.2
 go_wp2_with fail
 refine (frac.qbZ x (x.gcd Y) K (by have:=HK.out;omega) _ _ w3 (HX.out.1.below Hw3.out.1) Mw3_g.out HF.out.1 HP.out.2.2.2.2.1 HP.out.2.2.1).mono ?_
 rintro e w4 ⟨va,_,rfl,hb,hv,_⟩
 have Mw4_g:=qH (Mw3_g.out.below hb)
 have Mw4_h:=qH (Mw3_h.out.below hb)
 have Mw4_a:=qH hv
 have Hw4:Hid (Below w.heap.size w w4∧Below (w.heap.size+1+1) W1 w4):=qH ⟨Hw3.out.1.trans (hb.mono Hw3.out.1.size),(Hw3.out.2).trans (hb.mono (qaj (qak Hl2.out) (Hw3.out.2).size))⟩
 have Rw4:=qH ((hb.block _ (qG Rw3.out).1).trans Rw3.out)
 obtain⟨sa,_,_,ua,ta,_,rfl,_,_⟩:=hv
 clear hb k00
 have k00:=C00 w4 Hw4.out.2
 clear k01
 have k01:=C01 w4 Hw4.out.2
 clear k02
 have k02:=C02 w4 Hw4.out.2
 clear k10
 have k10:=C10 w4 Hw4.out.2
 clear k11
 have k11:=C11 w4 Hw4.out.2
 clear k12
 have k12:=C12 w4 Hw4.out.2
 go_wp2_with fail
 refine (frac.qbZ X (y.gcd X) K (by have:=HK.out;omega) _ _ w4 (HX.out.2.1.below Hw4.out.1) Mw4_h.out HF.out.2.1 HP.out.2.2.2.2.2 HP.out.2.2.2.1).mono ?_
 rintro e w5 ⟨vb,_,rfl,hb,hv,_⟩
 have Mw5_g:=qH (Mw4_g.out.below hb)
 have Mw5_h:=qH (Mw4_h.out.below hb)
 have Mw5_a:=qH (Mw4_a.out.below hb)
 have Mw5_b:=qH hv
 have Hw5:Hid (Below w.heap.size w w5∧Below (w.heap.size+1+1) W1 w5):=qH ⟨Hw4.out.1.trans (hb.mono Hw4.out.1.size),(Hw4.out.2).trans (hb.mono (qaj (qak Hl2.out) (Hw4.out.2).size))⟩
 have Rw5:=qH ((hb.block _ (qG Rw4.out).1).trans Rw4.out)
 obtain⟨sb,_,_,ub,tb,_,rfl,_,_⟩:=hv
 clear hb k00
 have k00:=C00 w5 Hw5.out.2
 clear k01
 have k01:=C01 w5 Hw5.out.2
 clear k02
 have k02:=C02 w5 Hw5.out.2
 clear k10
 have k10:=C10 w5 Hw5.out.2
 clear k11
 have k11:=C11 w5 Hw5.out.2
 clear k12
 have k12:=C12 w5 Hw5.out.2
 go_wp2_with fail
 refine (frac.qbZ y (y.gcd X) K (by have:=HK.out;omega) _ _ w5 (HX.out.2.2.1.below Hw5.out.1) Mw5_h.out HF.out.2.2.1 HP.out.2.2.2.2.2 HP.out.2.2.2.1).mono ?_
 rintro e w6 ⟨vc,_,rfl,hb,hv,_⟩
 have Mw6_g:=qH (Mw5_g.out.below hb)
 have Mw6_h:=qH (Mw5_h.out.below hb)
 have Mw6_a:=qH (Mw5_a.out.below hb)
 have Mw6_b:=qH (Mw5_b.out.below hb)
 have Mw6_c:=qH hv
 have Hw6:Hid (Below w.heap.size w w6∧Below (w.heap.size+1+1) W1 w6):=qH ⟨Hw5.out.1.trans (hb.mono Hw5.out.1.size),(Hw5.out.2).trans (hb.mono (qaj (qak Hl2.out) (Hw5.out.2).size))⟩
 have Rw6:=qH ((hb.block _ (qG Rw5.out).1).trans Rw5.out)
 obtain⟨sc,_,_,uc,tc,_,rfl,_,_⟩:=hv
 clear hb k00
 have k00:=C00 w6 Hw6.out.2
 clear k01
 have k01:=C01 w6 Hw6.out.2
 clear k02
 have k02:=C02 w6 Hw6.out.2
 clear k10
 have k10:=C10 w6 Hw6.out.2
 clear k11
 have k11:=C11 w6 Hw6.out.2
 clear k12
 have k12:=C12 w6 Hw6.out.2
 go_wp2_with fail
 refine (frac.qbZ Y (x.gcd Y) K (by have:=HK.out;omega) _ _ w6 (HX.out.2.2.2.below Hw6.out.1) Mw6_g.out HF.out.2.2.2 HP.out.2.2.2.2.1 HP.out.2.2.1).mono ?_
 rintro e w7 ⟨vd,_,rfl,hb,hv,_⟩
 have Mw7_g:=qH (Mw6_g.out.below hb)
 have Mw7_h:=qH (Mw6_h.out.below hb)
 have Mw7_a:=qH (Mw6_a.out.below hb)
 have Mw7_b:=qH (Mw6_b.out.below hb)
 have Mw7_c:=qH (Mw6_c.out.below hb)
 have Mw7_d:=qH hv
 have Hw7:Hid (Below w.heap.size w w7∧Below (w.heap.size+1+1) W1 w7):=qH ⟨Hw6.out.1.trans (hb.mono Hw6.out.1.size),(Hw6.out.2).trans (hb.mono (qaj (qak Hl2.out) (Hw6.out.2).size))⟩
 have Rw7:=qH ((hb.block _ (qG Rw6.out).1).trans Rw6.out)
 obtain⟨sd,_,_,ud,td,_,rfl,_,_⟩:=hv
 clear hb k00
 have k00:=C00 w7 Hw7.out.2
 clear k01
 have k01:=C01 w7 Hw7.out.2
 clear k02
 have k02:=C02 w7 Hw7.out.2
 clear k10
 have k10:=C10 w7 Hw7.out.2
 clear k11
 have k11:=C11 w7 Hw7.out.2
 clear k12
 have k12:=C12 w7 Hw7.out.2
 have HT1:=qH (fun (W:World) (h:Below w7.heap.size w7 W)=>frac.qce (x / x.gcd Y) (y / y.gcd X) K K (by have:=HK.out;omega) (.slice sa ta ua) (.slice sc tc uc) W (Mw7_a.out.below h) (Mw7_c.out.below h) (HF.out.1.le (qaM _ _)) (HF.out.2.2.1.le (qaM _ _)))
 have HT2:=qH (fun (W:World) (h:Below w7.heap.size w7 W)=>frac.qce (X / y.gcd X) (Y / x.gcd Y) K K (by have:=HK.out;omega) (.slice sb tb ub) (.slice sd td ud) W (Mw7_b.out.below h) (Mw7_d.out.below h) (HF.out.2.1.le (qaM _ _)) (HF.out.2.2.2.le (qaM _ _)))
 have HS:=qH (fun (W:World) (m:Value) (h:MagAt W m (x / x.gcd Y*(y / y.gcd X)))=>frac.qbY (x / x.gcd Y*(y / y.gcd X)) (b0 != b1) m W h)
 have hst:Below (w.heap.size+1+1) W1 w7:=Hw7.out.2
 have hstD:Below (w.heap.size+1+1) W1 w7.drew:=hst.drew
 have hs0:w.heap.size+1+1<w7.heap.size:=qah Hl2.out hst.size
 have Hs0:=qH hs0
 clear hs0
 go_wp2_with fail
 go_region_held3 (fun W=>Below (w.heap.size+1+1) W1 W) (first | with_reducible exact hst | with_reducible exact hstD | with_reducible exact HB10 | with_reducible exact HB9 | with_reducible exact HB8 | ((iterate 3 refine Below.setCell ?_ (by exact qad _) _);exact HB10)) (first | (go_at_call_of 155 (Value.slice sa ta ua);refine (HT1.out _ (qB.drew)).mono ?_;rintro e w8 ⟨p8,rfl,hb8,hp8⟩;have HB8:Below (w.heap.size+1+1) W1 w8:=hstD.trans (hb8.mono (qak Hs0.out));have HP8:=qH (qA hp8 (qA ((hb8.block _ Hs0.out).trans Rw7.out) (((Below.refl w7.heap.size w7).drew).trans hb8)));clear hb8 hp8) | (go_at_call 95;refine (HS.out _ _ HP8.out.1).mono ?_;rintro e w9 ⟨p9,rfl,hb9,hp9⟩;have HB9:Below (w.heap.size+1+1) W1 w9:=HB8.trans (hb9.mono (qaj (qak Hl2.out) HB8.size));obtain⟨a9,n9,c9,b9,rfl⟩:=frac.qbL hp9;have HP9:=qH (qA hp9 (qA ((hb9.block _ (qG HP8.out.2.1).1).trans HP8.out.2.1) (HP8.out.2.2.trans (hb9.mono HP8.out.2.2.size))));clear hb9 hp9) | (go_at_call_of 155 (Value.slice sb tb ub);refine (HT2.out _ HP9.out.2.2).mono ?_;rintro e w10 ⟨p10,rfl,hb10,hp10⟩;have HB10:Below (w.heap.size+1+1) W1 w10:=HB9.trans (hb10.mono (qaj (qak Hl2.out) HB9.size));obtain⟨a8,n8,c8,b8,d8,e8,f8,hm8,ho8,hv8⟩:=HRES.out w10 _ _ (HP9.out.1.below hb10) hp10;have hz10:=(hb10.block _ (qG HP9.out.2.1).1).trans HP9.out.2.1;subst ho8;have e0:=qC w10 _ 0 _ _ _ hz10;have e1:=qC w10 _ 1 _ _ _ hz10;have e2:=qC w10 _ 2 _ _ _ hz10;have f0:=qF w10 _ 0 _ _ hz10;have f1:=qF w10 _ 1 _ _ hz10;have f2:=qF w10 _ 2 _ _ hz10;have hm8':a8=a9∧n8=n9∧c8=c9∧b8=b9:=(by simp only [qaT,qaX,qaR,qby,qbH] at hm8;exact⟨hm8.1.1.symm,hm8.1.2.1.symm,hm8.1.2.2.symm,hm8.2.1.symm⟩);obtain⟨rfl,rfl,rfl,rfl⟩:=hm8';have HP10:=qH (qA hv8 hz10);clear hb10 hp10 hm8 hv8 hz10))
 go_wp2_with fail
 exact qR (v:=.agg #[.slice a8 n8 c8,.bool b8,.slice d8 e8 f8]) (qbP rfl _ _ (w.heap.size+1+1) 138 _ _ rfl (row_set3 HP10.out.2 a8 n8 c8 b8 d8 e8 f8) Tryz.underlying138 rfl 3 (by kernel_rfl) rfl) rfl ⟨_,rfl,HR.out.1.trans ((((HB10.setCell (by exact qad _) _).setCell (by exact qad _) _).setCell (by exact qad _) _).mono (by omega)),rat_set3 HP10.out.1 HP10.out.2 _ _ _ _ _ _ _⟩
def One (W2 W:World) (g:Nat) (v:Option Addr×Nat×Nat×Bool) (z:Int):Prop :=
 W.heap[g]? = some (.cells #[.slice v.1 v.2.1 v.2.2.1,.bool v.2.2.2] 136 (0,0))∧IntAt W (.agg #[.slice v.1 v.2.1 v.2.2.1,.bool v.2.2.2]) z∧Below W2.heap.size W2 W
theorem qfS {W:World} {v:Value} {q:Rat} {g:Nat} {t:TypeId} {cs':Array Value} (hi:RatV W v q) (h:W.heap[g]? = some (.cells #[.slice none 0 0,.bool false,.slice none 0 0] t (0,0))):RatV (W.setRow g cs') v q:=by
 obtain⟨m,o,h1,h2,h3⟩:=hi
 exact⟨m,o,h1,qcK h2 h qdI,qcK h3 h qdI⟩
theorem one_a {W2 W:World} {a:Option Addr} {n c:Nat} {b:Bool} {z:Int} (h:IntAt W (.agg #[.slice a n c,.bool b]) z) (hb:Below W2.heap.size W2 W) :
  One W2 (W.alloc (.cells #[.slice a n c,.bool b] 136)) W.heap.size (a,n,c,b) z :=
 ⟨qM _ _ _ rfl,h.below (qbK qB qN),qbK hb qN⟩
theorem one_p {W2 W:World} {g:Nat} {a:Option Addr} {n c:Nat} {b:Bool} {z:Int} (h:IntAt W (.agg #[.slice a n c,.bool b]) z) (hb:Below W2.heap.size W2 W) (hg:W2.heap.size≤g) (hz:W.heap[g]? = some (.cells #[.slice none 0 0,.bool false] 136 (0,0))) :
  One W2 ((W.setCell ⟨g,0,none⟩ (.slice a n c)).setCell ⟨g,1,none⟩ (.bool b)) g (a,n,c,b) z:=by
 obtain⟨p1,p2,p3⟩:=qgU hz a n c b
 exact⟨p1,p3 _ _ _ h,(hb.setCell (by exact hg) _).setCell (by exact hg) _⟩
theorem radd_any (p q:Rat) (K:Nat) (hK:K≤34359738368) (v u:Value) (w:World) (hv:RatV w v p) (hu:RatV w u q) (hp:RFit p K) (hq:RFit q K) :
  Calls Tryz.prog 87 #[v,u] w fun e w'=>∃r,e=.returned r∧Below w.heap.size w w'∧RatV w' r (p+q):=by
 obtain⟨mx,mX,rfl,hx,hX⟩:=hv
 obtain⟨my,mY,rfl,hy,hY⟩:=hu
 obtain⟨x,hxe⟩:∃x,p.num=x:=⟨_,rfl⟩
 obtain⟨y,hye⟩:∃y,q.num=y:=⟨_,rfl⟩
 obtain⟨X,hXe⟩:∃X,p.den=X:=⟨_,rfl⟩
 obtain⟨Y,hYe⟩:∃Y,q.den=Y:=⟨_,rfl⟩
 have hlow0:=add_low p.reduced q.reduced (qbm p.den_nz)
 have hX0:0<X:=hXe▸qbm p.den_nz
 have hY0:0<Y:=hYe▸qbm q.den_nz
 obtain⟨fx,fX⟩:=hp
 obtain⟨fy,fY⟩:=hq
 rw [hxe] at hx fx ⊢
 rw [hye] at hy fy ⊢
 rw [hXe] at hX fX
 rw [hYe] at hY fY
 rw [hxe,hye,hXe,hYe] at hlow0
 have hg0:0<X.gcd Y:=Nat.gcd_pos_of_pos_left _ hX0
 have fg:Fit (X.gcd Y) K:=fY.le (Nat.gcd_le_right _ hY0)
 obtain⟨l,hl⟩:∃l,Y / X.gcd Y=l:=⟨_,rfl⟩
 obtain⟨r,hr⟩:∃r,X / X.gcd Y=r:=⟨_,rfl⟩
 have fl:Fit l K:=hl▸fY.le (qaM _ _)
 have fr:Fit r K:=hr▸fX.le (qaM _ _)
 have hr0:0<r:=hr▸Nat.div_pos (qbD hX0 (qbG X Y)) hg0
 obtain⟨S,hS⟩:∃S:Int,x*l+y*r=S:=⟨_,rfl⟩
 have hlow:=hlow0 S (by rw [hl,hr];exact hS.symm)
 rw [hr] at hlow
 have g1:Fit (x*l).natAbs (K+K):=by rw [qaz,qan];exact fx.mul fl
 have g2:Fit (y*r).natAbs (K+K):=by rw [qaz,qan];exact fy.mul fr
 have fS:Fit S.natAbs (K+K+1):=by rw [←hS];exact (Fit.add g1 g2).le (qbC _ _)
 have hh0:0<S.natAbs.gcd (X.gcd Y):=qbb _ hg0
 have fh:Fit (S.natAbs.gcd (X.gcd Y)) K:=fg.le (Nat.gcd_le_right _ hg0)
 obtain⟨h,hh⟩:∃h,S.natAbs.gcd (X.gcd Y)=h:=⟨_,rfl⟩
 rw [hh] at hlow hh0 fh
 have hhg:h∣Y:=hh▸Nat.dvd_trans (qaV _ _) (qaV _ _)
 have hres:∀(W:World) (m o:Value),IntAt W m (if decide (S<0)=true then -((S.natAbs / h:Nat):Int) else ((S.natAbs / h:Nat):Int))→MagAt W o (r*(Y / h))→∃a n c b d e f,m=.agg #[.slice a n c,.bool b]∧o=.slice d e f∧RatV W (.agg #[.slice a n c,.bool b,.slice d e f]) (p+q):=by
  intro W m o hm ho
  have hsg:(if decide (S<0)=true then -((S.natAbs / h:Nat):Int) else ((S.natAbs / h:Nat):Int))=S.tdiv (h:Int):=by
   have:=frac.qmC S (h:Int)
   rw [qU (by omega:¬(h:Int)<0),Bool.bne_false,qan] at this
   exact this
  rw [hsg] at hm
  have hza:(S.tdiv (h:Int)).natAbs=S.natAbs / h:=by rw [Int.natAbs_tdiv,qan];rfl
  have hnd:r*(Y / h)≠0:=qbq (qbF hr0 (Nat.div_pos (qbD hY0 hhg) hh0))
  have hq:=rat_add (p:=p) (q:=q) (z:=S.tdiv (h:Int)) (d:=r*(Y / h)) hnd (by rw [hza];exact hlow.1) (by
   rw [hxe,hye,hXe,hYe];exact hlow.2)
  obtain⟨a,n,c,b,rfl⟩:=frac.qbL hm
  obtain⟨m',hm1,hm2⟩:=hm
  obtain⟨ao,bo,oo,co,no,O,rfl,Io,hO⟩:=ho
  refine⟨a,n,c,b,ao,no,co,rfl,rfl,m',.slice ao no co,?_,?_,?_⟩
  ·simp only [qaT,qaX,qaR] at hm1
   rw [hq.1,←hm1.1,←hm1.2.1]
  ·rw [hq.1];exact hm2
  ·rw [hq.2];exact⟨ao,bo,oo,co,no,O,rfl,Io,hO⟩
 have HRES:=qH hres
 have hix:∀W a n c,MagAt W (.slice a n c) x.natAbs→IntAt W (.agg #[.slice a n c,.bool (decide (x<0))]) x:=fun W a n c h=>⟨_,rfl,h⟩
 have hiy:∀W a n c,MagAt W (.slice a n c) y.natAbs→IntAt W (.agg #[.slice a n c,.bool (decide (y<0))]) y:=fun W a n c h=>⟨_,rfl,h⟩
 generalize decide (x<0)=b0 at *
 generalize decide (y<0)=b1 at *
 have HX:=qH (qA hx (qA hX (qA hy hY)))
 have HF:=qH (qA fx (qA fX (qA fy fY)))
 have HF2:=qH (qA fl (qA fr (qA g1 (qA g2 (qA fS fh)))))
 have HP:=qH (qA hX0 (qA hY0 (qA hg0 (qA hh0 fg))))
 have HE:=qH (qA hl (qA hr (qA hS hh)))
 have HK:=qH hK
 have HIX:=qH hix
 have HIY:=qH hiy
 obtain⟨a0,_,_,c0,n0,_,rfl,_,_⟩:=hx
 obtain⟨d0,_,_,f0,e0,_,rfl,_,_⟩:=hX
 obtain⟨a1,_,_,c1,n1,_,rfl,_,_⟩:=hy
 obtain⟨d1,_,_,f1,e1,_,rfl,_,_⟩:=hY
 clear hlow hlow0 hres hX0 hY0 hg0 hh0 fg fh fx fX fy fY hK hxe hye hXe hYe hl hr hS hh fl fr fS g1 g2 hr0 hhg hix hiy
 obtain⟨W1,hW1⟩:∃W1,W1=((w.alloc (.cells #[.slice a0 n0 c0,.bool b0,.slice d0 e0 f0] 138)).alloc (.cells #[.slice a1 n1 c1,.bool b1,.slice d1 e1 f1] 138)).alloc (.cells #[.slice none 0 0,.bool false,.slice none 0 0] 138):=⟨_,rfl⟩
 have hb1:Below w.heap.size w W1:=hW1▸qbK (qbK (qbK qB qN) qN) qN
 have hr0:W1.heap[w.heap.size]? = some (.cells #[.slice a0 n0 c0,.bool b0,.slice d0 e0 f0] 138 (0,0)):=by rw [hW1,qL _ _ _ (by simp only [qab];omega),qL _ _ _ (by simp only [qab];omega)];exact qM _ _ _ (by simp)
 have hr1:W1.heap[w.heap.size+1]? = some (.cells #[.slice a1 n1 c1,.bool b1,.slice d1 e1 f1] 138 (0,0)):=by rw [hW1,qL _ _ _ (by simp only [qab];omega)];exact qM _ _ _ (by simp)
 have hr2:W1.heap[w.heap.size+1+1]? = some (.cells #[.slice none 0 0,.bool false,.slice none 0 0] 138 (0,0)):=by rw [hW1];exact qM _ _ _ (by simp)
 have l2:w.heap.size+1+1<W1.heap.size:=(qG hr2).1
 have C00:∀W,Below (w.heap.size+1+1) W1 W→W.cell? ⟨w.heap.size,0,none⟩=some (.slice a0 n0 c0):=fun W h=>(h.cell (p:=⟨w.heap.size,0,none⟩) (by show w.heap.size<_;omega)).trans (qC _ _ 0 _ _ _ hr0)
 have C01:∀W,Below (w.heap.size+1+1) W1 W→W.cell? ⟨w.heap.size,1,none⟩=some (.bool b0):=fun W h=>(h.cell (p:=⟨w.heap.size,1,none⟩) (by show w.heap.size<_;omega)).trans (qC _ _ 1 _ _ _ hr0)
 have C02:∀W,Below (w.heap.size+1+1) W1 W→W.cell? ⟨w.heap.size,2,none⟩=some (.slice d0 e0 f0):=fun W h=>(h.cell (p:=⟨w.heap.size,2,none⟩) (by show w.heap.size<_;omega)).trans (qC _ _ 2 _ _ _ hr0)
 have C10:∀W,Below (w.heap.size+1+1) W1 W→W.cell? ⟨w.heap.size+1,0,none⟩=some (.slice a1 n1 c1):=fun W h=>(h.cell (p:=⟨w.heap.size+1,0,none⟩) (by show w.heap.size+1<_;omega)).trans (qC _ _ 0 _ _ _ hr1)
 have C11:∀W,Below (w.heap.size+1+1) W1 W→W.cell? ⟨w.heap.size+1,1,none⟩=some (.bool b1):=fun W h=>(h.cell (p:=⟨w.heap.size+1,1,none⟩) (by show w.heap.size+1<_;omega)).trans (qC _ _ 1 _ _ _ hr1)
 have C12:∀W,Below (w.heap.size+1+1) W1 W→W.cell? ⟨w.heap.size+1,2,none⟩=some (.slice d1 e1 f1):=fun W h=>(h.cell (p:=⟨w.heap.size+1,2,none⟩) (by show w.heap.size+1<_;omega)).trans (qC _ _ 2 _ _ _ hr1)
 have HR:=qH (qA hb1 hr2)
 have Hl2:=qH l2
 clear hr0 hr1 hr2 hb1
 go_enter Tryz.func87,Tryz.ntmps87
 go_wp2_with fail
 rw [←hW1]
 clear hW1
 refine (frac.qdJ X Y K (by have:=HK.out;omega) _ _ W1 (HX.out.2.1.below HR.out.1) (HX.out.2.2.2.below HR.out.1) HF.out.2.1 HF.out.2.2.2).mono ?_
 rintro e w2 ⟨vg,rfl,hb,hv⟩
 have Mw2_g:=qH hv
 have Hw2:Hid (Below w.heap.size w w2∧Below (w.heap.size+1+1) W1 w2):=qH ⟨HR.out.1.trans (hb.mono HR.out.1.size),hb.mono (qak Hl2.out)⟩
 have Rw2:=qH ((hb.block _ (qG HR.out.2).1).trans HR.out.2)
 obtain⟨sg,_,_,ug,tg,_,rfl,_,_⟩:=hv
 clear hb
 have k00:=C00 w2 Hw2.out.2
 have k01:=C01 w2 Hw2.out.2
 have k02:=C02 w2 Hw2.out.2
 have k10:=C10 w2 Hw2.out.2
 have k11:=C11 w2 Hw2.out.2
 have k12:=C12 w2 Hw2.out.2
 go_wp2_with fail
 refine (frac.qbZ Y (X.gcd Y) K (by have:=HK.out;omega) _ _ w2 (HX.out.2.2.2.below Hw2.out.1) Mw2_g.out HF.out.2.2.2 HP.out.2.2.2.2 HP.out.2.2.1).mono ?_
 rintro e w3 ⟨vl,_,rfl,hb,hv,_⟩
 rw [HE.out.1] at hv
 have Mw3_g:=qH (Mw2_g.out.below hb)
 have Mw3_l:=qH hv
 have Hw3:Hid (Below w.heap.size w w3∧Below (w.heap.size+1+1) W1 w3):=qH ⟨Hw2.out.1.trans (hb.mono Hw2.out.1.size),(Hw2.out.2).trans (hb.mono (qaj (qak Hl2.out) (Hw2.out.2).size))⟩
 have Rw3:=qH ((hb.block _ (qG Rw2.out).1).trans Rw2.out)
 obtain⟨sl,_,_,ul,tl,_,rfl,_,_⟩:=hv
 clear hb k00
 have k00:=C00 w3 Hw3.out.2
 clear k01
 have k01:=C01 w3 Hw3.out.2
 clear k02
 have k02:=C02 w3 Hw3.out.2
 clear k10
 have k10:=C10 w3 Hw3.out.2
 clear k11
 have k11:=C11 w3 Hw3.out.2
 clear k12
 have k12:=C12 w3 Hw3.out.2
 go_wp2_with fail
 refine (frac.qbZ X (X.gcd Y) K (by have:=HK.out;omega) _ _ w3 (HX.out.2.1.below Hw3.out.1) Mw3_g.out HF.out.2.1 HP.out.2.2.2.2 HP.out.2.2.1).mono ?_
 rintro e w4 ⟨vr,_,rfl,hb,hv,_⟩
 rw [HE.out.2.1] at hv
 have Mw4_g:=qH (Mw3_g.out.below hb)
 have Mw4_l:=qH (Mw3_l.out.below hb)
 have Mw4_r:=qH hv
 have Hw4:Hid (Below w.heap.size w w4∧Below (w.heap.size+1+1) W1 w4):=qH ⟨Hw3.out.1.trans (hb.mono Hw3.out.1.size),(Hw3.out.2).trans (hb.mono (qaj (qak Hl2.out) (Hw3.out.2).size))⟩
 have Rw4:=qH ((hb.block _ (qG Rw3.out).1).trans Rw3.out)
 obtain⟨sr,_,_,ur,tr,_,rfl,_,_⟩:=hv
 clear hb k00
 have k00:=C00 w4 Hw4.out.2
 clear k01
 have k01:=C01 w4 Hw4.out.2
 clear k02
 have k02:=C02 w4 Hw4.out.2
 clear k10
 have k10:=C10 w4 Hw4.out.2
 clear k11
 have k11:=C11 w4 Hw4.out.2
 clear k12
 have k12:=C12 w4 Hw4.out.2
 have hst:Below w4.heap.size w4 w4:=Below.refl _ _
 have hstD:Below w4.heap.size w4 w4.drew:=hst.drew
 have hdr:∀W:World,W.drew.heap.size=W.heap.size:=fun _=>rfl
 have hs4:w.heap.size+1+1<w4.heap.size:=qah Hl2.out Hw4.out.2.size
 have D00:∀W,Below w4.heap.size w4 W→W.cell? ⟨w.heap.size,0,none⟩=some (.slice a0 n0 c0):=fun W h=>C00 W (Hw4.out.2.trans (h.mono (qak hs4)))
 have D01:∀W,Below w4.heap.size w4 W→W.cell? ⟨w.heap.size,1,none⟩=some (.bool b0):=fun W h=>C01 W (Hw4.out.2.trans (h.mono (qak hs4)))
 have D10:∀W,Below w4.heap.size w4 W→W.cell? ⟨w.heap.size+1,0,none⟩=some (.slice a1 n1 c1):=fun W h=>C10 W (Hw4.out.2.trans (h.mono (qak hs4)))
 have D11:∀W,Below w4.heap.size w4 W→W.cell? ⟨w.heap.size+1,1,none⟩=some (.bool b1):=fun W h=>C11 W (Hw4.out.2.trans (h.mono (qak hs4)))
 have HC:=qH (qA C00 (qA C01 (qA C02 (qA C10 (qA C11 C12)))))
 clear C00 C01 C02 C10 C11 C12 k00 k01 k02 k10 k11 k12
 go_upto_region 4 with fail
 go_cut [10] (fun x10 W=>∃(g7:Nat) (a7:Option Addr) (n7 c7:Nat) (b7:Bool),x10=.pointer (some ⟨g7,0,none⟩)∧One w4 W g7 (a7,n7,c7,b7) S)
 case first =>
  go_region_held3 (fun W=>Below w4.heap.size w4 W) (first | with_reducible exact hst | with_reducible exact hstD | with_reducible exact HB7 | with_reducible exact HB6 | with_reducible exact HB5 | ((repeat (first | refine Below.setCell ?_ (by first | exact qad _ | exact HB7.size | exact HB6.size | exact HB5.size | exact qap qN) _ | refine qbK ?_ qN | refine Below.drew ?_));first | exact HB7 | exact HB6 | exact HB5 | exact hst)) (first | (go_at_call_of 133 (Value.slice sl tl ul);refine (frac.qcB x l K K (by have:=HK.out;omega) _ _ _ (HIX.out _ _ _ _ (HX.out.1.below (Hw4.out.1.trans (Below.mono (by ((repeat (first | refine Below.setCell ?_ (by first | exact qad _ | exact HB7.size | exact HB6.size | exact HB5.size | exact qap qN) _ | refine qbK ?_ qN | refine Below.drew ?_));first | exact hst)) Hw4.out.1.size)))) (Mw4_l.out.below (by ((repeat (first | refine Below.setCell ?_ (by first | exact qad _ | exact HB7.size | exact HB6.size | exact HB5.size | exact qap qN) _ | refine qbK ?_ qN | refine Below.drew ?_));first | exact hst))) HF.out.1 HF2.out.1).mono ?_;rintro e w5 ⟨p5,rfl,hb5,hp5⟩;have HB5:Below w4.heap.size w4 w5:=bjoin (by ((repeat (first | refine Below.setCell ?_ (by first | exact qad _ | exact HB7.size | exact HB6.size | exact HB5.size | exact qap qN) _ | refine qbK ?_ qN | refine Below.drew ?_));first | exact hst)) hb5;obtain⟨a5,n5,c5,b5,rfl⟩:=frac.qbL hp5;obtain⟨k5,k5f⟩:=bcell hb5;have Z5:=qH (zkeep hb5);have s5:_≤_:=hb5.size;(try simp only [qab,hdr] at s5);have I5:=qH hp5;(try have q5:w4.heap.size<w5.heap.size:=by omega);clear hb5 hp5) | (go_at_call_of 133 (Value.slice sr tr ur);refine (frac.qcB y r K K (by have:=HK.out;omega) _ _ _ (HIY.out _ _ _ _ (HX.out.2.2.1.below (Hw4.out.1.trans (Below.mono (by ((repeat (first | refine Below.setCell ?_ (by first | exact qad _ | exact HB7.size | exact HB6.size | exact HB5.size | exact qap qN) _ | refine qbK ?_ qN | refine Below.drew ?_));first | exact HB5)) Hw4.out.1.size)))) (Mw4_r.out.below (by ((repeat (first | refine Below.setCell ?_ (by first | exact qad _ | exact HB7.size | exact HB6.size | exact HB5.size | exact qap qN) _ | refine qbK ?_ qN | refine Below.drew ?_));first | exact HB5))) HF.out.2.2.1 HF2.out.2.1).mono ?_;rintro e w6 ⟨p6,rfl,hb6,hp6⟩;have HB6:Below w4.heap.size w4 w6:=bjoin (by ((repeat (first | refine Below.setCell ?_ (by first | exact qad _ | exact HB7.size | exact HB6.size | exact HB5.size | exact qap qN) _ | refine qbK ?_ qN | refine Below.drew ?_));first | exact HB5)) hb6;obtain⟨a6,n6,c6,b6,rfl⟩:=frac.qbL hp6;obtain⟨k6,k6f⟩:=bcell hb6;have Z6:=qH (zkeep hb6);have s6:_≤_:=hb6.size;(try simp only [qab] at s6);have J6:Hid (IntAt w6 _ _):=qH (by first | exact I5.out.below hb6 | exact (I5.out.below (qbK qB qN)).below hb6);have I6:=qH hp6;(try have q6:w4.heap.size<w6.heap.size:=by omega);(try have r6:w5.heap.size<w6.heap.size:=by omega);clear hb6 hp6) | (go_at_call 134;refine (frac.qdE (x*(l:Int)) (y*(r:Int)) (K+K) (by have:=HK.out;omega) _ _ _ (by first | exact J6.out | exact J6.out.below (qbK qB qN)) (by first | exact I6.out | exact I6.out.below (qbK qB qN)) HF2.out.2.2.1 HF2.out.2.2.2.1).mono ?_;rintro e w7 ⟨p7,rfl,hb7,hp7⟩;rw [HE.out.2.2.1] at hp7;have HB7:Below w4.heap.size w4 w7:=bjoin (by ((repeat (first | refine Below.setCell ?_ (by first | exact qad _ | exact HB7.size | exact HB6.size | exact HB5.size | exact qap qN) _ | refine qbK ?_ qN | refine Below.drew ?_));first | exact HB6)) hb7;obtain⟨a7,n7,c7,b7,rfl⟩:=frac.qbL hp7;obtain⟨k7,k7f⟩:=bcell hb7;have Z7:=qH (zkeep hb7);have s7:_≤_:=hb7.size;(try simp only [qab] at s7);have I7:=qH hp7;(try have q7:w4.heap.size<w7.heap.size:=by omega);(try have r7:w5.heap.size<w7.heap.size:=by omega);(try have t7:w6.heap.size<w7.heap.size:=by omega);clear hb7 hp7))
  all_goals go_wp2_with fail
  all_goals go_meet
  all_goals refine⟨_,a7,n7,c7,b7,rfl,?_⟩
  all_goals first
   | with_reducible exact one_a I7.out HB7
   | (with_reducible refine one_p I7.out HB7 ?_ ?_;(first | exact qad _ | exact HB5.size | exact HB6.size | exact HB7.size);(refine Z7.out _ _ ?_;first | (refine qM _ _ _ ?_;((try simp only) <;> omega)) | (refine Z6.out _ _ ?_;first | (refine qM _ _ _ ?_;((try simp only) <;> omega)) | (refine Z5.out _ _ ?_;(try with_reducible refine zdrew ?_);(refine qM _ _ _ ?_;((try simp only) <;> omega))))))
 case rest =>
  obtain⟨g7,a7,n7,c7,b7,rfl,h7,i7,hb7⟩:=hcut
  dsimp only at h7 i7
  obtain⟨m7,hm7,hg7⟩:=i7
  have e7:m7=.slice a7 n7 c7∧b7=decide (S<0):=by
   simp only [qaT,qaX,qaR,qbH] at hm7
   exact⟨hm7.1.symm,hm7.2.1⟩
  obtain⟨rfl,hb7v⟩:=e7
  have HG7:=qH (qA hg7 (qA h7 (qA hb7 hb7v)))
  have HB:=qH (qA (Hw4.out.1.trans (hb7.mono Hw4.out.1.size)) (qA (Hw4.out.2.trans (hb7.mono (qak hs4))) ((hb7.block _ (qG Rw4.out).1).trans Rw4.out)))
  have Mg:=qH (Mw4_g.out.below hb7)
  have Mr:=qH (Mw4_r.out.below hb7)
  have q0:=qC wc _ 0 _ _ _ h7
  clear hm7 hg7 h7 hb7 hb7v D00 D01 D10 D11
  go_wp2_with fail
  refine (frac.qdJ S.natAbs (X.gcd Y) (K+K+1) (by have:=HK.out;omega) _ _ wc HG7.out.1 Mg.out HF2.out.2.2.2.2.1 (HP.out.2.2.2.2.mono (by omega))).mono ?_
  rintro e w8 ⟨vh,rfl,hb,hv⟩
  rw [HE.out.2.2.2] at hv
  have Mh8:=qH hv
  have MS8:=qH (HG7.out.1.below hb)
  have Mr8:=qH (Mr.out.below hb)
  have H8:=qH (qA (HB.out.1.trans (hb.mono HB.out.1.size)) (qA (HB.out.2.1.trans (hb.mono (qaj (qak Hl2.out) HB.out.2.1.size))) (qA ((hb.block _ (qG HB.out.2.2).1).trans HB.out.2.2) ((hb.block _ (qG HG7.out.2.1).1).trans HG7.out.2.1))))
  have q0:=qC w8 _ 0 _ _ _ H8.out.2.2.2
  obtain⟨sh,_,_,uh,th,_,rfl,_,_⟩:=hv
  clear hb
  go_wp2_with fail
  refine (frac.qbZ S.natAbs h (K+K+1) (by have:=HK.out;omega) _ _ w8 MS8.out Mh8.out HF2.out.2.2.2.2.1 (HF2.out.2.2.2.2.2.mono (by omega)) HP.out.2.2.2.1).mono ?_
  rintro e w9 ⟨vn,_,rfl,hb,hv,_⟩
  have Mh9:=qH (Mh8.out.below hb)
  have Mn9:=qH hv
  have Mr9:=qH (Mr8.out.below hb)
  have H9:=qH (qA (H8.out.1.trans (hb.mono H8.out.1.size)) (qA (H8.out.2.1.trans (hb.mono (qaj (qak Hl2.out) H8.out.2.1.size))) (qA ((hb.block _ (qG H8.out.2.2.1).1).trans H8.out.2.2.1) ((hb.block _ (qG H8.out.2.2.2).1).trans H8.out.2.2.2))))
  have k12:=HC.out.2.2.2.2.2 w9 H9.out.2.1
  have q1:=qC w9 _ 1 _ _ _ H9.out.2.2.2
  obtain⟨sn,_,_,un,tn,_,rfl,_,_⟩:=hv
  clear hb q0
  go_wp2_with fail
  refine (frac.qbZ Y h K (by have:=HK.out;omega) _ _ w9 (HX.out.2.2.2.below H9.out.1) Mh9.out HF.out.2.2.2 HF2.out.2.2.2.2.2 HP.out.2.2.2.1).mono ?_
  rintro e w10 ⟨vt,_,rfl,hb,hv,_⟩
  have Mt10:=qH hv
  have Mn10:=qH (Mn9.out.below hb)
  have Mr10:=qH (Mr9.out.below hb)
  have H10:=qH (qA (H9.out.1.trans (hb.mono H9.out.1.size)) (qA ((hb.block _ (qG H9.out.2.2.1).1).trans H9.out.2.2.1) ((hb.block _ (qG H9.out.2.2.2).1).trans H9.out.2.2.2)))
  have q1:=qC w10 _ 1 _ _ _ H10.out.2.2
  obtain⟨st,_,_,ut,tt,_,rfl,_,_⟩:=hv
  clear hb k12
  go_wp2_with fail
  refine (frac.qbY (S.natAbs / h) b7 _ w10 Mn10.out).mono ?_
  rintro e w11 ⟨v11,rfl,hb,hv⟩
  rw [HG7.out.2.2.2] at hv
  have I11:=qH hv
  have Mt11:=qH (Mt10.out.below hb)
  have Mr11:=qH (Mr10.out.below hb)
  have H11:=qH (qA (H10.out.1.trans (hb.mono H10.out.1.size)) ((hb.block _ (qG H10.out.2.1).1).trans H10.out.2.1))
  obtain⟨a9,n9,c9,b9,rfl⟩:=frac.qbL hv
  clear hb hv q1
  go_wp2_with fail
  refine (frac.qce r (Y / h) K K (by have:=HK.out;omega) _ _ w11 Mr11.out Mt11.out HF2.out.2.1 (HF.out.2.2.2.le (qaM _ _))).mono ?_
  rintro e w12 ⟨v12,rfl,hb,hv⟩
  obtain⟨a8,n8,c8,b8,d8,e8,f8,hm8,ho8,hv8⟩:=HRES.out w12 _ _ (I11.out.below hb) hv
  have hm8':a8=a9∧n8=n9∧c8=c9∧b8=b9:=by
   simp only [qaT,qaX,qaR,qby,qbH] at hm8
   exact⟨hm8.1.1.symm,hm8.1.2.1.symm,hm8.1.2.2.symm,hm8.2.1.symm⟩
  obtain⟨rfl,rfl,rfl,rfl⟩:=hm8'
  subst ho8
  have H12:=qH (qA ((hb.block _ (qG H11.out.2).1).trans H11.out.2) (qA (H11.out.1.trans (hb.mono H11.out.1.size)) hv8))
  clear hb hv hm8 hv8
  go_wp2_with ((with_reducible refine wpList_store_row rfl 138 _ _ rfl (w.heap.size+1+1) #[.slice a8 n8 c8,.bool b8,.slice d8 e8 f8] ?_ ?_ 138 _ H12.out.1 3 ?_ ?_ ?_ ?_ ?_);(next=>rfl);(next=>rfl);(next=>kernel_rfl);(next=>rfl);(next=>rfl);(next=>rfl))
  exact qR (v:=.agg #[.slice a8 n8 c8,.bool b8,.slice d8 e8 f8]) (qbP rfl _ _ (w.heap.size+1+1) 138 _ _ rfl (setRow_heap _ _ _ _ _ _ H12.out.1) Tryz.underlying138 rfl 3 (by kernel_rfl) rfl) rfl ⟨_,rfl,below_setRow H12.out.2.1 (by omega) _,qfS H12.out.2.2 H12.out.1⟩
def fval (n d:List UInt8):Rat:=mkRat (ival n) (ival d).natAbs
theorem FOk.val {n d:List UInt8} (h:FOk n d):(fval n d).num=ival n∧(fval n d).den=(ival d).natAbs:=by
 have h0:(ival d).natAbs≠0:=by have:=h.pos;omega
 exact qiU h0 h.cop h0 rfl rfl
theorem FOk.fit {n d:List UInt8} (h:FOk n d):RFit (fval n d) 67:=by
 unfold RFit
 rw [h.val.1,h.val.2];exact⟨h.vn.fit,h.vd.fit⟩
theorem FOk.at {n d:List UInt8} (h:FOk n d) {W:World} {v:Value} (hv:RatAt W v (ival n) (ival d).natAbs):RatV W v (fval n d):=by
 unfold RatV;rw [h.val.1,h.val.2];exact hv
theorem qdy {W:World} {v:Value} {ok:Bool} {n d:List UInt8} (h:ok=true∧FOk n d∧RatAt W v (ival n) (ival d).natAbs∨ok=false∧¬FOk n d∧v=.agg #[.slice none 0 0,.bool false,.slice none 0 0]):∃(a:Option Addr) (x c:Nat) (b:Bool) (d':Option Addr) (e f:Nat),v=.agg #[.slice a x c,.bool b,.slice d' e f]:=by
 rcases h with ⟨_,_,h⟩ | ⟨_,_,h⟩
 ·exact qcP h
 ·exact⟨_,_,_,_,_,_,_,h⟩
theorem qfL (n d:ByteArray) (w:World) :
  Calls Tryz.prog 111 #[.agg #[.string n,.string d]] w fun e w'=>qe8 w (FOk n.data.toList d.data.toList) 20 e w':=by
 have HR:=qH (fun W=>qdR n d W)
 have HA:Hid (∀cs,Below w.heap.size w (w.alloc (.cells cs 44))):=qH fun cs=>qB.alloc qN _
 go_enter Tryz.func111,Tryz.ntmps111
 go_wp2_with fail
 refine (HR.out _).mono ?_
 rintro e w1 ⟨v,ok,rfl,hok,hb⟩
 obtain⟨a,x,c,b,d',e',f',rfl⟩:=qdy hok
 have hb0:Below w.heap.size w w1:=(HA.out _).trans (hb.mono (HA.out _).size)
 have HB:=qH (qbK (o:=.cells #[.slice a x c,.bool b,.slice d' e' f'] 138) hb0 qN)
 clear hb hb0
 rcases hok with ⟨rfl,hf,_⟩ | ⟨rfl,hf,_⟩
 ·have HF:=qH hf
  clear hf
  go_wp2_with fail
  go_ret
  exact⟨0,rfl,qal ⟨rfl,HF.out⟩,HB.out⟩
 ·have HF:=qH hf
  clear hf
  go_wp2_with fail
  go_ret
  exact⟨20,rfl,qag ⟨rfl,HF.out⟩,HB.out⟩
def Short (q:Rat):Prop:=(num q.num.natAbs).size≤600∧(num q.den).size≤600
def fstr (q:Rat):Value:=.agg #[.string (frac.wtxt q.num),.string (num q.den)]
def qhI (w:World) (q:Rat) (e:Ending) (w':World):Prop:=(Short q∧e=.returned (.tuple #[fstr q,.int .i64 0])∨¬Short q∧e=.returned (.tuple #[.agg #[.string ⟨#[]⟩,.string ⟨#[]⟩],.int .i64 6]))∧Below w.heap.size w w'
theorem qeO (q:Rat) (K:Nat) (hK0:0<K) (hK:K≤34359738368) (v:Value) (w:World) (hv:RatV w v q) (hq:RFit q K) (hT:HasT w) :
  Calls Tryz.prog 96 #[v] w fun e w'=>qhI w q e w':=by
 obtain⟨m,o,rfl,hm,ho⟩:=hv
 have hi:∀W,Below w.heap.size w W→IntAt W (.agg #[m,.bool (decide (q.num<0))]) q.num:=fun W h=>⟨m,rfl,hm.below h⟩
 have l1:=qH (fun (W:World) (h:Below w.heap.size w W)=>frac.qdW q.num.natAbs K (by omega) m W (hm.below h) hq.1 (hT.below h))
 have l2:=qH (fun (W:World) (h:Below w.heap.size w W)=>frac.qdW q.den K (by omega) o W (ho.below h) hq.2 (hT.below h))
 have t1:=qH (fun (W:World) (h:Below w.heap.size w W)=>frac.qgq q.num K hK0 (by omega) _ W (hi W h) hq.1 (hT.below h))
 have t2:=qH (fun (W:World) (h:Below w.heap.size w W)=>frac.qdO q.den K (by omega) o W (ho.below h) hq.2 (hT.below h))
 generalize decide (q.num<0)=b0 at *
 obtain⟨a0,_,_,c0,n0,_,rfl,_,_⟩:=hm
 obtain⟨d0,_,_,f0,e0,_,rfl,_,_⟩:=ho
 clear hi hT hq hK
 obtain⟨L1,hL1⟩:∃L,(num q.num.natAbs).size=L:=⟨_,rfl⟩
 obtain⟨L2,hL2⟩:∃L,(num q.den).size=L:=⟨_,rfl⟩
 have hsh:Short q↔L1≤600∧L2≤600:=by unfold Short;rw [hL1,hL2]
 rw [hL1] at l1
 rw [hL2] at l2
 have HSh:=qH hsh
 obtain⟨W1,hW1⟩:∃W1,W1=(w.alloc (.cells #[.slice a0 n0 c0,.bool b0,.slice d0 e0 f0] 138)).alloc (.cells #[.string ⟨#[]⟩,.string ⟨#[]⟩] 44):=⟨_,rfl⟩
 have hb1:Below w.heap.size w W1:=hW1▸qbK (qbK qB qN) qN
 have hr0:W1.heap[w.heap.size]? = some (.cells #[.slice a0 n0 c0,.bool b0,.slice d0 e0 f0] 138 (0,0)):=by rw [hW1,qL _ _ _ (by simp only [qab];omega)];exact qM _ _ _ rfl
 have hr1:W1.heap[w.heap.size+1]? = some (.cells #[.string ⟨#[]⟩,.string ⟨#[]⟩] 44 (0,0)):=by rw [hW1];exact qM _ _ _ (by simp)
 have HR:=qH (qA hb1 (qA hr0 hr1))
 clear hsh hL1 hL2 hb1 hr0 hr1
 go_enter Tryz.func96,Tryz.ntmps96
 go_wp2_with fail
 rw [←hW1]
 clear hW1
 refine (l1.out W1 HR.out.1).mono ?_
 rintro e w2 ⟨rfl,hb2⟩
 have H2:=qH (qA (HR.out.1.trans (hb2.mono HR.out.1.size)) (qA ((hb2.block _ (qG HR.out.2.1).1).trans HR.out.2.1) ((hb2.block _ (qG HR.out.2.2).1).trans HR.out.2.2)))
 clear hb2
 by_cases h1:(600:Int)<L1
 ·have HN:Hid (¬Short q):=qH (fun h=>by have:=HSh.out.1 h;omega)
  go_wp2_with ((with_reducible refine wpList_store_row rfl 44 _ _ rfl (w.heap.size+1) #[.string ⟨#[]⟩,.string ⟨#[]⟩] ?_ ?_ 44 _ H2.out.2.2 2 ?_ ?_ ?_ ?_ ?_);(next=>rfl);(next=>rfl);(next=>kernel_rfl);(next=>rfl);(next=>rfl);(next=>rfl))
  exact qR (v:=.tuple #[.agg #[.string ⟨#[]⟩,.string ⟨#[]⟩],.int .i64 6]) (qbN rfl _ _ (w.heap.size+1) 44 _ _ rfl (setRow_heap _ _ _ _ _ _ H2.out.2.2) Tryz.underlying44 rfl 2 (by kernel_rfl) rfl _ rfl) rfl ⟨qag ⟨HN.out,rfl⟩,below_setRow H2.out.1 (by omega) _⟩
 ·have k2:=qC w2 _ 2 _ _ _ H2.out.2.1
  go_wp2_with fail
  refine (l2.out w2 H2.out.1).mono ?_
  rintro e w3 ⟨rfl,hb3⟩
  have H3:=qH (qA (H2.out.1.trans (hb3.mono H2.out.1.size)) (qA ((hb3.block _ (qG H2.out.2.1).1).trans H2.out.2.1) ((hb3.block _ (qG H2.out.2.2).1).trans H2.out.2.2)))
  clear hb3 k2
  by_cases h2:(600:Int)<L2
  ·have HN:Hid (¬Short q):=qH (fun h=>by have:=HSh.out.1 h;omega)
   go_wp2_with ((with_reducible refine wpList_store_row rfl 44 _ _ rfl (w.heap.size+1) #[.string ⟨#[]⟩,.string ⟨#[]⟩] ?_ ?_ 44 _ H3.out.2.2 2 ?_ ?_ ?_ ?_ ?_);(next=>rfl);(next=>rfl);(next=>kernel_rfl);(next=>rfl);(next=>rfl);(next=>rfl))
   exact qR (v:=.tuple #[.agg #[.string ⟨#[]⟩,.string ⟨#[]⟩],.int .i64 6]) (qbN rfl _ _ (w.heap.size+1) 44 _ _ rfl (setRow_heap _ _ _ _ _ _ H3.out.2.2) Tryz.underlying44 rfl 2 (by kernel_rfl) rfl _ rfl) rfl ⟨qag ⟨HN.out,rfl⟩,below_setRow H3.out.1 (by omega) _⟩
  ·have HY:Hid (Short q):=qH (HSh.out.2 (by omega))
   have hs3:w.heap.size+1<w3.heap.size:=(qG H3.out.2.2).1
   have C0:∀W,Below (w.heap.size+1) w3 W→W.cell? ⟨w.heap.size,0,none⟩=some (.slice a0 n0 c0):=fun W h=>(h.cell (p:=⟨w.heap.size,0,none⟩) (by show w.heap.size<_;omega)).trans (qC _ _ 0 _ _ _ H3.out.2.1)
   have C1:∀W,Below (w.heap.size+1) w3 W→W.cell? ⟨w.heap.size,1,none⟩=some (.bool b0):=fun W h=>(h.cell (p:=⟨w.heap.size,1,none⟩) (by show w.heap.size<_;omega)).trans (qC _ _ 1 _ _ _ H3.out.2.1)
   have C2:∀W,Below (w.heap.size+1) w3 W→W.cell? ⟨w.heap.size,2,none⟩=some (.slice d0 e0 f0):=fun W h=>(h.cell (p:=⟨w.heap.size,2,none⟩) (by show w.heap.size<_;omega)).trans (qC _ _ 2 _ _ _ H3.out.2.1)
   have hst:Below (w.heap.size+1) w3 w3:=Below.refl _ _
   have hstD:Below (w.heap.size+1) w3 w3.drew:=hst.drew
   have Hs3:=qH hs3
   obtain⟨T1,hT1⟩:∃T,frac.wtxt q.num=T:=⟨_,rfl⟩
   obtain⟨T2,hT2⟩:∃T,num q.den=T:=⟨_,rfl⟩
   rw [hT1] at t1
   rw [hT2] at t2
   have HTT:=qH (qA hT1 hT2)
   clear hs3 hT1 hT2
   go_wp2_with fail
   go_region_held3 (fun W=>Below (w.heap.size+1) w3 W) (first | with_reducible exact hst | with_reducible exact hstD | with_reducible exact HB5 | with_reducible exact HB4 | ((iterate 2 refine Below.setCell ?_ (by exact qad _) _);exact HB5)) (first | (go_at_call 161;refine (t1.out _ (H3.out.1.trans (hstD.mono (by omega)))).mono ?_;rintro e w4 ⟨rfl,hb4⟩;have HB4:Below (w.heap.size+1) w3 w4:=hstD.trans (hb4.mono (qak Hs3.out));have R4:=qH ((hb4.block _ Hs3.out).trans H3.out.2.2);clear hb4) | (go_at_call 162;refine (t2.out _ (H3.out.1.trans (HB4.mono (by omega)))).mono ?_;rintro e w5 ⟨rfl,hb5⟩;have HB5:Below (w.heap.size+1) w3 w5:=HB4.trans (hb5.mono (qaj (qak Hs3.out) HB4.size));have hr5:=(hb5.block _ (qG R4.out).1).trans R4.out;have e0:=qC w5 _ 0 _ _ _ hr5;have e1:=qC w5 _ 1 _ _ _ hr5;have f0:=qF w5 _ 0 _ _ hr5;have f1:=qF w5 _ 1 _ _ hr5;have R5:=qH hr5;clear hb5 hr5))
   go_wp2_with fail
   refine qR (v:=.tuple #[.agg #[.string T1,.string T2],.int .i64 0]) (qbN rfl _ _ (w.heap.size+1) 44 #[.string T1,.string T2] _ rfl (heap_setCell_same _ _ 1 _ 44 _ (heap_setCell_same _ _ 0 _ 44 _ R5.out)) Tryz.underlying44 rfl 2 (by kernel_rfl) rfl _ rfl) rfl ⟨qal ⟨HY.out,?_⟩,H3.out.1.trans (((HB5.setCell (by exact qad _) _).setCell (by exact qad _) _).mono (by omega))⟩
   unfold fstr
   rw [show frac.wtxt q.num=T1 from HTT.out.1,HTT.out.2]
theorem qkW (p q:Rat) (K:Nat) (hK:K≤34359738368) (v u:Value) (w:World) (hv:RatV w v p) (hu:RatV w u q) (hp:RFit p K) (hq:RFit q K) :
  Calls Tryz.prog 65 #[v,u] w fun e w'=>e=.returned (.int .i64 (cmp3 (p.num*(q.den:Int) + -(q.num*(p.den:Int))) 0))∧Below w.heap.size w w':=by
 obtain⟨mx,mX,rfl,hx,hX⟩:=hv
 obtain⟨my,mY,rfl,hy,hY⟩:=hu
 obtain⟨x,hxe⟩:∃x,p.num=x:=⟨_,rfl⟩
 obtain⟨y,hye⟩:∃y,q.num=y:=⟨_,rfl⟩
 obtain⟨X,hXe⟩:∃X,p.den=X:=⟨_,rfl⟩
 obtain⟨Y,hYe⟩:∃Y,q.den=Y:=⟨_,rfl⟩
 obtain⟨fx,fX⟩:=hp
 obtain⟨fy,fY⟩:=hq
 rw [hxe] at hx fx
 rw [hye] at hy fy
 rw [hXe] at hX fX
 rw [hYe] at hY fY
 rw [hxe,hye,hXe,hYe]
 have g1:Fit (x*Y).natAbs (K+K):=by rw [qaz,qan];exact fx.mul fY
 have g2:Fit (y*X).natAbs (K+K):=by rw [qaz,qan];exact fy.mul fX
 have g3:Fit (-(y*(X:Int))).natAbs (K+K):=by rw [qbl];exact g2
 obtain⟨R0,hR0⟩:∃R,cmp3 (x*(Y:Int) + -(y*(X:Int))) 0=R:=⟨_,rfl⟩
 rw [hR0]
 have hix:∀W a n c,MagAt W (.slice a n c) x.natAbs→IntAt W (.agg #[.slice a n c,.bool (decide (x<0))]) x:=fun W a n c h=>⟨_,rfl,h⟩
 have hiy:∀W a n c,MagAt W (.slice a n c) y.natAbs→IntAt W (.agg #[.slice a n c,.bool (decide (y<0))]) y:=fun W a n c h=>⟨_,rfl,h⟩
 generalize decide (x<0)=b0 at *
 generalize decide (y<0)=b1 at *
 have HX:=qH (qA hx (qA hX (qA hy hY)))
 have HF:=qH (qA fx (qA fX (qA fy fY)))
 have HG:=qH (qA g1 (qA g2 g3))
 have HK:=qH hK
 have HR0:=qH hR0
 have HIX:=qH hix
 have HIY:=qH hiy
 obtain⟨a0,_,_,c0,n0,_,rfl,_,_⟩:=hx
 obtain⟨d0,_,_,f0,e0,_,rfl,_,_⟩:=hX
 obtain⟨a1,_,_,c1,n1,_,rfl,_,_⟩:=hy
 obtain⟨d1,_,_,f1,e1,_,rfl,_,_⟩:=hY
 clear g1 g2 g3 fx fX fy fY hK hxe hye hXe hYe hix hiy hR0
 obtain⟨W1,hW1⟩:∃W1,W1=(w.alloc (.cells #[.slice a0 n0 c0,.bool b0,.slice d0 e0 f0] 138)).alloc (.cells #[.slice a1 n1 c1,.bool b1,.slice d1 e1 f1] 138):=⟨_,rfl⟩
 have hb1:Below w.heap.size w W1:=hW1▸qbK (qbK qB qN) qN
 have hr0:W1.heap[w.heap.size]? = some (.cells #[.slice a0 n0 c0,.bool b0,.slice d0 e0 f0] 138 (0,0)):=by rw [hW1,qL _ _ _ (by simp only [qab];omega)];exact qM _ _ _ (by simp)
 have hr1:W1.heap[w.heap.size+1]? = some (.cells #[.slice a1 n1 c1,.bool b1,.slice d1 e1 f1] 138 (0,0)):=by rw [hW1];exact qM _ _ _ (by simp)
 have l2:w.heap.size+1<W1.heap.size:=(qG hr1).1
 have C00:∀W,Below W1.heap.size W1 W→W.cell? ⟨w.heap.size,0,none⟩=some (.slice a0 n0 c0):=fun W h=>(h.cell (p:=⟨w.heap.size,0,none⟩) (by show w.heap.size<_;omega)).trans (qC _ _ 0 _ _ _ hr0)
 have C01:∀W,Below W1.heap.size W1 W→W.cell? ⟨w.heap.size,1,none⟩=some (.bool b0):=fun W h=>(h.cell (p:=⟨w.heap.size,1,none⟩) (by show w.heap.size<_;omega)).trans (qC _ _ 1 _ _ _ hr0)
 have C02:∀W,Below W1.heap.size W1 W→W.cell? ⟨w.heap.size,2,none⟩=some (.slice d0 e0 f0):=fun W h=>(h.cell (p:=⟨w.heap.size,2,none⟩) (by show w.heap.size<_;omega)).trans (qC _ _ 2 _ _ _ hr0)
 have C10:∀W,Below W1.heap.size W1 W→W.cell? ⟨w.heap.size+1,0,none⟩=some (.slice a1 n1 c1):=fun W h=>(h.cell (p:=⟨w.heap.size+1,0,none⟩) (by show w.heap.size+1<_;omega)).trans (qC _ _ 0 _ _ _ hr1)
 have C11:∀W,Below W1.heap.size W1 W→W.cell? ⟨w.heap.size+1,1,none⟩=some (.bool b1):=fun W h=>(h.cell (p:=⟨w.heap.size+1,1,none⟩) (by show w.heap.size+1<_;omega)).trans (qC _ _ 1 _ _ _ hr1)
 have C12:∀W,Below W1.heap.size W1 W→W.cell? ⟨w.heap.size+1,2,none⟩=some (.slice d1 e1 f1):=fun W h=>(h.cell (p:=⟨w.heap.size+1,2,none⟩) (by show w.heap.size+1<_;omega)).trans (qC _ _ 2 _ _ _ hr1)
 have HR:=qH hb1
 clear hr0 hr1 hb1 l2
 have hst:Below W1.heap.size W1 W1:=Below.refl _ _
 have hstD:Below W1.heap.size W1 W1.drew:=hst.drew
 have HW:Hid (∀W,Below W1.heap.size W1 W→Below w.heap.size w W):=qH fun W h=>HR.out.trans (h.mono HR.out.size)
 go_enter Tryz.func65,Tryz.ntmps65
 go_wp2_with fail
 rw [←hW1]
 clear hW1
 go_region_held3 (fun W=>Below W1.heap.size W1 W) (first | with_reducible exact hst | with_reducible exact hstD | with_reducible exact HB6 | with_reducible exact HB5 | with_reducible exact HB4 | with_reducible exact HB3 | with_reducible exact HB2) (first | (go_at_call_of 133 (Value.agg #[Value.slice a0 n0 c0,Value.bool b0]);refine (frac.qcB x Y K K (by have:=HK.out;omega) _ _ _ (HIX.out _ _ _ _ (HX.out.1.below (HW.out _ hstD))) (HX.out.2.2.2.below (HW.out _ hstD)) HF.out.1 HF.out.2.2.2).mono ?_;rintro e w2 ⟨p2,rfl,hb2,hp2⟩;have HB2:Below W1.heap.size W1 w2:=hstD.trans hb2;obtain⟨a2,n2,c2,b2,rfl⟩:=frac.qbL hp2;have I2:=qH hp2;clear hb2 hp2) | (go_at_call_of 133 (Value.agg #[Value.slice a1 n1 c1,Value.bool b1]);refine (frac.qcB y X K K (by have:=HK.out;omega) _ _ _ (HIY.out _ _ _ _ (HX.out.2.2.1.below (HW.out _ HB2))) (HX.out.2.1.below (HW.out _ HB2)) HF.out.2.2.1 HF.out.2.1).mono ?_;rintro e w3 ⟨p3,rfl,hb3,hp3⟩;have HB3:Below W1.heap.size W1 w3:=bjoin HB2 hb3;obtain⟨a3,n3,c3,b3,rfl⟩:=frac.qbL hp3;have I3:=qH hp3;have J3:=qH (I2.out.below hb3);clear hb3 hp3) | (go_at_call 135;refine (frac.qdH _ _ _ I3.out).mono ?_;rintro e w4 ⟨p4,rfl,hb4,hp4⟩;have HB4:Below W1.heap.size W1 w4:=bjoin HB3 hb4;obtain⟨a4,n4,c4,b4,rfl⟩:=frac.qbL hp4;have I4:=qH hp4;have J4:=qH (J3.out.below hb4);clear hb4 hp4) | (go_at_call 134;refine (frac.qdE _ _ (K+K) (by have:=HK.out;omega) _ _ _ J4.out I4.out HG.out.1 HG.out.2.2).mono ?_;rintro e w5 ⟨p5,rfl,hb5,hp5⟩;have HB5:Below W1.heap.size W1 w5:=bjoin HB4 hb5;obtain⟨a5,n5,c5,b5,rfl⟩:=frac.qbL hp5;have I5:=qH hp5;clear hb5 hp5) | (go_at_call 136;refine (frac.qkj _ _ _ I5.out).mono ?_;rw [HR0.out];rintro e w6 ⟨rfl,hb6⟩;have HB6:Below W1.heap.size W1 w6:=bjoin HB5 hb6;clear hb6))
 go_wp2_with fail
 go_ret
 exact⟨rfl,HW.out _ HB6⟩
def FCmps (w:World) (n d m c:List UInt8) (e:Ending) (w':World):Prop :=
 ((FOk n d∧FOk m c)∧e=.returned (.tuple #[.int .i64 (cmp3 ((fval n d).num*((fval m c).den:Int) + -((fval m c).num*((fval n d).den:Int))) 0),.int .i64 0]) ∨
  ¬(FOk n d∧FOk m c)∧e=.returned (.tuple #[.int .i64 0,.int .i64 20]))∧Below w.heap.size w w'
def FApplies (w:World) (op:Rat→Rat→Rat) (n d m c:List UInt8) (e:Ending) (w':World):Prop :=
 (∃v er,e=.returned (.tuple #[v,.int .i64 er])∧((FOk n d∧FOk m c)∧er=0∧RatV w' v (op (fval n d) (fval m c))∨¬(FOk n d∧FOk m c)∧er=20∧v=.agg #[.slice none 0 0,.bool false,.slice none 0 0]))∧Below w.heap.size w w'
def FDoes (w:World) (op:Rat→Rat→Rat) (n d m c:List UInt8) (e:Ending) (w':World):Prop :=
 ((FOk n d∧FOk m c)∧(Short (op (fval n d) (fval m c))∧e=.returned (.tuple #[fstr (op (fval n d) (fval m c)),.int .i64 0])∨¬Short (op (fval n d) (fval m c))∧e=.returned (.tuple #[.agg #[.string ⟨#[]⟩,.string ⟨#[]⟩],.int .i64 6])) ∨
  ¬(FOk n d∧FOk m c)∧e=.returned (.tuple #[.agg #[.string ⟨#[]⟩,.string ⟨#[]⟩],.int .i64 20]))∧Below w.heap.size w w'
theorem qkA (n d m c:ByteArray) (w:World) :
  Calls Tryz.prog 64 #[.agg #[.string n,.string d],.agg #[.string m,.string c],.func (.func 65) #[] #[]] w fun e w'=>FCmps w n.data.toList d.data.toList m.data.toList c.data.toList e w':=by
 obtain⟨W1,hW1⟩:∃W1,W1=((w.alloc (.cells #[.string n,.string d] 44)).alloc (.cells #[.string m,.string c] 44)):=⟨_,rfl⟩
 have hb1:Below w.heap.size w W1:=hW1▸qbK (qbK qB qN) qN
 have hr0:W1.heap[w.heap.size]? = some (.cells #[.string n,.string d] 44 (0,0)):=by rw [hW1,qL _ _ _ (by simp only [qab];omega)];exact qM _ _ _ rfl
 have hr1:W1.heap[w.heap.size+1]? = some (.cells #[.string m,.string c] 44 (0,0)):=by rw [hW1];exact qM _ _ _ (by simp)
 have hr2:True:=trivial
 have HR:=qH (qA hb1 (qA hr0 (qA hr1 hr2)))
 clear hb1 hr0 hr1 hr2
 go_enter Tryz.func64,Tryz.ntmps64
 go_wp2_with fail
 rw [←hW1]
 clear hW1
 refine (qdR n d W1).mono ?_
 rintro e w1 ⟨v1,ok1,rfl,hok1,hb1⟩
 obtain⟨a0,n0,c0,b0,d0,e0,f0,rfl⟩:=qdy hok1
 have HO1:=qH hok1
 have k1:=qC w1 _ 0 _ _ _ ((hb1.block _ (qG HR.out.2.2.1).1).trans HR.out.2.2.1)
 have k2:=qC w1 _ 1 _ _ _ ((hb1.block _ (qG HR.out.2.2.1).1).trans HR.out.2.2.1)
 have q1:w.heap.size+1<w1.heap.size:=qah (qG HR.out.2.2.1).1 hb1.size
 have HB1:=qH hb1
 clear hb1 hok1
 go_wp2_with fail
 obtain⟨V1,hV1⟩:∃V1,V1=w1.alloc (.cells #[.slice a0 n0 c0,.bool b0,.slice d0 e0 f0] 138):=⟨_,rfl⟩
 rw [←hV1]
 have hv1:V1.heap[w1.heap.size]? = some (.cells #[.slice a0 n0 c0,.bool b0,.slice d0 e0 f0] 138 (0,0)):=by rw [hV1];exact qM _ _ _ rfl
 have hbv1:Below w1.heap.size w1 V1:=hV1▸qbK qB qN
 clear hV1 k1 k2
 refine (qdR m c V1).mono ?_
 rintro e w2 ⟨v2,ok2,rfl,hok2,hb2⟩
 obtain⟨a1,n1,c1,b1,d1,e1,f1,rfl⟩:=qdy hok2
 have HO2:=qH hok2
 have hr8:=(hb2.block _ (qG hv1).1).trans hv1
 have hb12:Below w1.heap.size w1 w2:=hbv1.trans (hb2.mono hbv1.size)
 have HB2:=qH hb12
 have hbw:Below w.heap.size w w2:=HR.out.1.trans ((HB1.out.trans (hb12.mono HB1.out.size)).mono HR.out.1.size)
 obtain⟨V2,hV2⟩:∃V2,V2=w2.alloc (.cells #[.slice a1 n1 c1,.bool b1,.slice d1 e1 f1] 138):=⟨_,rfl⟩
 have hbv2:Below w2.heap.size w2 V2:=hV2▸qbK qB qN
 have r8:=(hbv2.block _ (qG hr8).1).trans hr8
 have r9:V2.heap[w2.heap.size]? = some (.cells #[.slice a1 n1 c1,.bool b1,.slice d1 e1 f1] 138 (0,0)):=by rw [hV2];exact qM _ _ _ rfl
 have HV2:=qH (qA r8 (qA r9 (qA (hbw.trans (hbv2.mono hbw.size)) hbv2)))
 have x0:=qC w2 _ 0 _ _ _ hr8
 have x1:=qC w2 _ 1 _ _ _ hr8
 have x2:=qC w2 _ 2 _ _ _ hr8
 have lt8:=(qG hr8).1
 have HVe:=qH hV2
 clear hv1 hbv1 hb2 hok2 hr8 hb12 hbw hbv2 r8 r9 hV2
 have HO:=qH (fun (h1:FOk n.data.toList d.data.toList) (h2:FOk m.data.toList c.data.toList) (hv:RatV V2 (.agg #[.slice a0 n0 c0,.bool b0,.slice d0 e0 f0]) (fval n.data.toList d.data.toList)) (hu:RatV V2 (.agg #[.slice a1 n1 c1,.bool b1,.slice d1 e1 f1]) (fval m.data.toList c.data.toList))=>qkW _ _ 67 (by decide) _ _ V2 hv hu h1.fit h2.fit)
 rcases HO1.out with ⟨rfl,hf1,hv1⟩ | ⟨rfl,hf1,_⟩
 ·rcases HO2.out with ⟨rfl,hf2,hv2⟩ | ⟨rfl,hf2,_⟩
  ·have hc:=HO.out hf1 hf2 ((hf1.at hv1).below (HB2.out.trans (HV2.out.2.2.2.mono HB2.out.size))) ((hf2.at hv2).below HV2.out.2.2.2)
   have HC:=qH (qA hc (qA hf1 hf2))
   clear hf1 hf2 hv1 hv2 hc
   have x3:=qC V2 _ 0 _ _ _ HV2.out.1
   go_wp2_with fail
   rw [←HVe.out]
   refine HC.out.1.mono ?_
   rintro e w9 ⟨rfl,hb9⟩
   have H9:=qH (HV2.out.2.2.1.trans (hb9.mono HV2.out.2.2.1.size))
   clear hb9
   go_wp2_with fail
   go_ret2
   exact⟨qal ⟨HC.out.2,rfl⟩,H9.out⟩
  ·have HN:=qH (show ¬(FOk n.data.toList d.data.toList∧FOk m.data.toList c.data.toList) from fun h=>hf2 h.2)
   clear hf1 hf2 hv1
   go_wp2_with fail
   go_ret2
   exact⟨qag ⟨HN.out,rfl⟩,HVe.out▸HV2.out.2.2.1⟩
 ·have HN:=qH (show ¬(FOk n.data.toList d.data.toList∧FOk m.data.toList c.data.toList) from fun h=>hf1 h.1)
  clear hf1
  go_wp2_with fail
  go_ret2
  exact⟨qag ⟨HN.out,rfl⟩,HVe.out▸HV2.out.2.2.1⟩
theorem qkB (n d m c:ByteArray) (w:World) :
  Calls Tryz.prog 85 #[.agg #[.string n,.string d],.agg #[.string m,.string c],.func (.func 86) #[] #[]] w fun e w'=>FApplies w (· * ·) n.data.toList d.data.toList m.data.toList c.data.toList e w':=by
 obtain⟨W1,hW1⟩:∃W1,W1=((w.alloc (.cells #[.string n,.string d] 44)).alloc (.cells #[.string m,.string c] 44)).alloc (.cells #[.slice none 0 0,.bool false,.slice none 0 0] 138):=⟨_,rfl⟩
 have hb1:Below w.heap.size w W1:=hW1▸qbK (qbK (qbK qB qN) qN) qN
 have hr0:W1.heap[w.heap.size]? = some (.cells #[.string n,.string d] 44 (0,0)):=by rw [hW1,qL _ _ _ (by simp only [qab];omega),qL _ _ _ (by simp only [qab];omega)];exact qM _ _ _ rfl
 have hr1:W1.heap[w.heap.size+1]? = some (.cells #[.string m,.string c] 44 (0,0)):=by rw [hW1,qL _ _ _ (by simp only [qab];omega)];exact qM _ _ _ (by simp)
 have hr2:W1.heap[w.heap.size+1+1]? = some (.cells #[.slice none 0 0,.bool false,.slice none 0 0] 138 (0,0)):=by rw [hW1];exact qM _ _ _ (by simp)
 have HR:=qH (qA hb1 (qA hr0 (qA hr1 hr2)))
 clear hb1 hr0 hr1 hr2
 go_enter Tryz.func85,Tryz.ntmps85
 go_wp2_with fail
 rw [←hW1]
 clear hW1
 refine (qdR n d W1).mono ?_
 rintro e w1 ⟨v1,ok1,rfl,hok1,hb1⟩
 obtain⟨a0,n0,c0,b0,d0,e0,f0,rfl⟩:=qdy hok1
 have HO1:=qH hok1
 have k1:=qC w1 _ 0 _ _ _ ((hb1.block _ (qG HR.out.2.2.1).1).trans HR.out.2.2.1)
 have k2:=qC w1 _ 1 _ _ _ ((hb1.block _ (qG HR.out.2.2.1).1).trans HR.out.2.2.1)
 have q1:w.heap.size+1<w1.heap.size:=qah (qG HR.out.2.2.1).1 hb1.size
 have HB1:=qH hb1
 clear hb1 hok1
 go_wp2_with fail
 obtain⟨V1,hV1⟩:∃V1,V1=w1.alloc (.cells #[.slice a0 n0 c0,.bool b0,.slice d0 e0 f0] 138):=⟨_,rfl⟩
 rw [←hV1]
 have hv1:V1.heap[w1.heap.size]? = some (.cells #[.slice a0 n0 c0,.bool b0,.slice d0 e0 f0] 138 (0,0)):=by rw [hV1];exact qM _ _ _ rfl
 have hbv1:Below w1.heap.size w1 V1:=hV1▸qbK qB qN
 clear hV1 k1 k2
 refine (qdR m c V1).mono ?_
 rintro e w2 ⟨v2,ok2,rfl,hok2,hb2⟩
 obtain⟨a1,n1,c1,b1,d1,e1,f1,rfl⟩:=qdy hok2
 have HO2:=qH hok2
 have hr8:=(hb2.block _ (qG hv1).1).trans hv1
 have hb12:Below w1.heap.size w1 w2:=hbv1.trans (hb2.mono hbv1.size)
 have HB2:=qH hb12
 have hbw:Below w.heap.size w w2:=HR.out.1.trans ((HB1.out.trans (hb12.mono HB1.out.size)).mono HR.out.1.size)
 obtain⟨V2,hV2⟩:∃V2,V2=w2.alloc (.cells #[.slice a1 n1 c1,.bool b1,.slice d1 e1 f1] 138):=⟨_,rfl⟩
 have hbv2:Below w2.heap.size w2 V2:=hV2▸qbK qB qN
 have r8:=(hbv2.block _ (qG hr8).1).trans hr8
 have r9:V2.heap[w2.heap.size]? = some (.cells #[.slice a1 n1 c1,.bool b1,.slice d1 e1 f1] 138 (0,0)):=by rw [hV2];exact qM _ _ _ rfl
 have HV2:=qH (qA r8 (qA r9 (qA (hbw.trans (hbv2.mono hbw.size)) hbv2)))
 have x0:=qC w2 _ 0 _ _ _ hr8
 have x1:=qC w2 _ 1 _ _ _ hr8
 have x2:=qC w2 _ 2 _ _ _ hr8
 have lt8:=(qG hr8).1
 have HVe:=qH hV2
 clear hv1 hbv1 hb2 hok2 hr8 hb12 hbw hbv2 r8 r9 hV2
 have HO:=qH (fun (h1:FOk n.data.toList d.data.toList) (h2:FOk m.data.toList c.data.toList) (hv:RatV V2 (.agg #[.slice a0 n0 c0,.bool b0,.slice d0 e0 f0]) (fval n.data.toList d.data.toList)) (hu:RatV V2 (.agg #[.slice a1 n1 c1,.bool b1,.slice d1 e1 f1]) (fval m.data.toList c.data.toList))=>qkh _ _ 67 (by decide) _ _ V2 hv hu h1.fit h2.fit)
 have HRZ:Hid (V2.heap[w.heap.size+1+1]? = some (.cells #[.slice none 0 0,.bool false,.slice none 0 0] 138 (0,0))):=qH (by
  have h1:=(HB1.out.block _ (qG HR.out.2.2.2).1).trans HR.out.2.2.2
  have h2:=(HB2.out.block _ (qG h1).1).trans h1
  exact (HV2.out.2.2.2.block _ (qG h2).1).trans h2)
 rcases HO1.out with ⟨rfl,hf1,hv1⟩ | ⟨rfl,hf1,_⟩
 ·rcases HO2.out with ⟨rfl,hf2,hv2⟩ | ⟨rfl,hf2,_⟩
  ·have hc:=HO.out hf1 hf2 ((hf1.at hv1).below (HB2.out.trans (HV2.out.2.2.2.mono HB2.out.size))) ((hf2.at hv2).below HV2.out.2.2.2)
   have HC:=qH (qA hc (qA hf1 hf2))
   clear hf1 hf2 hv1 hv2 hc
   go_wp2_with fail
   rw [←HVe.out]
   refine HC.out.1.mono ?_
   rintro e w9 ⟨v9,rfl,hb9,hv9⟩
   obtain⟨a7,n7,c7,b7,d7,e7,f7,rfl⟩:=qcP hv9
   have hr9:=(hb9.block _ (qG HRZ.out).1).trans HRZ.out
   have H9:=qH (qA hr9 (qA (HV2.out.2.2.1.trans (hb9.mono HV2.out.2.2.1.size)) (qfS (cs':=#[.slice a7 n7 c7,.bool b7,.slice d7 e7 f7]) hv9 hr9)))
   clear hb9 hv9 hr9
   go_wp2_with ((with_reducible refine wpList_store_row rfl 138 _ _ rfl (w.heap.size+1+1) #[.slice a7 n7 c7,.bool b7,.slice d7 e7 f7] ?_ ?_ 138 _ H9.out.1 3 ?_ ?_ ?_ ?_ ?_);(next=>rfl);(next=>rfl);(next=>kernel_rfl);(next=>rfl);(next=>rfl);(next=>rfl))
   exact qR (v:=.tuple #[.agg #[.slice a7 n7 c7,.bool b7,.slice d7 e7 f7],.int .i64 0]) (qbN rfl _ _ (w.heap.size+1+1) 138 #[.slice a7 n7 c7,.bool b7,.slice d7 e7 f7] _ rfl (setRow_heap _ _ _ _ _ _ H9.out.1) Tryz.underlying138 rfl 3 (by kernel_rfl) rfl _ rfl) rfl ⟨⟨_,_,rfl,qal ⟨HC.out.2,rfl,H9.out.2.2⟩⟩,below_setRow H9.out.2.1 (by omega) _⟩
  ·have HN:=qH (show ¬(FOk n.data.toList d.data.toList∧FOk m.data.toList c.data.toList) from fun h=>hf2 h.2)
   clear hf1 hf2 hv1
   have hrz:((w2.alloc (.cells #[.slice a1 n1 c1,.bool b1,.slice d1 e1 f1] 138)).alloc (.cells #[.slice none 0 0,.bool false,.slice none 0 0] 138)).heap[w.heap.size+1+1]? = some (.cells #[.slice none 0 0,.bool false,.slice none 0 0] 138 (0,0)):=by
    rw [←HVe.out];exact (qL _ _ _ (qG HRZ.out).1).trans HRZ.out
   have HRZ2:=qH hrz
   have HBZ:=qH (show Below w.heap.size w ((w2.alloc (.cells #[.slice a1 n1 c1,.bool b1,.slice d1 e1 f1] 138)).alloc (.cells #[.slice none 0 0,.bool false,.slice none 0 0] 138)) from HVe.out▸(HV2.out.2.2.1.alloc HV2.out.2.2.1.size _))
   clear hrz
   go_wp2_with ((with_reducible refine wpList_store_row rfl 138 _ _ rfl (w.heap.size+1+1) #[.slice none 0 0,.bool false,.slice none 0 0] ?_ ?_ 138 _ HRZ2.out 3 ?_ ?_ ?_ ?_ ?_);(next=>rfl);(next=>rfl);(next=>kernel_rfl);(next=>rfl);(next=>rfl);(next=>rfl))
   exact qR (v:=.tuple #[.agg #[.slice none 0 0,.bool false,.slice none 0 0],.int .i64 20]) (qbN rfl _ _ (w.heap.size+1+1) 138 #[.slice none 0 0,.bool false,.slice none 0 0] _ rfl (setRow_heap _ _ _ _ _ _ HRZ2.out) Tryz.underlying138 rfl 3 (by kernel_rfl) rfl _ rfl) rfl ⟨⟨_,_,rfl,qag ⟨HN.out,rfl,rfl⟩⟩,below_setRow HBZ.out (by omega) _⟩
 ·have HN:=qH (show ¬(FOk n.data.toList d.data.toList∧FOk m.data.toList c.data.toList) from fun h=>hf1 h.1)
  clear hf1
  have hrz:((w2.alloc (.cells #[.slice a1 n1 c1,.bool b1,.slice d1 e1 f1] 138)).alloc (.cells #[.slice none 0 0,.bool false,.slice none 0 0] 138)).heap[w.heap.size+1+1]? = some (.cells #[.slice none 0 0,.bool false,.slice none 0 0] 138 (0,0)):=by
   rw [←HVe.out];exact (qL _ _ _ (qG HRZ.out).1).trans HRZ.out
  have HRZ2:=qH hrz
  have HBZ:=qH (show Below w.heap.size w ((w2.alloc (.cells #[.slice a1 n1 c1,.bool b1,.slice d1 e1 f1] 138)).alloc (.cells #[.slice none 0 0,.bool false,.slice none 0 0] 138)) from HVe.out▸(HV2.out.2.2.1.alloc HV2.out.2.2.1.size _))
  clear hrz
  go_wp2_with ((with_reducible refine wpList_store_row rfl 138 _ _ rfl (w.heap.size+1+1) #[.slice none 0 0,.bool false,.slice none 0 0] ?_ ?_ 138 _ HRZ2.out 3 ?_ ?_ ?_ ?_ ?_);(next=>rfl);(next=>rfl);(next=>kernel_rfl);(next=>rfl);(next=>rfl);(next=>rfl))
  exact qR (v:=.tuple #[.agg #[.slice none 0 0,.bool false,.slice none 0 0],.int .i64 20]) (qbN rfl _ _ (w.heap.size+1+1) 138 #[.slice none 0 0,.bool false,.slice none 0 0] _ rfl (setRow_heap _ _ _ _ _ _ HRZ2.out) Tryz.underlying138 rfl 3 (by kernel_rfl) rfl _ rfl) rfl ⟨⟨_,_,rfl,qag ⟨HN.out,rfl,rfl⟩⟩,below_setRow HBZ.out (by omega) _⟩
theorem RFit.mul {p q:Rat} {K:Nat} (hp:RFit p K) (hq:RFit q K):RFit (p*q) (K+K):=by
 have h1:Fit (p.num*q.num).natAbs (K+K):=by rw [qaz];exact hp.1.mul hq.1
 have h2:Fit (p.den*q.den) (K+K):=hp.2.mul hq.2
 rw [Rat.mul_def']
 have hne:=Nat.mul_ne_zero p.den_nz q.den_nz
 constructor
 ·rw [Rat.num_mkRat,if_neg hne]
  refine h1.le ?_
  rw [Int.natAbs_ediv_of_dvd (Int.ofNat_dvd_left.2 (qaV _ _))]
  exact qaM _ _
 ·rw [Rat.den_mkRat,if_neg hne]
  exact h2.le (qaM _ _)
theorem fcmp_any (n d m c:ByteArray) (w:World) :
  Calls Tryz.prog 17 #[.agg #[.string n,.string d],.agg #[.string m,.string c]] w fun e w'=>FCmps w n.data.toList d.data.toList m.data.toList c.data.toList e w':=by
 have HA:=qH (fun W=>qkA n d m c W)
 have HB:Hid (Below w.heap.size w ((w.alloc (.cells #[.string n,.string d] 44)).alloc (.cells #[.string m,.string c] 44))):=qH (qbK (qbK qB qN) qN)
 go_enter Tryz.func17,Tryz.ntmps17
 go_wp2_with fail
 refine (HA.out _).mono ?_
 rintro e w1 ⟨h,hb⟩
 have H1:=qH (HB.out.trans (hb.mono HB.out.size))
 clear hb
 rcases h with ⟨hf,rfl⟩ | ⟨hf,rfl⟩
 ·have HF:=qH hf
  clear hf
  go_wp2_with fail
  go_ret2
  exact⟨qal ⟨HF.out,rfl⟩,H1.out⟩
 ·have HF:=qH hf
  clear hf
  go_wp2_with fail
  go_ret2
  exact⟨qag ⟨HF.out,rfl⟩,H1.out⟩
theorem qjt (a:Option Addr) (x c:Nat) (b:Bool) (d:Option Addr) (e0 f:Nat) (w:World) :
  Calls Tryz.prog 84 #[.agg #[.slice a x c,.bool b,.slice d e0 f],.int .i64 20] w fun e w'=>e=.returned (.tuple #[.agg #[.string ⟨#[]⟩,.string ⟨#[]⟩],.int .i64 20])∧Below w.heap.size w w':=by
 have HB:∀cs,Hid (Below w.heap.size w ((w.alloc (.cells #[.slice a x c,.bool b,.slice d e0 f] 138)).alloc (.cells cs 44))):=fun cs=>qH (qbK (qbK qB qN) qN)
 go_enter Tryz.func84,Tryz.ntmps84
 go_wp2_with fail
 exact qR (v:=.tuple #[.agg #[.string ⟨#[]⟩,.string ⟨#[]⟩],.int .i64 20]) (qbN rfl _ _ (w.heap.size+1) 44 #[.string ⟨#[]⟩,.string ⟨#[]⟩] _ rfl (qM _ _ _ (by simp)) Tryz.underlying44 rfl 2 (by kernel_rfl) rfl _ rfl) rfl ⟨rfl,(HB _).out⟩
theorem qkD (q:Rat) (K:Nat) (hK0:0<K) (hK:K≤34359738368) (v:Value) (w:World) (hv:RatV w v q) (hq:RFit q K) (hT:HasT w) :
  Calls Tryz.prog 84 #[v,.int .i64 0] w fun e w'=>qhI w q e w':=by
 obtain⟨a,x,c,b,d,e0,f,rfl⟩:=qcP hv
 obtain⟨W1,hW1⟩:∃W1,W1=(w.alloc (.cells #[.slice a x c,.bool b,.slice d e0 f] 138)).alloc (.cells #[.string ⟨#[]⟩,.string ⟨#[]⟩] 44):=⟨_,rfl⟩
 have hb1:Below w.heap.size w W1:=hW1▸qbK (qbK qB qN) qN
 have hr1:W1.heap[w.heap.size+1]? = some (.cells #[.string ⟨#[]⟩,.string ⟨#[]⟩] 44 (0,0)):=by rw [hW1];exact qM _ _ _ (by simp)
 have HW:=qH (qeO q K hK0 hK _ W1 (hv.below hb1) hq (hT.below hb1))
 have HR:=qH (qA hb1 hr1)
 clear hv hq hT hb1 hr1 hK
 go_enter Tryz.func84,Tryz.ntmps84
 go_wp2_with fail
 rw [←hW1]
 clear hW1
 refine HW.out.mono ?_
 rintro e w2 ⟨h,hb⟩
 have H2:=qH (qA ((hb.block _ (qG HR.out.2).1).trans HR.out.2) (HR.out.1.trans (hb.mono HR.out.1.size)))
 clear hb
 rcases h with ⟨hs,rfl⟩ | ⟨hs,rfl⟩
 ·unfold fstr
  have HS:=qH hs
  obtain⟨T1,hT1⟩:∃T,frac.wtxt q.num=T:=⟨_,rfl⟩
  obtain⟨T2,hT2⟩:∃T,num q.den=T:=⟨_,rfl⟩
  rw [hT1,hT2]
  have HTT:=qH (qA hT1 hT2)
  clear hT1 hT2 hs
  go_wp2_with ((with_reducible refine wpList_store_row rfl 44 _ _ rfl (w.heap.size+1) #[.string T1,.string T2] ?_ ?_ 44 _ H2.out.1 2 ?_ ?_ ?_ ?_ ?_);(next=>rfl);(next=>rfl);(next=>kernel_rfl);(next=>rfl);(next=>rfl);(next=>rfl))
  refine qR (v:=.tuple #[.agg #[.string T1,.string T2],.int .i64 0]) (qbN rfl _ _ (w.heap.size+1) 44 _ _ rfl (setRow_heap _ _ _ _ _ _ H2.out.1) Tryz.underlying44 rfl 2 (by kernel_rfl) rfl _ rfl) rfl ⟨qal ⟨HS.out,?_⟩,below_setRow H2.out.2 (by omega) _⟩
  unfold fstr
  rw [HTT.out.1,HTT.out.2]
 ·have HS:=qH hs
  clear hs
  go_wp2_with ((with_reducible refine wpList_store_row rfl 44 _ _ rfl (w.heap.size+1) #[.string ⟨#[]⟩,.string ⟨#[]⟩] ?_ ?_ 44 _ H2.out.1 2 ?_ ?_ ?_ ?_ ?_);(next=>rfl);(next=>rfl);(next=>kernel_rfl);(next=>rfl);(next=>rfl);(next=>rfl))
  exact qR (v:=.tuple #[.agg #[.string ⟨#[]⟩,.string ⟨#[]⟩],.int .i64 6]) (qbN rfl _ _ (w.heap.size+1) 44 _ _ rfl (setRow_heap _ _ _ _ _ _ H2.out.1) Tryz.underlying44 rfl 2 (by kernel_rfl) rfl _ rfl) rfl ⟨qag ⟨HS.out,rfl⟩,below_setRow H2.out.2 (by omega) _⟩
theorem fmul_any (n d m c:ByteArray) (w:World) (hT:HasT w) :
  Calls Tryz.prog 26 #[.agg #[.string n,.string d],.agg #[.string m,.string c]] w fun e w'=>FDoes w (· * ·) n.data.toList d.data.toList m.data.toList c.data.toList e w':=by
 have HT:=qH hT
 have HA:=qH (fun W=>qkB n d m c W)
 obtain⟨W1,hW1⟩:∃W1,W1=((w.alloc (.cells #[.string n,.string d] 44)).alloc (.cells #[.string m,.string c] 44)).alloc (.cells #[.string ⟨#[]⟩,.string ⟨#[]⟩] 44):=⟨_,rfl⟩
 have hb1:Below w.heap.size w W1:=hW1▸qbK (qbK (qbK qB qN) qN) qN
 have hr1:W1.heap[w.heap.size+1+1]? = some (.cells #[.string ⟨#[]⟩,.string ⟨#[]⟩] 44 (0,0)):=by rw [hW1];exact qM _ _ _ (by simp)
 have HR:=qH (qA hb1 hr1)
 clear hb1 hr1 hT
 go_enter Tryz.func26,Tryz.ntmps26
 go_wp2_with fail
 rw [←hW1]
 clear hW1
 refine (HA.out W1).mono ?_
 rintro e w2 ⟨⟨v,er,rfl,h⟩,hb⟩
 have H2:=qH (qA ((hb.block _ (qG HR.out.2).1).trans HR.out.2) (HR.out.1.trans (hb.mono HR.out.1.size)))
 clear hb
 rcases h with ⟨hf,rfl,hv⟩ | ⟨hf,rfl,rfl⟩
 ·have hres:=qkD _ (67+67) (by decide) (by decide) v w2 hv (hf.1.fit.mul hf.2.fit) (HT.out.below H2.out.2)
  have HF:=qH hf
  have HRS:=qH hres
  obtain⟨a7,n7,c7,b7,d7,e7,f7,rfl⟩:=qcP hv
  clear hf hres hv
  go_wp2_with fail
  refine HRS.out.mono ?_
  rintro e w3 ⟨h,hb⟩
  have H3:=qH (qA ((hb.block _ (qG H2.out.1).1).trans H2.out.1) (H2.out.2.trans (hb.mono H2.out.2.size)))
  clear hb
  rcases h with ⟨hs,rfl⟩ | ⟨hs,rfl⟩
  ·unfold fstr
   have HS:=qH hs
   obtain⟨q,hq⟩:∃q,((· * ·):Rat→Rat→Rat) (fval n.data.toList d.data.toList) (fval m.data.toList c.data.toList)=q:=⟨_,rfl⟩
   obtain⟨T1,hT1⟩:∃T,frac.wtxt (((· * ·):Rat→Rat→Rat) (fval n.data.toList d.data.toList) (fval m.data.toList c.data.toList)).num=T:=⟨_,rfl⟩
   obtain⟨T2,hT2⟩:∃T,num (((· * ·):Rat→Rat→Rat) (fval n.data.toList d.data.toList) (fval m.data.toList c.data.toList)).den=T:=⟨_,rfl⟩
   rw [hT1,hT2]
   have HTT:=qH (qA hT1 hT2)
   clear hT1 hT2 hs hq
   go_wp2_with ((with_reducible refine wpList_store_row rfl 44 _ _ rfl (w.heap.size+1+1) #[.string T1,.string T2] ?_ ?_ 44 _ H3.out.1 2 ?_ ?_ ?_ ?_ ?_);(next=>rfl);(next=>rfl);(next=>kernel_rfl);(next=>rfl);(next=>rfl);(next=>rfl))
   refine qR (v:=.tuple #[.agg #[.string T1,.string T2],.int .i64 0]) (qbN rfl _ _ (w.heap.size+1+1) 44 _ _ rfl (setRow_heap _ _ _ _ _ _ H3.out.1) Tryz.underlying44 rfl 2 (by kernel_rfl) rfl _ rfl) rfl ⟨qal ⟨HF.out,qal ⟨HS.out,?_⟩⟩,below_setRow H3.out.2 (by omega) _⟩
   unfold fstr
   rw [HTT.out.1,HTT.out.2]
  ·have HS:=qH hs
   clear hs
   go_wp2_with ((with_reducible refine wpList_store_row rfl 44 _ _ rfl (w.heap.size+1+1) #[.string ⟨#[]⟩,.string ⟨#[]⟩] ?_ ?_ 44 _ H3.out.1 2 ?_ ?_ ?_ ?_ ?_);(next=>rfl);(next=>rfl);(next=>kernel_rfl);(next=>rfl);(next=>rfl);(next=>rfl))
   exact qR (v:=.tuple #[.agg #[.string ⟨#[]⟩,.string ⟨#[]⟩],.int .i64 6]) (qbN rfl _ _ (w.heap.size+1+1) 44 _ _ rfl (setRow_heap _ _ _ _ _ _ H3.out.1) Tryz.underlying44 rfl 2 (by kernel_rfl) rfl _ rfl) rfl ⟨qal ⟨HF.out,qag ⟨HS.out,rfl⟩⟩,below_setRow H3.out.2 (by omega) _⟩
 ·have HF:=qH hf
  have HRS:=qH (fun W=>qjt none 0 0 false none 0 0 W)
  clear hf
  go_wp2_with fail
  refine (HRS.out _).mono ?_
  rintro e w3 ⟨rfl,hb⟩
  have H3:=qH (qA ((hb.block _ (qG H2.out.1).1).trans H2.out.1) (H2.out.2.trans (hb.mono H2.out.2.size)))
  clear hb
  go_wp2_with ((with_reducible refine wpList_store_row rfl 44 _ _ rfl (w.heap.size+1+1) #[.string ⟨#[]⟩,.string ⟨#[]⟩] ?_ ?_ 44 _ H3.out.1 2 ?_ ?_ ?_ ?_ ?_);(next=>rfl);(next=>rfl);(next=>kernel_rfl);(next=>rfl);(next=>rfl);(next=>rfl))
  exact qR (v:=.tuple #[.agg #[.string ⟨#[]⟩,.string ⟨#[]⟩],.int .i64 20]) (qbN rfl _ _ (w.heap.size+1+1) 44 _ _ rfl (setRow_heap _ _ _ _ _ _ H3.out.1) Tryz.underlying44 rfl 2 (by kernel_rfl) rfl _ rfl) rfl ⟨qag ⟨HF.out,rfl⟩,below_setRow H3.out.2 (by omega) _⟩
end Go.Proofs.YtplkdeknjghobaaGreatDoor
namespace Go.Proofs.YtplkdeknjghobaaGreatDoor.least
open Go.RowKit
theorem qct {W:World} {m:Value} {b:Bool} {z:Int} {g:Nat} {cs cs':Array Value} {t:TypeId} {fz:Nat×Nat} (h:IntAt W (.agg #[m,.bool b]) z) (hg:W.heap[g]? = some (.cells cs t fz)) (hne:∀x∈cs.toList,∀d,x≠.int .u32 d):IntAt (W.setRow g cs') (.agg #[m,.bool b]) z:=by
 obtain⟨m',h1,h2⟩:=h
 exact⟨m',h1,qcK h2 hg hne⟩
theorem qbL {W:World} {v:Value} {z:Int} (h:IntAt W v z):∃(a:Option Addr) (n c:Nat) (b:Bool),v=.agg #[.slice a n c,.bool b]:=by
 obtain⟨m,rfl,am,bm,om,cm,n,M,rfl,Im,hMx⟩:=h
 exact⟨am,n,cm,_,rfl⟩
theorem qbT (W:World) (g k:Nat) (v:Value):W.grownBy (W.setCell ⟨g,k,none⟩ v) (some g) :=
 ⟨rfl,rfl,rfl,by simp [World.setCell],fun i _ hr=>Below.heap_setCell _ _ _ _ (fun e=>hr (by rw [e]))⟩
theorem qcZ {W:World} {g:Nat} {t:TypeId} (h:W.heap[g]? = some (.cells #[.slice none 0 0,.bool false] t (0,0))) (a:Option Addr) (n c:Nat) (b:Bool) :
  ((W.setCell ⟨g,0,none⟩ (.slice a n c)).setCell ⟨g,1,none⟩ (.bool b)).heap[g]? = some (.cells #[.slice a n c,.bool b] t (0,0)) :=
 heap_setCell_same _ g 1 _ t _ (heap_setCell_same _ g 0 _ t _ h)
theorem qcY {W:World} {m:Value} {b0:Bool} {z:Int} {g:Nat} {t:TypeId} (hi:IntAt W (.agg #[m,.bool b0]) z) (h:W.heap[g]? = some (.cells #[.slice none 0 0,.bool false] t (0,0))) (a:Option Addr) (n c:Nat) (b:Bool) :
  IntAt ((W.setCell ⟨g,0,none⟩ (.slice a n c)).setCell ⟨g,1,none⟩ (.bool b)) (.agg #[m,.bool b0]) z:=by
 obtain⟨m',h1,h2⟩:=hi
 refine⟨m',h1,?_⟩
 refine qcf (qcf h2 (qbT W g 0 _) h qcQ) (qbT _ g 1 _) (heap_setCell_same W g 0 _ t _ h) ?_
 intro x hx d
 rcases qaL.1 (show x∈[Value.slice a n c,Value.bool false] from hx) with rfl | hx
 ·intro h;cases h
 ·rw [qaq.1 hx];intro h;cases h
theorem qmD (x y:Int):(if (decide (x<0) != decide (y<0))=true then -((x.natAbs*y.natAbs:Nat):Int) else ((x.natAbs*y.natAbs:Nat):Int))=x*y:=by
 rw [←qaz]
 by_cases hx:x<0
 ·by_cases hy:y<0
  ·rw [qV hx,qV hy,if_neg (by decide)]
   have:=Int.mul_pos_of_neg_of_neg hx hy;omega
  ·rw [qV hx,qU hy,if_pos (by decide)]
   have:=Int.mul_nonpos_of_nonpos_of_nonneg (Int.le_of_lt hx) (Int.not_lt.1 hy);omega
 ·by_cases hy:y<0
  ·rw [qU hx,qV hy,if_pos (by decide)]
   have:=Int.mul_nonpos_of_nonneg_of_nonpos (Int.not_lt.1 hx) (Int.le_of_lt hy);omega
  ·rw [qU hx,qU hy,if_neg (by decide)]
   have:=Int.mul_nonneg (Int.not_lt.1 hx) (Int.not_lt.1 hy);omega
theorem qh8 (x:Int) (y:Nat):(if decide (x<0)=true then -((x.natAbs*y:Nat):Int) else ((x.natAbs*y:Nat):Int))=x*(y:Int):=by
 by_cases hx:x<0
 ·rw [qV hx,if_pos rfl,qbz,←qbs];congr 1;omega
 ·rw [qU hx,if_neg (by decide),qbz];congr 1;omega
theorem qdH (z:Int) (v:Value) (w:World) (hv:IntAt w v z) :
  Calls Tryz.prog 175 #[v] w fun e w'=>∃u,e=.returned u∧Below w.heap.size w w'∧IntAt w' u (-z):=by
 obtain⟨m,rfl,hm⟩:=hv
 have hs:=fun (W:World) (h:Below w.heap.size w W)=>qbY z.natAbs (!decide (z<0)) m W (hm.below h)
 have hz:(if (!decide (z<0))=true then -(z.natAbs:Int) else (z.natAbs:Int)) = -z:=by
  by_cases h:z<0
  ·rw [qV h,if_neg (by decide)];omega
  ·rw [qU h,if_pos (by decide)];omega
 rw [hz] at hs
 have HS:=qH hs
 generalize decide (z<0)=b at *
 obtain⟨am,bm,om,cm,n,M,rfl,Im,hMx⟩:=hm
 clear hs hz Im hMx
 obtain⟨W1,hW1⟩:∃W1,W1=(w.alloc (.cells #[.slice am n cm,.bool b] 242)).alloc (.cells #[.slice none 0 0,.bool false] 242):=⟨_,rfl⟩
 have hb1:Below w.heap.size w W1:=hW1▸(qB.alloc qN _).alloc (by simp) _
 have hr1:W1.heap[w.heap.size+1]? = some (.cells #[.slice none 0 0,.bool false] 242 (0,0)):=by rw [hW1];exact qM _ _ _ (by simp)
 go_enter Tryz.func175,Tryz.ntmps175
 go_wp2_with fail
 rw [←hW1]
 refine (HS.out _ hb1).mono ?_
 rintro e w2 ⟨u,rfl,hb9,hu9⟩
 have hrow9:=(hb9.block (w.heap.size+1) (qG hr1).1).trans hr1
 have hbw9:Below w.heap.size w w2:=hb1.trans (hb9.mono hb1.size)
 clear hW1 hb1 hr1
 obtain⟨a9,n9,c9,b9,rfl⟩:=qbL hu9
 have hvs:=qct (cs':=#[.slice a9 n9 c9,.bool b9]) hu9 hrow9 qcQ
 have HR:=qH (qA hrow9 (qA hbw9 (below_setRow hbw9 (show w.heap.size≤w.heap.size+1 by omega) #[.slice a9 n9 c9,.bool b9])))
 have HV:=qH hvs
 clear hrow9 hbw9 hvs hb9 hu9
 go_wp2_with ((with_reducible refine wpList_store_row rfl 242 _ _ rfl (w.heap.size+1) #[.slice a9 n9 c9,.bool b9] ?_ ?_ 242 _ HR.out.1 2 ?_ ?_ ?_ ?_ ?_);(next=>rfl);(next=>rfl);(next=>kernel_rfl);(next=>rfl);(next=>rfl);(next=>rfl))
 exact qR (v:=.agg #[.slice a9 n9 c9,.bool b9]) (qbP rfl _ _ (w.heap.size+1) 242 _ _ rfl (setRow_heap _ _ _ _ _ _ HR.out.1) Tryz.underlying242 rfl 2 (by kernel_rfl) rfl) rfl ⟨_,rfl,HR.out.2.2,HV.out⟩
theorem qc3 (x y:Int) (K J:Nat) (hK:K+J≤274877906944) (v u:Value) (w:World) (hv:IntAt w v x) (hu:IntAt w u y) (hx:Fit x.natAbs K) (hy:Fit y.natAbs J) :
  Calls Tryz.prog 172 #[v,u] w fun e w'=>∃u,e=.returned u∧Below w.heap.size w w'∧IntAt w' u (x*y):=by
 obtain⟨m,rfl,hm⟩:=hv
 obtain⟨o,rfl,ho⟩:=hu
 have ht:=fun (W:World) (h:Below w.heap.size w W)=>qce x.natAbs y.natAbs K J hK m o W (hm.below h) (ho.below h) hx hy
 have hs:=fun (W:World) (p:Value) (h:MagAt W p (x.natAbs*y.natAbs))=>qbY (x.natAbs*y.natAbs) (decide (x<0) != decide (y<0)) p W h
 rw [qmD] at hs
 generalize decide (x<0)=b0 at *
 generalize decide (y<0)=b1 at *
 obtain⟨a0,bm,om,c0,n0,M,rfl,Im,hMx⟩:=hm
 obtain⟨a1,bo,oo,c1,n1,O,rfl,Io,hOx⟩:=ho
 have HT:=qH ht
 have HS:=qH hs
 clear ht hs Im hMx Io hOx hx hy hK
 obtain⟨W1,hW1⟩:∃W1,W1=((w.alloc (.cells #[.slice a0 n0 c0,.bool b0] 242)).alloc (.cells #[.slice a1 n1 c1,.bool b1] 242)).alloc (.cells #[.slice none 0 0,.bool false] 242):=⟨_,rfl⟩
 have hb1:Below w.heap.size w W1:=hW1▸((qB.alloc qN _).alloc (by simp only [qab];omega) _).alloc (by simp only [qab];omega) _
 have hr0:W1.heap[w.heap.size]? = some (.cells #[.slice a0 n0 c0,.bool b0] 242 (0,0)):=by rw [hW1,qL _ _ _ (by simp only [qab];omega),qL _ _ _ (by simp only [qab];omega)];exact qM _ _ _ rfl
 have hr1:W1.heap[w.heap.size+1]? = some (.cells #[.slice a1 n1 c1,.bool b1] 242 (0,0)):=by rw [hW1,qL _ _ _ (by simp only [qab];omega)];exact qM _ _ _ (by simp)
 have hr2:W1.heap[w.heap.size+1+1]? = some (.cells #[.slice none 0 0,.bool false] 242 (0,0)):=by rw [hW1];exact qM _ _ _ (by simp)
 have l2:w.heap.size+1+1<W1.heap.size:=(qG hr2).1
 have C0:∀W,Below (w.heap.size+1+1) W1 W→W.cell? ⟨w.heap.size,0,none⟩=some (.slice a0 n0 c0):=fun W h=>(h.cell (p:=⟨w.heap.size,0,none⟩) (by show w.heap.size<_;omega)).trans (qC _ _ 0 _ _ _ hr0)
 have C1:∀W,Below (w.heap.size+1+1) W1 W→W.cell? ⟨w.heap.size,1,none⟩=some (.bool b0):=fun W h=>(h.cell (p:=⟨w.heap.size,1,none⟩) (by show w.heap.size<_;omega)).trans (qC _ _ 1 _ _ _ hr0)
 have D0:∀W,Below (w.heap.size+1+1) W1 W→W.cell? ⟨w.heap.size+1,0,none⟩=some (.slice a1 n1 c1):=fun W h=>(h.cell (p:=⟨w.heap.size+1,0,none⟩) (by show w.heap.size+1<_;omega)).trans (qC _ _ 0 _ _ _ hr1)
 have D1:∀W,Below (w.heap.size+1+1) W1 W→W.cell? ⟨w.heap.size+1,1,none⟩=some (.bool b1):=fun W h=>(h.cell (p:=⟨w.heap.size+1,1,none⟩) (by show w.heap.size+1<_;omega)).trans (qC _ _ 1 _ _ _ hr1)
 have hrefl:Below (w.heap.size+1+1) W1 W1:=Below.refl _ _
 have hreflD:Below (w.heap.size+1+1) W1 W1.drew:=qB.drew
 have HR:=qH (qA hb1 hr2)
 clear hr0 hr1 hr2 hb1
 go_enter Tryz.func172,Tryz.ntmps172
 go_wp2_with fail
 rw [←hW1]
 clear hW1
 have Hl2:=qH l2
 go_region_held3 (fun W=>Below (w.heap.size+1+1) W1 W) (first | with_reducible exact hrefl | with_reducible exact hreflD | with_reducible exact HB3 | with_reducible exact HB2 | ((iterate 2 refine Below.setCell ?_ (by exact qad _) _);exact HB3)) (first | (go_at_call 176;refine (HT.out _ (HR.out.1.trans (hreflD.mono (by omega)))).mono ?_;rintro e w2 ⟨p2,rfl,hb2,hp2⟩;have HB2:Below (w.heap.size+1+1) W1 w2:=hreflD.trans (hb2.mono (qak Hl2.out));have HP2:=qH (qA hp2 ((hb2.block _ Hl2.out).trans HR.out.2));clear hb2 hp2) | (go_at_call 180;refine (HS.out _ _ HP2.out.1).mono ?_;rintro e w3 ⟨p3,rfl,hb3,hp3⟩;have HB3:Below (w.heap.size+1+1) W1 w3:=HB2.trans (hb3.mono (qaj (qak Hl2.out) HB2.size));obtain⟨a9,n9,c9,b9,rfl⟩:=qbL hp3;have hz3:=(hb3.block _ (qah Hl2.out HB2.size)).trans HP2.out.2;have e0:=qC w3 _ 0 _ _ _ hz3;have e1:=qC w3 _ 1 _ _ _ hz3;have f0:=qF w3 _ 0 _ _ hz3;have f1:=qF w3 _ 1 _ _ hz3;have HP3:=qH (qA hp3 hz3);clear hb3 hp3 hz3))
 go_wp2_with fail
 exact qR (v:=.agg #[.slice a9 n9 c9,.bool b9]) (qbP rfl _ _ (w.heap.size+1+1) 242 _ _ rfl (qcZ HP3.out.2 a9 n9 c9 b9) Tryz.underlying242 rfl 2 (by kernel_rfl) rfl) rfl ⟨_,rfl,HR.out.1.trans (((HB3.setCell (by exact qad _) _).setCell (by exact qad _) _).mono (by omega)),qcY HP3.out.1 HP3.out.2 a9 n9 c9 b9⟩
theorem qmC (x y:Int):(if (decide (x<0) != decide (y<0))=true then -((x.natAbs / y.natAbs:Nat):Int) else ((x.natAbs / y.natAbs:Nat):Int))=x.tdiv y:=by
 obtain⟨a,rfl | rfl⟩:=Int.eq_nat_or_neg x
 ·obtain⟨b,rfl | rfl⟩:=Int.eq_nat_or_neg y
  ·rw [qU (by omega),qU (by omega),if_neg (by decide)];rfl
  ·rw [qU (by omega:¬(a:Int)<0),qbl,Int.tdiv_neg]
   by_cases hb:b=0
   ·subst hb;simp
   ·rw [qV (by omega),if_pos (by decide)];rfl
 ·obtain⟨b,rfl | rfl⟩:=Int.eq_nat_or_neg y
  ·rw [qU (by omega:¬(b:Int)<0),qbl,Int.neg_tdiv]
   by_cases ha:a=0
   ·subst ha;simp
   ·rw [qV (by omega),if_pos (by decide)];rfl
  ·rw [qbl,qbl,Int.tdiv_neg,Int.neg_tdiv,Int.neg_neg]
   by_cases ha:a=0
   ·subst ha
    by_cases hb:b=0
    ·subst hb;simp
    ·simp
   ·by_cases hb:b=0
    ·subst hb;simp
    ·rw [qV (by omega),qV (by omega),if_neg (by decide)];rfl
theorem qjI {x y:Int} (h:decide (x<0)=decide (y<0)):(if decide (x<0)=true then -((x.natAbs+y.natAbs:Nat):Int) else ((x.natAbs+y.natAbs:Nat):Int))=x+y:=by
 by_cases hx:x<0
 ·rw [qV hx] at h ⊢
  have hy:=of_decide_eq_true h.symm
  rw [if_pos rfl];omega
 ·rw [qU hx] at h ⊢
  have hy:=of_decide_eq_false h.symm
  rw [if_neg (by decide)];omega
theorem qfB {x y:Int} (h:¬decide (x<0)=decide (y<0)) (hle:y.natAbs≤x.natAbs):(if decide (x<0)=true then -((x.natAbs-y.natAbs:Nat):Int) else ((x.natAbs-y.natAbs:Nat):Int))=x+y:=by
 by_cases hx:x<0
 ·have hy:¬y<0:=fun hy=>h (by rw [qV hx,qV hy])
  rw [qV hx,if_pos rfl];omega
 ·have hy:y<0:=by
   by_cases hy:y<0
   ·exact hy
   ·exact absurd (by rw [qU hx,qU hy]) h
  rw [qU hx,if_neg (by decide)];omega
theorem qcB (x:Int) (y K J:Nat) (hK:K+J≤274877906944) (v o:Value) (w:World) (hv:IntAt w v x) (ho:MagAt w o y) (hx:Fit x.natAbs K) (hy:Fit y J) :
  Calls Tryz.prog 174 #[v,o] w fun e w'=>∃u,e=.returned u∧Below w.heap.size w w'∧IntAt w' u (x*(y:Int)):=by
 obtain⟨m,rfl,hm⟩:=hv
 have ht:=fun (W:World) (h:Below w.heap.size w W)=>qce x.natAbs y K J hK m o W (hm.below h) (ho.below h) hx hy
 have hs:=fun (W:World) (p:Value) (h:MagAt W p (x.natAbs*y))=>qbY (x.natAbs*y) (decide (x<0)) p W h
 rw [qh8] at hs
 generalize decide (x<0)=b0 at *
 obtain⟨a0,bm,om,c0,n0,M,rfl,Im,hMx⟩:=hm
 obtain⟨a1,bo,oo,c1,n1,O,rfl,Io,hOx⟩:=ho
 have HT:=qH ht
 have HS:=qH hs
 clear ht hs Im hMx Io hOx hx hy hK
 obtain⟨W1,hW1⟩:∃W1,W1=(w.alloc (.cells #[.slice a0 n0 c0,.bool b0] 242)).alloc (.cells #[.slice none 0 0,.bool false] 242):=⟨_,rfl⟩
 have hb1:Below w.heap.size w W1:=hW1▸(qB.alloc qN _).alloc (by simp only [qab];omega) _
 have hr0:W1.heap[w.heap.size]? = some (.cells #[.slice a0 n0 c0,.bool b0] 242 (0,0)):=by rw [hW1,qL _ _ _ (by simp only [qab];omega)];exact qM _ _ _ (by simp)
 have hr:W1.heap[w.heap.size+1]? = some (.cells #[.slice none 0 0,.bool false] 242 (0,0)):=by rw [hW1];exact qM _ _ _ (by simp)
 have l2:w.heap.size+1<W1.heap.size:=(qG hr).1
 have C00:∀W,Below (w.heap.size+1) W1 W→W.cell? ⟨w.heap.size,0,none⟩=some (.slice a0 n0 c0):=fun W h=>(h.cell (p:=⟨w.heap.size,0,none⟩) (by show w.heap.size<_;omega)).trans (qC _ _ 0 _ _ _ hr0)
 have C01:∀W,Below (w.heap.size+1) W1 W→W.cell? ⟨w.heap.size,1,none⟩=some (.bool b0):=fun W h=>(h.cell (p:=⟨w.heap.size,1,none⟩) (by show w.heap.size<_;omega)).trans (qC _ _ 1 _ _ _ hr0)
 have hrefl:Below (w.heap.size+1) W1 W1:=Below.refl _ _
 have HR:=qH (qA hb1 hr)
 have Hl2:=qH l2
 clear hr0 hr hb1
 go_enter Tryz.func174,Tryz.ntmps174
 go_wp2_with fail
 rw [←hW1]
 clear hW1
 have hstD:Below (w.heap.size+1) W1 W1.drew:=hrefl.drew
 go_region_held3 (fun W=>Below (w.heap.size+1) W1 W) (first | with_reducible exact hrefl | with_reducible exact hstD | with_reducible exact HB3 | with_reducible exact HB2 | ((iterate 2 refine Below.setCell ?_ (by exact qad _) _);exact HB3)) (first | (go_at_call 176;refine (HT.out _ (HR.out.1.trans (hstD.mono (by omega)))).mono ?_;rintro e w2 ⟨p2,rfl,hb2,hp2⟩;have HB2:Below (w.heap.size+1) W1 w2:=hstD.trans (hb2.mono (qak (qah Hl2.out hrefl.size)));have HP2:=qH (qA hp2 ((hb2.block _ (qah Hl2.out hrefl.size)).trans HR.out.2));clear hb2 hp2) | (go_at_call 180;refine (HS.out _ _ HP2.out.1).mono ?_;rintro e w3 ⟨p3,rfl,hb3,hp3⟩;have HB3:Below (w.heap.size+1) W1 w3:=HB2.trans (hb3.mono (qaj (qak Hl2.out) HB2.size));obtain⟨a9,n9,c9,b9,rfl⟩:=qbL hp3;have hz3:=(hb3.block _ (qah Hl2.out HB2.size)).trans HP2.out.2;have e0:=qC w3 _ 0 _ _ _ hz3;have e1:=qC w3 _ 1 _ _ _ hz3;have f0:=qF w3 _ 0 _ _ hz3;have f1:=qF w3 _ 1 _ _ hz3;have HP3:=qH (qA hp3 hz3);clear hb3 hp3 hz3))
 go_wp2_with fail
 exact qR (v:=.agg #[.slice a9 n9 c9,.bool b9]) (qbP rfl _ _ (w.heap.size+1) 242 _ _ rfl (qcZ HP3.out.2 a9 n9 c9 b9) Tryz.underlying242 rfl 2 (by kernel_rfl) rfl) rfl ⟨_,rfl,HR.out.1.trans (((HB3.setCell (by exact qad _) _).setCell (by exact qad _) _).mono (by omega)),qcY HP3.out.1 HP3.out.2 a9 n9 c9 b9⟩
theorem qiT (x y:Int) (K:Nat) (hK:K≤137438953472) (v u:Value) (w:World) (hv:IntAt w v x) (hu:IntAt w u y) (hx:Fit x.natAbs K) (hy:Fit y.natAbs K) (h0:y≠0) :
  Calls Tryz.prog 291 #[v,u] w fun e w'=>∃u,e=.returned u∧Below w.heap.size w w'∧IntAt w' u (x.tdiv y):=by
 obtain⟨m,rfl,hm⟩:=hv
 obtain⟨o,rfl,ho⟩:=hu
 have ht:=fun (W:World) (h:Below w.heap.size w W)=>qbZ x.natAbs y.natAbs K hK m o W (hm.below h) (ho.below h) hx hy (by omega)
 have hs:=fun (W:World) (p:Value) (h:MagAt W p (x.natAbs / y.natAbs))=>qbY (x.natAbs / y.natAbs) (decide (x<0) != decide (y<0)) p W h
 rw [qmC] at hs
 generalize decide (x<0)=b0 at *
 generalize decide (y<0)=b1 at *
 obtain⟨a0,bm,om,c0,n0,M,rfl,Im,hMx⟩:=hm
 obtain⟨a1,bo,oo,c1,n1,O,rfl,Io,hOx⟩:=ho
 have HT:=qH ht
 have HS:=qH hs
 clear ht hs Im hMx Io hOx hx hy hK
 obtain⟨W1,hW1⟩:∃W1,W1=((w.alloc (.cells #[.slice a0 n0 c0,.bool b0] 242)).alloc (.cells #[.slice a1 n1 c1,.bool b1] 242)).alloc (.cells #[.slice none 0 0,.bool false] 242):=⟨_,rfl⟩
 have hb1:Below w.heap.size w W1:=hW1▸((qB.alloc qN _).alloc (by simp only [qab];omega) _).alloc (by simp only [qab];omega) _
 have hr0:W1.heap[w.heap.size]? = some (.cells #[.slice a0 n0 c0,.bool b0] 242 (0,0)):=by rw [hW1,qL _ _ _ (by simp only [qab];omega),qL _ _ _ (by simp only [qab];omega)];exact qM _ _ _ (by simp)
 have hr1:W1.heap[w.heap.size+1]? = some (.cells #[.slice a1 n1 c1,.bool b1] 242 (0,0)):=by rw [hW1,qL _ _ _ (by simp only [qab];omega)];exact qM _ _ _ (by simp)
 have hr:W1.heap[w.heap.size+1+1]? = some (.cells #[.slice none 0 0,.bool false] 242 (0,0)):=by rw [hW1];exact qM _ _ _ (by simp)
 have l2:w.heap.size+1+1<W1.heap.size:=(qG hr).1
 have C00:∀W,Below (w.heap.size+1+1) W1 W→W.cell? ⟨w.heap.size,0,none⟩=some (.slice a0 n0 c0):=fun W h=>(h.cell (p:=⟨w.heap.size,0,none⟩) (by show w.heap.size<_;omega)).trans (qC _ _ 0 _ _ _ hr0)
 have C01:∀W,Below (w.heap.size+1+1) W1 W→W.cell? ⟨w.heap.size,1,none⟩=some (.bool b0):=fun W h=>(h.cell (p:=⟨w.heap.size,1,none⟩) (by show w.heap.size<_;omega)).trans (qC _ _ 1 _ _ _ hr0)
 have C10:∀W,Below (w.heap.size+1+1) W1 W→W.cell? ⟨w.heap.size+1,0,none⟩=some (.slice a1 n1 c1):=fun W h=>(h.cell (p:=⟨w.heap.size+1,0,none⟩) (by show w.heap.size+1<_;omega)).trans (qC _ _ 0 _ _ _ hr1)
 have C11:∀W,Below (w.heap.size+1+1) W1 W→W.cell? ⟨w.heap.size+1,1,none⟩=some (.bool b1):=fun W h=>(h.cell (p:=⟨w.heap.size+1,1,none⟩) (by show w.heap.size+1<_;omega)).trans (qC _ _ 1 _ _ _ hr1)
 have hrefl:Below (w.heap.size+1+1) W1 W1:=Below.refl _ _
 have HR:=qH (qA hb1 hr)
 have Hl2:=qH l2
 clear hr0 hr1 hr hb1
 go_enter Tryz.func291,Tryz.ntmps291
 go_wp2_with fail
 rw [←hW1]
 clear hW1
 refine (HT.out _ HR.out.1).mono ?_
 rintro e w2 ⟨q,r,rfl,hb2,hq,_⟩
 have hB2:Below (w.heap.size+1+1) W1 w2:=hb2.mono (qak Hl2.out)
 have c01:=C01 w2 hB2
 have c11:=C11 w2 hB2
 have hrow2:=(hb2.block _ Hl2.out).trans HR.out.2
 have H2:=qH (qA hq (qA hrow2 (HR.out.1.trans (hb2.mono HR.out.1.size))))
 have Hl3:Hid (w.heap.size+1+1<w2.heap.size):=qH (qah Hl2.out hb2.size)
 clear hb2 hq hrow2 hB2 C00 C01 C10 C11
 go_wp2_with fail
 refine (HS.out _ _ H2.out.1).mono ?_
 rintro e w3 ⟨u3,rfl,hb9,hu9⟩
 have hrow9:=(hb9.block _ Hl3.out).trans H2.out.2.1
 have hbw9:Below w.heap.size w w3:=H2.out.2.2.trans (hb9.mono H2.out.2.2.size)
 obtain⟨a9,n9,c9,b9,rfl⟩:=qbL hu9
 have hvs:=qct (cs':=#[.slice a9 n9 c9,.bool b9]) hu9 hrow9 qcQ
 have HR:=qH (qA hrow9 (qA hbw9 (below_setRow hbw9 (show w.heap.size≤w.heap.size+1+1 by omega) #[.slice a9 n9 c9,.bool b9])))
 have HV:=qH hvs
 clear hrow9 hbw9 hvs hb9 hu9
 go_wp2_with ((with_reducible refine wpList_store_row rfl 242 _ _ rfl (w.heap.size+1+1) #[.slice a9 n9 c9,.bool b9] ?_ ?_ 242 _ HR.out.1 2 ?_ ?_ ?_ ?_ ?_);(next=>rfl);(next=>rfl);(next=>kernel_rfl);(next=>rfl);(next=>rfl);(next=>rfl))
 exact qR (v:=.agg #[.slice a9 n9 c9,.bool b9]) (qbP rfl _ _ (w.heap.size+1+1) 242 _ _ rfl (setRow_heap _ _ _ _ _ _ HR.out.1) Tryz.underlying242 rfl 2 (by kernel_rfl) rfl) rfl ⟨_,rfl,HR.out.2.2,HV.out⟩
theorem qdE (x y:Int) (K:Nat) (hK:K≤274877906944) (v u:Value) (w:World) (hv:IntAt w v x) (hu:IntAt w u y) (hx:Fit x.natAbs K) (hy:Fit y.natAbs K) :
  Calls Tryz.prog 173 #[v,u] w fun e w'=>∃u,e=.returned u∧Below w.heap.size w w'∧IntAt w' u (x+y):=by
 obtain⟨m,rfl,hm⟩:=hv
 obtain⟨o,rfl,ho⟩:=hu
 by_cases hsg:decide (x<0)=decide (y<0)
 ·have ht:=fun (W:World) (h:Below w.heap.size w W)=>qgn x.natAbs y.natAbs K hK m o W (hm.below h) (ho.below h) hx hy
  have hs:=fun (W:World) (p:Value) (h:MagAt W p (x.natAbs+y.natAbs))=>qbY (x.natAbs+y.natAbs) (decide (x<0)) p W h
  rw [qjI hsg] at hs
  rw [←hsg]
  generalize decide (x<0)=b0 at *
  obtain⟨b1,hb1⟩:∃b1,b1=b0:=⟨_,rfl⟩
  obtain⟨a0,bm,om,c0,n0,M,rfl,Im,hMx⟩:=hm
  obtain⟨a1,bo,oo,c1,n1,O,rfl,Io,hOx⟩:=ho
  have HT:=qH ht
  have HS:=qH hs
  clear ht hs Im hMx Io hOx hx hy hK hsg
  rw [show (.agg #[.slice a1 n1 c1,.bool b0]:Value)=.agg #[.slice a1 n1 c1,.bool b1] by rw [hb1]]
  have heq:(b0 == b1)=true:=by rw [hb1];exact beq_self_eq_true b0
  clear hb1
  obtain⟨W1,hW1⟩:∃W1,W1=((w.alloc (.cells #[.slice a0 n0 c0,.bool b0] 242)).alloc (.cells #[.slice a1 n1 c1,.bool b1] 242)).alloc (.cells #[.slice none 0 0,.bool false] 242):=⟨_,rfl⟩
  have hb1:Below w.heap.size w W1:=hW1▸((qB.alloc qN _).alloc (by simp only [qab];omega) _).alloc (by simp only [qab];omega) _
  have hr0:W1.heap[w.heap.size]? = some (.cells #[.slice a0 n0 c0,.bool b0] 242 (0,0)):=by rw [hW1,qL _ _ _ (by simp only [qab];omega),qL _ _ _ (by simp only [qab];omega)];exact qM _ _ _ (by simp)
  have hr1:W1.heap[w.heap.size+1]? = some (.cells #[.slice a1 n1 c1,.bool b1] 242 (0,0)):=by rw [hW1,qL _ _ _ (by simp only [qab];omega)];exact qM _ _ _ (by simp)
  have hr:W1.heap[w.heap.size+1+1]? = some (.cells #[.slice none 0 0,.bool false] 242 (0,0)):=by rw [hW1];exact qM _ _ _ (by simp)
  have l2:w.heap.size+1+1<W1.heap.size:=(qG hr).1
  have C00:∀W,Below (w.heap.size+1+1) W1 W→W.cell? ⟨w.heap.size,0,none⟩=some (.slice a0 n0 c0):=fun W h=>(h.cell (p:=⟨w.heap.size,0,none⟩) (by show w.heap.size<_;omega)).trans (qC _ _ 0 _ _ _ hr0)
  have C01:∀W,Below (w.heap.size+1+1) W1 W→W.cell? ⟨w.heap.size,1,none⟩=some (.bool b0):=fun W h=>(h.cell (p:=⟨w.heap.size,1,none⟩) (by show w.heap.size<_;omega)).trans (qC _ _ 1 _ _ _ hr0)
  have C10:∀W,Below (w.heap.size+1+1) W1 W→W.cell? ⟨w.heap.size+1,0,none⟩=some (.slice a1 n1 c1):=fun W h=>(h.cell (p:=⟨w.heap.size+1,0,none⟩) (by show w.heap.size+1<_;omega)).trans (qC _ _ 0 _ _ _ hr1)
  have C11:∀W,Below (w.heap.size+1+1) W1 W→W.cell? ⟨w.heap.size+1,1,none⟩=some (.bool b1):=fun W h=>(h.cell (p:=⟨w.heap.size+1,1,none⟩) (by show w.heap.size+1<_;omega)).trans (qC _ _ 1 _ _ _ hr1)
  have hrefl:Below (w.heap.size+1+1) W1 W1:=Below.refl _ _
  have HR:=qH (qA hb1 hr)
  have Hl2:=qH l2
  clear hr0 hr1 hr hb1
  go_enter Tryz.func173,Tryz.ntmps173
  go_wp2_with fail
  rw [←hW1]
  clear hW1
  have hstD:Below (w.heap.size+1+1) W1 W1.drew:=hrefl.drew
  go_region_held3 (fun W=>Below (w.heap.size+1+1) W1 W) (first | with_reducible exact hrefl | with_reducible exact hstD | with_reducible exact HB3 | with_reducible exact HB2 | ((iterate 2 refine Below.setCell ?_ (by exact qad _) _);exact HB3)) (first | (go_at_call 229;refine (HT.out _ (HR.out.1.trans (hstD.mono (by omega)))).mono ?_;rintro e w2 ⟨p2,rfl,hb2,hp2⟩;have HB2:Below (w.heap.size+1+1) W1 w2:=hstD.trans (hb2.mono (qak (qah Hl2.out hrefl.size)));have HP2:=qH (qA hp2 ((hb2.block _ (qah Hl2.out hrefl.size)).trans HR.out.2));clear hb2 hp2) | (go_at_call 180;refine (HS.out _ _ HP2.out.1).mono ?_;rintro e w3 ⟨p3,rfl,hb3,hp3⟩;have HB3:Below (w.heap.size+1+1) W1 w3:=HB2.trans (hb3.mono (qaj (qak Hl2.out) HB2.size));obtain⟨a9,n9,c9,b9,rfl⟩:=qbL hp3;have hz3:=(hb3.block _ (qah Hl2.out HB2.size)).trans HP2.out.2;have e0:=qC w3 _ 0 _ _ _ hz3;have e1:=qC w3 _ 1 _ _ _ hz3;have f0:=qF w3 _ 0 _ _ hz3;have f1:=qF w3 _ 1 _ _ hz3;have HP3:=qH (qA hp3 hz3);clear hb3 hp3 hz3))
  go_wp2_with fail
  exact qR (v:=.agg #[.slice a9 n9 c9,.bool b9]) (qbP rfl _ _ (w.heap.size+1+1) 242 _ _ rfl (qcZ HP3.out.2 a9 n9 c9 b9) Tryz.underlying242 rfl 2 (by kernel_rfl) rfl) rfl ⟨_,rfl,HR.out.1.trans (((HB3.setCell (by exact qad _) _).setCell (by exact qad _) _).mono (by omega)),qcY HP3.out.1 HP3.out.2 a9 n9 c9 b9⟩
 ·have hc:=fun (W:World) (h:Below w.heap.size w W)=>qcw x.natAbs y.natAbs K hK m o W (hm.below h) (ho.below h) hx hy
  have hneq:(decide (x<0) == decide (y<0))=false:=beq_eq_false_iff_ne.2 hsg
  by_cases hlt:x.natAbs<y.natAbs
  ·have ht:=fun (W:World) (h:Below w.heap.size w W)=>qew y.natAbs x.natAbs K hK o m W (ho.below h) (hm.below h) hy (qak hlt)
   have hs:=fun (W:World) (p:Value) (h:MagAt W p (y.natAbs-x.natAbs))=>qbY (y.natAbs-x.natAbs) (decide (y<0)) p W h
   rw [qfB (fun e=>hsg e.symm) (qak hlt),Int.add_comm] at hs
   rw [show cmp3 (x.natAbs:Int) (y.natAbs:Int) = -1 by unfold cmp3;rw [if_pos (by omega)]] at hc
   generalize decide (x<0)=b0 at *
   generalize decide (y<0)=b1 at *
   obtain⟨a0,bm,om,c0,n0,M,rfl,Im,hMx⟩:=hm
   obtain⟨a1,bo,oo,c1,n1,O,rfl,Io,hOx⟩:=ho
   have HT:=qH ht
   have HS:=qH hs
   have HC:=qH hc
   clear ht hs hc Im hMx Io hOx hx hy hK hsg hlt
   obtain⟨W1,hW1⟩:∃W1,W1=((w.alloc (.cells #[.slice a0 n0 c0,.bool b0] 242)).alloc (.cells #[.slice a1 n1 c1,.bool b1] 242)).alloc (.cells #[.slice none 0 0,.bool false] 242):=⟨_,rfl⟩
   have hb1:Below w.heap.size w W1:=hW1▸((qB.alloc qN _).alloc (by simp only [qab];omega) _).alloc (by simp only [qab];omega) _
   have hr0:W1.heap[w.heap.size]? = some (.cells #[.slice a0 n0 c0,.bool b0] 242 (0,0)):=by rw [hW1,qL _ _ _ (by simp only [qab];omega),qL _ _ _ (by simp only [qab];omega)];exact qM _ _ _ (by simp)
   have hr1:W1.heap[w.heap.size+1]? = some (.cells #[.slice a1 n1 c1,.bool b1] 242 (0,0)):=by rw [hW1,qL _ _ _ (by simp only [qab];omega)];exact qM _ _ _ (by simp)
   have hr:W1.heap[w.heap.size+1+1]? = some (.cells #[.slice none 0 0,.bool false] 242 (0,0)):=by rw [hW1];exact qM _ _ _ (by simp)
   have l2:w.heap.size+1+1<W1.heap.size:=(qG hr).1
   have C00:∀W,Below (w.heap.size+1+1) W1 W→W.cell? ⟨w.heap.size,0,none⟩=some (.slice a0 n0 c0):=fun W h=>(h.cell (p:=⟨w.heap.size,0,none⟩) (by show w.heap.size<_;omega)).trans (qC _ _ 0 _ _ _ hr0)
   have C01:∀W,Below (w.heap.size+1+1) W1 W→W.cell? ⟨w.heap.size,1,none⟩=some (.bool b0):=fun W h=>(h.cell (p:=⟨w.heap.size,1,none⟩) (by show w.heap.size<_;omega)).trans (qC _ _ 1 _ _ _ hr0)
   have C10:∀W,Below (w.heap.size+1+1) W1 W→W.cell? ⟨w.heap.size+1,0,none⟩=some (.slice a1 n1 c1):=fun W h=>(h.cell (p:=⟨w.heap.size+1,0,none⟩) (by show w.heap.size+1<_;omega)).trans (qC _ _ 0 _ _ _ hr1)
   have C11:∀W,Below (w.heap.size+1+1) W1 W→W.cell? ⟨w.heap.size+1,1,none⟩=some (.bool b1):=fun W h=>(h.cell (p:=⟨w.heap.size+1,1,none⟩) (by show w.heap.size+1<_;omega)).trans (qC _ _ 1 _ _ _ hr1)
   have hrefl:Below (w.heap.size+1+1) W1 W1:=Below.refl _ _
   have HR:=qH (qA hb1 hr)
   have Hl2:=qH l2
   clear hr0 hr1 hr hb1
   go_enter Tryz.func173,Tryz.ntmps173
   go_wp2_with fail
   rw [←hW1]
   clear hW1
   refine (HC.out _ HR.out.1).mono ?_
   rintro e w5 ⟨rfl,hb5⟩
   have hst:Below (w.heap.size+1+1) W1 w5:=hb5.mono (qak Hl2.out)
   have H5:=qH ((hb5.block _ Hl2.out).trans HR.out.2)
   clear hb5
   go_wp2_with fail
   have hstD:Below (w.heap.size+1+1) W1 w5.drew:=hst.drew
   go_region_held3 (fun W=>Below (w.heap.size+1+1) W1 W) (first | with_reducible exact hst | with_reducible exact hstD | with_reducible exact HB3 | with_reducible exact HB2 | ((iterate 2 refine Below.setCell ?_ (by exact qad _) _);exact HB3)) (first | (go_at_call 231;refine (HT.out _ (HR.out.1.trans (hstD.mono (by omega)))).mono ?_;rintro e w2 ⟨p2,rfl,hb2,hp2⟩;have HB2:Below (w.heap.size+1+1) W1 w2:=hstD.trans (hb2.mono (qak (qah Hl2.out hst.size)));have HP2:=qH (qA hp2 ((hb2.block _ (qah Hl2.out hst.size)).trans H5.out));clear hb2 hp2) | (go_at_call 180;refine (HS.out _ _ HP2.out.1).mono ?_;rintro e w3 ⟨p3,rfl,hb3,hp3⟩;have HB3:Below (w.heap.size+1+1) W1 w3:=HB2.trans (hb3.mono (qaj (qak Hl2.out) HB2.size));obtain⟨a9,n9,c9,b9,rfl⟩:=qbL hp3;have hz3:=(hb3.block _ (qah Hl2.out HB2.size)).trans HP2.out.2;have e0:=qC w3 _ 0 _ _ _ hz3;have e1:=qC w3 _ 1 _ _ _ hz3;have f0:=qF w3 _ 0 _ _ hz3;have f1:=qF w3 _ 1 _ _ hz3;have HP3:=qH (qA hp3 hz3);clear hb3 hp3 hz3))
   go_wp2_with fail
   exact qR (v:=.agg #[.slice a9 n9 c9,.bool b9]) (qbP rfl _ _ (w.heap.size+1+1) 242 _ _ rfl (qcZ HP3.out.2 a9 n9 c9 b9) Tryz.underlying242 rfl 2 (by kernel_rfl) rfl) rfl ⟨_,rfl,HR.out.1.trans (((HB3.setCell (by exact qad _) _).setCell (by exact qad _) _).mono (by omega)),qcY HP3.out.1 HP3.out.2 a9 n9 c9 b9⟩
  ·have ht:=fun (W:World) (h:Below w.heap.size w W)=>qew x.natAbs y.natAbs K hK m o W (hm.below h) (ho.below h) hx (by omega)
   have hs:=fun (W:World) (p:Value) (h:MagAt W p (x.natAbs-y.natAbs))=>qbY (x.natAbs-y.natAbs) (decide (x<0)) p W h
   rw [qfB hsg (by omega)] at hs
   obtain⟨cr,hcr⟩:∃cr,cmp3 (x.natAbs:Int) (y.natAbs:Int)=cr:=⟨_,rfl⟩
   have hcr0:¬cr<0:=by rw [←hcr];unfold cmp3;rw [if_neg (by omega)];split <;> omega
   rw [hcr] at hc
   generalize decide (x<0)=b0 at *
   generalize decide (y<0)=b1 at *
   obtain⟨a0,bm,om,c0,n0,M,rfl,Im,hMx⟩:=hm
   obtain⟨a1,bo,oo,c1,n1,O,rfl,Io,hOx⟩:=ho
   have HT:=qH ht
   have HS:=qH hs
   have HC:=qH hc
   clear ht hs hc Im hMx Io hOx hx hy hK hsg hlt hcr
   obtain⟨W1,hW1⟩:∃W1,W1=((w.alloc (.cells #[.slice a0 n0 c0,.bool b0] 242)).alloc (.cells #[.slice a1 n1 c1,.bool b1] 242)).alloc (.cells #[.slice none 0 0,.bool false] 242):=⟨_,rfl⟩
   have hb1:Below w.heap.size w W1:=hW1▸((qB.alloc qN _).alloc (by simp only [qab];omega) _).alloc (by simp only [qab];omega) _
   have hr0:W1.heap[w.heap.size]? = some (.cells #[.slice a0 n0 c0,.bool b0] 242 (0,0)):=by rw [hW1,qL _ _ _ (by simp only [qab];omega),qL _ _ _ (by simp only [qab];omega)];exact qM _ _ _ (by simp)
   have hr1:W1.heap[w.heap.size+1]? = some (.cells #[.slice a1 n1 c1,.bool b1] 242 (0,0)):=by rw [hW1,qL _ _ _ (by simp only [qab];omega)];exact qM _ _ _ (by simp)
   have hr:W1.heap[w.heap.size+1+1]? = some (.cells #[.slice none 0 0,.bool false] 242 (0,0)):=by rw [hW1];exact qM _ _ _ (by simp)
   have l2:w.heap.size+1+1<W1.heap.size:=(qG hr).1
   have C00:∀W,Below (w.heap.size+1+1) W1 W→W.cell? ⟨w.heap.size,0,none⟩=some (.slice a0 n0 c0):=fun W h=>(h.cell (p:=⟨w.heap.size,0,none⟩) (by show w.heap.size<_;omega)).trans (qC _ _ 0 _ _ _ hr0)
   have C01:∀W,Below (w.heap.size+1+1) W1 W→W.cell? ⟨w.heap.size,1,none⟩=some (.bool b0):=fun W h=>(h.cell (p:=⟨w.heap.size,1,none⟩) (by show w.heap.size<_;omega)).trans (qC _ _ 1 _ _ _ hr0)
   have C10:∀W,Below (w.heap.size+1+1) W1 W→W.cell? ⟨w.heap.size+1,0,none⟩=some (.slice a1 n1 c1):=fun W h=>(h.cell (p:=⟨w.heap.size+1,0,none⟩) (by show w.heap.size+1<_;omega)).trans (qC _ _ 0 _ _ _ hr1)
   have C11:∀W,Below (w.heap.size+1+1) W1 W→W.cell? ⟨w.heap.size+1,1,none⟩=some (.bool b1):=fun W h=>(h.cell (p:=⟨w.heap.size+1,1,none⟩) (by show w.heap.size+1<_;omega)).trans (qC _ _ 1 _ _ _ hr1)
   have hrefl:Below (w.heap.size+1+1) W1 W1:=Below.refl _ _
   have HR:=qH (qA hb1 hr)
   have Hl2:=qH l2
   clear hr0 hr1 hr hb1
   go_enter Tryz.func173,Tryz.ntmps173
   go_wp2_with fail
   rw [←hW1]
   clear hW1
   refine (HC.out _ HR.out.1).mono ?_
   rintro e w5 ⟨rfl,hb5⟩
   have hst:Below (w.heap.size+1+1) W1 w5:=hb5.mono (qak Hl2.out)
   have H5:=qH ((hb5.block _ Hl2.out).trans HR.out.2)
   clear hb5
   go_wp2_with fail
   have hstD:Below (w.heap.size+1+1) W1 w5.drew:=hst.drew
   go_region_held3 (fun W=>Below (w.heap.size+1+1) W1 W) (first | with_reducible exact hst | with_reducible exact hstD | with_reducible exact HB3 | with_reducible exact HB2 | ((iterate 2 refine Below.setCell ?_ (by exact qad _) _);exact HB3)) (first | (go_at_call 231;refine (HT.out _ (HR.out.1.trans (hstD.mono (by omega)))).mono ?_;rintro e w2 ⟨p2,rfl,hb2,hp2⟩;have HB2:Below (w.heap.size+1+1) W1 w2:=hstD.trans (hb2.mono (qak (qah Hl2.out hst.size)));have HP2:=qH (qA hp2 ((hb2.block _ (qah Hl2.out hst.size)).trans H5.out));clear hb2 hp2) | (go_at_call 180;refine (HS.out _ _ HP2.out.1).mono ?_;rintro e w3 ⟨p3,rfl,hb3,hp3⟩;have HB3:Below (w.heap.size+1+1) W1 w3:=HB2.trans (hb3.mono (qaj (qak Hl2.out) HB2.size));obtain⟨a9,n9,c9,b9,rfl⟩:=qbL hp3;have hz3:=(hb3.block _ (qah Hl2.out HB2.size)).trans HP2.out.2;have e0:=qC w3 _ 0 _ _ _ hz3;have e1:=qC w3 _ 1 _ _ _ hz3;have f0:=qF w3 _ 0 _ _ hz3;have f1:=qF w3 _ 1 _ _ hz3;have HP3:=qH (qA hp3 hz3);clear hb3 hp3 hz3))
   go_wp2_with fail
   exact qR (v:=.agg #[.slice a9 n9 c9,.bool b9]) (qbP rfl _ _ (w.heap.size+1+1) 242 _ _ rfl (qcZ HP3.out.2 a9 n9 c9 b9) Tryz.underlying242 rfl 2 (by kernel_rfl) rfl) rfl ⟨_,rfl,HR.out.1.trans (((HB3.setCell (by exact qad _) _).setCell (by exact qad _) _).mono (by omega)),qcY HP3.out.1 HP3.out.2 a9 n9 c9 b9⟩
