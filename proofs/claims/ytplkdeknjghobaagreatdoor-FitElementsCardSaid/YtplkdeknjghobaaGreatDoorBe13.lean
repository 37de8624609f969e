import Derived.Test.YtplkdeknjghobaaGreatDoorBe12
set_option maxRecDepth 100000
set_option maxHeartbeats 0
namespace Go.Proofs.YtplkdeknjghobaaGreatDoor.least
open Go.RowKit
theorem qmV (x y:Int):(if (decide (x<0) != decide (y<0))=true then -((x.natAbs / y.natAbs:Nat):Int) else ((x.natAbs / y.natAbs:Nat):Int))=x.tdiv y:=by
 obtain⟨a,rfl | rfl⟩:=Int.eq_nat_or_neg x
 ·obtain⟨b,rfl | rfl⟩:=Int.eq_nat_or_neg y
  ·rw [qU (by omega),qU (by omega),if_neg (by decide)];rfl
  ·rw [qU (by omega:¬(a:Int)<0),qa9,Int.tdiv_neg]
   by_cases hb:b=0
   ·subst hb;simp
   ·rw [qV (by omega),if_pos (by decide)];rfl
 ·obtain⟨b,rfl | rfl⟩:=Int.eq_nat_or_neg y
  ·rw [qU (by omega:¬(b:Int)<0),qa9,Int.neg_tdiv]
   by_cases ha:a=0
   ·subst ha;simp
   ·rw [qV (by omega),if_pos (by decide)];rfl
  ·rw [qa9,qa9,Int.tdiv_neg,Int.neg_tdiv,Int.neg_neg]
   by_cases ha:a=0
   ·subst ha
    by_cases hb:b=0
    ·subst hb;simp
    ·simp
   ·by_cases hb:b=0
    ·subst hb;simp
    ·rw [qV (by omega),qV (by omega),if_neg (by decide)];rfl
theorem qjz {x y:Int} (h:decide (x<0)=decide (y<0)):(if decide (x<0)=true then -((x.natAbs+y.natAbs:Nat):Int) else ((x.natAbs+y.natAbs:Nat):Int))=x+y:=by
 by_cases hx:x<0
 ·rw [qV hx] at h ⊢;have hy:=of_decide_eq_true h.symm;rw [if_pos rfl];omega
 ·rw [qU hx] at h ⊢;have hy:=of_decide_eq_false h.symm;rw [if_neg (by decide)];omega
theorem qfF {x y:Int} (h:¬decide (x<0)=decide (y<0)) (hle:y.natAbs<=x.natAbs):(if decide (x<0)=true then -((x.natAbs-y.natAbs:Nat):Int) else ((x.natAbs-y.natAbs:Nat):Int))=x+y:=by
 by_cases hx:x<0
 ·have hy:¬y<0:=fun hy=>h (by rw [qV hx,qV hy])
  rw [qV hx,if_pos rfl];omega
 ·have hy:y<0:=by
   by_cases hy:y<0
   ·exact hy
   ·exact absurd (by rw [qU hx,qU hy]) h
  rw [qU hx,if_neg (by decide)];omega
theorem qcN (x:Int) (y K J:Nat) (hK:K+J<=274877906944) (v o:Value) (w:World) (hv:IntAt w v x) (ho:MagAt w o y) (hx:Fit x.natAbs K) (hy:Fit y J) :
  Calls Tryz.prog 174 #[v,o] w fun e w'=>∃u,e=.returned u/\Below w.heap.size w w'/\IntAt w' u (x*(y:Int)):=by
 obtain⟨m,rfl,hm⟩:=hv;have ht:=fun (W:World) (h:Below w.heap.size w W)=>qco x.natAbs y K J hK m o W (hm.below h) (ho.below h) hx hy
 have hs:=fun (W:World) (p:Value) (h:MagAt W p (x.natAbs*y))=>qb3 (x.natAbs*y) (decide (x<0)) p W h
 rw [qh5] at hs;generalize decide (x<0)=b0 at *;obtain⟨a0,bm,om,c0,n0,M,rfl,Im,hMx⟩:=hm;obtain⟨a1,bo,oo,c1,n1,O,rfl,Io,hOx⟩:=ho;have HT:=qH ht;have HS:=qH hs;clear ht hs Im hMx Io hOx hx hy hK;obtain⟨W1,hW1⟩:=qY ((w.alloc (.cells #[.slice a0 n0 c0,.bool b0] 242)).alloc (.cells #[.slice none 0 0,.bool false] 242));have hb1:Below w.heap.size w W1:=hW1▸(qB.alloc qN _).alloc (by simp only [qab];omega) _;have hr0:W1.heap[w.heap.size]? = some (.cells #[.slice a0 n0 c0,.bool b0] 242 (0,0)):=by rw [hW1,qL _ _ _ (by simp only [qab];omega)];exact qM _ _ _ (by simp)
 have hr:W1.heap[w.heap.size+1]? = some (.cells #[.slice none 0 0,.bool false] 242 (0,0)):=by rw [hW1];exact qM _ _ _ (by simp)
 have l2:w.heap.size+1<W1.heap.size:=(qG hr).1;have C00:∀W,Below (w.heap.size+1) W1 W->W.cell? ⟨w.heap.size,0,none⟩=some (.slice a0 n0 c0):=fun W h=>(h.cell (p:=⟨w.heap.size,0,none⟩) (by show w.heap.size<_;omega)).trans (qC _ _ 0 _ _ _ hr0)
 have C01:∀W,Below (w.heap.size+1) W1 W->W.cell? ⟨w.heap.size,1,none⟩=some (.bool b0):=fun W h=>(h.cell (p:=⟨w.heap.size,1,none⟩) (by show w.heap.size<_;omega)).trans (qC _ _ 1 _ _ _ hr0)
 have hrefl:Below (w.heap.size+1) W1 W1:=Below.refl _ _;have HR:=qH (qA hb1 hr);have Hl2:=qH l2;clear hr0 hr hb1;go_enter Tryz.func174,Tryz.ntmps174;go_wp2_with fail;rw [<-hW1];clear hW1;have hstD:Below (w.heap.size+1) W1 W1.drew:=hrefl.drew
 go_region_held3 (fun W=>Below (w.heap.size+1) W1 W) (first | with_reducible exact hrefl | with_reducible exact hstD | with_reducible exact HB3 | with_reducible exact HB2 | ((iterate 2 refine Below.setCell ?_ (by exact qad _) _);exact HB3)) (first | (go_at_call 176;refine (HT.out _ (HR.out.1.trans (hstD.mono (by omega)))).mono ?_;rintro e w2 ⟨p2,rfl,hb2,hp2⟩;have HB2:Below (w.heap.size+1) W1 w2:=hstD.trans (hb2.mono (qao (qag Hl2.out hrefl.size)));have HP2:=qH (qA hp2 ((hb2.block _ (qag Hl2.out hrefl.size)).trans HR.out.2));clear hb2 hp2) | (go_at_call 180;refine (HS.out _ _ HP2.out.1).mono ?_;rintro e w3 ⟨p3,rfl,hb3,hp3⟩;have HB3:Below (w.heap.size+1) W1 w3:=HB2.trans (hb3.mono (qaj (qao Hl2.out) HB2.size));obtain⟨a9,n9,c9,b9,rfl⟩:=qbT hp3;have hz3:=(hb3.block _ (qag Hl2.out HB2.size)).trans HP2.out.2;have e0:=qC w3 _ 0 _ _ _ hz3;have e1:=qC w3 _ 1 _ _ _ hz3;have f0:=qF w3 _ 0 _ _ hz3;have f1:=qF w3 _ 1 _ _ hz3;have HP3:=qH (qA hp3 hz3);clear hb3 hp3 hz3))
 go_wp2_with fail;exact qR (v:=.agg #[.slice a9 n9 c9,.bool b9]) (rA_ rfl (w.heap.size+1) (qdc HP3.out.2 a9 n9 c9 b9) Tryz.underlying242 2) rfl ⟨_,rfl,HR.out.1.trans (((HB3.setCell (by exact qad _) _).setCell (by exact qad _) _).mono (by omega)),qda HP3.out.1 HP3.out.2 a9 n9 c9 b9⟩
theorem qiP (x y:Int) (K:Nat) (hK:K<=137438953472) (v u:Value) (w:World) (hv:IntAt w v x) (hu:IntAt w u y) (hx:Fit x.natAbs K) (hy:Fit y.natAbs K) (h0:y≠0) :
  Calls Tryz.prog 291 #[v,u] w fun e w'=>∃u,e=.returned u/\Below w.heap.size w w'/\IntAt w' u (x.tdiv y):=by
 obtain⟨m,rfl,hm⟩:=hv;obtain⟨o,rfl,ho⟩:=hu;have ht:=fun (W:World) (h:Below w.heap.size w W)=>qb7 x.natAbs y.natAbs K hK m o W (hm.below h) (ho.below h) hx hy (by omega)
 have hs:=fun (W:World) (p:Value) (h:MagAt W p (x.natAbs / y.natAbs))=>qb3 (x.natAbs / y.natAbs) (decide (x<0) != decide (y<0)) p W h
 rw [qmV] at hs;generalize decide (x<0)=b0 at *;generalize decide (y<0)=b1 at *;obtain⟨a0,bm,om,c0,n0,M,rfl,Im,hMx⟩:=hm;obtain⟨a1,bo,oo,c1,n1,O,rfl,Io,hOx⟩:=ho;have HT:=qH ht;have HS:=qH hs;clear ht hs Im hMx Io hOx hx hy hK;obtain⟨W1,hW1⟩:=qY (((w.alloc (.cells #[.slice a0 n0 c0,.bool b0] 242)).alloc (.cells #[.slice a1 n1 c1,.bool b1] 242)).alloc (.cells #[.slice none 0 0,.bool false] 242));have hb1:Below w.heap.size w W1:=hW1▸((qB.alloc qN _).alloc (by simp only [qab];omega) _).alloc (by simp only [qab];omega) _;have hr0:W1.heap[w.heap.size]? = some (.cells #[.slice a0 n0 c0,.bool b0] 242 (0,0)):=by rw [hW1,qL _ _ _ (by simp only [qab];omega),qL _ _ _ (by simp only [qab];omega)];exact qM _ _ _ (by simp)
 have hr1:W1.heap[w.heap.size+1]? = some (.cells #[.slice a1 n1 c1,.bool b1] 242 (0,0)):=by rw [hW1,qL _ _ _ (by simp only [qab];omega)];exact qM _ _ _ (by simp)
 have hr:W1.heap[w.heap.size+1+1]? = some (.cells #[.slice none 0 0,.bool false] 242 (0,0)):=by rw [hW1];exact qM _ _ _ (by simp)
 have l2:w.heap.size+1+1<W1.heap.size:=(qG hr).1;have C00:∀W,Below (w.heap.size+1+1) W1 W->W.cell? ⟨w.heap.size,0,none⟩=some (.slice a0 n0 c0):=fun W h=>(h.cell (p:=⟨w.heap.size,0,none⟩) (by show w.heap.size<_;omega)).trans (qC _ _ 0 _ _ _ hr0)
 have C01:∀W,Below (w.heap.size+1+1) W1 W->W.cell? ⟨w.heap.size,1,none⟩=some (.bool b0):=fun W h=>(h.cell (p:=⟨w.heap.size,1,none⟩) (by show w.heap.size<_;omega)).trans (qC _ _ 1 _ _ _ hr0)
 have C10:∀W,Below (w.heap.size+1+1) W1 W->W.cell? ⟨w.heap.size+1,0,none⟩=some (.slice a1 n1 c1):=fun W h=>(h.cell (p:=⟨w.heap.size+1,0,none⟩) (by show w.heap.size+1<_;omega)).trans (qC _ _ 0 _ _ _ hr1)
 have C11:∀W,Below (w.heap.size+1+1) W1 W->W.cell? ⟨w.heap.size+1,1,none⟩=some (.bool b1):=fun W h=>(h.cell (p:=⟨w.heap.size+1,1,none⟩) (by show w.heap.size+1<_;omega)).trans (qC _ _ 1 _ _ _ hr1)
 have hrefl:Below (w.heap.size+1+1) W1 W1:=Below.refl _ _;have HR:=qH (qA hb1 hr);have Hl2:=qH l2;clear hr0 hr1 hr hb1;go_enter Tryz.func291,Tryz.ntmps291;go_wp2_with fail;rw [<-hW1];clear hW1;refine (HT.out _ HR.out.1).mono ?_;rintro e w2 ⟨q,r,rfl,hb2,hq,_⟩;have hB2:Below (w.heap.size+1+1) W1 w2:=hb2.mono (qao Hl2.out);have c01:=C01 w2 hB2;have c11:=C11 w2 hB2;have hrow2:=(hb2.block _ Hl2.out).trans HR.out.2;have H2:=qH (qA hq (qA hrow2 (HR.out.1.trans (hb2.mono HR.out.1.size))));have Hl3:Hid (w.heap.size+1+1<w2.heap.size):=qH (qag Hl2.out hb2.size);clear hb2 hq hrow2 hB2 C00 C01 C10 C11;go_wp2_with fail;refine (HS.out _ _ H2.out.1).mono ?_;rintro e w3 ⟨u3,rfl,hb9,hu9⟩;have hrow9:=(hb9.block _ Hl3.out).trans H2.out.2.1;have hbw9:Below w.heap.size w w3:=H2.out.2.2.trans (hb9.mono H2.out.2.2.size);obtain⟨a9,n9,c9,b9,rfl⟩:=qbT hu9;have hvs:=qcB (cs':=#[.slice a9 n9 c9,.bool b9]) hu9 hrow9 qcX;have HR:=qH (qA hrow9 (qA hbw9 (qS hbw9 (show w.heap.size<=w.heap.size+1+1 by omega) #[.slice a9 n9 c9,.bool b9])));have HV:=qH hvs;clear hrow9 hbw9 hvs hb9 hu9
 go_wp2_with (with_reducible refine sR_ rfl 242 _ _ rfl (w.heap.size+1+1) #[.slice a9 n9 c9,.bool b9] HR.out.1 2 ?_)
 exact qR (v:=.agg #[.slice a9 n9 c9,.bool b9]) (rA_ rfl (w.heap.size+1+1) (qT _ _ _ _ _ _ HR.out.1) Tryz.underlying242 2) rfl ⟨_,rfl,HR.out.2.2,HV.out⟩
theorem qdS (x y:Int) (K:Nat) (hK:K<=274877906944) (v u:Value) (w:World) (hv:IntAt w v x) (hu:IntAt w u y) (hx:Fit x.natAbs K) (hy:Fit y.natAbs K) :
  Calls Tryz.prog 173 #[v,u] w fun e w'=>∃u,e=.returned u/\Below w.heap.size w w'/\IntAt w' u (x+y):=by
 obtain⟨m,rfl,hm⟩:=hv;obtain⟨o,rfl,ho⟩:=hu
 by_cases hsg:decide (x<0)=decide (y<0)
 ·have ht:=fun (W:World) (h:Below w.heap.size w W)=>qgy x.natAbs y.natAbs K hK m o W (hm.below h) (ho.below h) hx hy
  have hs:=fun (W:World) (p:Value) (h:MagAt W p (x.natAbs+y.natAbs))=>qb3 (x.natAbs+y.natAbs) (decide (x<0)) p W h
  rw [qjz hsg] at hs;rw [<-hsg];generalize decide (x<0)=b0 at *;obtain⟨b1,hb1⟩:=qY b0;obtain⟨a0,bm,om,c0,n0,M,rfl,Im,hMx⟩:=hm;obtain⟨a1,bo,oo,c1,n1,O,rfl,Io,hOx⟩:=ho;have HT:=qH ht;have HS:=qH hs;clear ht hs Im hMx Io hOx hx hy hK hsg;rw [show (.agg #[.slice a1 n1 c1,.bool b0]:Value)=.agg #[.slice a1 n1 c1,.bool b1] by rw [hb1]];have heq:(b0 == b1)=true:=by rw [hb1];exact beq_self_eq_true b0
  clear hb1;obtain⟨W1,hW1⟩:=qY (((w.alloc (.cells #[.slice a0 n0 c0,.bool b0] 242)).alloc (.cells #[.slice a1 n1 c1,.bool b1] 242)).alloc (.cells #[.slice none 0 0,.bool false] 242));have hb1:Below w.heap.size w W1:=hW1▸((qB.alloc qN _).alloc (by simp only [qab];omega) _).alloc (by simp only [qab];omega) _;have hr0:W1.heap[w.heap.size]? = some (.cells #[.slice a0 n0 c0,.bool b0] 242 (0,0)):=by rw [hW1,qL _ _ _ (by simp only [qab];omega),qL _ _ _ (by simp only [qab];omega)];exact qM _ _ _ (by simp)
  have hr1:W1.heap[w.heap.size+1]? = some (.cells #[.slice a1 n1 c1,.bool b1] 242 (0,0)):=by rw [hW1,qL _ _ _ (by simp only [qab];omega)];exact qM _ _ _ (by simp)
  have hr:W1.heap[w.heap.size+1+1]? = some (.cells #[.slice none 0 0,.bool false] 242 (0,0)):=by rw [hW1];exact qM _ _ _ (by simp)
  have l2:w.heap.size+1+1<W1.heap.size:=(qG hr).1;have C00:∀W,Below (w.heap.size+1+1) W1 W->W.cell? ⟨w.heap.size,0,none⟩=some (.slice a0 n0 c0):=fun W h=>(h.cell (p:=⟨w.heap.size,0,none⟩) (by show w.heap.size<_;omega)).trans (qC _ _ 0 _ _ _ hr0)
  have C01:∀W,Below (w.heap.size+1+1) W1 W->W.cell? ⟨w.heap.size,1,none⟩=some (.bool b0):=fun W h=>(h.cell (p:=⟨w.heap.size,1,none⟩) (by show w.heap.size<_;omega)).trans (qC _ _ 1 _ _ _ hr0)
  have C10:∀W,Below (w.heap.size+1+1) W1 W->W.cell? ⟨w.heap.size+1,0,none⟩=some (.slice a1 n1 c1):=fun W h=>(h.cell (p:=⟨w.heap.size+1,0,none⟩) (by show w.heap.size+1<_;omega)).trans (qC _ _ 0 _ _ _ hr1)
  have C11:∀W,Below (w.heap.size+1+1) W1 W->W.cell? ⟨w.heap.size+1,1,none⟩=some (.bool b1):=fun W h=>(h.cell (p:=⟨w.heap.size+1,1,none⟩) (by show w.heap.size+1<_;omega)).trans (qC _ _ 1 _ _ _ hr1)
  have hrefl:Below (w.heap.size+1+1) W1 W1:=Below.refl _ _;have HR:=qH (qA hb1 hr);have Hl2:=qH l2;clear hr0 hr1 hr hb1;go_enter Tryz.func173,Tryz.ntmps173;go_wp2_with fail;rw [<-hW1];clear hW1;have hstD:Below (w.heap.size+1+1) W1 W1.drew:=hrefl.drew
  go_region_held3 (fun W=>Below (w.heap.size+1+1) W1 W) (first | with_reducible exact hrefl | with_reducible exact hstD | with_reducible exact HB3 | with_reducible exact HB2 | ((iterate 2 refine Below.setCell ?_ (by exact qad _) _);exact HB3)) (first | (go_at_call 229;refine (HT.out _ (HR.out.1.trans (hstD.mono (by omega)))).mono ?_;rintro e w2 ⟨p2,rfl,hb2,hp2⟩;have HB2:Below (w.heap.size+1+1) W1 w2:=hstD.trans (hb2.mono (qao (qag Hl2.out hrefl.size)));have HP2:=qH (qA hp2 ((hb2.block _ (qag Hl2.out hrefl.size)).trans HR.out.2));clear hb2 hp2) | (go_at_call 180;refine (HS.out _ _ HP2.out.1).mono ?_;rintro e w3 ⟨p3,rfl,hb3,hp3⟩;have HB3:Below (w.heap.size+1+1) W1 w3:=HB2.trans (hb3.mono (qaj (qao Hl2.out) HB2.size));obtain⟨a9,n9,c9,b9,rfl⟩:=qbT hp3;have hz3:=(hb3.block _ (qag Hl2.out HB2.size)).trans HP2.out.2;have e0:=qC w3 _ 0 _ _ _ hz3;have e1:=qC w3 _ 1 _ _ _ hz3;have f0:=qF w3 _ 0 _ _ hz3;have f1:=qF w3 _ 1 _ _ hz3;have HP3:=qH (qA hp3 hz3);clear hb3 hp3 hz3))
  go_wp2_with fail;exact qR (v:=.agg #[.slice a9 n9 c9,.bool b9]) (rA_ rfl (w.heap.size+1+1) (qdc HP3.out.2 a9 n9 c9 b9) Tryz.underlying242 2) rfl ⟨_,rfl,HR.out.1.trans (((HB3.setCell (by exact qad _) _).setCell (by exact qad _) _).mono (by omega)),qda HP3.out.1 HP3.out.2 a9 n9 c9 b9⟩
 ·have hc:=fun (W:World) (h:Below w.heap.size w W)=>qcG x.natAbs y.natAbs K hK m o W (hm.below h) (ho.below h) hx hy
  have hneq:(decide (x<0) == decide (y<0))=false:=beq_eq_false_iff_ne.2 hsg
  by_cases hlt:x.natAbs<y.natAbs
  ·have ht:=fun (W:World) (h:Below w.heap.size w W)=>qez y.natAbs x.natAbs K hK o m W (ho.below h) (hm.below h) hy (qao hlt)
   have hs:=fun (W:World) (p:Value) (h:MagAt W p (y.natAbs-x.natAbs))=>qb3 (y.natAbs-x.natAbs) (decide (y<0)) p W h
   rw [qfF (fun e=>hsg e.symm) (qao hlt),Int.add_comm] at hs;rw [show cmp3 (x.natAbs:Int) (y.natAbs:Int) = -1 by unfold cmp3;rw [if_pos (by omega)]] at hc;generalize decide (x<0)=b0 at *;generalize decide (y<0)=b1 at *;obtain⟨a0,bm,om,c0,n0,M,rfl,Im,hMx⟩:=hm;obtain⟨a1,bo,oo,c1,n1,O,rfl,Io,hOx⟩:=ho;have HT:=qH ht;have HS:=qH hs;have HC:=qH hc;clear ht hs hc Im hMx Io hOx hx hy hK hsg hlt;obtain⟨W1,hW1⟩:=qY (((w.alloc (.cells #[.slice a0 n0 c0,.bool b0] 242)).alloc (.cells #[.slice a1 n1 c1,.bool b1] 242)).alloc (.cells #[.slice none 0 0,.bool false] 242));have hb1:Below w.heap.size w W1:=hW1▸((qB.alloc qN _).alloc (by simp only [qab];omega) _).alloc (by simp only [qab];omega) _;have hr0:W1.heap[w.heap.size]? = some (.cells #[.slice a0 n0 c0,.bool b0] 242 (0,0)):=by rw [hW1,qL _ _ _ (by simp only [qab];omega),qL _ _ _ (by simp only [qab];omega)];exact qM _ _ _ (by simp)
   have hr1:W1.heap[w.heap.size+1]? = some (.cells #[.slice a1 n1 c1,.bool b1] 242 (0,0)):=by rw [hW1,qL _ _ _ (by simp only [qab];omega)];exact qM _ _ _ (by simp)
   have hr:W1.heap[w.heap.size+1+1]? = some (.cells #[.slice none 0 0,.bool false] 242 (0,0)):=by rw [hW1];exact qM _ _ _ (by simp)
   have l2:w.heap.size+1+1<W1.heap.size:=(qG hr).1;have C00:∀W,Below (w.heap.size+1+1) W1 W->W.cell? ⟨w.heap.size,0,none⟩=some (.slice a0 n0 c0):=fun W h=>(h.cell (p:=⟨w.heap.size,0,none⟩) (by show w.heap.size<_;omega)).trans (qC _ _ 0 _ _ _ hr0)
   have C01:∀W,Below (w.heap.size+1+1) W1 W->W.cell? ⟨w.heap.size,1,none⟩=some (.bool b0):=fun W h=>(h.cell (p:=⟨w.heap.size,1,none⟩) (by show w.heap.size<_;omega)).trans (qC _ _ 1 _ _ _ hr0)
   have C10:∀W,Below (w.heap.size+1+1) W1 W->W.cell? ⟨w.heap.size+1,0,none⟩=some (.slice a1 n1 c1):=fun W h=>(h.cell (p:=⟨w.heap.size+1,0,none⟩) (by show w.heap.size+1<_;omega)).trans (qC _ _ 0 _ _ _ hr1)
   have C11:∀W,Below (w.heap.size+1+1) W1 W->W.cell? ⟨w.heap.size+1,1,none⟩=some (.bool b1):=fun W h=>(h.cell (p:=⟨w.heap.size+1,1,none⟩) (by show w.heap.size+1<_;omega)).trans (qC _ _ 1 _ _ _ hr1)
   have hrefl:Below (w.heap.size+1+1) W1 W1:=Below.refl _ _;have HR:=qH (qA hb1 hr);have Hl2:=qH l2;clear hr0 hr1 hr hb1;go_enter Tryz.func173,Tryz.ntmps173;go_wp2_with fail;rw [<-hW1];clear hW1;refine (HC.out _ HR.out.1).mono ?_;rintro e w5 ⟨rfl,hb5⟩;have hst:Below (w.heap.size+1+1) W1 w5:=hb5.mono (qao Hl2.out);have H5:=qH ((hb5.block _ Hl2.out).trans HR.out.2);clear hb5;go_wp2_with fail;have hstD:Below (w.heap.size+1+1) W1 w5.drew:=hst.drew
   go_region_held3 (fun W=>Below (w.heap.size+1+1) W1 W) (first | with_reducible exact hst | with_reducible exact hstD | with_reducible exact HB3 | with_reducible exact HB2 | ((iterate 2 refine Below.setCell ?_ (by exact qad _) _);exact HB3)) (first | (go_at_call 231;refine (HT.out _ (HR.out.1.trans (hstD.mono (by omega)))).mono ?_;rintro e w2 ⟨p2,rfl,hb2,hp2⟩;have HB2:Below (w.heap.size+1+1) W1 w2:=hstD.trans (hb2.mono (qao (qag Hl2.out hst.size)));have HP2:=qH (qA hp2 ((hb2.block _ (qag Hl2.out hst.size)).trans H5.out));clear hb2 hp2) | (go_at_call 180;refine (HS.out _ _ HP2.out.1).mono ?_;rintro e w3 ⟨p3,rfl,hb3,hp3⟩;have HB3:Below (w.heap.size+1+1) W1 w3:=HB2.trans (hb3.mono (qaj (qao Hl2.out) HB2.size));obtain⟨a9,n9,c9,b9,rfl⟩:=qbT hp3;have hz3:=(hb3.block _ (qag Hl2.out HB2.size)).trans HP2.out.2;have e0:=qC w3 _ 0 _ _ _ hz3;have e1:=qC w3 _ 1 _ _ _ hz3;have f0:=qF w3 _ 0 _ _ hz3;have f1:=qF w3 _ 1 _ _ hz3;have HP3:=qH (qA hp3 hz3);clear hb3 hp3 hz3))
   go_wp2_with fail;exact qR (v:=.agg #[.slice a9 n9 c9,.bool b9]) (rA_ rfl (w.heap.size+1+1) (qdc HP3.out.2 a9 n9 c9 b9) Tryz.underlying242 2) rfl ⟨_,rfl,HR.out.1.trans (((HB3.setCell (by exact qad _) _).setCell (by exact qad _) _).mono (by omega)),qda HP3.out.1 HP3.out.2 a9 n9 c9 b9⟩
  ·have ht:=fun (W:World) (h:Below w.heap.size w W)=>qez x.natAbs y.natAbs K hK m o W (hm.below h) (ho.below h) hx (by omega)
   have hs:=fun (W:World) (p:Value) (h:MagAt W p (x.natAbs-y.natAbs))=>qb3 (x.natAbs-y.natAbs) (decide (x<0)) p W h
   rw [qfF hsg (by omega)] at hs;obtain⟨cr,hcr⟩:=qX (cmp3 (x.natAbs:Int) (y.natAbs:Int));have hcr0:¬cr<0:=by rw [<-hcr];unfold cmp3;rw [if_neg (by omega)];split <;> omega
   rw [hcr] at hc;generalize decide (x<0)=b0 at *;generalize decide (y<0)=b1 at *;obtain⟨a0,bm,om,c0,n0,M,rfl,Im,hMx⟩:=hm;obtain⟨a1,bo,oo,c1,n1,O,rfl,Io,hOx⟩:=ho;have HT:=qH ht;have HS:=qH hs;have HC:=qH hc;clear ht hs hc Im hMx Io hOx hx hy hK hsg hlt hcr;obtain⟨W1,hW1⟩:=qY (((w.alloc (.cells #[.slice a0 n0 c0,.bool b0] 242)).alloc (.cells #[.slice a1 n1 c1,.bool b1] 242)).alloc (.cells #[.slice none 0 0,.bool false] 242));have hb1:Below w.heap.size w W1:=hW1▸((qB.alloc qN _).alloc (by simp only [qab];omega) _).alloc (by simp only [qab];omega) _;have hr0:W1.heap[w.heap.size]? = some (.cells #[.slice a0 n0 c0,.bool b0] 242 (0,0)):=by rw [hW1,qL _ _ _ (by simp only [qab];omega),qL _ _ _ (by simp only [qab];omega)];exact qM _ _ _ (by simp)
   have hr1:W1.heap[w.heap.size+1]? = some (.cells #[.slice a1 n1 c1,.bool b1] 242 (0,0)):=by rw [hW1,qL _ _ _ (by simp only [qab];omega)];exact qM _ _ _ (by simp)
   have hr:W1.heap[w.heap.size+1+1]? = some (.cells #[.slice none 0 0,.bool false] 242 (0,0)):=by rw [hW1];exact qM _ _ _ (by simp)
   have l2:w.heap.size+1+1<W1.heap.size:=(qG hr).1;have C00:∀W,Below (w.heap.size+1+1) W1 W->W.cell? ⟨w.heap.size,0,none⟩=some (.slice a0 n0 c0):=fun W h=>(h.cell (p:=⟨w.heap.size,0,none⟩) (by show w.heap.size<_;omega)).trans (qC _ _ 0 _ _ _ hr0)
   have C01:∀W,Below (w.heap.size+1+1) W1 W->W.cell? ⟨w.heap.size,1,none⟩=some (.bool b0):=fun W h=>(h.cell (p:=⟨w.heap.size,1,none⟩) (by show w.heap.size<_;omega)).trans (qC _ _ 1 _ _ _ hr0)
   have C10:∀W,Below (w.heap.size+1+1) W1 W->W.cell? ⟨w.heap.size+1,0,none⟩=some (.slice a1 n1 c1):=fun W h=>(h.cell (p:=⟨w.heap.size+1,0,none⟩) (by show w.heap.size+1<_;omega)).trans (qC _ _ 0 _ _ _ hr1)
   have C11:∀W,Below (w.heap.size+1+1) W1 W->W.cell? ⟨w.heap.size+1,1,none⟩=some (.bool b1):=fun W h=>(h.cell (p:=⟨w.heap.size+1,1,none⟩) (by show w.heap.size+1<_;omega)).trans (qC _ _ 1 _ _ _ hr1)
   have hrefl:Below (w.heap.size+1+1) W1 W1:=Below.refl _ _;have HR:=qH (qA hb1 hr);have Hl2:=qH l2;clear hr0 hr1 hr hb1;go_enter Tryz.func173,Tryz.ntmps173;go_wp2_with fail;rw [<-hW1];clear hW1;refine (HC.out _ HR.out.1).mono ?_;rintro e w5 ⟨rfl,hb5⟩;have hst:Below (w.heap.size+1+1) W1 w5:=hb5.mono (qao Hl2.out);have H5:=qH ((hb5.block _ Hl2.out).trans HR.out.2);clear hb5;go_wp2_with fail;have hstD:Below (w.heap.size+1+1) W1 w5.drew:=hst.drew
   go_region_held3 (fun W=>Below (w.heap.size+1+1) W1 W) (first | with_reducible exact hst | with_reducible exact hstD | with_reducible exact HB3 | with_reducible exact HB2 | ((iterate 2 refine Below.setCell ?_ (by exact qad _) _);exact HB3)) (first | (go_at_call 231;refine (HT.out _ (HR.out.1.trans (hstD.mono (by omega)))).mono ?_;rintro e w2 ⟨p2,rfl,hb2,hp2⟩;have HB2:Below (w.heap.size+1+1) W1 w2:=hstD.trans (hb2.mono (qao (qag Hl2.out hst.size)));have HP2:=qH (qA hp2 ((hb2.block _ (qag Hl2.out hst.size)).trans H5.out));clear hb2 hp2) | (go_at_call 180;refine (HS.out _ _ HP2.out.1).mono ?_;rintro e w3 ⟨p3,rfl,hb3,hp3⟩;have HB3:Below (w.heap.size+1+1) W1 w3:=HB2.trans (hb3.mono (qaj (qao Hl2.out) HB2.size));obtain⟨a9,n9,c9,b9,rfl⟩:=qbT hp3;have hz3:=(hb3.block _ (qag Hl2.out HB2.size)).trans HP2.out.2;have e0:=qC w3 _ 0 _ _ _ hz3;have e1:=qC w3 _ 1 _ _ _ hz3;have f0:=qF w3 _ 0 _ _ hz3;have f1:=qF w3 _ 1 _ _ hz3;have HP3:=qH (qA hp3 hz3);clear hb3 hp3 hz3))
   go_wp2_with fail;exact qR (v:=.agg #[.slice a9 n9 c9,.bool b9]) (rA_ rfl (w.heap.size+1+1) (qdc HP3.out.2 a9 n9 c9 b9) Tryz.underlying242 2) rfl ⟨_,rfl,HR.out.1.trans (((HB3.setCell (by exact qad _) _).setCell (by exact qad _) _).mono (by omega)),qda HP3.out.1 HP3.out.2 a9 n9 c9 b9⟩
def wtxt (z:Int):ByteArray:=⟨(itxt z).toArray⟩
theorem qeV {z:Int} (h:z<0):wtxt z=⟨#[45]⟩++num z.natAbs:=by
 apply ByteArray.ext;rw [ByteArray.data_append];unfold wtxt itxt num;rw [if_pos h];simp
theorem qdE {z:Int} (h:¬z<0):wtxt z=num z.natAbs:=by
 unfold wtxt itxt num;rw [if_neg h]
theorem qmA {x K:Nat} (h:Fit x K) (hK:0<K):(num x).size<=9*K:=by
 rw [qdb];refine qb9 _ _ (by omega) ?_;rw [<-pow9];exact h
theorem qeQ (z:Int) (K:Nat) (hK0:0<K) (hK:K<=137438953472) (v:Value) (w:World) (hv:IntAt w v z) (hz:Fit z.natAbs K) (hT:HasT w) :
  Calls Tryz.prog 238 #[v] w fun e w'=>e=.returned (.string (wtxt z))/\Below w.heap.size w w':=by
 obtain⟨m,rfl,hm⟩:=hv;have hd:=fun (W:World) (h:Below w.heap.size w W)=>qdY z.natAbs K (by omega) m W (hm.below h) hz (hT.below h)
 have hn:=qmA hz hK0;have HA:Hid (∀cs,Below w.heap.size w (w.alloc (.cells cs 242))):=qH fun cs=>qB.alloc qN _
 by_cases h0:z<0
 ·rw [qeV h0,qV h0];generalize num z.natAbs=t at *;have hadd:∀W,(Op.stringOp .add ⟨#[45]⟩ t).run Tryz.prog W=.ok (.string (⟨#[45]⟩++t)) W:=fun W=>run_string_add_sum W _ _ (by have:(⟨#[45]⟩:ByteArray).size=1:=rfl;omega)
  obtain⟨T,hTe⟩:=qX ((⟨#[45]⟩:ByteArray)++t);rw [hTe] at hadd ⊢;have HD:=qH hd;obtain⟨am,bm,om,cm,n,M,rfl,Im,hMx⟩:=hm;clear hd hTe Im hMx hn h0 hz hT;go_enter Tryz.func238,Tryz.ntmps238;go_wp2_with fail;refine (HD.out _ (HA.out _)).mono ?_;rintro e w1 ⟨rfl,hb1⟩;have HB:=qH ((HA.out _).trans (hb1.mono (HA.out _).size));clear hb1;go_wp2;go_ret;exact⟨rfl,HB.out⟩
 ·rw [qdE h0,qU h0];generalize num z.natAbs=t at *;have HD:=qH hd;obtain⟨am,bm,om,cm,n,M,rfl,Im,hMx⟩:=hm;clear hd Im hMx hn h0 hz hT;go_enter Tryz.func238,Tryz.ntmps238;go_wp2_with fail;refine (HD.out _ (HA.out _)).mono ?_;rintro e w1 ⟨rfl,hb1⟩;have HB:=qH ((HA.out _).trans (hb1.mono (HA.out _).size));clear hb1;go_wp2;go_ret;exact⟨rfl,HB.out⟩
theorem qgh (x y K J:Nat) (hK:K<=137438953472) (hJ:J<=137438953472) (hx0:0<x) (hy0:0<y) (vm vo:Value) (w:World) (hm:MagAt w vm x) (ho:MagAt w vo y) (hx:Fit x K) (hy:Fit y J) :
  Calls Tryz.prog 177 #[vm,vo] w fun e w'=>∃v,e=.returned v/\Below w.heap.size w w'/\MagAt w' v (x.lcm y):=by
 have hg0:0<x.gcd y:=Nat.gcd_pos_of_pos_left _ hx0;have hKJ:K<=max K J/\J<=max K J/\max K J<=137438953472:=by omega
 have hgcd:=qdU x y (max K J) hKJ.2.2 vm vo w hm ho (hx.mono hKJ.1) (hy.mono hKJ.2.1);have hdiv:=fun (W:World) (g:Value) (hg:MagAt W g (x.gcd y)) (h:Below w.heap.size w W)=>qb7 y (x.gcd y) (max K J) hKJ.2.2 vo g W (ho.below h) hg (hy.mono hKJ.2.1) ((hy.le (Nat.gcd_le_right _ hy0)).mono hKJ.2.1) hg0
 have htim:=fun (W:World) (d:Value) (hd:MagAt W d (y / x.gcd y)) (h:Below w.heap.size w W)=>qco x (y / x.gcd y) K J (by omega) vm d W (hm.below h) hd hx (hy.le (qaS _ _))
 rw [<-Nat.mul_div_assoc _ (qaU x y)] at htim;have HG:=qH hgcd;have HD:=qH hdiv;have HT:=qH htim;obtain⟨am,bm,om,cm,n,M,rfl,Im,hMx⟩:=hm;obtain⟨ao,bo,oo,co,no,O,rfl,Io,hOx⟩:=ho;clear hgcd hdiv htim Im hMx Io hOx hx hy;go_enter Tryz.func177,Tryz.ntmps177;go_wp2_with fail;refine HG.out.mono ?_;rintro e w1 ⟨g,rfl,hb1,hg⟩;have H1:=qH (qA hb1 hg);clear hb1 hg;go_wp2_with fail;refine (HD.out _ _ H1.out.2 H1.out.1).mono ?_;rintro e w2 ⟨q,r,rfl,hb2,hq,_⟩;have H2:=qH (qA (H1.out.1.trans (hb2.mono H1.out.1.size)) hq);clear hb2 hq;go_wp2_with fail;refine (HT.out _ _ H2.out.2 H2.out.1).mono ?_;rintro e w3 ⟨v,rfl,hb3,hv⟩;have H3:=qH (qA (H2.out.1.trans (hb3.mono H2.out.1.size)) hv);clear hb3 hv;go_wp2;go_ret;exact⟨_,rfl,H3.out.1,H3.out.2⟩
end Go.Proofs.YtplkdeknjghobaaGreatDoor.least
namespace Go.Proofs.YtplkdeknjghobaaGreatDoor
open Go.RowKit
theorem qjw (n d:Int) (hd:d≠0):(Rat.divInt n d).num=(if (decide (n<0) != decide (d<0))=true then -((n.natAbs / n.natAbs.gcd d.natAbs:Nat):Int) else ((n.natAbs / n.natAbs.gcd d.natAbs:Nat):Int))/\(Rat.divInt n d).den=d.natAbs / n.natAbs.gcd d.natAbs:=by
 have hg:0<n.natAbs.gcd d.natAbs:=qa8 _ (by omega);obtain⟨z,hz⟩:=qX (if (decide (n<0) != decide (d<0))=true then -((n.natAbs / n.natAbs.gcd d.natAbs:Nat):Int) else ((n.natAbs / n.natAbs.gcd d.natAbs:Nat):Int));rw [hz];have hza:z.natAbs=n.natAbs / n.natAbs.gcd d.natAbs:=by
  rw [<-hz];generalize n.natAbs / n.natAbs.gcd d.natAbs=A;split <;> omega
 have h0:d.natAbs / n.natAbs.gcd d.natAbs≠0:=qbl (Nat.div_pos (qbL (by omega) (qaU _ _)) hg);have hc:z.natAbs.Coprime (d.natAbs / n.natAbs.gcd d.natAbs):=by rw [hza];exact Nat.coprime_div_gcd_div_gcd hg
 have hx:n.natAbs / n.natAbs.gcd d.natAbs*d.natAbs=n.natAbs*(d.natAbs / n.natAbs.gcd d.natAbs):=by
  obtain⟨a,ha⟩:=qbJ n.natAbs d.natAbs;obtain⟨b,hb⟩:=qaU n.natAbs d.natAbs;have ea:n.natAbs / n.natAbs.gcd d.natAbs=a:=by (conv=>lhs;lhs;rw [ha]);exact qaW _ hg
  have eb:d.natAbs / n.natAbs.gcd d.natAbs=b:=by (conv=>lhs;lhs;rw [hb]);exact qaW _ hg
  rw [ea,eb];generalize n.natAbs.gcd d.natAbs=g at *;rw [ha,hb];simp only [qbv,qau]
 have e:=qiQ (z:=z) (N:=if d<0 then -n else n) (D:=d.natAbs) h0 hc (by omega) (by
  have hx':((n.natAbs / n.natAbs.gcd d.natAbs:Nat):Int)*(d.natAbs:Int)=(n.natAbs:Int)*((d.natAbs / n.natAbs.gcd d.natAbs:Nat):Int):=by exact_mod_cast hx
  generalize ((d.natAbs / n.natAbs.gcd d.natAbs:Nat):Int)=B at *;rw [<-hz];generalize ((n.natAbs / n.natAbs.gcd d.natAbs:Nat):Int)=A at *
  by_cases h1:n<0
  ·have e1:(n.natAbs:Int) = -n:=by omega
   rw [e1] at hx'
   by_cases h2:d<0
   ·rw [qV h1,qV h2,if_neg (by decide),if_pos h2];exact hx'
   ·rw [qV h1,qU h2,if_pos (by decide),if_neg h2,qbs,hx',qbs,Int.neg_neg]
  ·have e1:(n.natAbs:Int)=n:=by omega
   rw [e1] at hx'
   by_cases h2:d<0
   ·rw [qU h1,qV h2,if_pos (by decide),if_pos h2,qbs,hx',qbs]
   ·rw [qU h1,qU h2,if_neg (by decide),if_neg h2];exact hx') (q:=Rat.divInt n d) (by
  by_cases h2:d<0
  ·rw [if_pos h2,<-Rat.divInt_ofNat,<-Rat.neg_divInt_neg]
   congr 1;omega
  ·rw [if_neg h2,<-Rat.divInt_ofNat]
   congr 1;omega)
 exact e
theorem qhv (n d:Int) (hd0:d≠0) (K:Nat) (hK0:0<K) (hK:K<=34359738368) (v u:Value) (w:World) (hv:IntAt w v n) (hu:IntAt w u d) (fn:Fit n.natAbs K) (fd:Fit d.natAbs K) (hT:HasT w) :
  Calls Tryz.prog 179 #[v,u] w fun e w'=>qgB w (Rat.divInt n d) e w':=by
 obtain⟨mn,rfl,hn⟩:=hv;obtain⟨md,rfl,hd⟩:=hu;obtain⟨hq1,hq2⟩:=qjw n d hd0;obtain⟨q,hq⟩:=qX (Rat.divInt n d);rw [hq] at hq1 hq2 ⊢;have hg0:0<n.natAbs.gcd d.natAbs:=qa8 _ (by omega);have fg:Fit (n.natAbs.gcd d.natAbs) K:=fd.le (Nat.gcd_le_right _ (by omega));obtain⟨g,hg⟩:=qX (n.natAbs.gcd d.natAbs);obtain⟨x,hx⟩:=qX n.natAbs;obtain⟨y,hy⟩:=qX d.natAbs;rw [hg] at hq1 hq2 hg0 fg;rw [hx] at hq1 hn fn hg;rw [hy] at hq2 hd fd hg;obtain⟨a,ha⟩:=qX (x / g);obtain⟨b,hb⟩:=qX (y / g);rw [ha] at hq1;rw [hb] at hq2;have fa:Fit a K:=ha▸fn.le (qaS _ _);have fb:Fit b K:=hb▸fd.le (qaS _ _);have hqa:q.num.natAbs=a:=by rw [hq1];split <;> omega
 have hSh:Short q↔(num a).size<=600/\(num b).size<=600:=by unfold Short;rw [hqa,hq2]
 have HQ:=qH (qA hq1 (qA hq2 hSh));generalize decide (n<0)=b0 at *;generalize decide (d<0)=b1 at *;have HF:=qH (qA fn (qA fd (qA fg (qA fa fb))));have HE:=qH (qA hg (qA ha (qA hb hg0)));have HK:=qH (qA hK0 hK);have HX:=qH (qA hn hd);have HT:=qH hT;obtain⟨a0,_,_,c0,n0,_,rfl,_,_⟩:=hn;obtain⟨a1,_,_,c1,n1,_,rfl,_,_⟩:=hd;obtain⟨W1,hW1⟩:=qY (((w.alloc (.cells #[.slice a0 n0 c0,.bool b0] 242)).alloc (.cells #[.slice a1 n1 c1,.bool b1] 242)).alloc (.cells #[.string ⟨#[]⟩,.string ⟨#[]⟩] 44));have hb1:Below w.heap.size w W1:=hW1▸qbS (qbS (qbS qB qN) qN) qN;have hr0:W1.heap[w.heap.size]? = some (.cells #[.slice a0 n0 c0,.bool b0] 242 (0,0)):=by rw [hW1,qL _ _ _ (by simp only [qab];omega),qL _ _ _ (by simp only [qab];omega)];exact qM _ _ _ rfl
 have hr1:W1.heap[w.heap.size+1]? = some (.cells #[.slice a1 n1 c1,.bool b1] 242 (0,0)):=by rw [hW1,qL _ _ _ (by simp only [qab];omega)];exact qM _ _ _ (by simp)
 have hr2:W1.heap[w.heap.size+1+1]? = some (.cells #[.string ⟨#[]⟩,.string ⟨#[]⟩] 44 (0,0)):=by rw [hW1];exact qM _ _ _ (by simp)
 have HW1:=qH (qA hb1 (qA hr0 (qA hr1 hr2)));have HN:=qH hq;clear hq hq1 hq2 hSh hqa fn fd fg fa fb hg ha hb hg0 hK0 hK hT hb1 hr0 hr1 hr2 hx hy hd0;go_enter Tryz.func179,Tryz.ntmps179;go_wp2_with fail;rw [<-hW1];clear hW1
 ·refine (least.qdU x y K (by have:=HK.out;omega) _ _ W1 (HX.out.1.below HW1.out.1) (HX.out.2.below HW1.out.1) HF.out.1 HF.out.2.1).mono ?_;rintro e w2 ⟨vg,rfl,hb,hv⟩;rw [HE.out.1] at hv;have Mw2_g:=qH hv;have Hw2:=qH (qA (HW1.out.1.trans (hb.mono HW1.out.1.size)) (qA ((hb.block _ (qG HW1.out.2.1).1).trans HW1.out.2.1) (qA ((hb.block _ (qG HW1.out.2.2.1).1).trans HW1.out.2.2.1) ((hb.block _ (qG HW1.out.2.2.2).1).trans HW1.out.2.2.2))));have k00:=qC w2 _ 0 _ _ _ Hw2.out.2.1;obtain⟨sg,_,_,ug,tg,_,rfl,_,_⟩:=hv;clear hb;go_wp2_with fail;refine (least.qb7 x g K (by have:=HK.out;omega) _ _ w2 (HX.out.1.below Hw2.out.1) Mw2_g.out HF.out.1 HF.out.2.2.1 HE.out.2.2.2).mono ?_;rintro e w3 ⟨va,_,rfl,hb,hv,_⟩;rw [HE.out.2.1] at hv;have Mw3_a:=qH hv;have Hw3:=qH (qA (Hw2.out.1.trans (hb.mono Hw2.out.1.size)) (qA ((hb.block _ (qG Hw2.out.2.1).1).trans Hw2.out.2.1) (qA ((hb.block _ (qG Hw2.out.2.2.1).1).trans Hw2.out.2.2.1) ((hb.block _ (qG Hw2.out.2.2.2).1).trans Hw2.out.2.2.2))));have Mw3_g:=qH (Mw2_g.out.below hb);have k10:=qC w3 _ 0 _ _ _ Hw3.out.2.2.1;obtain⟨sa,_,_,ua,ta,_,rfl,_,_⟩:=hv;clear hb k00;go_wp2_with fail;refine (least.qb7 y g K (by have:=HK.out;omega) _ _ w3 (HX.out.2.below Hw3.out.1) Mw3_g.out HF.out.2.1 HF.out.2.2.1 HE.out.2.2.2).mono ?_;rintro e w4 ⟨vb,_,rfl,hb,hv,_⟩;rw [HE.out.2.2.1] at hv;have Mw4_b:=qH hv;have Hw4:=qH (qA (Hw3.out.1.trans (hb.mono Hw3.out.1.size)) (qA ((hb.block _ (qG Hw3.out.2.1).1).trans Hw3.out.2.1) (qA ((hb.block _ (qG Hw3.out.2.2.1).1).trans Hw3.out.2.2.1) ((hb.block _ (qG Hw3.out.2.2.2).1).trans Hw3.out.2.2.2))));have Mw4_a:=qH (Mw3_a.out.below hb);obtain⟨sb,_,_,ub,tb,_,rfl,_,_⟩:=hv;clear hb k10;obtain⟨L1,hL1⟩:∃L,(num a).size=L:=⟨_,rfl⟩;obtain⟨L2,hL2⟩:∃L,(num b).size=L:=⟨_,rfl⟩;have HL:=qH (show Short q↔L1<=600/\L2<=600 by rw [<-hL1,<-hL2];exact HQ.out.2.2);have l1:=least.qd7 a K (by have:=HK.out;omega) _ w4 Mw4_a.out HF.out.2.2.2.1 (HT.out.below Hw4.out.1);rw [hL1] at l1;have HL1:=qH l1;have hl2:=qH hL2;clear l1 hL1 hL2;go_wp2_with fail;refine HL1.out.mono ?_;rintro e w5 ⟨rfl,hb⟩;have Hw5:=qH (qA (Hw4.out.1.trans (hb.mono Hw4.out.1.size)) (qA ((hb.block _ (qG Hw4.out.2.1).1).trans Hw4.out.2.1) (qA ((hb.block _ (qG Hw4.out.2.2.1).1).trans Hw4.out.2.2.1) ((hb.block _ (qG Hw4.out.2.2.2).1).trans Hw4.out.2.2.2))));have Mw5_a:=qH (Mw4_a.out.below hb);have Mw5_b:=qH (Mw4_b.out.below hb);clear hb
  by_cases h1:(600:Int)<L1
  ·have HNo:Hid (¬Short q):=qH (fun h=>by have:=HL.out.1 h;omega)
   go_wp2_with (with_reducible refine sR_ rfl 44 _ _ rfl (w.heap.size+1+1) #[.string ⟨#[]⟩,.string ⟨#[]⟩] Hw5.out.2.2.2 2 ?_)
   exact qR (v:=.tuple #[.agg #[.string ⟨#[]⟩,.string ⟨#[]⟩],.int .i64 6]) (rB_ rfl (w.heap.size+1+1) (qT _ _ _ _ _ _ Hw5.out.2.2.2) Tryz.underlying44 2) rfl ⟨qah ⟨HNo.out,rfl⟩,qS Hw5.out.1 (by omega) _⟩
  ·have l2:=least.qd7 b K (by have:=HK.out;omega) _ w5 Mw5_b.out HF.out.2.2.2.2 (HT.out.below Hw5.out.1);rw [hl2.out] at l2;have HL2:=qH l2;clear l2;go_wp2_with fail;refine HL2.out.mono ?_;rintro e w6 ⟨rfl,hb⟩;have Hw6:=qH (qA (Hw5.out.1.trans (hb.mono Hw5.out.1.size)) (qA ((hb.block _ (qG Hw5.out.2.1).1).trans Hw5.out.2.1) (qA ((hb.block _ (qG Hw5.out.2.2.1).1).trans Hw5.out.2.2.1) ((hb.block _ (qG Hw5.out.2.2.2).1).trans Hw5.out.2.2.2))));have Mw6_a:=qH (Mw5_a.out.below hb);have Mw6_b:=qH (Mw5_b.out.below hb);clear hb
   by_cases h2:(600:Int)<L2
   ·have HNo:Hid (¬Short q):=qH (fun h=>by have:=HL.out.1 h;omega)
    go_wp2_with (with_reducible refine sR_ rfl 44 _ _ rfl (w.heap.size+1+1) #[.string ⟨#[]⟩,.string ⟨#[]⟩] Hw6.out.2.2.2 2 ?_)
    exact qR (v:=.tuple #[.agg #[.string ⟨#[]⟩,.string ⟨#[]⟩],.int .i64 6]) (rB_ rfl (w.heap.size+1+1) (qT _ _ _ _ _ _ Hw6.out.2.2.2) Tryz.underlying44 2) rfl ⟨qah ⟨HNo.out,rfl⟩,qS Hw6.out.1 (by omega) _⟩
   ·have HY:Hid (Short q):=qH (HL.out.2 (by omega));have k01:=qC w6 _ 1 _ _ _ Hw6.out.2.1;have k11:=qC w6 _ 1 _ _ _ Hw6.out.2.2.1;go_wp2_with fail;refine (least.qb3 a (b0 != b1) _ w6 Mw6_a.out).mono ?_;rintro e w7 ⟨v7,rfl,hb,hv⟩;rw [<-HQ.out.1] at hv;have I7:=qH hv;have Hw7:=qH (qA (Hw6.out.1.trans (hb.mono Hw6.out.1.size)) (qA ((hb.block _ (qG Hw6.out.2.1).1).trans Hw6.out.2.1) (qA ((hb.block _ (qG Hw6.out.2.2.1).1).trans Hw6.out.2.2.1) ((hb.block _ (qG Hw6.out.2.2.2).1).trans Hw6.out.2.2.2))));have Mw7_b:=qH (Mw6_b.out.below hb);obtain⟨a9,n9,c9,b9,rfl⟩:=least.qbT hv;have fq:Fit q.num.natAbs K:=by
     have h:=HQ.out.1;rw [h];split <;> (first | (rw [qa9,qal];exact HF.out.2.2.2.1) | (rw [qal];exact HF.out.2.2.2.1))
    have t7:=least.qeQ q.num K HK.out.1 (by have:=HK.out;omega) _ w7 I7.out fq (HT.out.below Hw7.out.1);obtain⟨T1,hT1⟩:∃T,least.wtxt q.num=T:=⟨_,rfl⟩;rw [hT1] at t7;have HT7:=qH t7;have HTT1:=qH hT1;clear hb k01 k11 hv t7 hT1 fq;go_wp2_with fail;refine HT7.out.mono ?_;rintro e w8 ⟨rfl,hb⟩;have Hw8:=qH (qA (Hw7.out.1.trans (hb.mono Hw7.out.1.size)) (qA ((hb.block _ (qG Hw7.out.2.1).1).trans Hw7.out.2.1) (qA ((hb.block _ (qG Hw7.out.2.2.1).1).trans Hw7.out.2.2.1) ((hb.block _ (qG Hw7.out.2.2.2).1).trans Hw7.out.2.2.2))));have Mw8_b:=qH (Mw7_b.out.below hb);have t8:=least.qdY b K (by have:=HK.out;omega) _ w8 Mw8_b.out HF.out.2.2.2.2 (HT.out.below Hw8.out.1);obtain⟨T2,hT2⟩:∃T,num b=T:=⟨_,rfl⟩;rw [hT2] at t8;have HT8:=qH t8;have HTT2:=qH hT2;clear hb t8 hT2;go_wp2_with fail;refine HT8.out.mono ?_;rintro e w9 ⟨rfl,hb⟩;have Hw9:=qH (qA (Hw8.out.1.trans (hb.mono Hw8.out.1.size)) (qA ((hb.block _ (qG Hw8.out.2.1).1).trans Hw8.out.2.1) (qA ((hb.block _ (qG Hw8.out.2.2.1).1).trans Hw8.out.2.2.1) ((hb.block _ (qG Hw8.out.2.2.2).1).trans Hw8.out.2.2.2))));clear hb
    go_wp2_with (with_reducible refine sR_ rfl 44 _ _ rfl (w.heap.size+1+1) #[.string T1,.string T2] Hw9.out.2.2.2 2 ?_)
    refine qR (v:=.tuple #[.agg #[.string T1,.string T2],.int .i64 0]) (rB_ rfl (w.heap.size+1+1) (qT _ _ _ _ _ _ Hw9.out.2.2.2) Tryz.underlying44 2) rfl ⟨qan ⟨HY.out,?_⟩,qS Hw9.out.1 (by omega) _⟩;unfold fstr;rw [show frac.wtxt q.num=T1 from HTT1.out,HQ.out.2.1,HTT2.out]
structure VCells (W:World) (ao:Option Addr) (b off:Nat) (vs:List Value):Prop where
 addr:0<vs.length->ao=some ⟨b,off,none⟩
 cell:∀k,k<vs.length->W.cell? ⟨b,off+k,none⟩=some (vs.getD k undef)
theorem VCells.below {W W':World} {ao:Option Addr} {b off:Nat} {vs:List Value} (h:VCells W ao b off vs) (hb:Below W.heap.size W W'):VCells W' ao b off vs :=
 ⟨h.addr,fun k hk=>(hb.cell (qac W _ (h.cell k hk))).trans (h.cell k hk)⟩
def qdD (W:World) (vs:List Value) (xs:List Nat):Prop:=vs.length=xs.length/\∀k,k<xs.length->MagAt W (vs.getD k undef) (xs.getD k 0)
theorem qdD.below {W W':World} {vs:List Value} {xs:List Nat} (h:qdD W vs xs) (hb:Below W.heap.size W W'):qdD W' vs xs:=⟨h.1,fun k hk=>(h.2 k hk).below hb⟩
def lcms (xs:List Nat):Nat:=xs.foldl Nat.lcm 1
theorem qfp (xs:List Nat) (k:Nat) (h:k<xs.length):lcms (xs.take (k+1))=(lcms (xs.take k)).lcm (xs.getD k 0):=by
 unfold lcms;rw [List.take_add_one,qae h,List.foldl_append,qaa,qae h];rfl
theorem qfo (xs:List Nat) (h:∀k,k<xs.length->0<xs.getD k 0):∀k,k<=xs.length->0<lcms (xs.take k)
 | 0,_=>by simp [lcms]
 | k+1,hk=>by rw [qfp xs k (by omega)];exact Nat.lcm_pos (qfo xs h k (by omega)) (h k (by omega))
theorem qfn (xs:List Nat) (J:Nat) (h:∀k,k<xs.length->0<xs.getD k 0/\Fit (xs.getD k 0) J):∀k,k<=xs.length->Fit (lcms (xs.take k)) (k*J+1)
 | 0,_=>by show 1<1000000000 ^ (0*J+1);rw [Nat.zero_mul];decide
 | k+1,hk=>by
  rw [qfp xs k (by omega)];have h1:=(qfn xs J h k (by omega)).mul (h k (by omega)).2;have h2:=qfo xs (fun k hk=>(h k hk).1) k (by omega);have h3:=(h k (by omega)).1;refine (h1.le (qbL (qbP h2 h3) (Nat.lcm_dvd_mul _ _))).mono ?_;rw [qaB];omega
theorem qhR (xs:List Nat):∀m k,k<m->m<=xs.length->xs.getD k 0∣lcms (xs.take m)
 | 0,_,h,_=>absurd h (by omega)
 | m+1,k,hk,hm=>by
  rw [qfp xs m (by omega)]
  by_cases e:k=m
  ·subst e;exact Nat.dvd_lcm_right _ _
  ·exact Nat.dvd_trans (qhR xs m k (by omega) (by omega)) (Nat.dvd_lcm_left _ _)
theorem qhp (ao:Option Addr) (b off n c:Nat) (vs:List Value) (xs:List Nat) (J:Nat) (w:World) (hn:xs.length=n) (hcells:VCells w ao b off vs) (hm:qdD w vs xs) (hx:∀k,k<n->0<xs.getD k 0/\Fit (xs.getD k 0) J) (hb:n*J+1<=137438953472) (hJ:J<=137438953472) (hnb:n<=1048576) :
  Calls Tryz.prog 226 #[.slice ao n c] w fun e w'=>∃v,e=.returned v/\Below w.heap.size w w'/\MagAt w' v (lcms xs):=by
 have hvl:vs.length=n:=hm.1.trans hn;have H:=qH (qA hcells (qA hm (qA hn hvl)));have HX:=qH (qA hx (qA hb hJ));clear hcells hm hn hvl hx hb hJ;go_enter Tryz.func226,Tryz.ntmps226;go_wp2
 go_loopw [3,9] (fun x3 x9 W=>∃k:Nat,k<=n/\x9=.int .i64 k/\Hid (MagAt W x3 (lcms (xs.take k)))/\Hid (Below w.heap.size w W)) (fun _ x9 _=>n-(intOf x9).toNat)
 case atStart=>exact⟨0,qam _,rfl,qH (qdV w _ (by decide) (by decide)),qH (qbS qB qN)⟩
 case round =>
  obtain⟨k,hk,rfl,hM,hB⟩:=hrel
  by_cases hkn:k<n
  ·have hki:(k:Int)<n:=by omega
   have haw:=H.out.1.addr (by have:=H.out.2.2.2;omega);subst haw;have hc:=(H.out.1.below hB.out).cell k (by have:=H.out.2.2.2;omega);have hmk:=((H.out.2.1.below hB.out).2 k (by have:=H.out.2.2.1;omega));obtain⟨vk,hvk⟩:=qX (vs.getD k undef);rw [hvk] at hc hmk;have hxs:∀j,j<xs.length->0<xs.getD j 0/\Fit (xs.getD j 0) J:=fun j hj=>HX.out.1 j (by have:=H.out.2.2.1;omega)
   have hkl:k*J<=n*J:=qa7 _ hk;have hmul:=least.qgh (lcms (xs.take k)) (xs.getD k 0) (k*J+1) J (by have:=HX.out.2.1;omega) HX.out.2.2 (qfo xs (fun j hj=>(hxs j hj).1) k (by have:=H.out.2.2.1;omega)) (hxs k (by have:=H.out.2.2.1;omega)).1 _ vk wr hM.out hmk (qfn xs J hxs k (by have:=H.out.2.2.1;omega)) (hxs k (by have:=H.out.2.2.1;omega)).2;rw [<-qfp xs k (by have:=H.out.2.2.1;omega)] at hmul;have HM:=qH hmul;have HV:=qH hmk;obtain⟨sa,_,_,sc,sn,_,rfl,_,_⟩:=hmk;obtain⟨ua,_,_,uc,un,_,rfl,_,_⟩:=hM.out;clear hmul hkl hvk;go_wp2_with fail;refine HM.out.mono ?_;rintro e w2 ⟨v2,rfl,hb2,hv2⟩;have H2:=qH (qA (hB.out.trans (hb2.mono hB.out.size)) hv2);clear hb2 hv2;go_wp2;go_roundw
   case rel=>exact⟨k+1,hkn,by go_num,qH H2.out.2,qH H2.out.1⟩
   case measure=>simp [intOf];omega
  ·obtain rfl:k=n:=by omega
   have hfin:=hM.out;rw [qak (by have:=H.out.2.2.1;omega)] at hfin;have HFin:=qH hfin;clear hfin;go_wp2;go_ret;exact⟨_,rfl,hB.out,HFin.out⟩
theorem FOk.dpos {n d:List UInt8} (h:FOk n d):0<(ival d).natAbs:=by have:=h.pos;omega
theorem qfg (a:Option Addr) (n c:Nat) (b:Bool) (w:World):(Instr.field 242 (.agg #[.slice a n c,.bool b]) 0).run Tryz.prog w=.ok (.slice a n c) w:=by kernel_rfl
theorem qni (n d:ByteArray) (hf:FOk n.data.toList d.data.toList) (pb:Nat) (a2:Option Addr) (n2 c2:Nat) (Bv K:Nat) (hK:K<=68719476736) (hK67:67<=K) (w:World) (hrow:w.heap[pb]? = some (.cells #[.slice a2 n2 c2] 238 (0,0))) (hm:MagAt w (.slice a2 n2 c2) Bv) (hB:Fit Bv K) :
  Calls Tryz.prog 227 #[.agg #[.string n,.string d],.pointer (some ⟨pb,0,none⟩)] w fun e w'=>∃v,e=.returned v/\Below w.heap.size w w'/\IntAt w' v (ival n.data.toList*((Bv / (ival d.data.toList).natAbs:Nat):Int)):=by
 obtain⟨W1,hW1⟩:=qY ((w.alloc (.cells #[.string n,.string d] 44)).alloc (.cells #[.slice none 0 0,.bool false] 242));have hb1:Below w.heap.size w W1:=hW1▸qbS (qbS qB qN) qN;have hr0:W1.heap[w.heap.size]? = some (.cells #[.string n,.string d] 44 (0,0)):=by rw [hW1,qL _ _ _ (by simp only [qab];omega)];exact qM _ _ _ rfl
 have hr1:W1.heap[w.heap.size+1]? = some (.cells #[.slice none 0 0,.bool false] 242 (0,0)):=by rw [hW1];exact qM _ _ _ (by simp)
 have hrp:=(hb1.block _ (qG hrow).1).trans hrow;have C0:∀W,Below W1.heap.size W1 W->W.cell? ⟨pb,0,none⟩=some (.slice a2 n2 c2):=fun W h=>(h.cell (p:=⟨pb,0,none⟩) (qG hrp).1).trans (qC _ _ 0 _ _ _ hrp)
 have C1:∀W,Below W1.heap.size W1 W->W.cell? ⟨w.heap.size,1,none⟩=some (.string d):=fun W h=>(h.cell (p:=⟨w.heap.size,1,none⟩) (qG hr0).1).trans (qC _ _ 1 _ _ _ hr0)
 have C2:∀W,Below W1.heap.size W1 W->W.cell? ⟨w.heap.size,0,none⟩=some (.string n):=fun W h=>(h.cell (p:=⟨w.heap.size,0,none⟩) (qG hr0).1).trans (qC _ _ 0 _ _ _ hr0)
 have HN1:=qH (fun W=>least.qcy d hf.vd W);have HN2:=qH (fun W=>least.qcy n hf.vn W);have HR:=qH (qA hb1 (qA hr1 (hm.below hb1)));have HF:=qH (qA hf (qA hB (qA hK hK67)));have hfi:=qfg;have hst:Below W1.heap.size W1 W1:=Below.refl _ _;have hstD:Below W1.heap.size W1 W1.drew:=hst.drew;have HC:=qH (qA C2 hr0);clear hb1 hr0 hr1 hrp hm hf hB hrow C2;go_enter Tryz.func227,Tryz.ntmps227;go_wp2_with fail;rw [<-hW1];clear hW1
 go_cut [4] (fun x4 W=>∃(a4:Option Addr) (n4 c4:Nat),x4=.slice a4 n4 c4/\Hid (MagAt W (.slice a4 n4 c4) (Bv / (ival d.data.toList).natAbs))/\Hid (Below W1.heap.size W1 W))
 case first =>
  go_region_held3 (fun W=>Below W1.heap.size W1 W) (first | with_reducible exact hst | with_reducible exact hstD | with_reducible exact HB3 | with_reducible exact HB2) (first | (go_at_call 167;refine (HN1.out _).mono ?_;rintro e w2 ⟨p2,rfl,hb2,hp2⟩;have HB2:Below W1.heap.size W1 w2:=hstD.trans hb2;obtain⟨m2,rfl,hg2⟩:=hp2;have G2:=qH hg2;obtain⟨s2,_,_,u2,t2,_,rfl,_,_⟩:=hg2;clear hb2) | (go_at_call 178;refine (least.qb7 Bv (ival d.data.toList).natAbs K (by have:=HF.out.2.2.1;omega) _ _ _ (HR.out.2.2.below HB2) G2.out HF.out.2.1 (HF.out.1.vd.fit.mono HF.out.2.2.2) HF.out.1.dpos).mono ?_;rintro e w3 ⟨q3,r3,rfl,hb3,hq3,_⟩;have HB3:Below W1.heap.size W1 w3:=bjoin HB2 hb3;have G3:=qH hq3;obtain⟨s3,_,_,u3,t3,_,rfl,_,_⟩:=hq3;clear hb3))
  all_goals go_wp2_with fail
  all_goals go_meet
  all_goals exact⟨_,_,_,rfl,G3,qH HB3⟩
 case rest =>
  obtain⟨a4,n4,c4,rfl,hG4,hB4⟩:=hcut;have k0:=HC.out.1 wc hB4.out;clear C0 C1;go_wp2_with fail;refine (HN2.out _).mono ?_;rintro e w5 ⟨p5,rfl,hb5,hp5⟩;have I5:=qH hp5;have G5:=qH (hG4.out.below hb5);have H5:=qH (hB4.out.trans (hb5.mono hB4.out.size));obtain⟨a6,n6,c6,b6,rfl⟩:=least.qbT hp5;clear hb5 hp5 k0;go_wp2_with fail;refine (least.qcN (ival n.data.toList) (Bv / (ival d.data.toList).natAbs) 67 K (by have:=HF.out.2.2.1;omega) _ _ w5 I5.out G5.out HF.out.1.vn.fit (HF.out.2.1.le (qaS _ _))).mono ?_;rintro e w6 ⟨p6,rfl,hb6,hp6⟩;obtain⟨a9,n9,c9,b9,rfl⟩:=least.qbT hp6;have h6:=H5.out.trans (hb6.mono H5.out.size);have hr6:=(h6.block _ (qG HR.out.2.1).1).trans HR.out.2.1;have H6:=qH (qA hr6 (qA (HR.out.1.trans (h6.mono HR.out.1.size)) (least.qcB (cs':=#[.slice a9 n9 c9,.bool b9]) hp6 hr6 qcX)));clear hb6 hp6 h6 hr6
  go_wp2_with (with_reducible refine sR_ rfl 242 _ _ rfl (w.heap.size+1) #[.slice a9 n9 c9,.bool b9] H6.out.1 2 ?_)
  exact qR (v:=.agg #[.slice a9 n9 c9,.bool b9]) (rA_ rfl (w.heap.size+1) (qT _ _ _ _ _ _ H6.out.1) Tryz.underlying242 2) rfl ⟨_,rfl,qS H6.out.2.1 (by omega) _,H6.out.2.2⟩
abbrev zs0:Value:=.slice none 0 0
def PRow (W:World) (g n:Nat) (vs:List Value):Prop :=
 W.heap[g]? = some (.cells (vs++List.replicate (n-vs.length) zs0).toArray 238 (0,0))/\(∀v∈vs,∀d,v≠.int .u32 d)/\vs.length<=n
theorem qjo {W:World} {v:Value} {x:Nat} (h:MagAt W v x):∀d,v≠.int .u32 d:=by
 obtain⟨_,_,_,_,_,_,rfl,_,_⟩:=h;intro d e;cases e
theorem PRow.below {W W':World} {g n:Nat} {vs:List Value} (h:PRow W g n vs) (hb:Below W.heap.size W W'):PRow W' g n vs :=
 ⟨(hb.block _ (qG h.1).1).trans h.1,h.2⟩
theorem PRow.made (W:World) (n:Nat):PRow (W.alloc (.cells (madeCells #[zs0] n) 238)) W.heap.size n []:=by
 refine⟨?_,(fun _ hv=>absurd hv (by simp)),qam _⟩;rw [qM _ _ _ rfl,qbq,List.length_nil,Nat.sub_zero,<-toList_madeCells_one,Array.toArray_toList]
theorem PRow.nope {W:World} {g n:Nat} {vs:List Value} (h:PRow W g n vs):∀x∈(vs++List.replicate (n-vs.length) zs0).toArray.toList,∀d,x≠.int .u32 d:=by
 intro x hx d;rcases qaN.1 (show x∈vs++List.replicate (n-vs.length) zs0 from hx) with hx | hx
 ·exact h.2.1 x hx d
 ·rw [(List.mem_replicate.1 hx).2];intro e;cases e
theorem PRow.at {W:World} {g n:Nat} {vs:List Value} (h:PRow W g n vs) (hk:vs.length<n):W.cell? ⟨g,vs.length,none⟩=some zs0/\W.frozen? ⟨g,vs.length,none⟩=false:=by
 refine⟨(qC _ _ _ _ _ _ h.1).trans ?_,qF _ _ _ _ _ h.1⟩;rw [qat,qas qN,qaI,qbc,if_pos (by omega)]
theorem PRow.set {W:World} {g n:Nat} {vs:List Value} (h:PRow W g n vs) (hk:vs.length<n) (v:Value) (hv:∀d,v≠.int .u32 d):PRow (W.setCell ⟨g,vs.length,none⟩ v) g n (vs++[v]):=by
 refine⟨?_,fun x hx d=>?_,by rw [qaf,qax];omega⟩
 ·rw [heap_setCell_same _ g vs.length _ _ v h.1]
  congr 3
  obtain⟨m,hm⟩:∃m,n-vs.length=m+1:=⟨n-vs.length-1,by omega⟩;rw [qaC,hm,qbo,qbd _ _ qN,qaI,qbn,qaf,qax,show n-(vs.length+1)=m by omega,qay];rfl
 ·rcases qaN.1 hx with hx | hx
  ·exact h.2.1 x hx d
  ·rw [qap.1 hx];exact hv d
theorem PRow.cells {W:World} {g n:Nat} {vs:List Value} (h:PRow W g n vs) (_hn:vs.length=n):VCells W (some ⟨g,0,none⟩) g 0 vs:=by
 refine⟨fun _=>rfl,fun k hk=>?_⟩;rw [qaO,qC _ _ _ _ _ _ h.1,qat,qaA hk,qaa,qae hk];rfl
theorem qdD.keep {W W':World} {g:Nat} {cs:Array Value} {t:TypeId} {fz:Nat×Nat} {vs:List Value} {xs:List Nat} (h:qdD W vs xs) (hk:W.grownBy W' (some g)) (hg:W.heap[g]? = some (.cells cs t fz)) (hne:∀x∈cs.toList,∀d,x≠.int .u32 d):qdD W' vs xs :=
 ⟨h.1,fun k hk'=>qce (h.2 k hk') hk hg hne⟩
theorem qdD.snoc {W:World} {vs:List Value} {xs:List Nat} {v:Value} {x:Nat} (h:qdD W vs xs) (hv:MagAt W v x):qdD W (vs++[v]) (xs++[x]):=by
 refine⟨by rw [qaf,qaf,h.1];rfl,fun k hk=>?_⟩;rw [qaf,qax] at hk
 by_cases hlt:k<xs.length
 ·rw [qaa,qaa,qaA (by rw [h.1];exact hlt),qaA hlt,<-qaa,<-qaa];exact h.2 k hlt
 ·obtain rfl:k=xs.length:=by omega
  rw [qaa,qaa,qas (by rw [h.1];exact qad _),qas qN,h.1,qaI];exact hv
def iflat (ps:List (Value×Bool)):List Value:=ps.flatMap fun p=>[p.1,.bool p.2]
theorem qd5 (ps:List (Value×Bool)):(iflat ps).length=ps.length*2:=by
 induction ps with
 | nil=>rfl
 | cons p ps ih=>rw [iflat,List.flatMap_cons,qaf,<-iflat,ih,qbI];simp;omega
theorem qfj (a b:List (Value×Bool)):iflat (a++b)=iflat a++iflat b:=by unfold iflat;rw [List.flatMap_append]
def IRow (W:World) (g n:Nat) (ps:List (Value×Bool)):Prop :=
 W.heap[g]? = some (.cells (iflat (ps++List.replicate (n-ps.length) (zs0,false))).toArray 242 (0,0))/\(∀p∈ps,∀d,p.1≠.int .u32 d)/\ps.length<=n
theorem IRow.below {W W':World} {g n:Nat} {ps:List (Value×Bool)} (h:IRow W g n ps) (hb:Below W.heap.size W W'):IRow W' g n ps :=
 ⟨(hb.block _ (qG h.1).1).trans h.1,h.2⟩
theorem ql0 {ps:List (Value×Bool)} (h:∀p∈ps,∀d,p.1≠.int .u32 d):∀x∈iflat ps,∀d,x≠.int .u32 d:=by
 intro x hx d;unfold iflat at hx;obtain⟨p,hp,hx⟩:=List.mem_flatMap.1 hx;rcases qaP.1 hx with rfl | hx
 ·exact h p hp d
 ·rw [qap.1 hx];intro e;cases e
theorem IRow.nope {W:World} {g n:Nat} {ps:List (Value×Bool)} (h:IRow W g n ps):∀x∈(iflat (ps++List.replicate (n-ps.length) (zs0,false))).toArray.toList,∀d,x≠.int .u32 d:=by
 refine ql0 fun p hp d=>?_
 rcases qaN.1 hp with hp | hp
 ·exact h.2.1 p hp d
 ·rw [(List.mem_replicate.1 hp).2];intro e;cases e
theorem qfk (ps:List (Value×Bool)):∀(k:Nat) (p:Value×Bool),ps[k]? = some p->(iflat ps)[k*2]? = some p.1/\(iflat ps)[k*2+1]? = some (.bool p.2):=by
 induction ps with
 | nil=>intro k p h;cases h
 | cons q ps ih =>
  intro k p h;have e:iflat (q :: ps)=q.1 :: .bool q.2 :: iflat ps:=rfl;rw [e];cases k with
  | zero =>
   have:q=p:=qai h;subst this;exact⟨rfl,rfl⟩
  | succ k =>
   have h2:=ih k p h;rw [show (k+1)*2=k*2+1+1 by omega];exact h2
theorem IRow.at {W:World} {g n:Nat} {ps:List (Value×Bool)} (h:IRow W g n ps) (hk:ps.length<n):(W.cell? ⟨g,ps.length*2,none⟩=some zs0/\W.cell? ⟨g,ps.length*2+1,none⟩=some (.bool false))/\∀j,W.frozen? ⟨g,j,none⟩=false:=by
 have h0:(ps++List.replicate (n-ps.length) (zs0,false))[ps.length]? = some (zs0,false):=by
  rw [qas qN,qaI,qbc,if_pos (by omega)]
 obtain⟨h1,h2⟩:=qfk _ _ _ h0;exact⟨⟨(qC _ _ _ _ _ _ h.1).trans ((qat ..).trans h1),(qC _ _ _ _ _ _ h.1).trans ((qat ..).trans h2)⟩,fun j=>qF _ _ _ _ _ h.1⟩
theorem IRow.set {W:World} {g n:Nat} {ps:List (Value×Bool)} (h:IRow W g n ps) (hk:ps.length<n) (v:Value) (b:Bool) (hv:∀d,v≠.int .u32 d) :
  IRow ((W.setCell ⟨g,ps.length*2,none⟩ v).setCell ⟨g,ps.length*2+1,none⟩ (.bool b)) g n (ps++[(v,b)]):=by
 refine⟨?_,fun x hx d=>?_,by rw [qaf,qax];omega⟩
 ·rw [heap_setCell_same _ g (ps.length*2+1) _ _ _ (heap_setCell_same _ g (ps.length*2) _ _ v h.1)]
  congr 3
  obtain⟨m,hm⟩:∃m,n-ps.length=m+1:=⟨n-ps.length-1,by omega⟩;have e1:iflat (ps++List.replicate (m+1) (zs0,false))=iflat ps++(zs0 :: .bool false :: iflat (List.replicate m (zs0,false))):=by
   rw [qfj,qbo];rfl
  have e2:iflat (ps++[(v,b)]++List.replicate m (zs0,false))=iflat ps++(v :: .bool b :: iflat (List.replicate m (zs0,false))):=by
   rw [qfj,qfj,qay];rfl
  rw [qaC,qaC,hm,qaf,qax,show n-(ps.length+1)=m by omega,e1,e2];rw [qbd _ _ (by rw [qd5];exact qad _),qd5,qaI,qbn,qbd _ _ (by rw [qd5];omega),qd5,show ps.length*2+1-ps.length*2=1 by omega]
  rfl
 ·rcases qaN.1 hx with hx | hx
  ·exact h.2.1 x hx d
  ·rw [qap.1 hx];exact hv d
theorem ql1 (n:Nat):∀i,i<n*2->(iflat (List.replicate n (zs0,false)))[i]? = some (if i % 2=0 then zs0 else .bool false):=by
 intro i hi;have h:=qfk (List.replicate n (zs0,false)) (i / 2) (zs0,false) (by rw [qbc,if_pos (by omega)])
 by_cases e:i % 2=0
 ·rw [if_pos e];have:=h.1
  rwa [show i / 2*2=i by omega] at this
 ·rw [if_neg e];have:=h.2
  rwa [show i / 2*2+1=i by omega] at this
theorem qme (n:Nat):madeCells #[zs0,.bool false] (n*2)=(iflat (List.replicate n (zs0,false))).toArray:=by
 apply Array.ext';apply List.ext_getElem?;intro i;rw [Array.getElem?_toList]
 show _=(iflat (List.replicate n (zs0,false)))[i]?
 by_cases hi:i<n*2
 ·rw [ql1 n i hi];have hm:(madeCells #[zs0,.bool false] (n*2))[i]? = some ((#[zs0,.bool false]:Array Value)[i % 2]!):=by simp [madeCells,hi]
  rw [hm]
  congr 1
  rcases (show i % 2=0\/i % 2=1 by omega) with e | e
  ·rw [if_pos e,e];rfl
  ·rw [if_neg (by omega),e];rfl
 ·rw [Array.getElem?_eq_none (by rw [size_madeCells];omega),qba (by rw [qd5,qaQ];omega)]
theorem IRow.made (W:World) (n:Nat):IRow (W.alloc (.cells (madeCells #[zs0,.bool false] (n*2)) 242)) W.heap.size n []:=by
 refine⟨?_,(fun _ hv=>absurd hv (by simp)),qam _⟩;rw [qM _ _ _ rfl,qbq,List.length_nil,Nat.sub_zero,qme]
theorem infoI:(Tryz.prog.info? 242).map (fun i=>(i.zero,i.size,i.bytes))=some (some (.agg #[zs0,.bool false]),2,32):=by kernel_rfl
theorem qgT (n:Nat) (hn:n<=1048576) (w:World):(Instr.makeSlice 237 (.int .i64 (n:Int)) (.int .i64 (n:Int))).run Tryz.prog w=.ok (.slice (some ⟨w.heap.size,0,none⟩) n n) (w.alloc (.cells (madeCells #[zs0,.bool false] (n*2)) 242)):=by
 obtain⟨i,hi,hz0,hz1,hz2⟩:=info_parts infoI;have h:=run_make (P:=Tryz.prog) w 237 242 i _ Tryz.underlying237 hi hz0 .i64 .i64 (n:Int) (n:Int) (by omega) (Int.le_refl _) (by rw [hz2];omega) (by omega);rw [h,hz1,Int.toNat_natCast];rfl
abbrev FT:=ByteArray×ByteArray
def fd0:FT:=(⟨#[]⟩,⟨#[]⟩)
structure FCells (W:World) (ao:Option Addr) (b off:Nat) (l:List FT):Prop where
 addr:0<l.length->ao=some ⟨b,off,none⟩
 cell:∀k,k<l.length->W.cell? ⟨b,off+k*2,none⟩=some (.string (l.getD k fd0).1)/\W.cell? ⟨b,off+k*2+1,none⟩=some (.string (l.getD k fd0).2)
theorem FCells.below {W W':World} {ao:Option Addr} {b off:Nat} {l:List FT} (h:FCells W ao b off l) (hb:Below W.heap.size W W'):FCells W' ao b off l :=
 ⟨h.addr,fun k hk=>⟨(hb.cell (qac W _ (h.cell k hk).1)).trans (h.cell k hk).1,(hb.cell (qac W _ (h.cell k hk).2)).trans (h.cell k hk).2⟩⟩
def FAll (l:List FT):Prop:=∀k,k<l.length->FOk (l.getD k fd0).1.data.toList (l.getD k fd0).2.data.toList
def fden (x:FT):Nat:=(ival x.2.data.toList).natAbs
theorem infoM:(Tryz.prog.info? 238).map (fun i=>(i.zero,i.size,i.bytes))=some (some (.slice none 0 0),1,24):=by kernel_rfl
theorem qd1 {l:List FT} (h:FAll l) {k:Nat} (hk:k<l.length):0<fden (l.getD k fd0)/\Fit (fden (l.getD k fd0)) 67:=⟨(h k hk).dpos,(h k hk).vd.fit⟩
theorem qlt (l:List FT) (k:Nat) (hk:k<l.length):(l.take (k+1)).map fden=(l.take k).map fden++[fden (l.getD k fd0)]:=by
 rw [List.take_add_one,qae hk,qa5,qaa,qae hk];rfl
def flcd (l:List FT):Nat:=lcms (l.map fden)
def ftop (l:List FT) (k:Nat):Int:=ival (l.getD k fd0).1.data.toList*((flcd l / fden (l.getD k fd0):Nat):Int)
def qct (W:World) (ps:List (Value×Bool)) (z:Nat->Int):Prop:=∀k,k<ps.length->(ps.getD k (zs0,false)).2=decide (z k<0)/\MagAt W (ps.getD k (zs0,false)).1 (z k).natAbs
theorem qct.below {W W':World} {ps:List (Value×Bool)} {z:Nat->Int} (h:qct W ps z) (hb:Below W.heap.size W W'):qct W' ps z:=fun k hk=>⟨(h k hk).1,(h k hk).2.below hb⟩
theorem qct.keep {W W':World} {g:Nat} {cs:Array Value} {t:TypeId} {fz:Nat×Nat} {ps:List (Value×Bool)} {z:Nat->Int} (h:qct W ps z) (hk:W.grownBy W' (some g)) (hg:W.heap[g]? = some (.cells cs t fz)) (hne:∀x∈cs.toList,∀d,x≠.int .u32 d):qct W' ps z :=
 fun k hk'=>⟨(h k hk').1,qce (h k hk').2 hk hg hne⟩
theorem qct.snoc {W:World} {ps:List (Value×Bool)} {z:Nat->Int} {v:Value} (h:qct W ps z) (hv:MagAt W v (z ps.length).natAbs):qct W (ps++[(v,decide (z ps.length<0))]) z:=by
 intro k hk;rw [qaf,qax] at hk
 by_cases hlt:k<ps.length
 ·rw [qaa,qaA hlt,<-qaa];exact h k hlt
 ·obtain rfl:k=ps.length:=by omega
  rw [qaa,qas qN,qaI];exact⟨rfl,hv⟩
theorem qkW {P:Program} {fn:Func} {p u:Tmp} {ty:TypeId} (h:fn.results=#[.tmp u,.cell p ty]) (tmps:Array Value) (w:World) (g:Nat) (d:TypeDesc) (hu:P.underlying ty=some d) (hd:(match d with | .struct _ | .array _ _=>true | _=>false)=false)
  (hp:tmps.getD p undef=.pointer (some ⟨g,0,none⟩)) (v1 v:Value) (h1:tmps.getD u undef=v1) (hc:w.cell? ⟨g,0,none⟩=some v) :
  (results fn tmps).run P w=.ok (.tuple #[v1,v]) w:=by
 have hagg:(isAgg ty).run P w=.ok false w:=by
  unfold isAgg;rw [Sem.run_bind,run_underlying hu w];cases d <;> simp_all
 have hl:(loadVar ty ⟨g,0,none⟩).run P w=.ok v w:=by
  simp [loadVar,Sem.run_bind,hagg,hc]
 have hp':tmps[p]?.getD undef=.pointer (some ⟨g,0,none⟩):=by simpa using hp
 have h1':tmps[u]?.getD undef=v1:=by simpa using h1
 simp [results,h,hp',h1',asAddr,hl,Result.andThen]
theorem qir (ao:Option Addr) (b off n c:Nat) (l:List FT) (w:World) (hl:l.length=n) (hn:n<=64) (hcells:FCells w ao b off l) (hf:FAll l) :
  Calls Tryz.prog 166 #[.slice ao n c] w fun e w'=>∃g v ps,e=.returned (.tuple #[.slice (some ⟨g,0,none⟩) n n,v])/\w.heap.size<=g/\Below w.heap.size w w'/\MagAt w' v (flcd l)/\ps.length=n/\IRow w' g n ps/\qct w' ps (ftop l):=by
 have hmk:=run_make_row' (P:=Tryz.prog) 313 238 (.slice none 0 0) 24 Tryz.underlying313 infoM rfl .i64 .i64 n (by omega) (by omega);have HC:=qH (qA hcells (qA hf hl));have hfi:=qfg;clear hcells hf hl;go_enter Tryz.func166,Tryz.ntmps166;go_wp2
 go_loopw [15] (fun x15 W=>∃(k:Nat) (vs:List Value),k<=n/\x15=.int .i64 k/\Hid (vs.length=k/\PRow W (w.heap.size+1) n vs/\qdD W vs ((l.take k).map fden)/\W.heap[w.heap.size]? = some (.cells #[zs0] 238 (0,0)))/\Hid (Below w.heap.size w W)) (fun x15 _=>n-(intOf x15).toNat)
 case atStart =>
  have h1:=PRow.made (w.alloc (.cells #[zs0] 238)) n;rw [qab] at h1;exact⟨0,[],qam _,rfl,qH ⟨rfl,h1,⟨by simp,fun k hk=>absurd hk (by simp)⟩,(qL _ _ _ (by simp only [qab];omega)).trans (qM _ _ _ rfl)⟩,qH (qbS (qbS qB qN) qN)⟩
 case round =>
  clear hmk;obtain⟨k,vs,hk,rfl,hI,hB⟩:=hrel
  by_cases hkn:k<n
  ·have hki:(k:Int)<n:=by omega
   have hkl:k<l.length:=by have:=HC.out.2.2;omega
   have haw:=HC.out.1.addr (by omega);subst haw;have hc:=(HC.out.1.below hB.out).cell k hkl;have hok:=HC.out.2.1 k hkl;have hdt:=qlt l k hkl;have hfd:fden (l.getD k fd0)=(ival (l.getD k fd0).2.data.toList).natAbs:=rfl;rw [hfd] at hdt;obtain⟨N,hN⟩:=qX ((l.getD k fd0).1);obtain⟨D,hD⟩:=qX ((l.getD k fd0).2);rw [hN,hD] at hc;rw [hD] at hdt hok;obtain⟨hc0,hc1⟩:=hc;have HN:=qH (fun W=>least.qcy D hok.vd W);have HD:=qH hdt;clear hok hdt hfd hN hD;go_wp2_with fail;refine (HN.out _).mono ?_;rintro e w2 ⟨v2,rfl,hb2,hv2⟩;obtain⟨m2,rfl,hg2⟩:=hv2;have hb02:Below wr.heap.size wr w2:=(qB.alloc qN _).trans (hb2.mono (by simp only [qab];omega));have hp2:=hI.out.2.1.below hb02;have hat:=hp2.at (by have:=hI.out.1;omega);rw [hI.out.1] at hat;obtain⟨hat0,hat1⟩:=hat;have hset:=hp2.set (by have:=hI.out.1;omega) m2 (qjo hg2);rw [hI.out.1] at hset;have hms:=(((hI.out.2.2.1.below hb02).snoc hg2).keep (least.qbX w2 (w.heap.size+1) k m2) hp2.1 hp2.nope);rw [<-HD.out] at hms;have hr3:=(qW w2 ⟨w.heap.size+1,k,none⟩ m2 w.heap.size (by show w.heap.size≠w.heap.size+1;omega)).trans ((hb02.block _ (qG hI.out.2.2.2).1).trans hI.out.2.2.2);have hbb:=(hB.out.trans (hb02.mono hB.out.size)).setCell (p:=⟨w.heap.size+1,k,none⟩) (by show w.heap.size<=w.heap.size+1;omega) m2;have H3:=qH (qA hset (qA hms (qA hr3 hbb)));obtain⟨s2,_,_,u2,t2,_,rfl,_,_⟩:=hg2;clear hb2 hb02 hp2 hset hms hr3 hbb hc0 hc1;go_wp2;go_roundw
   case rel=>exact⟨k+1,_,hkn,by go_num,qH ⟨by rw [qaf,hI.out.1];rfl,H3.out.1,H3.out.2.1,H3.out.2.2.1⟩,qH H3.out.2.2.2⟩
   case measure=>simp [intOf];omega
  ·obtain rfl:k=n:=by omega
   have hll:=HC.out.2.2;have hmm:=hI.out.2.2.1;rw [qak (by omega)] at hmm;have hxk:∀j,j<k->0<(l.map fden).getD j 0/\Fit ((l.map fden).getD j 0) 67:=by
    intro j hj;have e:(l.map fden).getD j 0=fden (l.getD j fd0):=by
     rw [qaa,qaM,qaa,qae (by omega)];rfl
    rw [e];exact qd1 HC.out.2.1 (by omega)
   have hcm:=qhp (some ⟨w.heap.size+1,0,none⟩) (w.heap.size+1) 0 k k vs (l.map fden) 67 wr (by rw [qaw];exact hll) (hI.out.2.1.cells hI.out.1) hmm hxk (by omega) (by decide) (by omega);have HCM:=qH hcm;clear hcm hxk hmm hll;go_wp2_with fail;refine HCM.out.mono ?_;rintro e w2 ⟨v2,rfl,hb2,hv2⟩;obtain⟨W3,hW3⟩:=qY (w2.setCell ⟨w.heap.size,0,none⟩ v2);have hr2:=(hb2.block _ (qG hI.out.2.2.2).1).trans hI.out.2.2.2;have hc2:=qC _ _ 0 _ _ _ hr2;have hf2:=qF _ _ 0 _ _ hr2;have hm3:=qce hv2 (least.qbX w2 w.heap.size 0 v2) hr2 (by intro x hx d;rw [qap.1 hx];intro e;cases e);have hr3:(w2.setCell ⟨w.heap.size,0,none⟩ v2).heap[w.heap.size]? = some (.cells #[v2] 238 (0,0)):=heap_setCell_same w2 w.heap.size 0 _ _ v2 hr2;have hb3:=(hB.out.trans (hb2.mono hB.out.size)).setCell (p:=⟨w.heap.size,0,none⟩) qN v2;rw [<-hW3] at hm3 hr3 hb3;have hf67:Fit (flcd l) 4289:=by
    have:=qfn (l.map fden) 67 (by
     intro j hj;have hj':j<l.length:=by rw [qaw] at hj;exact hj
     have e:(l.map fden).getD j 0=fden (l.getD j fd0):=by
      rw [qaa,qaM,qaa,qae hj'];rfl
     rw [e];exact qd1 HC.out.2.1 hj') k (by rw [qaw];have:=HC.out.2.2;omega)
    rw [qak (by rw [qaw];have:=HC.out.2.2;omega)] at this;exact this.mono (by omega)
   have hsz:=(qG hr2).1;have H3:=qH (qA hm3 (qA hr3 (qA hb3 hf67)));have HS:=qH hsz;obtain⟨s2,_,_,u2,t2,_,hsh,_,_⟩:=hv2;subst hsh;have hmi:=qgT k (by omega) W3;clear hb2 hr2 hm3 hr3 hb3 hI hB HCM hf67 hsz;go_wp2_with fail;rw [<-hW3];have hws:W3.heap.size=w2.heap.size:=by rw [hW3];exact qby ..
   rw [hws] at hmi;rw [hmi];clear hW3;go_wp2_with fail
   go_loopw [36] (fun x36 W=>∃(j:Nat) (ps:List (Value×Bool)),j<=k/\x36=.int .i64 j/\Hid (ps.length=j/\IRow W w2.heap.size k ps/\qct W ps (ftop l)/\W.heap[w.heap.size]? = some (.cells #[.slice s2 t2 u2] 238 (0,0))/\MagAt W (.slice s2 t2 u2) (flcd l))/\Hid (Below w.heap.size w W)) (fun x36 _=>k-(intOf x36).toNat)
   case atStart =>
    have h0:=IRow.made W3 k;rw [hws] at h0;have hb4:Below W3.heap.size W3 (W3.alloc (.cells (madeCells #[zs0,.bool false] (k*2)) 242)):=qbS qB qN;exact⟨0,[],qam _,rfl,qH ⟨rfl,h0,(fun i hi=>absurd hi (by simp)),(hb4.block _ (qG H3.out.2.1).1).trans H3.out.2.1,H3.out.1.below hb4⟩,qH (H3.out.2.2.1.trans (hb4.mono H3.out.2.2.1.size))⟩
   case round =>
    clear hmi;obtain⟨j,ps,hj,rfl,hI4,hB4⟩:=hrel
    by_cases hjk:j<k
    ·have hji:(j:Int)<k:=by omega
     have hjl:j<l.length:=by have:=HC.out.2.2;omega
     have haw:=HC.out.1.addr (by omega);subst haw;have hc:=(HC.out.1.below hB4.out).cell j hjl;have hok:=HC.out.2.1 j hjl;have hft:ftop l j=ival (l.getD j fd0).1.data.toList*((flcd l / (ival (l.getD j fd0).2.data.toList).natAbs:Nat):Int):=rfl;obtain⟨N,hN⟩:=qX ((l.getD j fd0).1);obtain⟨D,hD⟩:=qX ((l.getD j fd0).2);rw [hN,hD] at hc hok hft;obtain⟨hc0,hc1⟩:=hc;have HW:=qH (qA hok hft);clear hok hft hN hD;go_wp2_with fail;have hb41:Below wr.heap.size wr (wr.alloc (.cells #[.string N,.string D] 44)):=qbS qB qN;refine (qni N D HW.out.1 w.heap.size s2 t2 u2 (flcd l) 4289 (by omega) (by omega) _ ((hb41.block _ (qG hI4.out.2.2.2.1).1).trans hI4.out.2.2.2.1) (hI4.out.2.2.2.2.below hb41) H3.out.2.2.2).mono ?_;rintro e w5 ⟨v5,rfl,hb5,hi5⟩;rw [<-HW.out.2] at hi5;have hb45:Below wr.heap.size wr w5:=hb41.trans (hb5.mono hb41.size);have hp5:=hI4.out.2.1.below hb45;have hps:=hI4.out.1;obtain⟨v6,rfl,hg6⟩:=hi5;have hat:=hp5.at (by omega);rw [hps] at hat;obtain⟨⟨hat0,hat1⟩,hfz⟩:=hat;have hz0:=hfz (j*2);have hz1:=hfz (j*2+1);have hset:=hp5.set (by omega) v6 (decide (ftop l j<0)) (qjo hg6);rw [hps] at hset;have hkp:=qbU (least.qbX w5 w2.heap.size (j*2) v6) (least.qbX _ w2.heap.size (j*2+1) (.bool (decide (ftop l j<0))));have hps2:=((hI4.out.2.2.1.below hb45).snoc (by rw [hps];exact hg6)).keep hkp hp5.1 hp5.nope;rw [hps] at hps2;have hne:w.heap.size≠w2.heap.size:=Nat.ne_of_lt HS.out;have hr6:=(qW (w5.setCell ⟨w2.heap.size,j*2,none⟩ v6) ⟨w2.heap.size,j*2+1,none⟩ (.bool (decide (ftop l j<0))) w.heap.size hne).trans ((qW w5 ⟨w2.heap.size,j*2,none⟩ v6 w.heap.size hne).trans ((hb45.block _ (qG hI4.out.2.2.2.1).1).trans hI4.out.2.2.2.1));have hm6:=qce (hI4.out.2.2.2.2.below hb45) hkp hp5.1 hp5.nope;have hb6:=((hB4.out.trans (hb45.mono hB4.out.size)).setCell (p:=⟨w2.heap.size,j*2,none⟩) (qao HS.out) v6).setCell (p:=⟨w2.heap.size,j*2+1,none⟩) (qao HS.out) (.bool (decide (ftop l j<0)));have H6:=qH (qA hset (qA hps2 (qA hr6 (qA hm6 hb6))));have HP:=qH hps;obtain⟨s6,_,_,u6,t6,_,rfl,_,_⟩:=hg6;clear hset hps2 hr6 hm6 hb6 hkp hp5 hb45 hb5 hb41 hps hfz hc0 hc1;go_wp2;go_roundw
     case rel=>exact⟨j+1,_,hjk,by go_num,qH ⟨by rw [qaf,HP.out];rfl,H6.out.1,H6.out.2.1,H6.out.2.2.1,H6.out.2.2.2.1⟩,qH H6.out.2.2.2.2⟩
     case measure=>simp [intOf];omega
    ·obtain rfl:j=k:=by omega
     have hne:w2.heap.size≠w.heap.size:=qbl HS.out;have hrr:=heap_setCell_same wr w.heap.size 0 _ _ (.slice s2 t2 u2) hI4.out.2.2.2.1;have hkp:=least.qbX wr w.heap.size 0 (.slice s2 t2 u2);have hno:∀x∈(#[.slice s2 t2 u2]:Array Value).toList,∀d,x≠.int .u32 d:=by intro x hx d;rw [qap.1 hx];intro e;cases e
     have HE:Hid (((wr.setCell ⟨w.heap.size,0,none⟩ (.slice s2 t2 u2)).drew).heap[w.heap.size]? = some (.cells #[.slice s2 t2 u2] 238 (0,0))/\qct (wr.setCell ⟨w.heap.size,0,none⟩ (.slice s2 t2 u2)).drew ps (ftop l)/\MagAt (wr.setCell ⟨w.heap.size,0,none⟩ (.slice s2 t2 u2)).drew (.slice s2 t2 u2) (flcd l)/\Below w.heap.size w (wr.setCell ⟨w.heap.size,0,none⟩ (.slice s2 t2 u2)).drew/\ps.length=j/\IRow (wr.setCell ⟨w.heap.size,0,none⟩ (.slice s2 t2 u2)).drew w2.heap.size j ps):=qH ⟨hrr,(hI4.out.2.2.1.keep hkp hI4.out.2.2.2.1 hno).below qB.drew,(qce hI4.out.2.2.2.2 hkp hI4.out.2.2.2.1 hno).below qB.drew,(hB4.out.setCell (p:=⟨w.heap.size,0,none⟩) qN _).drew,hI4.out.1,⟨(qW wr ⟨w.heap.size,0,none⟩ (.slice s2 t2 u2) w2.heap.size hne).trans hI4.out.2.1.1,hI4.out.2.1.2⟩⟩;clear hrr hkp hno hne;have hz3:=qC _ _ 0 _ _ _ hI4.out.2.2.2.1;have hf3:=qF _ _ 0 _ _ hI4.out.2.2.2.1;go_wp2_with fail
     go_region
     all_goals go_wp2_with fail
     all_goals refine qR (v:=.tuple #[.slice (some ⟨w2.heap.size,0,none⟩) j j,.slice s2 t2 u2]) (qkW rfl _ _ w.heap.size _ Tryz.underlying238 rfl rfl _ _ rfl (qC _ _ 0 _ _ _ HE.out.1)) rfl ⟨w2.heap.size,_,ps,rfl,qao HS.out,HE.out.2.2.2.1,HE.out.2.2.1,HE.out.2.2.2.2.1,HE.out.2.2.2.2.2,HE.out.2.1⟩
theorem qin {P:Program} (w:World) (dT sT ty elem:TypeId) (m g dLen dCap:Nat) (a:Addr) (sLen sCap:Nat) (cur:Array Value) (t:TypeId) (cs:List Value)
  (hu:P.underlying dT=some (.slice elem)) (hs:(P.info? elem).map (·.size)=some m)
  (hg:w.heap[g]? = some (.cells cur t (0,0))) (hn:cs.length=Nat.min sLen dLen*m)
  (hsrc:∀j v,cs[j]? = some v->w.cell? (a.add j)=some v) (hfit:0+cs.length<=cur.size) (h1:∀v∈cs,v.oneCell'=true) :
  (Builtin.copy_ #[dT,sT] ty #[.slice (some ⟨g,0,none⟩) dLen dCap,.slice (some a) sLen sCap]).run P w =
   .ok (goInt (Nat.min sLen dLen:Nat)) (w.setRow g (cur.toList.take 0++cs++cur.toList.drop (0+cs.length)).toArray):=by
 have hl:=run_loadCells_list (P:=P) w a cs hsrc;have hst:=run_storeCells_at P g 0 t cs 0 cur w hg (by simpa using hfit) h1;cases hq:P.info? elem with
 | none=>simp [hq] at hs
 | some i =>
  have hi:i.size=m:=by simpa [hq] using hs
  rw [hn] at hl;simp [Builtin.copy_,run_underlying hu,Builtin.lenOf,Builtin.firstCells,sizeOf,typeInfo,hq,hi,hl,hst]
def fflat (l:List FT):List Value:=l.flatMap fun x=>[.string x.1,.string x.2]
theorem qck (l:List FT):(fflat l).length=l.length*2:=by
 induction l with
 | nil=>rfl
 | cons p l ih=>rw [fflat,List.flatMap_cons,qaf,<-fflat,ih,qbI];simp;omega
theorem qdj (a b:List FT):fflat (a++b)=fflat a++fflat b:=by unfold fflat;rw [List.flatMap_append]
theorem qd0 (l:List FT):∀(k:Nat) (x:FT),l[k]? = some x->(fflat l)[k*2]? = some (.string x.1)/\(fflat l)[k*2+1]? = some (.string x.2):=by
 induction l with
 | nil=>intro k p h;cases h
 | cons q l ih =>
  intro k p h;have e:fflat (q :: l)=.string q.1 :: .string q.2 :: fflat l:=rfl;rw [e];cases k with
  | zero =>
   have:q=p:=qai h;subst this;exact⟨rfl,rfl⟩
  | succ k =>
   have h2:=ih k p h;rw [show (k+1)*2=k*2+1+1 by omega];exact h2
theorem qiq (l:List FT):∀v∈fflat l,v.oneCell'=true:=by
 intro v hv;obtain⟨x,_,hx⟩:=List.mem_flatMap.1 hv;rcases qaP.1 hx with rfl | hx
 ·rfl
 ·rw [qap.1 hx];rfl
theorem getD_some {l:List FT} {k:Nat} (hk:k<l.length):l[k]? = some (l.getD k fd0):=by rw [qaa,qae hk];rfl
theorem FCells.src {W:World} {ao:Option Addr} {b off:Nat} {l:List FT} (h:FCells W ao b off l):∀j v,(fflat l)[j]? = some v->W.cell? ((⟨b,off,none⟩:Addr).add j)=some v:=by
 intro j v hv;have hj:j<(fflat l).length:=(List.getElem?_eq_some_iff.1 hv).1;rw [qck] at hj;have hk:j / 2<l.length:=by omega
 obtain⟨h1,h2⟩:=qd0 l (j / 2) _ (getD_some hk);obtain⟨c1,c2⟩:=h.cell (j / 2) hk;rw [Addr.add_mid]
 by_cases e:j % 2=0
 ·rw [show j / 2*2=j by omega] at h1 c1;rw [h1] at hv;rw [c1];exact hv
 ·rw [show j / 2*2+1=j by omega] at h2;rw [show off+j / 2*2+1=off+j by omega] at c2;rw [h2] at hv;rw [c2];exact hv
theorem FCells.ofRow {W:World} {g:Nat} {l:List FT} {t:TypeId} {fz:Nat×Nat} (h:W.heap[g]? = some (.cells (fflat l).toArray t fz)):FCells W (some ⟨g,0,none⟩) g 0 l:=by
 refine⟨fun _=>rfl,fun k hk=>?_⟩;obtain⟨h1,h2⟩:=qd0 l k _ (getD_some hk);rw [qaO];exact⟨(qC _ _ _ _ _ _ h).trans ((qat ..).trans h1),(qC _ _ _ _ _ _ h).trans ((qat ..).trans h2)⟩
theorem infoF:(Tryz.prog.info? 44).map (fun i=>(i.zero,i.size,i.bytes))=some (some (.agg #[.string ⟨#[]⟩,.string ⟨#[]⟩]),2,32):=by kernel_rfl
theorem qkM (n:Nat) (hn:n<=1048576) (w:World):(Instr.makeSlice 35 (.int .i64 ((n:Int)+1)) (.int .i64 ((n:Int)+1))).run Tryz.prog w=.ok (.slice (some ⟨w.heap.size,0,none⟩) (n+1) (n+1)) (w.alloc (.cells (madeCells #[.string ⟨#[]⟩,.string ⟨#[]⟩] ((n+1)*2)) 44)):=by
 obtain⟨i,hi,hz0,hz1,hz2⟩:=info_parts infoF;have h:=run_make (P:=Tryz.prog) w 35 44 i _ Tryz.underlying35 hi hz0 .i64 .i64 ((n+1:Nat):Int) ((n+1:Nat):Int) (by omega) (Int.le_refl _) (by rw [hz2];omega) (by omega);rw [hz1,Int.toNat_natCast] at h;exact h
theorem qmU (l:List FT) (x:FT) (r:List Value) (hr:r.length=2):(((fflat l++r).toArray.setIfInBounds (l.length*2) (.string x.1)).setIfInBounds (l.length*2+1) (.string x.2))=(fflat (l++[x])).toArray:=by
 obtain⟨a,b,rfl⟩:∃a b,r=[a,b]:=by
  match r,hr with
  | [a,b],_=>exact⟨a,b,rfl⟩
 rw [qdj,qaC,qaC,qbd _ _ (by rw [qck];exact qad _),qck,qaI,qbn,qbd _ _ (by rw [qck];omega),qck,show l.length*2+1-l.length*2=1 by omega]
 rfl
theorem qho (ao:Option Addr) (b off n c:Nat) (l:List FT) (x:FT) (w:World) (hl:l.length=n) (hn0:0<n) (hn:n<=63) (hcells:FCells w ao b off l) :
  Calls Tryz.prog 169 #[.slice ao n c,.agg #[.string x.1,.string x.2]] w fun e w'=>∃g,e=.returned (.slice (some ⟨g,0,none⟩) ((n+1:Nat)) (n+1))/\Below w.heap.size w w'/\FCells w' (some ⟨g,0,none⟩) g 0 (l++[x]):=by
 obtain⟨s1,s2⟩:=x;have haw:=hcells.addr (by omega);subst haw;obtain⟨W1,hW1⟩:=qY (w.alloc (.cells #[.string s1,.string s2] 44));have hmk:=qkM n (by omega) W1;obtain⟨W2,hW2⟩:=qY (W1.alloc (.cells (madeCells #[.string ⟨#[]⟩,.string ⟨#[]⟩] ((n+1)*2)) 44));have hs1:W1.heap.size=w.heap.size+1:=by rw [hW1,qab]
 rw [<-hW2,hs1] at hmk;have hr2:W2.heap[w.heap.size+1]? = some (.cells (madeCells #[.string ⟨#[]⟩,.string ⟨#[]⟩] ((n+1)*2)) 44 (0,0)):=by rw [hW2];exact qM _ _ _ hs1
 have hb1:Below w.heap.size w W1:=hW1▸qbS qB qN;have hb2:Below w.heap.size w W2:=hW2▸qbS hb1 qN;have hcp:=qin (P:=Tryz.prog) W2 35 35 3 44 2 (w.heap.size+1) (n+1) (n+1) ⟨b,off,none⟩ n c _ 44 (fflat l) Tryz.underlying35 (by kernel_rfl) hr2 (by rw [qck,hl];show n*2=(min n (n+1))*2;rw [qaZ (by omega)]) (hcells.below hb2).src (by rw [qck,hl,size_madeCells];omega) (qiq l);obtain⟨R,hR⟩:=qY (((madeCells #[.string ⟨#[]⟩,.string ⟨#[]⟩] ((n+1)*2):Array Value)).toList.drop (0+(fflat l).length));have hRl:R.length=2:=by rw [hR,qaY,qbr,size_madeCells,qck];omega
 rw [<-hR,List.take_zero,qbq] at hcp;obtain⟨W3,hW3⟩:=qY (W2.setRow (w.heap.size+1) (fflat l++R).toArray);rw [<-hW3] at hcp;have hr3:W3.heap[w.heap.size+1]? = some (.cells (fflat l++R).toArray 44 (0,0)):=by rw [hW3];exact qT _ _ _ _ _ _ hr2
 have hb3:Below w.heap.size w W3:=hW3▸qS hb2 (by omega) _;have hr0:W1.heap[w.heap.size]? = some (.cells #[.string s1,.string s2] 44 (0,0)):=by rw [hW1];exact qM _ _ _ rfl
 have hb13:Below W1.heap.size W1 W3:=hW3▸qS (hW2▸qbS qB qN) (by omega) _;have hq3:=(hb13.block _ (qG hr0).1).trans hr0;have hx0:=qC _ _ 0 _ _ _ hq3;have hx1:=qC _ _ 1 _ _ _ hq3;have hlen:(fflat l++R).length=n*2+2:=by rw [qaf,qck,hRl,hl]
 obtain⟨d0,hd0⟩:∃d0,W3.cell? ⟨w.heap.size+1,n*2,none⟩=some d0:=⟨_,(qC _ _ _ _ _ _ hr3).trans ((qat ..).trans (qae (by omega)))⟩;obtain⟨d1,hd1⟩:∃d1,W3.cell? ⟨w.heap.size+1,n*2+1,none⟩=some d1:=⟨_,(qC _ _ _ _ _ _ hr3).trans ((qat ..).trans (qae (by omega)))⟩;have hf0:=qF _ _ (n*2) _ _ hr3;have hf1:=qF _ _ (n*2+1) _ _ hr3;have hset:=heap_setCell_same _ _ (n*2+1) _ _ (.string s2) (heap_setCell_same _ _ (n*2) _ _ (.string s1) hr3);rw [<-hl,qmU l (s1,s2) R hRl,hl] at hset;have hbe:=(hb3.setCell (p:=⟨w.heap.size+1,n*2,none⟩) (by show w.heap.size<=w.heap.size+1;omega) (.string s1)).setCell (p:=⟨w.heap.size+1,n*2+1,none⟩) (by show w.heap.size<=w.heap.size+1;omega) (.string s2);have HE:=qH (qA hbe (FCells.ofRow hset));have HN:=qH (qA hW2 hW1);clear hcells hr2 hb1 hb2 hR hRl hW3 hr3 hb3 hr0 hb13 hq3 hlen hset hbe hW2;go_enter Tryz.func169,Tryz.ntmps169;go_wp2_with fail;rw [<-hW1];clear hW1;rw [hmk];go_wp2;go_ret;exact⟨_,rfl,HE.out.1,HE.out.2⟩
theorem qgu {W:World} {g:Nat} {t:TypeId} (h:W.heap[g]? = some (.cells #[.slice none 0 0,.bool false] t (0,0))) (a:Option Addr) (n c:Nat) (b:Bool) :
  ((W.setCell ⟨g,0,none⟩ (.slice a n c)).setCell ⟨g,1,none⟩ (.bool b)).heap[g]? = some (.cells #[.slice a n c,.bool b] t (0,0)) /\
  (∀k,k≠g->((W.setCell ⟨g,0,none⟩ (.slice a n c)).setCell ⟨g,1,none⟩ (.bool b)).heap[k]? = W.heap[k]?) /\
  (∀m b0 z,IntAt W (.agg #[m,.bool b0]) z->IntAt ((W.setCell ⟨g,0,none⟩ (.slice a n c)).setCell ⟨g,1,none⟩ (.bool b)) (.agg #[m,.bool b0]) z) :=
 ⟨least.qdc h a n c b,fun _k hk=>(qW _ _ _ _ hk).trans (qW _ _ _ _ hk),fun _ _ _ hi=>least.qda hi h a n c b⟩
def LTwo (W2 W:World) (g3 g4:Nat) (v3:Option Addr×Nat×Nat×Bool) (v4:Option Addr×Nat×Nat×Bool) (z3 z4:Int):Prop :=
 W.heap[g3]? = some (.cells #[.slice v3.1 v3.2.1 v3.2.2.1,.bool v3.2.2.2] 242 (0,0))/\W.heap[g4]? = some (.cells #[.slice v4.1 v4.2.1 v4.2.2.1,.bool v4.2.2.2] 242 (0,0)) /\
  IntAt W (.agg #[.slice v3.1 v3.2.1 v3.2.2.1,.bool v3.2.2.2]) z3/\IntAt W (.agg #[.slice v4.1 v4.2.1 v4.2.2.1,.bool v4.2.2.2]) z4/\Below W2.heap.size W2 W/\W2.heap.size<=g3/\W2.heap.size<=g4
section
variable {W2 W:World} {a3:Option Addr} {n3 c3:Nat} {b3:Bool} {a4:Option Addr} {n4 c4:Nat} {b4:Bool} {z3 z4:Int}
theorem ltwo_aa (h:IntAt W (.agg #[.slice a3 n3 c3,.bool b3]) z3/\IntAt W (.agg #[.slice a4 n4 c4,.bool b4]) z4) (hb:Below W2.heap.size W2 W) :
  LTwo W2 ((W.alloc (.cells #[.slice a3 n3 c3,.bool b3] 242)).alloc (.cells #[.slice a4 n4 c4,.bool b4] 242)) W.heap.size (W.heap.size+1) (a3,n3,c3,b3) (a4,n4,c4,b4) z3 z4 :=
 have k:=qbS (qbS (Below.refl W.heap.size W) qN) qN
 ⟨(qL _ _ _ (by simp only [qab];omega)).trans (qM _ _ _ rfl),qM _ _ _ (by simp only [qab]),h.1.below k,h.2.below k,qbS (qbS hb qN) qN,hb.size,qaq hb.size⟩
theorem ltwo_bb (h:IntAt W (.agg #[.slice a3 n3 c3,.bool b3]) z3/\IntAt W (.agg #[.slice a4 n4 c4,.bool b4]) z4) (hb:Below W2.heap.size W2 W) :
  LTwo W2 ((W.alloc (.cells #[.slice a4 n4 c4,.bool b4] 242)).alloc (.cells #[.slice a3 n3 c3,.bool b3] 242)) (W.heap.size+1) W.heap.size (a3,n3,c3,b3) (a4,n4,c4,b4) z3 z4 :=
 have k:=qbS (qbS (Below.refl W.heap.size W) qN) qN
 ⟨qM _ _ _ (by simp only [qab]),(qL _ _ _ (by simp only [qab];omega)).trans (qM _ _ _ rfl),h.1.below k,h.2.below k,qbS (qbS hb qN) qN,qaq hb.size,hb.size⟩
theorem ltwo_pa {g:Nat} (h:IntAt W (.agg #[.slice a3 n3 c3,.bool b3]) z3/\IntAt W (.agg #[.slice a4 n4 c4,.bool b4]) z4) (hb:Below W2.heap.size W2 W) (hg:W2.heap.size<=g) (hz:W.heap[g]? = some (.cells #[.slice none 0 0,.bool false] 242 (0,0))) :
  LTwo W2 (((W.setCell ⟨g,0,none⟩ (.slice a3 n3 c3)).setCell ⟨g,1,none⟩ (.bool b3)).alloc (.cells #[.slice a4 n4 c4,.bool b4] 242)) g W.heap.size (a3,n3,c3,b3) (a4,n4,c4,b4) z3 z4:=by
 obtain⟨p1,p2,p3⟩:=qgu hz a3 n3 c3 b3;have lt:=(qG hz).1;have k:∀V:World,Below V.heap.size V (V.alloc (.cells #[.slice a4 n4 c4,.bool b4] 242)):=fun V=>qbS qB qN
 exact⟨(qL _ _ _ (by simp only [qby];exact lt)).trans p1,qM _ _ _ (by simp only [qby]),(p3 _ _ _ h.1).below (k _),(p3 _ _ _ h.2).below (k _),qbS ((hb.setCell (by exact hg) _).setCell (by exact hg) _) qN,hg,hb.size⟩
theorem ltwo_pb {g:Nat} (h:IntAt W (.agg #[.slice a3 n3 c3,.bool b3]) z3/\IntAt W (.agg #[.slice a4 n4 c4,.bool b4]) z4) (hb:Below W2.heap.size W2 W) (hg:W2.heap.size<=g) (hz:W.heap[g]? = some (.cells #[.slice none 0 0,.bool false] 242 (0,0))) :
  LTwo W2 (((W.setCell ⟨g,0,none⟩ (.slice a4 n4 c4)).setCell ⟨g,1,none⟩ (.bool b4)).alloc (.cells #[.slice a3 n3 c3,.bool b3] 242)) W.heap.size g (a3,n3,c3,b3) (a4,n4,c4,b4) z3 z4:=by
 obtain⟨p1,p2,p3⟩:=qgu hz a4 n4 c4 b4;have lt:=(qG hz).1;have k:∀V:World,Below V.heap.size V (V.alloc (.cells #[.slice a3 n3 c3,.bool b3] 242)):=fun V=>qbS qB qN
 exact⟨qM _ _ _ (by simp only [qby]),(qL _ _ _ (by simp only [qby];exact lt)).trans p1,(p3 _ _ _ h.1).below (k _),(p3 _ _ _ h.2).below (k _),qbS ((hb.setCell (by exact hg) _).setCell (by exact hg) _) qN,hb.size,hg⟩
theorem ltwo_pp {g g':Nat} (h:IntAt W (.agg #[.slice a3 n3 c3,.bool b3]) z3/\IntAt W (.agg #[.slice a4 n4 c4,.bool b4]) z4) (hb:Below W2.heap.size W2 W) (hg:W2.heap.size<=g) (hg':W2.heap.size<=g') (hne:g≠g') (hz:W.heap[g]? = some (.cells #[.slice none 0 0,.bool false] 242 (0,0))) (hz':W.heap[g']? = some (.cells #[.slice none 0 0,.bool false] 242 (0,0))) :
  LTwo W2 ((((W.setCell ⟨g,0,none⟩ (.slice a3 n3 c3)).setCell ⟨g,1,none⟩ (.bool b3)).setCell ⟨g',0,none⟩ (.slice a4 n4 c4)).setCell ⟨g',1,none⟩ (.bool b4)) g g' (a3,n3,c3,b3) (a4,n4,c4,b4) z3 z4:=by
 obtain⟨p1,p2,p3⟩:=qgu hz a3 n3 c3 b3;obtain⟨q1,q2,q3⟩:=qgu ((p2 g' (Ne.symm hne)).trans hz') a4 n4 c4 b4;exact⟨(q2 g hne).trans p1,q1,q3 _ _ _ (p3 _ _ _ h.1),q3 _ _ _ (p3 _ _ _ h.2),(((hb.setCell (by exact hg) _).setCell (by exact hg) _).setCell (by exact hg') _).setCell (by exact hg') _,hg,hg'⟩
end
theorem qdp {W:World} {ps:List (Value×Bool)} {zs:Nat->Int} (h:qct W ps zs) {k:Nat} (hk:k<ps.length):∃(a:Option Addr) (n c:Nat) (b:Bool),ps.getD k (zs0,false)=(.slice a n c,b)/\IntAt W (.agg #[.slice a n c,.bool b]) (zs k):=by
 obtain⟨h1,h2⟩:=h k hk;have hg:=h2;obtain⟨a,_,_,c,n,_,e,_,_⟩:=h2;refine⟨a,n,c,decide (zs k<0),Prod.ext e h1,_,rfl,e▸hg⟩
theorem qc8 {a b:World} {g k:Nat} {cs:Array Value} {t:TypeId} (h:a.grownBy b (some g)) (hg:a.heap[k]? = some (.cells cs t (0,0))) (hne:k≠g) (i:Nat):b.cell? ⟨k,i,none⟩=cs[i]? :=
 qC _ _ i _ _ _ ((h.block _ (qG hg).1 (fun e=>hne (qai e))).trans hg)
theorem qb2 {a b:World} (g:Nat) (h:Below a.heap.size a b):a.grownBy b (some g):=qcd (qcT a _) h
def qhm (W:World) (b n:Nat) (ps:List (Value×Bool)):Prop:=∀k,k<n->W.cell? ⟨b,k*2,none⟩=some (ps.getD k (zs0,false)).1/\W.cell? ⟨b,k*2+1,none⟩=some (.bool (ps.getD k (zs0,false)).2)
theorem qhm.below {W W':World} {b n:Nat} {ps:List (Value×Bool)} (h:qhm W b n ps) (hb:Below W.heap.size W W'):qhm W' b n ps :=
 fun k hk=>⟨(hb.cell (qac W _ (h k hk).1)).trans (h k hk).1,(hb.cell (qac W _ (h k hk).2)).trans (h k hk).2⟩
theorem qkb {W:World} {g n j:Nat} {rs:List (Value×Bool)} {z:Nat->Int} {a:Option Addr} {m c:Nat} {b:Bool} (hI:IRow W g n rs) (hP:qct W rs z) (hj:rs.length=j) (hjn:j<n) (hi:IntAt W (.agg #[.slice a m c,.bool b]) (z j)) :
  IRow ((W.setCell ⟨g,j*2,none⟩ (.slice a m c)).setCell ⟨g,j*2+1,none⟩ (.bool b)) g n (rs++[(.slice a m c,b)])/\qct ((W.setCell ⟨g,j*2,none⟩ (.slice a m c)).setCell ⟨g,j*2+1,none⟩ (.bool b)) (rs++[(.slice a m c,b)]) z:=by
 subst hj;obtain⟨v,hv,hg⟩:=hi;have e1:v=.slice a m c:=by simp only [qaJ,qaL,qaH] at hv;exact hv.1.symm
 have e2:b=decide (z rs.length<0):=by simp only [qaJ,qaL,qaH,qbm] at hv;exact hv.2.1
 subst e1;refine⟨hI.set hjn _ b (qjo hg),?_⟩;rw [e2];exact (hP.snoc hg).keep (qbU (least.qbX W g (rs.length*2) _) (least.qbX _ g (rs.length*2+1) _)) hI.1 hI.nope
theorem qim (br bp n cr cp cc:Nat) (ps qs:List (Value×Bool)) (zs ys:Nat->Int) (K:Nat) (hK:K<=34359738368) (v0:Value) (z0:Int) (w:World) (hn:n<=64) (hc:cc<n) (hps:ps.length=n) (hqs:qs.length=n) (hcr:qhm w br n ps) (hcp:qhm w bp n qs) (hz:qct w ps zs) (hy:qct w qs ys) (hfz:∀k,k<n->Fit (zs k).natAbs K) (hfy:∀k,k<n->Fit (ys k).natAbs K) (h0:IntAt w v0 z0) (hf0:Fit z0.natAbs K) (hz0:z0≠0) :
  Calls Tryz.prog 276 #[.slice (some ⟨br,0,none⟩) n cr,.slice (some ⟨bp,0,none⟩) n cp,.int .i64 cc,v0] w fun e w'=>∃g rs,e=.returned (.slice (some ⟨g,0,none⟩) n n)/\w.heap.size<=g/\Below w.heap.size w w'/\rs.length=n/\IRow w' g n rs/\qct w' rs (fun j=>(ys cc*zs j-zs cc*ys j).tdiv z0):=by
 obtain⟨a0,n0,c0,b0,rfl⟩:=least.qbT h0;obtain⟨W1,hW1⟩:=qY (w.alloc (.cells #[.slice a0 n0 c0,.bool b0] 242));have hs1:W1.heap.size=w.heap.size+1:=by rw [hW1,qab]
 have hmk:=qgT n (by omega) W1;rw [hs1] at hmk;have hb1:Below w.heap.size w W1:=hW1▸qbS qB qN;have hb2:=qbS (o:=.cells (madeCells #[zs0,.bool false] (n*2)) 242) hb1 qN;have hi2:=IRow.made W1 n;rw [hs1] at hi2;have hr0:W1.heap[w.heap.size]? = some (.cells #[.slice a0 n0 c0,.bool b0] 242 (0,0)):=by rw [hW1];exact qM _ _ _ rfl
 have hr2:(W1.alloc (.cells (madeCells #[zs0,.bool false] (n*2)) 242)).heap[w.heap.size]? = some (.cells #[.slice a0 n0 c0,.bool b0] 242 (0,0)):=(qL _ _ _ (by omega)).trans hr0;have hci:(cc:Int)<n:=by omega
 have H2:=qH (qA hb2 (qA hi2 hr2));have HC:=qH (qA hcr (qA hcp (qA hz (qA hy (qA hfz (qA hfy (qA h0 (qA hf0 (qA hps hqs)))))))));have hfi:=qfg;clear hcr hcp hz hy hfz hfy h0 hf0 hb1 hb2 hi2 hr0 hr2;go_enter Tryz.func276,Tryz.ntmps276;go_wp2_with fail;rw [<-hW1];rw [hmk];clear hW1 hmk;go_wp2_with fail
 go_loopw [18] (fun x18 W=>∃(j:Nat) (rs:List (Value×Bool)),j<=n/\x18=.int .i64 j/\Hid (rs.length=j/\IRow W (w.heap.size+1) n rs/\qct W rs (fun j=>(ys cc*zs j-zs cc*ys j).tdiv z0)/\W.heap[w.heap.size]? = some (.cells #[.slice a0 n0 c0,.bool b0] 242 (0,0)))/\Hid (Below w.heap.size w W)) (fun x18 _=>n-(intOf x18).toNat)
 case atStart=>exact⟨0,[],qam _,rfl,qH ⟨rfl,H2.out.2.1,(fun i hi=>absurd hi (by simp)),H2.out.2.2⟩,qH H2.out.1⟩
 case round =>
  obtain⟨j,rs,hj,rfl,hI,hB⟩:=hrel
  by_cases hjn:j<n
  ·have hji:(j:Int)<n:=by omega
   obtain⟨a1,n1,c1,b1,e1,i1⟩:=qdp (HC.out.2.2.2.1.below hB.out) (k:=cc) (by have:=HC.out.2.2.2.2.2.2.2.2.2;omega);obtain⟨a2,n2,c2,b2,e2,i2⟩:=qdp (HC.out.2.2.1.below hB.out) (k:=j) (by have:=HC.out.2.2.2.2.2.2.2.2.1;omega);obtain⟨a5,n5,c5,b5,e5,i5⟩:=qdp (HC.out.2.2.1.below hB.out) (k:=cc) (by have:=HC.out.2.2.2.2.2.2.2.2.1;omega);obtain⟨a6,n6,c6,b6,e6,i6⟩:=qdp (HC.out.2.2.2.1.below hB.out) (k:=j) (by have:=HC.out.2.2.2.2.2.2.2.2.2;omega);have k1:=(HC.out.2.1.below hB.out) cc hc;have k2:=(HC.out.1.below hB.out) j hjn;have k5:=(HC.out.1.below hB.out) cc hc;have k6:=(HC.out.2.1.below hB.out) j hjn;rw [e1] at k1;rw [e2] at k2;rw [e5] at k5;rw [e6] at k6;have C10:∀W,Below wr.heap.size wr W->W.cell? ⟨bp,cc*2,none⟩=some (.slice a1 n1 c1):=fun W h=>(h.cell (qac wr _ k1.1)).trans k1.1
   have C11:∀W,Below wr.heap.size wr W->W.cell? ⟨bp,cc*2+1,none⟩=some (.bool b1):=fun W h=>(h.cell (qac wr _ k1.2)).trans k1.2
   have C20:∀W,Below wr.heap.size wr W->W.cell? ⟨br,j*2,none⟩=some (.slice a2 n2 c2):=fun W h=>(h.cell (qac wr _ k2.1)).trans k2.1
   have C21:∀W,Below wr.heap.size wr W->W.cell? ⟨br,j*2+1,none⟩=some (.bool b2):=fun W h=>(h.cell (qac wr _ k2.2)).trans k2.2
   have C50:∀W,Below wr.heap.size wr W->W.cell? ⟨br,cc*2,none⟩=some (.slice a5 n5 c5):=fun W h=>(h.cell (qac wr _ k5.1)).trans k5.1
   have C51:∀W,Below wr.heap.size wr W->W.cell? ⟨br,cc*2+1,none⟩=some (.bool b5):=fun W h=>(h.cell (qac wr _ k5.2)).trans k5.2
   have C60:∀W,Below wr.heap.size wr W->W.cell? ⟨bp,j*2,none⟩=some (.slice a6 n6 c6):=fun W h=>(h.cell (qac wr _ k6.1)).trans k6.1
   have C61:∀W,Below wr.heap.size wr W->W.cell? ⟨bp,j*2+1,none⟩=some (.bool b6):=fun W h=>(h.cell (qac wr _ k6.2)).trans k6.2
   have HN1:=qH (fun W (h:Below wr.heap.size wr W)=>least.qde (ys cc) (zs j) K K (by omega) _ _ W (i1.below h) (i2.below h) (HC.out.2.2.2.2.2.1 cc hc) (HC.out.2.2.2.2.1 j hjn));have HN2:=qH (fun W (h:Below wr.heap.size wr W)=>least.qde (zs cc) (ys j) K K (by omega) _ _ W (i5.below h) (i6.below h) (HC.out.2.2.2.2.1 cc hc) (HC.out.2.2.2.2.2.1 j hjn));clear k1 k2 k5 k6 e1 e2 e5 e6 i1 i2 i5 i6;have hst:Below wr.heap.size wr wr:=Below.refl _ _;have hstD:Below wr.heap.size wr wr.drew:=hst.drew;have hdr2:wr.drew.heap.size=wr.heap.size:=rfl;have hdr3:∀W:World,W.drew.heap.size=W.heap.size:=fun _=>rfl
   go_wp2_with fail
   go_cut [11,12] (fun x11 x12 W=>∃(g3 g4:Nat) (a3:Option Addr) (n3 c3:Nat) (b3:Bool) (a4:Option Addr) (n4 c4:Nat) (b4:Bool),x11=.pointer (some ⟨g3,0,none⟩)/\x12=.pointer (some ⟨g4,0,none⟩)/\LTwo wr W g3 g4 (a3,n3,c3,b3) (a4,n4,c4,b4) (ys cc*zs j) (zs cc*ys j))
   case first =>
    go_region_held3 (fun W=>Below wr.heap.size wr W) (first | with_reducible exact hst | with_reducible exact hstD | with_reducible exact HB4 | with_reducible exact HB3 | ((repeat (first | refine Below.setCell ?_ (by first | exact qad _ | exact HB3.size | exact HB4.size | exact qaq qN | exact qaq HB3.size | exact qaq HB4.size) _ | refine qbS ?_ qN | refine Below.drew ?_));first | exact HB4 | exact HB3 | exact hst)) (first | (go_at_call_of 172 (Value.agg #[.slice a1 n1 c1,.bool b1]);refine (HN1.out _ (by ((repeat (first | refine Below.setCell ?_ (by first | exact qad _ | exact HB3.size | exact HB4.size | exact qaq qN | exact qaq HB3.size | exact qaq HB4.size) _ | refine qbS ?_ qN | refine Below.drew ?_));first | exact hst))).mono ?_;rintro e w3 ⟨p3,rfl,hb3,hp3⟩;have HB3:Below wr.heap.size wr w3:=bjoin (by ((repeat (first | refine Below.setCell ?_ (by first | exact qad _ | exact HB3.size | exact HB4.size | exact qaq qN | exact qaq HB3.size | exact qaq HB4.size) _ | refine qbS ?_ qN | refine Below.drew ?_));first | exact hst)) hb3;obtain⟨a3,n3,c3,b3,rfl⟩:=least.qbT hp3;have HP3:=qH hp3;obtain⟨k3,k3f⟩:=bcell hb3;have Z3:=qH (zkeep hb3);have s3:_<=_:=hb3.size;(try simp only [qab,hdr2,hdr3] at s3);(try have q3:wr.heap.size<w3.heap.size:=by omega);(try have r3:wr.heap.size+1<w3.heap.size:=by omega);clear hb3 hp3) | (go_at_call_of 172 (Value.agg #[.slice a5 n5 c5,.bool b5]);refine (HN2.out _ (by ((repeat (first | refine Below.setCell ?_ (by first | exact qad _ | exact HB3.size | exact HB4.size | exact qaq qN | exact qaq HB3.size | exact qaq HB4.size) _ | refine qbS ?_ qN | refine Below.drew ?_));first | exact HB3))).mono ?_;rintro e w4 ⟨p4,rfl,hb4,hp4⟩;have HB4:Below wr.heap.size wr w4:=bjoin (by ((repeat (first | refine Below.setCell ?_ (by first | exact qad _ | exact HB3.size | exact HB4.size | exact qaq qN | exact qaq HB3.size | exact qaq HB4.size) _ | refine qbS ?_ qN | refine Below.drew ?_));first | exact HB3)) hb4;obtain⟨a4,n4,c4,b4,rfl⟩:=least.qbT hp4;have HP4:=qH (qA (show IntAt w4 _ _ from (by first | exact HP3.out.below hb4 | exact (HP3.out.below (qbS qB qN)).below hb4 | exact (HP3.out.below (qbS (qbS qB qN) qN)).below hb4)) hp4);obtain⟨k4,k4f⟩:=bcell hb4;have Z4:=qH (zkeep hb4);have s4:_<=_:=hb4.size;(try simp only [qab] at s4);(try have q4:wr.heap.size<w4.heap.size:=by omega);(try have r4:wr.heap.size+1<w4.heap.size:=by omega);(try have t4:w3.heap.size<w4.heap.size:=by omega);(try have u4:w3.heap.size+1<w4.heap.size:=by omega);clear hb4 hp4))
    all_goals go_wp2_with fail
    all_goals go_meet
    all_goals refine⟨_,_,a3,n3,c3,b3,a4,n4,c4,b4,rfl,rfl,?_⟩
    all_goals first
     | with_reducible exact ltwo_aa HP4.out HB4
     | with_reducible exact ltwo_bb HP4.out HB4
     | (with_reducible refine ltwo_pa HP4.out HB4 ?_ ?_;(first | exact qad _ | exact HB3.size | exact HB4.size | exact qbR _ | exact qaq HB3.size);(refine Z4.out _ _ ?_;((try with_reducible refine zdrew ?_);first | (refine qM _ _ _ ?_;((try simp only) <;> omega)) | (refine Z3.out _ _ ?_;((try with_reducible refine zdrew ?_);first | (refine qM _ _ _ ?_;((try simp only) <;> omega)) | (refine (qL _ _ _ ?_).trans ?_;((try simp only [qab,hdr3]);omega);(refine qM _ _ _ ?_;((try simp only [qab,hdr3]) <;> omega))))) | (refine (qL _ _ _ ?_).trans ?_;((try simp only [qab,hdr3]);omega);(first | (refine qM _ _ _ ?_;((try simp only [qab,hdr3]) <;> omega)) | (refine Z3.out _ _ ?_;((try with_reducible refine zdrew ?_);first | (refine qM _ _ _ ?_;((try simp only [qab,hdr3]) <;> omega)) | (refine (qL _ _ _ ?_).trans ?_;((try simp only [qab,hdr3]);omega);(refine qM _ _ _ ?_;((try simp only [qab,hdr3]) <;> omega))))))) | (refine (qL _ _ _ ?_).trans ?_;((try simp only [qab,hdr3]);omega);refine (qL _ _ _ ?_).trans ?_;((try simp only [qab,hdr3]);omega);(refine Z3.out _ _ ?_;((try with_reducible refine zdrew ?_);first | (refine qM _ _ _ ?_;((try simp only [qab,hdr3]) <;> omega)) | (refine (qL _ _ _ ?_).trans ?_;((try simp only [qab,hdr3]);omega);(refine qM _ _ _ ?_;((try simp only [qab,hdr3]) <;> omega)))))))))
     | (with_reducible refine ltwo_pb HP4.out HB4 ?_ ?_;(first | exact qad _ | exact HB3.size | exact HB4.size | exact qbR _ | exact qaq HB3.size);(refine Z4.out _ _ ?_;((try with_reducible refine zdrew ?_);first | (refine qM _ _ _ ?_;((try simp only) <;> omega)) | (refine Z3.out _ _ ?_;((try with_reducible refine zdrew ?_);first | (refine qM _ _ _ ?_;((try simp only) <;> omega)) | (refine (qL _ _ _ ?_).trans ?_;((try simp only [qab,hdr3]);omega);(refine qM _ _ _ ?_;((try simp only [qab,hdr3]) <;> omega))))) | (refine (qL _ _ _ ?_).trans ?_;((try simp only [qab,hdr3]);omega);(first | (refine qM _ _ _ ?_;((try simp only [qab,hdr3]) <;> omega)) | (refine Z3.out _ _ ?_;((try with_reducible refine zdrew ?_);first | (refine qM _ _ _ ?_;((try simp only [qab,hdr3]) <;> omega)) | (refine (qL _ _ _ ?_).trans ?_;((try simp only [qab,hdr3]);omega);(refine qM _ _ _ ?_;((try simp only [qab,hdr3]) <;> omega))))))) | (refine (qL _ _ _ ?_).trans ?_;((try simp only [qab,hdr3]);omega);refine (qL _ _ _ ?_).trans ?_;((try simp only [qab,hdr3]);omega);(refine Z3.out _ _ ?_;((try with_reducible refine zdrew ?_);first | (refine qM _ _ _ ?_;((try simp only [qab,hdr3]) <;> omega)) | (refine (qL _ _ _ ?_).trans ?_;((try simp only [qab,hdr3]);omega);(refine qM _ _ _ ?_;((try simp only [qab,hdr3]) <;> omega)))))))))
     | (with_reducible refine ltwo_pp HP4.out HB4 ?_ ?_ ?_ ?_ ?_;(first | exact qad _ | exact HB3.size | exact HB4.size | exact qbR _ | exact qaq HB3.size);(first | exact qad _ | exact HB3.size | exact HB4.size | exact qbR _ | exact qaq HB3.size);omega;(refine Z4.out _ _ ?_;((try with_reducible refine zdrew ?_);first | (refine qM _ _ _ ?_;((try simp only [qab]) <;> omega)) | (refine Z3.out _ _ ?_;((try with_reducible refine zdrew ?_);first | (refine qM _ _ _ ?_;((try simp only [qab]) <;> omega)) | (refine (qL _ _ _ ?_).trans ?_;((try simp only [qab]);omega);(refine qM _ _ _ ?_;((try simp only) <;> omega))))) | (refine (qL _ _ _ ?_).trans ?_;((try simp only [qab]);omega);(first | (refine qM _ _ _ ?_;((try simp only) <;> omega)) | (refine Z3.out _ _ ?_;((try with_reducible refine zdrew ?_);first | (refine qM _ _ _ ?_;((try simp only) <;> omega)) | (refine (qL _ _ _ ?_).trans ?_;((try simp only [qab,hdr3]);omega);(refine qM _ _ _ ?_;((try simp only [qab,hdr3]) <;> omega))))))) | (refine (qL _ _ _ ?_).trans ?_;((try simp only [qab,hdr3]);omega);refine (qL _ _ _ ?_).trans ?_;((try simp only [qab,hdr3]);omega);(refine Z3.out _ _ ?_;((try with_reducible refine zdrew ?_);first | (refine qM _ _ _ ?_;((try simp only [qab,hdr3]) <;> omega)) | (refine (qL _ _ _ ?_).trans ?_;((try simp only [qab,hdr3]);omega);(refine qM _ _ _ ?_;((try simp only [qab,hdr3]) <;> omega))))))));(refine Z4.out _ _ ?_;((try with_reducible refine zdrew ?_);first | (refine qM _ _ _ ?_;((try simp only [qab]) <;> omega)) | (refine Z3.out _ _ ?_;((try with_reducible refine zdrew ?_);first | (refine qM _ _ _ ?_;((try simp only [qab]) <;> omega)) | (refine (qL _ _ _ ?_).trans ?_;((try simp only [qab]);omega);(refine qM _ _ _ ?_;((try simp only) <;> omega))))) | (refine (qL _ _ _ ?_).trans ?_;((try simp only [qab]);omega);(first | (refine qM _ _ _ ?_;((try simp only) <;> omega)) | (refine Z3.out _ _ ?_;((try with_reducible refine zdrew ?_);first | (refine qM _ _ _ ?_;((try simp only) <;> omega)) | (refine (qL _ _ _ ?_).trans ?_;((try simp only [qab,hdr3]);omega);(refine qM _ _ _ ?_;((try simp only [qab,hdr3]) <;> omega))))))) | (refine (qL _ _ _ ?_).trans ?_;((try simp only [qab,hdr3]);omega);refine (qL _ _ _ ?_).trans ?_;((try simp only [qab,hdr3]);omega);(refine Z3.out _ _ ?_;((try with_reducible refine zdrew ?_);first | (refine qM _ _ _ ?_;((try simp only [qab,hdr3]) <;> omega)) | (refine (qL _ _ _ ?_).trans ?_;((try simp only [qab,hdr3]);omega);(refine qM _ _ _ ?_;((try simp only [qab,hdr3]) <;> omega)))))))))
   case rest =>
    obtain⟨g3,g4,a3,n3,c3,b3,a4,n4,c4,b4,rfl,rfl,h3,h4,hi3,hi4,hb,l3,l4⟩:=hcut;dsimp only at h3 h4 hi3 hi4;have lr:=(qG hI.out.2.1.1).1;have hn3:g3≠w.heap.size+1:=by omega
    have hn4:g4≠w.heap.size+1:=by omega
    have hn0:w.heap.size≠w.heap.size+1:=by omega
    have hrb:=(hb.block _ (qG hI.out.2.2.2).1).trans hI.out.2.2.2;have D30:∀W,wc.grownBy W (some (w.heap.size+1))->W.cell? ⟨g3,0,none⟩=some (.slice a3 n3 c3):=fun W h=>qc8 h h3 hn3 0
    have D31:∀W,wc.grownBy W (some (w.heap.size+1))->W.cell? ⟨g3,1,none⟩=some (.bool b3):=fun W h=>qc8 h h3 hn3 1
    have D40:∀W,wc.grownBy W (some (w.heap.size+1))->W.cell? ⟨g4,0,none⟩=some (.slice a4 n4 c4):=fun W h=>qc8 h h4 hn4 0
    have D41:∀W,wc.grownBy W (some (w.heap.size+1))->W.cell? ⟨g4,1,none⟩=some (.bool b4):=fun W h=>qc8 h h4 hn4 1
    have D00:∀W,wc.grownBy W (some (w.heap.size+1))->W.cell? ⟨w.heap.size,0,none⟩=some (.slice a0 n0 c0):=fun W h=>qc8 h hrb hn0 0
    have D01:∀W,wc.grownBy W (some (w.heap.size+1))->W.cell? ⟨w.heap.size,1,none⟩=some (.bool b0):=fun W h=>qc8 h hrb hn0 1
    have hBc:=hB.out.trans (hb.mono hB.out.size);have hi0:=HC.out.2.2.2.2.2.2.1.below (W':=wc) (hBc.mono (by omega));have hP:=HC.out.2.2.2.2.1 j hjn;have hfs:=(HC.out.2.2.2.2.2.1 cc hc).mul (HC.out.2.2.2.2.1 j hjn);have hft:=(HC.out.2.2.2.2.1 cc hc).mul (HC.out.2.2.2.2.2.1 j hjn);rw [<-qaE] at hfs hft;have hfn:Fit (-(zs cc*ys j)).natAbs (K+K):=by rw [qa9];exact hft
    have hfu:Fit (ys cc*zs j + -(zs cc*ys j)).natAbs (K+K+1):=(hfs.add hfn).le (qbK _ _);have HA:=qH (fun W (h:Below wc.heap.size wc W)=>least.qdA (zs cc*ys j) _ W (hi4.below h));have HS:=qH (fun W (u:Value) (h:Below wc.heap.size wc W) (hu:IntAt W u (-(zs cc*ys j)))=>least.qdS (ys cc*zs j) (-(zs cc*ys j)) (K+K) (by omega) _ u W (hi3.below h) hu hfs hfn);have HQ:=qH (fun W (u:Value) (h:Below wc.heap.size wc W) (hu:IntAt W u (ys cc*zs j + -(zs cc*ys j)))=>least.qiP (ys cc*zs j + -(zs cc*ys j)) z0 (K+K+1) (by omega) u _ W hu (hi0.below h) hfu (HC.out.2.2.2.2.2.2.2.1.mono (by omega)) hz0);have HIc:=qH (qA (hI.out.2.1.below hb) (qA (hI.out.2.2.1.below hb) (qA hrb hBc)));have hqst:Below wc.heap.size wc wc:=Below.refl _ _;have hqstD:Below wc.heap.size wc wc.drew:=hqst.drew;clear h3 h4 hi3 hi4 hb hrb hBc hi0 hP hfs hft hfn hfu hst hstD hdr2 C10 C11 C20 C21 C50 C51 C60 C61 HN1 HN2;go_wp2_with fail
    go_region_held3 (fun W=>wc.grownBy W (some (w.heap.size+1))) (first | with_reducible exact qcT _ _ | with_reducible exact qb2 _ hqstD | with_reducible exact qb2 _ HB7 | with_reducible exact qb2 _ HB6 | with_reducible exact qb2 _ HB5 | with_reducible exact qb2 _ HB7.drew | with_reducible exact qb2 _ HB6.drew | with_reducible exact qb2 _ HB5.drew | exact qbU (qbU (qb2 _ HB7) (least.qbX _ _ _ _)) (least.qbX _ _ _ _) | exact qbU (qbU (qb2 _ HB7.drew) (least.qbX _ _ _ _)) (least.qbX _ _ _ _)) (first | (go_at_call 175;refine (HA.out _ (by first | with_reducible exact hqst | with_reducible exact hqstD)).mono ?_;rintro e w5 ⟨p5,rfl,hb5,hp5⟩;have HB5:Below wc.heap.size wc w5:=bjoin (by first | with_reducible exact hqst | with_reducible exact hqstD) hb5;obtain⟨a7,n7,c7,b7,rfl⟩:=least.qbT hp5;have G5:=qH hp5;clear hb5 hp5) | (go_at_call 173;refine (HS.out _ _ (by first | with_reducible exact HB5 | with_reducible exact HB5.drew) (by first | exact G5.out | exact G5.out.below qB.drew)).mono ?_;rintro e w6 ⟨p6,rfl,hb6,hp6⟩;have HB6:Below wc.heap.size wc w6:=bjoin (by first | with_reducible exact HB5 | with_reducible exact HB5.drew) hb6;obtain⟨a8,n8,c8,b8,rfl⟩:=least.qbT hp6;have G6:=qH hp6;clear hb6 hp6) | (go_at_call 291;refine (HQ.out _ _ (by first | with_reducible exact HB6 | with_reducible exact HB6.drew) (by first | exact G6.out | exact G6.out.below qB.drew)).mono ?_;rintro e w7 ⟨p7,rfl,hb7,hp7⟩;have HB7:Below wc.heap.size wc w7:=bjoin (by first | with_reducible exact HB6 | with_reducible exact HB6.drew) hb7;obtain⟨a9,n9,c9,b9,rfl⟩:=least.qbT hp7;have G7:=qH hp7;have R7:=HIc.out.1.below HB7;have R7l:=hI.out.1;have R7s:=R7.at (by omega);rw [R7l] at R7s;obtain⟨⟨r70,r71⟩,r7f⟩:=R7s;have r72:=r7f (j*2);have r73:=r7f (j*2+1);have HF7:=qH (qA (qkb R7 (HIc.out.2.1.below HB7) hI.out.1 hjn (a:=a9) (m:=n9) (c:=c9) (b:=b9) (by rw [Int.sub_eq_add_neg];exact hp7)) (qA ((qW (w7.setCell ⟨w.heap.size+1,j*2,none⟩ (.slice a9 n9 c9)) ⟨w.heap.size+1,j*2+1,none⟩ (.bool b9) w.heap.size hn0).trans ((qW w7 ⟨w.heap.size+1,j*2,none⟩ (.slice a9 n9 c9) w.heap.size hn0).trans ((HB7.block _ (qG HIc.out.2.2.1).1).trans HIc.out.2.2.1))) (((HIc.out.2.2.2.trans (HB7.mono HIc.out.2.2.2.size)).setCell (p:=⟨w.heap.size+1,j*2,none⟩) (by show w.heap.size<=w.heap.size+1;omega) (.slice a9 n9 c9)).setCell (p:=⟨w.heap.size+1,j*2+1,none⟩) (by show w.heap.size<=w.heap.size+1;omega) (.bool b9))));clear hb7 hp7 R7 R7l r7f))
    all_goals go_wp2_with fail
    all_goals go_roundw
    case rel=>exact⟨j+1,_,hjn,by go_num,qH ⟨by rw [qaf,hI.out.1];rfl,HF7.out.1.1,HF7.out.1.2,HF7.out.2.1⟩,qH HF7.out.2.2⟩
    case measure=>simp [intOf];omega
  ·obtain rfl:j=n:=by omega
   go_wp2;go_ret;exact⟨_,rs,rfl,qbR _,hB.out,hI.out.1,hI.out.2.1,hI.out.2.2.1⟩
