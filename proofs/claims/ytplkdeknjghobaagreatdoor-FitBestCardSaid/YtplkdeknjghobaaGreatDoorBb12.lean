import Derived.Deep.RegionHeld3
import Derived.Test.YtplkdeknjghobaaGreatDoorBb11
import Derived.Test.YtplkdeknjghobaaGreatDoorBb7
set_option maxRecDepth 100000
set_option maxHeartbeats 0
namespace Go.Proofs.YtplkdeknjghobaaGreatDoor
open Go.RowKit Go.Proofs.Tryz
theorem qcs {W:World} {m:Value} {b:Bool} {z:Int} {g:Nat} {cs cs':Array Value} {t:TypeId} {F:Nat×Nat} (h:IntAt W (.agg #[m,.bool b]) z) (hg:W.heap[g]? = some (.cells cs t F)) (hne:∀x∈cs.toList,∀d,x≠.int .u32 d):IntAt (W.setRow g cs') (.agg #[m,.bool b]) z:=by
 obtain⟨m',H,I⟩:=h;exact⟨m',H,qcF I hg hne⟩
theorem qbV {W:World} {v:Value} {z:Int} (h:IntAt W v z):∃(a:Option Addr) (n c:Nat) (b:Bool),v=.agg #[.slice a n c,.bool b]:=by
 obtain⟨m,rfl,am,bm,I,cm,n,M,rfl,H,F⟩:=h;exact⟨am,n,cm,_,rfl⟩
theorem qbW (W:World) (g k:Nat) (v:Value):W.grownBy (W.setCell ⟨g,k,none⟩ v) (some g) :=
 ⟨rfl,rfl,rfl,by simp [World.setCell],fun i _ F=>qW _ _ _ _ (fun e=>F (by rw [e]))⟩
theorem qda {W:World} {g:Nat} {t:TypeId} (h:W.heap[g]? = some (.cells #[.slice none 0 0,.bool false] t (0,0))) (a:Option Addr) (n c:Nat) (b:Bool) :
  ((W.setCell ⟨g,0,none⟩ (.slice a n c)).setCell ⟨g,1,none⟩ (.bool b)).heap[g]? = some (.cells #[.slice a n c,.bool b] t (0,0)) :=
 heap_setCell_same _ g 1 _ t _ (heap_setCell_same _ g 0 _ t _ h)
theorem qc9 {W:World} {m:Value} {F:Bool} {z:Int} {g:Nat} {t:TypeId} (J:IntAt W (.agg #[m,.bool F]) z) (h:W.heap[g]? = some (.cells #[.slice none 0 0,.bool false] t (0,0))) (a:Option Addr) (n c:Nat) (b:Bool) :
  IntAt ((W.setCell ⟨g,0,none⟩ (.slice a n c)).setCell ⟨g,1,none⟩ (.bool b)) (.agg #[m,.bool F]) z:=by
 obtain⟨m',H,I⟩:=J;refine⟨m',H,?_⟩;refine qcp (qcp I (qbW W g 0 _) h qdm) (qbW _ g 1 _) (heap_setCell_same W g 0 _ t _ h) ?_;intro x hx d;rcases qaJ.1 (show x∈[Value.slice a n c,Value.bool false] from hx) with rfl | hx
 ·intro h;cases h
 ·rw [qap.1 hx];intro h;cases h
theorem qiM (x y:Int):(if (decide (x<0) != decide (y<0))=true then -((x.natAbs*y.natAbs:Nat):Int) else ((x.natAbs*y.natAbs:Nat):Int))=x*y:=by
 rw [<-qaF]
 by_cases hx:x<0
 ·by_cases hy:y<0
  ·rw [qV hx,qV hy,if_neg (by decide)];have:=Int.mul_pos_of_neg_of_neg hx hy;omega
  ·rw [qV hx,qU hy,if_pos (by decide)];have:=Int.mul_nonpos_of_nonpos_of_nonneg (Int.le_of_lt hx) (Int.not_lt.1 hy);omega
 ·by_cases hy:y<0
  ·rw [qU hx,qV hy,if_pos (by decide)];have:=Int.mul_nonpos_of_nonneg_of_nonpos (Int.not_lt.1 hx) (Int.le_of_lt hy);omega
  ·rw [qU hx,qU hy,if_neg (by decide)];have:=Int.mul_nonneg (Int.not_lt.1 hx) (Int.not_lt.1 hy);omega
theorem qjO (x:Int) (y:Nat):(if decide (x<0)=true then -((x.natAbs*y:Nat):Int) else ((x.natAbs*y:Nat):Int))=x*(y:Int):=by
 by_cases hx:x<0
 ·rw [qV hx,if_pos rfl,Int.natCast_mul,<-qbz];congr 1;omega
 ·rw [qU hx,if_neg (by decide),Int.natCast_mul];congr 1;omega
theorem qdR (Y:Pk) (z:Int) (v:Value) (w:World) (hv:IntAt w v z) :
  Calls prog (Pk.of Y 135 175) #[v] w fun e w'=>∃u,e=.returned u/\Below w.heap.size w w'/\IntAt w' u (-z):=by
 obtain⟨m,rfl,hm⟩:=hv;have hs:=fun (W:World) (h:Below w.heap.size w W)=>(qb6 Y) z.natAbs (!decide (z<0)) m W (hm.below h)
 have hz:(if (!decide (z<0))=true then -(z.natAbs:Int) else (z.natAbs:Int)) = -z:=by
  by_cases h:z<0
  ·rw [qV h,if_neg (by decide)];omega
  ·rw [qU h,if_pos (by decide)];omega
 rw [hz] at hs;have HS:=qH hs;generalize decide (z<0)=b at *;obtain⟨am,bm,om,cm,n,M,rfl,Im,aa⟩:=hm;clear hs hz Im aa;obtain⟨W1,I⟩:=qY ((w.alloc (.cells #[.slice am n cm,.bool b] (Pk.of Y 136 242))).alloc (.cells #[.slice none 0 0,.bool false] (Pk.of Y 136 242)));have J:Below w.heap.size w W1:=I▸(qB.alloc qN _).alloc (by simp) _;have U:W1.heap[w.heap.size+1]? = some (.cells #[.slice none 0 0,.bool false] (Pk.of Y 136 242) (0,0)):=by rw [I];exact qM _ _ _ (by simp)
 cases Y <;> dsimp only [Pk.of] at * <;> (
 first | go_enter func135,ntmps135 | go_enter func175,ntmps175
 go_wp2_with fail;rw [<-I];refine (HS.o _ J).mono ?_;rintro e w2 ⟨u,rfl,O,V⟩;have F:=(O.block (w.heap.size+1) (qG U).1).trans U;have H:Below w.heap.size w w2:=J.trans (O.mono J.size);clear I J U;obtain⟨a9,n9,c9,b9,rfl⟩:=qbV V;have Z:=qcs (cs':=#[.slice a9 n9 c9,.bool b9]) V F qdm;have HR:=qH (qA F (qA H (qS H (show w.heap.size<=w.heap.size+1 by omega) #[.slice a9 n9 c9,.bool b9])));have HV:=qH Z;clear F H Z O V
 go_wp2_with ((with_reducible refine wpList_store_row rfl _ _ _ rfl (w.heap.size+1) #[.slice a9 n9 c9,.bool b9] ?_ ?_ _ _ HR.o.1 2 ?_ ?_ ?_ ?_ ?_);(next=>rfl);(next=>rfl);(next=>kernel_rfl);(next=>rfl);(next=>rfl);(next=>rfl))
 exact qR (v:=.agg #[.slice a9 n9 c9,.bool b9]) (qcX rfl _ _ (w.heap.size+1) _ _ _ rfl (qT _ _ _ _ _ _ HR.o.1) (by first | exact underlying136 | exact underlying242) rfl 2 (by kernel_rfl) rfl) rfl ⟨_,rfl,HR.o.2.2,HV.o⟩)
theorem qcC (x y:Int) (K J:Nat) (hK:K+J<=274877906944) (v u:Value) (w:World) (hv:IntAt w v x) (hu:IntAt w u y) (hx:Fit x.natAbs K) (hy:Fit y.natAbs J) :
  Calls prog 172 #[v,u] w fun e w'=>∃u,e=.returned u/\Below w.heap.size w w'/\IntAt w' u (x*y):=by
 obtain⟨m,rfl,hm⟩:=hv;obtain⟨o,rfl,ho⟩:=hu;have ht:=fun (W:World) (h:Below w.heap.size w W)=>(qch .l) x.natAbs y.natAbs K J hK m o W (hm.below h) (ho.below h) hx hy
 have hs:=fun (W:World) (p:Value) (h:MagAt W p (x.natAbs*y.natAbs))=>(qb6 .l) (x.natAbs*y.natAbs) (decide (x<0) != decide (y<0)) p W h
 rw [qiM] at hs;generalize decide (x<0)=b0 at *;generalize decide (y<0)=b1 at *;obtain⟨a0,bm,om,c0,n0,M,rfl,Im,ay⟩:=hm;obtain⟨a1,bo,oo,c1,n1,O,rfl,Io,az⟩:=ho;have HT:=qH ht;have HS:=qH hs;clear ht hs Im ay Io az hx hy hK;obtain⟨H,I⟩:=qY (((w.alloc (.cells #[.slice a0 n0 c0,.bool b0] 242)).alloc (.cells #[.slice a1 n1 c1,.bool b1] 242)).alloc (.cells #[.slice none 0 0,.bool false] 242));have av:Below w.heap.size w H:=I▸((qB.alloc qN _).alloc (by simp only [qab];omega) _).alloc (by simp only [qab];omega) _;have ah:H.heap[w.heap.size]? = some (.cells #[.slice a0 n0 c0,.bool b0] 242 (0,0)):=by rw [I,qL _ _ _ (by simp only [qab];omega),qL _ _ _ (by simp only [qab];omega)];exact qM _ _ _ rfl
 have ai:H.heap[w.heap.size+1]? = some (.cells #[.slice a1 n1 c1,.bool b1] 242 (0,0)):=by rw [I,qL _ _ _ (by simp only [qab];omega)];exact qM _ _ _ (by simp)
 have aj:H.heap[w.heap.size+1+1]? = some (.cells #[.slice none 0 0,.bool false] 242 (0,0)):=by rw [I];exact qM _ _ _ (by simp)
 have l2:w.heap.size+1+1<H.heap.size:=(qG aj).1;have C0:∀W,Below (w.heap.size+1+1) H W->W.cell? ⟨w.heap.size,0,none⟩=some (.slice a0 n0 c0):=fun W h=>(h.cell (p:=⟨w.heap.size,0,none⟩) (by show w.heap.size<_;omega)).trans (qC _ _ 0 _ _ _ ah)
 have C1:∀W,Below (w.heap.size+1+1) H W->W.cell? ⟨w.heap.size,1,none⟩=some (.bool b0):=fun W h=>(h.cell (p:=⟨w.heap.size,1,none⟩) (by show w.heap.size<_;omega)).trans (qC _ _ 1 _ _ _ ah)
 have D0:∀W,Below (w.heap.size+1+1) H W->W.cell? ⟨w.heap.size+1,0,none⟩=some (.slice a1 n1 c1):=fun W h=>(h.cell (p:=⟨w.heap.size+1,0,none⟩) (by show w.heap.size+1<_;omega)).trans (qC _ _ 0 _ _ _ ai)
 have D1:∀W,Below (w.heap.size+1+1) H W->W.cell? ⟨w.heap.size+1,1,none⟩=some (.bool b1):=fun W h=>(h.cell (p:=⟨w.heap.size+1,1,none⟩) (by show w.heap.size+1<_;omega)).trans (qC _ _ 1 _ _ _ ai)
 have ak:Below (w.heap.size+1+1) H H:=Below.refl _ _;have F:Below (w.heap.size+1+1) H H.drew:=qB.drew;have HR:=qH (qA av aj);clear ah ai aj av;go_enter func172,ntmps172;go_wp2_with fail;rw [<-I];clear I;have Y:=qH l2
 go_region_held3 (fun W=>Below (w.heap.size+1+1) H W) (first | with_reducible exact ak | with_reducible exact F | with_reducible exact Z | with_reducible exact V | ((iterate 2 refine Below.setCell ?_ (by exact qae _) _);exact Z)) (first | (go_at_call 176;refine (HT.o _ (HR.o.1.trans (F.mono (by omega)))).mono ?_;rintro e w2 ⟨p2,rfl,ae,ax⟩;have V:Below (w.heap.size+1+1) H w2:=F.trans (ae.mono (qar Y.o));have au:=qH (qA ax ((ae.block _ Y.o).trans HR.o.2));clear ae ax) | (go_at_call 180;refine (HS.o _ _ au.o.1).mono ?_;rintro e w3 ⟨p3,rfl,af,ag⟩;have Z:Below (w.heap.size+1+1) H w3:=V.trans (af.mono (qaj (qar Y.o) V.size));obtain⟨a9,n9,c9,b9,rfl⟩:=qbV ag;have U:=(af.block _ (qai Y.o V.size)).trans au.o.2;have e0:=qC w3 _ 0 _ _ _ U;have e1:=qC w3 _ 1 _ _ _ U;have f0:=qF w3 _ 0 _ _ U;have f1:=qF w3 _ 1 _ _ U;have aa:=qH (qA ag U);clear af ag U))
 go_wp2_with fail;exact qR (v:=.agg #[.slice a9 n9 c9,.bool b9]) (rA_ rfl (w.heap.size+1+1) (qda aa.o.2 a9 n9 c9 b9) underlying242 2) rfl ⟨_,rfl,HR.o.1.trans (((Z.setCell (by exact qae _) _).setCell (by exact qae _) _).mono (by omega)),qc9 aa.o.1 aa.o.2 a9 n9 c9 b9⟩
theorem qiL (x y:Int):(if (decide (x<0) != decide (y<0))=true then -((x.natAbs / y.natAbs:Nat):Int) else ((x.natAbs / y.natAbs:Nat):Int))=x.tdiv y:=by
 obtain⟨a,rfl | rfl⟩:=Int.eq_nat_or_neg x
 ·obtain⟨b,rfl | rfl⟩:=Int.eq_nat_or_neg y
  ·rw [qU (by omega),qU (by omega),if_neg (by decide)];rfl
  ·rw [qU (by omega:¬(a:Int)<0),qbj,Int.tdiv_neg]
   by_cases F:b=0
   ·subst F;simp
   ·rw [qV (by omega),if_pos (by decide)];rfl
 ·obtain⟨b,rfl | rfl⟩:=Int.eq_nat_or_neg y
  ·rw [qU (by omega:¬(b:Int)<0),qbj,Int.neg_tdiv]
   by_cases H:a=0
   ·subst H;simp
   ·rw [qV (by omega),if_pos (by decide)];rfl
  ·rw [qbj,qbj,Int.tdiv_neg,Int.neg_tdiv,Int.neg_neg]
   by_cases H:a=0
   ·subst H
    by_cases F:b=0
    ·subst F;simp
    ·simp
   ·by_cases F:b=0
    ·subst F;simp
    ·rw [qV (by omega),qV (by omega),if_neg (by decide)];rfl
theorem qlj {x y:Int} (h:decide (x<0)=decide (y<0)):(if decide (x<0)=true then -((x.natAbs+y.natAbs:Nat):Int) else ((x.natAbs+y.natAbs:Nat):Int))=x+y:=by
 by_cases hx:x<0
 ·rw [qV hx] at h ⊢;have hy:=of_decide_eq_true h.symm;rw [if_pos rfl];omega
 ·rw [qU hx] at h ⊢;have hy:=of_decide_eq_false h.symm;rw [if_neg (by decide)];omega
theorem qgM {x y:Int} (h:¬decide (x<0)=decide (y<0)) (F:y.natAbs<=x.natAbs):(if decide (x<0)=true then -((x.natAbs-y.natAbs:Nat):Int) else ((x.natAbs-y.natAbs:Nat):Int))=x+y:=by
 by_cases hx:x<0
 ·have hy:¬y<0:=fun hy=>h (by rw [qV hx,qV hy])
  rw [qV hx,if_pos rfl];omega
 ·have hy:y<0:=by
   by_cases hy:y<0
   ·exact hy
   ·exact absurd (by rw [qU hx,qU hy]) h
  rw [qU hx,if_neg (by decide)];omega
theorem qct (pk:Pk) (x:Int) (y K J:Nat) (hK:K+J<=274877906944) (v o:Value) (w:World) (hv:IntAt w v x) (ho:MagAt w o y) (hx:Fit x.natAbs K) (hy:Fit y J) :
  Calls prog (Pk.of pk 133 174) #[v,o] w fun e w'=>∃u,e=.returned u/\Below w.heap.size w w'/\IntAt w' u (x*(y:Int)):=by
 obtain⟨m,rfl,hm⟩:=hv;have ht:=fun (W:World) (h:Below w.heap.size w W)=>(qch pk) x.natAbs y K J hK m o W (hm.below h) (ho.below h) hx hy
 have hs:=fun (W:World) (p:Value) (h:MagAt W p (x.natAbs*y))=>(qb6 pk) (x.natAbs*y) (decide (x<0)) p W h
 rw [qjO] at hs;generalize decide (x<0)=b0 at *;obtain⟨a0,bm,om,c0,n0,M,rfl,Im,av⟩:=hm;obtain⟨a1,bo,oo,c1,n1,O,rfl,Io,ax⟩:=ho;have HT:=qH ht;have HS:=qH hs;clear ht hs Im av Io ax hx hy hK;obtain⟨H,U⟩:=qY ((w.alloc (.cells #[.slice a0 n0 c0,.bool b0] (Pk.of pk 136 242))).alloc (.cells #[.slice none 0 0,.bool false] (Pk.of pk 136 242)));have ak:Below w.heap.size w H:=U▸(qB.alloc qN _).alloc (by simp only [qab];omega) _;have ai:H.heap[w.heap.size]? = some (.cells #[.slice a0 n0 c0,.bool b0] (Pk.of pk 136 242) (0,0)):=by rw [U,qL _ _ _ (by simp only [qab];omega)];exact qM _ _ _ (by simp)
 have hr:H.heap[w.heap.size+1]? = some (.cells #[.slice none 0 0,.bool false] (Pk.of pk 136 242) (0,0)):=by rw [U];exact qM _ _ _ (by simp)
 have l2:w.heap.size+1<H.heap.size:=(qG hr).1;have ay:∀W,Below (w.heap.size+1) H W->W.cell? ⟨w.heap.size,0,none⟩=some (.slice a0 n0 c0):=fun W h=>(h.cell (p:=⟨w.heap.size,0,none⟩) (by show w.heap.size<_;omega)).trans (qC _ _ 0 _ _ _ ai)
 have az:∀W,Below (w.heap.size+1) H W->W.cell? ⟨w.heap.size,1,none⟩=some (.bool b0):=fun W h=>(h.cell (p:=⟨w.heap.size,1,none⟩) (by show w.heap.size<_;omega)).trans (qC _ _ 1 _ _ _ ai)
 have F:Below (w.heap.size+1) H H:=Below.refl _ _;have HR:=qH (qA ak hr);have Z:=qH l2;clear ai hr ak;cases pk <;> dsimp only [Pk.of] at * <;> (
 first | go_enter func133,ntmps133 | go_enter func174,ntmps174
 go_wp2_with fail;rw [<-U];clear U;have V:Below (w.heap.size+1) H H.drew:=F.drew
 go_region_held3 (fun W=>Below (w.heap.size+1) H W) (first | with_reducible exact F | with_reducible exact V | with_reducible exact aa | with_reducible exact Y | ((iterate 2 refine Below.setCell ?_ (by exact qae _) _);exact aa)) (first | ((first | go_at_call 155 | go_at_call 176);refine (HT.o _ (HR.o.1.trans (V.mono (by omega)))).mono ?_;rintro e w2 ⟨p2,rfl,af,au⟩;have Y:Below (w.heap.size+1) H w2:=V.trans (af.mono (qar (qai Z.o F.size)));have aj:=qH (qA au ((af.block _ (qai Z.o F.size)).trans HR.o.2));clear af au) | ((first | go_at_call 95 | go_at_call 180);refine (HS.o _ _ aj.o.1).mono ?_;rintro e w3 ⟨p3,rfl,ag,ah⟩;have aa:Below (w.heap.size+1) H w3:=Y.trans (ag.mono (qaj (qar Z.o) Y.size));obtain⟨a9,n9,c9,b9,rfl⟩:=qbV ah;have I:=(ag.block _ (qai Z.o Y.size)).trans aj.o.2;have e0:=qC w3 _ 0 _ _ _ I;have e1:=qC w3 _ 1 _ _ _ I;have f0:=qF w3 _ 0 _ _ I;have f1:=qF w3 _ 1 _ _ I;have ae:=qH (qA ah I);clear ag ah I))
 go_wp2_with fail;exact qR (v:=.agg #[.slice a9 n9 c9,.bool b9]) (qcX rfl _ _ (w.heap.size+1) _ _ _ rfl (qda ae.o.2 a9 n9 c9 b9) (by first | exact underlying136 | exact underlying242) rfl 2 (by kernel_rfl) rfl) rfl ⟨_,rfl,HR.o.1.trans (((aa.setCell (by exact qae _) _).setCell (by exact qae _) _).mono (by omega)),qc9 ae.o.1 ae.o.2 a9 n9 c9 b9⟩)
theorem qgL (x y:Int) (K:Nat) (hK:K<=137438953472) (v u:Value) (w:World) (hv:IntAt w v x) (hu:IntAt w u y) (hx:Fit x.natAbs K) (hy:Fit y.natAbs K) (h0:y≠0) :
  Calls prog 291 #[v,u] w fun e w'=>∃u,e=.returned u/\Below w.heap.size w w'/\IntAt w' u (x.tdiv y):=by
 obtain⟨m,rfl,hm⟩:=hv;obtain⟨o,rfl,ho⟩:=hu;have ht:=fun (W:World) (h:Below w.heap.size w W)=>(qb3 .l) x.natAbs y.natAbs K hK m o W (hm.below h) (ho.below h) hx hy (by omega)
 have hs:=fun (W:World) (p:Value) (h:MagAt W p (x.natAbs / y.natAbs))=>(qb6 .l) (x.natAbs / y.natAbs) (decide (x<0) != decide (y<0)) p W h
 rw [qiL] at hs;generalize decide (x<0)=b0 at *;generalize decide (y<0)=b1 at *;obtain⟨a0,bm,om,c0,n0,M,rfl,Im,az⟩:=hm;obtain⟨a1,bo,oo,c1,n1,O,rfl,Io,aA⟩:=ho;have HT:=qH ht;have HS:=qH hs;clear ht hs Im az Io aA hx hy hK;obtain⟨I,H⟩:=qY (((w.alloc (.cells #[.slice a0 n0 c0,.bool b0] 242)).alloc (.cells #[.slice a1 n1 c1,.bool b1] 242)).alloc (.cells #[.slice none 0 0,.bool false] 242));have ak:Below w.heap.size w I:=H▸((qB.alloc qN _).alloc (by simp only [qab];omega) _).alloc (by simp only [qab];omega) _;have af:I.heap[w.heap.size]? = some (.cells #[.slice a0 n0 c0,.bool b0] 242 (0,0)):=by rw [H,qL _ _ _ (by simp only [qab];omega),qL _ _ _ (by simp only [qab];omega)];exact qM _ _ _ (by simp)
 have ag:I.heap[w.heap.size+1]? = some (.cells #[.slice a1 n1 c1,.bool b1] 242 (0,0)):=by rw [H,qL _ _ _ (by simp only [qab];omega)];exact qM _ _ _ (by simp)
 have hr:I.heap[w.heap.size+1+1]? = some (.cells #[.slice none 0 0,.bool false] 242 (0,0)):=by rw [H];exact qM _ _ _ (by simp)
 have l2:w.heap.size+1+1<I.heap.size:=(qG hr).1;have av:∀W,Below (w.heap.size+1+1) I W->W.cell? ⟨w.heap.size,0,none⟩=some (.slice a0 n0 c0):=fun W h=>(h.cell (p:=⟨w.heap.size,0,none⟩) (by show w.heap.size<_;omega)).trans (qC _ _ 0 _ _ _ af)
 have ai:∀W,Below (w.heap.size+1+1) I W->W.cell? ⟨w.heap.size,1,none⟩=some (.bool b0):=fun W h=>(h.cell (p:=⟨w.heap.size,1,none⟩) (by show w.heap.size<_;omega)).trans (qC _ _ 1 _ _ _ af)
 have ax:∀W,Below (w.heap.size+1+1) I W->W.cell? ⟨w.heap.size+1,0,none⟩=some (.slice a1 n1 c1):=fun W h=>(h.cell (p:=⟨w.heap.size+1,0,none⟩) (by show w.heap.size+1<_;omega)).trans (qC _ _ 0 _ _ _ ag)
 have aj:∀W,Below (w.heap.size+1+1) I W->W.cell? ⟨w.heap.size+1,1,none⟩=some (.bool b1):=fun W h=>(h.cell (p:=⟨w.heap.size+1,1,none⟩) (by show w.heap.size+1<_;omega)).trans (qC _ _ 1 _ _ _ ag)
 have aB:Below (w.heap.size+1+1) I I:=Below.refl _ _;have Y:=qH (qA ak hr);have Z:=qH l2;clear af ag hr ak;go_enter func291,ntmps291;go_wp2_with fail;rw [<-H];clear H;refine (HT.o _ Y.o.1).mono ?_;rintro e w2 ⟨q,r,rfl,J,hq,_⟩;have aa:Below (w.heap.size+1+1) I w2:=J.mono (qar Z.o);have aC:=ai w2 aa;have aD:=aj w2 aa;have V:=(J.block _ Z.o).trans Y.o.2;have H2:=qH (qA hq (qA V (Y.o.1.trans (J.mono Y.o.1.size))));have ay:Hu (w.heap.size+1+1<w2.heap.size):=qH (qai Z.o J.size);clear J hq V aa av ai ax aj;go_wp2_with fail;refine (HS.o _ _ H2.o.1).mono ?_;rintro e w3 ⟨u3,rfl,ae,ah⟩;have F:=(ae.block _ ay.o).trans H2.o.2.1;have U:Below w.heap.size w w3:=H2.o.2.2.trans (ae.mono H2.o.2.2.size);obtain⟨a9,n9,c9,b9,rfl⟩:=qbV ah;have au:=qcs (cs':=#[.slice a9 n9 c9,.bool b9]) ah F qdm;have Y:=qH (qA F (qA U (qS U (show w.heap.size<=w.heap.size+1+1 by omega) #[.slice a9 n9 c9,.bool b9])));have HV:=qH au;clear F U au ae ah
 go_wp2_with (with_reducible refine sR_ rfl 242 _ _ rfl (w.heap.size+1+1) #[.slice a9 n9 c9,.bool b9] Y.o.1 2 ?_)
 exact qR (v:=.agg #[.slice a9 n9 c9,.bool b9]) (rA_ rfl (w.heap.size+1+1) (qT _ _ _ _ _ _ Y.o.1) underlying242 2) rfl ⟨_,rfl,Y.o.2.2,HV.o⟩
theorem qde (Y:Pk) (x y:Int) (K:Nat) (hK:K<=274877906944) (v u:Value) (w:World) (hv:IntAt w v x) (hu:IntAt w u y) (hx:Fit x.natAbs K) (hy:Fit y.natAbs K) :
  Calls prog (Pk.of Y 134 173) #[v,u] w fun e w'=>∃u,e=.returned u/\Below w.heap.size w w'/\IntAt w' u (x+y):=by
 obtain⟨m,rfl,hm⟩:=hv;obtain⟨o,rfl,ho⟩:=hu
 by_cases ay:decide (x<0)=decide (y<0)
 ·have ht:=fun (W:World) (h:Below w.heap.size w W)=>(qgK Y) x.natAbs y.natAbs K hK m o W (hm.below h) (ho.below h) hx hy
  have hs:=fun (W:World) (p:Value) (h:MagAt W p (x.natAbs+y.natAbs))=>(qb6 Y) (x.natAbs+y.natAbs) (decide (x<0)) p W h
  rw [qlj ay] at hs;rw [<-ay];generalize decide (x<0)=b0 at *;obtain⟨b1,aa⟩:=qY b0;obtain⟨a0,bm,om,c0,n0,M,rfl,Im,aA⟩:=hm;obtain⟨a1,bo,oo,c1,n1,O,rfl,Io,aB⟩:=ho;have HT:=qH ht;have HS:=qH hs;clear ht hs Im aA Io aB hx hy hK ay;rw [show (.agg #[.slice a1 n1 c1,.bool b0]:Value)=.agg #[.slice a1 n1 c1,.bool b1] by rw [aa]];have aL:(b0 == b1)=true:=by rw [aa];exact beq_self_eq_true b0
  clear aa;obtain⟨F,H⟩:=qY (((w.alloc (.cells #[.slice a0 n0 c0,.bool b0] (Pk.of Y 136 242))).alloc (.cells #[.slice a1 n1 c1,.bool b1] (Pk.of Y 136 242))).alloc (.cells #[.slice none 0 0,.bool false] (Pk.of Y 136 242)));have aa:Below w.heap.size w F:=H▸((qB.alloc qN _).alloc (by simp only [qab];omega) _).alloc (by simp only [qab];omega) _;have aj:F.heap[w.heap.size]? = some (.cells #[.slice a0 n0 c0,.bool b0] (Pk.of Y 136 242) (0,0)):=by rw [H,qL _ _ _ (by simp only [qab];omega),qL _ _ _ (by simp only [qab];omega)];exact qM _ _ _ (by simp)
  have ak:F.heap[w.heap.size+1]? = some (.cells #[.slice a1 n1 c1,.bool b1] (Pk.of Y 136 242) (0,0)):=by rw [H,qL _ _ _ (by simp only [qab];omega)];exact qM _ _ _ (by simp)
  have hr:F.heap[w.heap.size+1+1]? = some (.cells #[.slice none 0 0,.bool false] (Pk.of Y 136 242) (0,0)):=by rw [H];exact qM _ _ _ (by simp)
  have l2:w.heap.size+1+1<F.heap.size:=(qG hr).1;have aF:∀W,Below (w.heap.size+1+1) F W->W.cell? ⟨w.heap.size,0,none⟩=some (.slice a0 n0 c0):=fun W h=>(h.cell (p:=⟨w.heap.size,0,none⟩) (by show w.heap.size<_;omega)).trans (qC _ _ 0 _ _ _ aj)
  have aG:∀W,Below (w.heap.size+1+1) F W->W.cell? ⟨w.heap.size,1,none⟩=some (.bool b0):=fun W h=>(h.cell (p:=⟨w.heap.size,1,none⟩) (by show w.heap.size<_;omega)).trans (qC _ _ 1 _ _ _ aj)
  have aH:∀W,Below (w.heap.size+1+1) F W->W.cell? ⟨w.heap.size+1,0,none⟩=some (.slice a1 n1 c1):=fun W h=>(h.cell (p:=⟨w.heap.size+1,0,none⟩) (by show w.heap.size+1<_;omega)).trans (qC _ _ 0 _ _ _ ak)
  have aI:∀W,Below (w.heap.size+1+1) F W->W.cell? ⟨w.heap.size+1,1,none⟩=some (.bool b1):=fun W h=>(h.cell (p:=⟨w.heap.size+1,1,none⟩) (by show w.heap.size+1<_;omega)).trans (qC _ _ 1 _ _ _ ak)
  have Z:Below (w.heap.size+1+1) F F:=Below.refl _ _;have HR:=qH (qA aa hr);have J:=qH l2;clear aj ak hr aa;cases Y <;> dsimp only [Pk.of] at * <;> (
  first | go_enter func134,ntmps134 | go_enter func173,ntmps173
  go_wp2_with fail;rw [<-H];clear H;have U:Below (w.heap.size+1+1) F F.drew:=Z.drew
  go_region_held3 (fun W=>Below (w.heap.size+1+1) F W) (first | with_reducible exact Z | with_reducible exact U | with_reducible exact ae | with_reducible exact V | ((iterate 2 refine Below.setCell ?_ (by exact qae _) _);exact ae)) (first | ((first | go_at_call 200 | go_at_call 229);refine (HT.o _ (HR.o.1.trans (U.mono (by omega)))).mono ?_;rintro e w2 ⟨p2,rfl,ag,ax⟩;have V:Below (w.heap.size+1+1) F w2:=U.trans (ag.mono (qar (qai J.o Z.size)));have av:=qH (qA ax ((ag.block _ (qai J.o Z.size)).trans HR.o.2));clear ag ax) | ((first | go_at_call 95 | go_at_call 180);refine (HS.o _ _ av.o.1).mono ?_;rintro e w3 ⟨p3,rfl,ah,ai⟩;have ae:Below (w.heap.size+1+1) F w3:=V.trans (ah.mono (qaj (qar J.o) V.size));obtain⟨a9,n9,c9,b9,rfl⟩:=qbV ai;have I:=(ah.block _ (qai J.o V.size)).trans av.o.2;have e0:=qC w3 _ 0 _ _ _ I;have e1:=qC w3 _ 1 _ _ _ I;have f0:=qF w3 _ 0 _ _ I;have f1:=qF w3 _ 1 _ _ I;have af:=qH (qA ai I);clear ah ai I))
  go_wp2_with fail;exact qR (v:=.agg #[.slice a9 n9 c9,.bool b9]) (qcX rfl _ _ (w.heap.size+1+1) _ _ _ rfl (qda af.o.2 a9 n9 c9 b9) (by first | exact underlying136 | exact underlying242) rfl 2 (by kernel_rfl) rfl) rfl ⟨_,rfl,HR.o.1.trans (((ae.setCell (by exact qae _) _).setCell (by exact qae _) _).mono (by omega)),qc9 af.o.1 af.o.2 a9 n9 c9 b9⟩)
 ·have hc:=fun (W:World) (h:Below w.heap.size w W)=>(qc6 Y) x.natAbs y.natAbs K hK m o W (hm.below h) (ho.below h) hx hy
  have aK:(decide (x<0) == decide (y<0))=false:=beq_eq_false_iff_ne.2 ay
  by_cases aC:x.natAbs<y.natAbs
  ·have ht:=fun (W:World) (h:Below w.heap.size w W)=>(qga Y) y.natAbs x.natAbs K hK o m W (ho.below h) (hm.below h) hy (qar aC)
   have hs:=fun (W:World) (p:Value) (h:MagAt W p (y.natAbs-x.natAbs))=>(qb6 Y) (y.natAbs-x.natAbs) (decide (y<0)) p W h
   rw [qgM (fun e=>ay e.symm) (qar aC),Int.add_comm] at hs;rw [show cmp3 (x.natAbs:Int) (y.natAbs:Int) = -1 by unfold cmp3;rw [if_pos (by omega)]] at hc;generalize decide (x<0)=b0 at *;generalize decide (y<0)=b1 at *;obtain⟨a0,bm,om,c0,n0,M,rfl,Im,aA⟩:=hm;obtain⟨a1,bo,oo,c1,n1,O,rfl,Io,aB⟩:=ho;have HT:=qH ht;have HS:=qH hs;have HC:=qH hc;clear ht hs hc Im aA Io aB hx hy hK ay aC;obtain⟨F,H⟩:=qY (((w.alloc (.cells #[.slice a0 n0 c0,.bool b0] (Pk.of Y 136 242))).alloc (.cells #[.slice a1 n1 c1,.bool b1] (Pk.of Y 136 242))).alloc (.cells #[.slice none 0 0,.bool false] (Pk.of Y 136 242)));have aa:Below w.heap.size w F:=H▸((qB.alloc qN _).alloc (by simp only [qab];omega) _).alloc (by simp only [qab];omega) _;have aj:F.heap[w.heap.size]? = some (.cells #[.slice a0 n0 c0,.bool b0] (Pk.of Y 136 242) (0,0)):=by rw [H,qL _ _ _ (by simp only [qab];omega),qL _ _ _ (by simp only [qab];omega)];exact qM _ _ _ (by simp)
   have ak:F.heap[w.heap.size+1]? = some (.cells #[.slice a1 n1 c1,.bool b1] (Pk.of Y 136 242) (0,0)):=by rw [H,qL _ _ _ (by simp only [qab];omega)];exact qM _ _ _ (by simp)
   have hr:F.heap[w.heap.size+1+1]? = some (.cells #[.slice none 0 0,.bool false] (Pk.of Y 136 242) (0,0)):=by rw [H];exact qM _ _ _ (by simp)
   have l2:w.heap.size+1+1<F.heap.size:=(qG hr).1;have aF:∀W,Below (w.heap.size+1+1) F W->W.cell? ⟨w.heap.size,0,none⟩=some (.slice a0 n0 c0):=fun W h=>(h.cell (p:=⟨w.heap.size,0,none⟩) (by show w.heap.size<_;omega)).trans (qC _ _ 0 _ _ _ aj)
   have aG:∀W,Below (w.heap.size+1+1) F W->W.cell? ⟨w.heap.size,1,none⟩=some (.bool b0):=fun W h=>(h.cell (p:=⟨w.heap.size,1,none⟩) (by show w.heap.size<_;omega)).trans (qC _ _ 1 _ _ _ aj)
   have aH:∀W,Below (w.heap.size+1+1) F W->W.cell? ⟨w.heap.size+1,0,none⟩=some (.slice a1 n1 c1):=fun W h=>(h.cell (p:=⟨w.heap.size+1,0,none⟩) (by show w.heap.size+1<_;omega)).trans (qC _ _ 0 _ _ _ ak)
   have aI:∀W,Below (w.heap.size+1+1) F W->W.cell? ⟨w.heap.size+1,1,none⟩=some (.bool b1):=fun W h=>(h.cell (p:=⟨w.heap.size+1,1,none⟩) (by show w.heap.size+1<_;omega)).trans (qC _ _ 1 _ _ _ ak)
   have Z:Below (w.heap.size+1+1) F F:=Below.refl _ _;have HR:=qH (qA aa hr);have J:=qH l2;clear aj ak hr aa;cases Y <;> dsimp only [Pk.of] at * <;> (
   first | go_enter func134,ntmps134 | go_enter func173,ntmps173
   go_wp2_with fail;rw [<-H];clear H;refine (HC.o _ HR.o.1).mono ?_;rintro e w5 ⟨rfl,az⟩;have au:Below (w.heap.size+1+1) F w5:=az.mono (qar J.o);have H5:=qH ((az.block _ J.o).trans HR.o.2);clear az;go_wp2_with fail;have U:Below (w.heap.size+1+1) F w5.drew:=au.drew
   go_region_held3 (fun W=>Below (w.heap.size+1+1) F W) (first | with_reducible exact au | with_reducible exact U | with_reducible exact ae | with_reducible exact V | ((iterate 2 refine Below.setCell ?_ (by exact qae _) _);exact ae)) (first | ((first | go_at_call 201 | go_at_call 231);refine (HT.o _ (HR.o.1.trans (U.mono (by omega)))).mono ?_;rintro e w2 ⟨p2,rfl,ag,ax⟩;have V:Below (w.heap.size+1+1) F w2:=U.trans (ag.mono (qar (qai J.o au.size)));have av:=qH (qA ax ((ag.block _ (qai J.o au.size)).trans H5.o));clear ag ax) | ((first | go_at_call 95 | go_at_call 180);refine (HS.o _ _ av.o.1).mono ?_;rintro e w3 ⟨p3,rfl,ah,ai⟩;have ae:Below (w.heap.size+1+1) F w3:=V.trans (ah.mono (qaj (qar J.o) V.size));obtain⟨a9,n9,c9,b9,rfl⟩:=qbV ai;have I:=(ah.block _ (qai J.o V.size)).trans av.o.2;have e0:=qC w3 _ 0 _ _ _ I;have e1:=qC w3 _ 1 _ _ _ I;have f0:=qF w3 _ 0 _ _ I;have f1:=qF w3 _ 1 _ _ I;have af:=qH (qA ai I);clear ah ai I))
   go_wp2_with fail;exact qR (v:=.agg #[.slice a9 n9 c9,.bool b9]) (qcX rfl _ _ (w.heap.size+1+1) _ _ _ rfl (qda af.o.2 a9 n9 c9 b9) (by first | exact underlying136 | exact underlying242) rfl 2 (by kernel_rfl) rfl) rfl ⟨_,rfl,HR.o.1.trans (((ae.setCell (by exact qae _) _).setCell (by exact qae _) _).mono (by omega)),qc9 af.o.1 af.o.2 a9 n9 c9 b9⟩)
  ·have ht:=fun (W:World) (h:Below w.heap.size w W)=>(qga Y) x.natAbs y.natAbs K hK m o W (hm.below h) (ho.below h) hx (by omega)
   have hs:=fun (W:World) (p:Value) (h:MagAt W p (x.natAbs-y.natAbs))=>(qb6 Y) (x.natAbs-y.natAbs) (decide (x<0)) p W h
   rw [qgM ay (by omega)] at hs;obtain⟨cr,aD⟩:=qX (cmp3 (x.natAbs:Int) (y.natAbs:Int));have aJ:¬cr<0:=by rw [<-aD];unfold cmp3;rw [if_neg (by omega)];split <;> omega
   rw [aD] at hc;generalize decide (x<0)=b0 at *;generalize decide (y<0)=b1 at *;obtain⟨a0,bm,om,c0,n0,M,rfl,Im,aA⟩:=hm;obtain⟨a1,bo,oo,c1,n1,O,rfl,Io,aB⟩:=ho;have HT:=qH ht;have HS:=qH hs;have HC:=qH hc;clear ht hs hc Im aA Io aB hx hy hK ay aC aD;obtain⟨F,H⟩:=qY (((w.alloc (.cells #[.slice a0 n0 c0,.bool b0] (Pk.of Y 136 242))).alloc (.cells #[.slice a1 n1 c1,.bool b1] (Pk.of Y 136 242))).alloc (.cells #[.slice none 0 0,.bool false] (Pk.of Y 136 242)));have aa:Below w.heap.size w F:=H▸((qB.alloc qN _).alloc (by simp only [qab];omega) _).alloc (by simp only [qab];omega) _;have aj:F.heap[w.heap.size]? = some (.cells #[.slice a0 n0 c0,.bool b0] (Pk.of Y 136 242) (0,0)):=by rw [H,qL _ _ _ (by simp only [qab];omega),qL _ _ _ (by simp only [qab];omega)];exact qM _ _ _ (by simp)
   have ak:F.heap[w.heap.size+1]? = some (.cells #[.slice a1 n1 c1,.bool b1] (Pk.of Y 136 242) (0,0)):=by rw [H,qL _ _ _ (by simp only [qab];omega)];exact qM _ _ _ (by simp)
   have hr:F.heap[w.heap.size+1+1]? = some (.cells #[.slice none 0 0,.bool false] (Pk.of Y 136 242) (0,0)):=by rw [H];exact qM _ _ _ (by simp)
   have l2:w.heap.size+1+1<F.heap.size:=(qG hr).1;have aF:∀W,Below (w.heap.size+1+1) F W->W.cell? ⟨w.heap.size,0,none⟩=some (.slice a0 n0 c0):=fun W h=>(h.cell (p:=⟨w.heap.size,0,none⟩) (by show w.heap.size<_;omega)).trans (qC _ _ 0 _ _ _ aj)
   have aG:∀W,Below (w.heap.size+1+1) F W->W.cell? ⟨w.heap.size,1,none⟩=some (.bool b0):=fun W h=>(h.cell (p:=⟨w.heap.size,1,none⟩) (by show w.heap.size<_;omega)).trans (qC _ _ 1 _ _ _ aj)
   have aH:∀W,Below (w.heap.size+1+1) F W->W.cell? ⟨w.heap.size+1,0,none⟩=some (.slice a1 n1 c1):=fun W h=>(h.cell (p:=⟨w.heap.size+1,0,none⟩) (by show w.heap.size+1<_;omega)).trans (qC _ _ 0 _ _ _ ak)
   have aI:∀W,Below (w.heap.size+1+1) F W->W.cell? ⟨w.heap.size+1,1,none⟩=some (.bool b1):=fun W h=>(h.cell (p:=⟨w.heap.size+1,1,none⟩) (by show w.heap.size+1<_;omega)).trans (qC _ _ 1 _ _ _ ak)
   have Z:Below (w.heap.size+1+1) F F:=Below.refl _ _;have HR:=qH (qA aa hr);have J:=qH l2;clear aj ak hr aa;cases Y <;> dsimp only [Pk.of] at * <;> (
   first | go_enter func134,ntmps134 | go_enter func173,ntmps173
   go_wp2_with fail;rw [<-H];clear H;refine (HC.o _ HR.o.1).mono ?_;rintro e w5 ⟨rfl,az⟩;have au:Below (w.heap.size+1+1) F w5:=az.mono (qar J.o);have H5:=qH ((az.block _ J.o).trans HR.o.2);clear az;go_wp2_with fail;have U:Below (w.heap.size+1+1) F w5.drew:=au.drew
   go_region_held3 (fun W=>Below (w.heap.size+1+1) F W) (first | with_reducible exact au | with_reducible exact U | with_reducible exact ae | with_reducible exact V | ((iterate 2 refine Below.setCell ?_ (by exact qae _) _);exact ae)) (first | ((first | go_at_call 201 | go_at_call 231);refine (HT.o _ (HR.o.1.trans (U.mono (by omega)))).mono ?_;rintro e w2 ⟨p2,rfl,ag,ax⟩;have V:Below (w.heap.size+1+1) F w2:=U.trans (ag.mono (qar (qai J.o au.size)));have av:=qH (qA ax ((ag.block _ (qai J.o au.size)).trans H5.o));clear ag ax) | ((first | go_at_call 95 | go_at_call 180);refine (HS.o _ _ av.o.1).mono ?_;rintro e w3 ⟨p3,rfl,ah,ai⟩;have ae:Below (w.heap.size+1+1) F w3:=V.trans (ah.mono (qaj (qar J.o) V.size));obtain⟨a9,n9,c9,b9,rfl⟩:=qbV ai;have I:=(ah.block _ (qai J.o V.size)).trans av.o.2;have e0:=qC w3 _ 0 _ _ _ I;have e1:=qC w3 _ 1 _ _ _ I;have f0:=qF w3 _ 0 _ _ I;have f1:=qF w3 _ 1 _ _ I;have af:=qH (qA ai I);clear ah ai I))
   go_wp2_with fail;exact qR (v:=.agg #[.slice a9 n9 c9,.bool b9]) (qcX rfl _ _ (w.heap.size+1+1) _ _ _ rfl (qda af.o.2 a9 n9 c9 b9) (by first | exact underlying136 | exact underlying242) rfl 2 (by kernel_rfl) rfl) rfl ⟨_,rfl,HR.o.1.trans (((ae.setCell (by exact qae _) _).setCell (by exact qae _) _).mono (by omega)),qc9 af.o.1 af.o.2 a9 n9 c9 b9⟩)
def qb7 (z:Int):ByteArray:=⟨(itxt z).toArray⟩
theorem qeq {z:Int} (h:z<0):qb7 z=⟨#[45]⟩++num z.natAbs:=by
 apply ByteArray.ext;rw [ByteArray.data_append];unfold qb7 itxt num;rw [if_pos h];simp
theorem qdb {z:Int} (h:¬z<0):qb7 z=num z.natAbs:=by
 unfold qb7 itxt num;rw [if_neg h]
theorem qmU {x K:Nat} (h:Fit x K) (F:0<K):(num x).size<=9*K:=by
 rw [qdF];refine qcq _ _ (by omega) ?_;rw [<-pow9];exact h
theorem qe9 (V:Pk) (z:Int) (K:Nat) (aa:0<K) (hK:K<=137438953472) (v:Value) (w:World) (hv:IntAt w v z) (Z:Fit z.natAbs K) (hT:HasT w) :
  Calls prog (Pk.of V 161 238) #[v] w fun e w'=>e=.returned (.string (qb7 z))/\Below w.heap.size w w':=by
 obtain⟨m,rfl,hm⟩:=hv;have Y:=fun (W:World) (h:Below w.heap.size w W)=>(qep V) z.natAbs K (by omega) m W (hm.below h) Z (hT.below h)
 have hn:=qmU Z aa;have I:Hu (∀cs,Below w.heap.size w (w.alloc (.cells cs (Pk.of V 136 242)))):=qH fun cs=>qB.alloc qN _
 by_cases J:z<0
 ·rw [qeq J,qV J];generalize num z.natAbs=t at *;have U:∀W,(Op.stringOp .add ⟨#[45]⟩ t).run prog W=.ok (.string (⟨#[45]⟩++t)) W:=fun W=>run_string_add_sum W _ _ (by have:(⟨#[45]⟩:ByteArray).size=1:=rfl;omega)
  obtain⟨T,O⟩:=qX ((⟨#[45]⟩:ByteArray)++t);rw [O] at U ⊢;have HD:=qH Y;obtain⟨am,bm,om,cm,n,M,rfl,Im,H⟩:=hm;clear Y O Im H hn J Z hT;cases V <;> dsimp only [Pk.of] at * <;> (
  first | go_enter func161,ntmps161 | go_enter func238,ntmps238
  go_wp2_with fail;refine (HD.o _ (I.o _)).mono ?_;rintro e w1 ⟨rfl,F⟩;have HB:=qH ((I.o _).trans (F.mono (I.o _).size));clear F;go_wp2;go_ret;exact⟨rfl,HB.o⟩)
 ·rw [qdb J,qU J];generalize num z.natAbs=t at *;have HD:=qH Y;obtain⟨am,bm,om,cm,n,M,rfl,Im,H⟩:=hm;clear Y Im H hn J Z hT;cases V <;> dsimp only [Pk.of] at * <;> (
  first | go_enter func161,ntmps161 | go_enter func238,ntmps238
  go_wp2_with fail;refine (HD.o _ (I.o _)).mono ?_;rintro e w1 ⟨rfl,F⟩;have HB:=qH ((I.o _).trans (F.mono (I.o _).size));clear F;go_wp2;go_ret;exact⟨rfl,HB.o⟩)
theorem qgN (z:Int) (v:Value) (w:World) (Y:IntAt w v z) :
  Calls prog 136 #[v] w fun e Z=>e=.returned (.int .i64 (cmp3 z 0))/\Below w.heap.size w Z:=by
 obtain⟨m,rfl,O⟩:=Y;have F:=fun (W:World) (h:Below w.heap.size w W)=>(qcw .f) z.natAbs m W (O.below h)
 have H:Hu (∀cs,Below w.heap.size w (w.alloc (.cells cs 136))):=qH fun cs=>qB.alloc qN _
 obtain⟨am,bm,om,cm,n,M,rfl,V,J⟩:=O;clear V J;rcases Int.lt_trichotomy z 0 with h | h | h
 ·rw [qV h,show cmp3 z 0 = -1 by unfold cmp3;rw [if_pos h]];rw [qU (show ¬z.natAbs=0 by omega)] at F;have I:=qH F;clear F h;go_enter func136,ntmps136;go_wp2_with fail;refine (I.o _ (H.o _)).mono ?_;rintro e U ⟨rfl,rfl⟩;go_wp2;go_ret;exact⟨rfl,H.o _⟩
 ·subst h;rw [qU (by omega:¬(0:Int)<0),show cmp3 0 0=0 from rfl];rw [qV (show (0:Int).natAbs=0 from rfl)] at F;have I:=qH F;clear F;go_enter func136,ntmps136;go_wp2_with fail;refine (I.o _ (H.o _)).mono ?_;rintro e U ⟨rfl,rfl⟩;go_wp2;go_ret;exact⟨rfl,H.o _⟩
 ·rw [qU (by omega:¬z<0),show cmp3 z 0=1 by unfold cmp3;rw [if_neg (by omega),if_neg (by omega)]];rw [qU (show ¬z.natAbs=0 by omega)] at F;have I:=qH F;clear F h;go_enter func136,ntmps136;go_wp2_with fail;refine (I.o _ (H.o _)).mono ?_;rintro e U ⟨rfl,rfl⟩;go_wp2;go_ret;exact⟨rfl,H.o _⟩
theorem qeE (x y K J:Nat) (hK:K<=137438953472) (hJ:J<=137438953472) (ag:0<x) (ah:0<y) (vm vo:Value) (w:World) (hm:MagAt w vm x) (ho:MagAt w vo y) (hx:Fit x K) (hy:Fit y J) :
  Calls prog 177 #[vm,vo] w fun e w'=>∃v,e=.returned v/\Below w.heap.size w w'/\MagAt w' v (x.lcm y):=by
 have af:0<x.gcd y:=Nat.gcd_pos_of_pos_left _ ag;have F:K<=max K J/\J<=max K J/\max K J<=137438953472:=by omega
 have U:=(qcZ .l) x y (max K J) F.2.2 vm vo w hm ho (hx.mono F.1) (hy.mono F.2.1);have I:=fun (W:World) (g:Value) (hg:MagAt W g (x.gcd y)) (h:Below w.heap.size w W)=>(qb3 .l) y (x.gcd y) (max K J) F.2.2 vo g W (ho.below h) hg (hy.mono F.2.1) ((hy.le (Nat.gcd_le_right _ ah)).mono F.2.1) af
 have H:=fun (W:World) (d:Value) (hd:MagAt W d (y / x.gcd y)) (h:Below w.heap.size w W)=>(qch .l) x (y / x.gcd y) K J (by omega) vm d W (hm.below h) hd hx (hy.le (qaR _ _))
 rw [<-Nat.mul_div_assoc _ (qaW x y)] at H;have HG:=qH U;have HD:=qH I;have HT:=qH H;obtain⟨am,bm,om,cm,n,M,rfl,Im,aa⟩:=hm;obtain⟨ao,bo,oo,co,no,O,rfl,Io,ae⟩:=ho;clear U I H Im aa Io ae hx hy;go_enter func177,ntmps177;go_wp2_with fail;refine HG.o.mono ?_;rintro e w1 ⟨g,rfl,V,hg⟩;have H1:=qH (qA V hg);clear V hg;go_wp2_with fail;refine (HD.o _ _ H1.o.2 H1.o.1).mono ?_;rintro e w2 ⟨q,r,rfl,Y,hq,_⟩;have H2:=qH (qA (H1.o.1.trans (Y.mono H1.o.1.size)) hq);clear Y hq;go_wp2_with fail;refine (HT.o _ _ H2.o.2 H2.o.1).mono ?_;rintro e w3 ⟨v,rfl,Z,hv⟩;have H3:=qH (qA (H2.o.1.trans (Z.mono H2.o.1.size)) hv);clear Z hv;go_wp2;go_ret;exact⟨_,rfl,H3.o.1,H3.o.2⟩
structure FOk (n d:List UInt8):Prop where
 vn:Valid n
 vd:Valid d
 pos:0<ival d
 cop:(ival n).natAbs.gcd (ival d).natAbs=1
def RatAt (W:World) (v:Value) (z:Int) (d:Nat):Prop:=∃m o,v=.agg #[m,.bool (decide (z<0)),o]/\MagAt W m z.natAbs/\MagAt W o d
theorem RatAt.below {W W':World} {v:Value} {z:Int} {d:Nat} (h:RatAt W v z d) (F:Below W.heap.size W W'):RatAt W' v z d:=by
 obtain⟨m,o,H,I,J⟩:=h;exact⟨m,o,H,I.below F,J.below F⟩
theorem qbU {B:Nat} {a W:World} {o:Obj} (h:Below B a W) (F:B<=a.heap.size):Below B a (W.alloc o):=h.alloc (qaj F h.size) o
theorem bjoin {B:Nat} {a W W':World} (h:Below B a W) (k:Below W.heap.size W W') (F:B=a.heap.size:=by rfl):Below B a W':=h.trans (k.mono (by rw [F];exact h.size))
theorem zkeep {W W':World} (h:Below W.heap.size W W'):∀(g:Nat) (o:Obj),W.heap[g]? = some o->W'.heap[g]? = some o:=fun g _ hg=>(h.block g (qG hg).1).trans hg
theorem qgW {W:World} {g:Nat} {t:TypeId} (h:W.heap[g]? = some (.cells #[.slice none 0 0,.bool false] t (0,0))) (a:Option Addr) (n c:Nat) (b:Bool) :
  ((W.setCell ⟨g,0,none⟩ (.slice a n c)).setCell ⟨g,1,none⟩ (.bool b)).heap[g]? = some (.cells #[.slice a n c,.bool b] t (0,0)) /\
  (∀k,k≠g->((W.setCell ⟨g,0,none⟩ (.slice a n c)).setCell ⟨g,1,none⟩ (.bool b)).heap[k]? = W.heap[k]?) /\
  (∀m F z,IntAt W (.agg #[m,.bool F]) z->IntAt ((W.setCell ⟨g,0,none⟩ (.slice a n c)).setCell ⟨g,1,none⟩ (.bool b)) (.agg #[m,.bool F]) z) :=
 ⟨qda h a n c b,fun _k H=>(qW _ _ _ _ H).trans (qW _ _ _ _ H),fun _ _ _ I=>qc9 I h a n c b⟩
theorem zdrew {W:World} {g:Nat} {o:Option Obj} (h:W.heap[g]? = o):W.drew.heap[g]? = o:=h
theorem qd0:∀x∈(#[.slice none 0 0,.bool false,.slice none 0 0]:Array Value).toList,∀d,x≠.int .u32 d:=by
 intro x hx d;rcases qaJ.1 hx with rfl | hx
 ·intro h;cases h
 ·rcases qaJ.1 hx with rfl | hx
  ·intro h;cases h
  ·rw [qap.1 hx];intro h;cases h
def Two (F W:World) (H g4:Nat) (v3:Option Addr×Nat×Nat×Bool) (v4:Option Addr×Nat×Nat×Bool) (z3 z4:Int):Prop :=
 W.heap[H]? = some (.cells #[.slice v3.1 v3.2.1 v3.2.2.1,.bool v3.2.2.2] 136 (0,0))/\W.heap[g4]? = some (.cells #[.slice v4.1 v4.2.1 v4.2.2.1,.bool v4.2.2.2] 136 (0,0)) /\
  IntAt W (.agg #[.slice v3.1 v3.2.1 v3.2.2.1,.bool v3.2.2.2]) z3/\IntAt W (.agg #[.slice v4.1 v4.2.1 v4.2.2.1,.bool v4.2.2.2]) z4/\Below F.heap.size F W
section
variable {W2 W:World} {a3:Option Addr} {n3 c3:Nat} {b3:Bool} {a4:Option Addr} {n4 c4:Nat} {b4:Bool} {z3 z4:Int}
theorem two_aa (h:IntAt W (.agg #[.slice a3 n3 c3,.bool b3]) z3/\IntAt W (.agg #[.slice a4 n4 c4,.bool b4]) z4) (F:Below W2.heap.size W2 W) :
  Two W2 ((W.alloc (.cells #[.slice a3 n3 c3,.bool b3] 136)).alloc (.cells #[.slice a4 n4 c4,.bool b4] 136)) W.heap.size (W.heap.size+1) (a3,n3,c3,b3) (a4,n4,c4,b4) z3 z4 :=
 have k:=qbU (qbU (Below.refl W.heap.size W) qN) qN
 ⟨(qL _ _ _ (by simp only [qab];omega)).trans (qM _ _ _ rfl),qM _ _ _ (by simp only [qab]),h.1.below k,h.2.below k,qbU (qbU F qN) qN⟩
theorem two_bb (h:IntAt W (.agg #[.slice a3 n3 c3,.bool b3]) z3/\IntAt W (.agg #[.slice a4 n4 c4,.bool b4]) z4) (F:Below W2.heap.size W2 W) :
  Two W2 ((W.alloc (.cells #[.slice a4 n4 c4,.bool b4] 136)).alloc (.cells #[.slice a3 n3 c3,.bool b3] 136)) (W.heap.size+1) W.heap.size (a3,n3,c3,b3) (a4,n4,c4,b4) z3 z4 :=
 have k:=qbU (qbU (Below.refl W.heap.size W) qN) qN
 ⟨qM _ _ _ (by simp only [qab]),(qL _ _ _ (by simp only [qab];omega)).trans (qM _ _ _ rfl),h.1.below k,h.2.below k,qbU (qbU F qN) qN⟩
theorem two_pa {g:Nat} (h:IntAt W (.agg #[.slice a3 n3 c3,.bool b3]) z3/\IntAt W (.agg #[.slice a4 n4 c4,.bool b4]) z4) (H:Below W2.heap.size W2 W) (hg:W2.heap.size<=g) (F:W.heap[g]? = some (.cells #[.slice none 0 0,.bool false] 136 (0,0))) :
  Two W2 (((W.setCell ⟨g,0,none⟩ (.slice a3 n3 c3)).setCell ⟨g,1,none⟩ (.bool b3)).alloc (.cells #[.slice a4 n4 c4,.bool b4] 136)) g W.heap.size (a3,n3,c3,b3) (a4,n4,c4,b4) z3 z4:=by
 obtain⟨p1,p2,p3⟩:=qgW F a3 n3 c3 b3;have lt:=(qG F).1;have k:∀V:World,Below V.heap.size V (V.alloc (.cells #[.slice a4 n4 c4,.bool b4] 136)):=fun V=>qbU qB qN
 exact⟨(qL _ _ _ (by simp only [qbt];exact lt)).trans p1,qM _ _ _ (by simp only [qbt]),(p3 _ _ _ h.1).below (k _),(p3 _ _ _ h.2).below (k _),qbU ((H.setCell (by exact hg) _).setCell (by exact hg) _) qN⟩
theorem two_pb {g:Nat} (h:IntAt W (.agg #[.slice a3 n3 c3,.bool b3]) z3/\IntAt W (.agg #[.slice a4 n4 c4,.bool b4]) z4) (H:Below W2.heap.size W2 W) (hg:W2.heap.size<=g) (F:W.heap[g]? = some (.cells #[.slice none 0 0,.bool false] 136 (0,0))) :
  Two W2 (((W.setCell ⟨g,0,none⟩ (.slice a4 n4 c4)).setCell ⟨g,1,none⟩ (.bool b4)).alloc (.cells #[.slice a3 n3 c3,.bool b3] 136)) W.heap.size g (a3,n3,c3,b3) (a4,n4,c4,b4) z3 z4:=by
 obtain⟨p1,p2,p3⟩:=qgW F a4 n4 c4 b4;have lt:=(qG F).1;have k:∀V:World,Below V.heap.size V (V.alloc (.cells #[.slice a3 n3 c3,.bool b3] 136)):=fun V=>qbU qB qN
 exact⟨qM _ _ _ (by simp only [qbt]),(qL _ _ _ (by simp only [qbt];exact lt)).trans p1,(p3 _ _ _ h.1).below (k _),(p3 _ _ _ h.2).below (k _),qbU ((H.setCell (by exact hg) _).setCell (by exact hg) _) qN⟩
theorem two_pp {g F:Nat} (h:IntAt W (.agg #[.slice a3 n3 c3,.bool b3]) z3/\IntAt W (.agg #[.slice a4 n4 c4,.bool b4]) z4) (J:Below W2.heap.size W2 W) (hg:W2.heap.size<=g) (H:W2.heap.size<=F) (hne:g≠F) (O:W.heap[g]? = some (.cells #[.slice none 0 0,.bool false] 136 (0,0))) (I:W.heap[F]? = some (.cells #[.slice none 0 0,.bool false] 136 (0,0))) :
  Two W2 ((((W.setCell ⟨g,0,none⟩ (.slice a3 n3 c3)).setCell ⟨g,1,none⟩ (.bool b3)).setCell ⟨F,0,none⟩ (.slice a4 n4 c4)).setCell ⟨F,1,none⟩ (.bool b4)) g F (a3,n3,c3,b3) (a4,n4,c4,b4) z3 z4:=by
 obtain⟨p1,p2,p3⟩:=qgW O a3 n3 c3 b3;obtain⟨q1,q2,q3⟩:=qgW ((p2 F (Ne.symm hne)).trans I) a4 n4 c4 b4;exact⟨(q2 g hne).trans p1,q1,q3 _ _ _ (p3 _ _ _ h.1),q3 _ _ _ (p3 _ _ _ h.2),(((J.setCell (by exact hg) _).setCell (by exact hg) _).setCell (by exact H) _).setCell (by exact H) _⟩
end
def FReadsAs (w:World) (n d:List UInt8) (e:Ending) (F:World):Prop:=∃v ok,e=.returned (.tuple #[v,.bool ok])/\(ok=true/\FOk n d/\RatAt F v (ival n) (ival d).natAbs\/ok=false/\¬FOk n d/\v=.agg #[.slice none 0 0,.bool false,.slice none 0 0])/\Below w.heap.size w F
theorem qdw (n d:ByteArray) (w:World) :
  Calls prog 94 #[.agg #[.string n,.string d]] w fun e w'=>FReadsAs w n.data.toList d.data.toList e w':=by
 have aM:=fun W=>qeX n W
 have aY:=fun W=>qeX d W
 obtain⟨W1,ak⟩:=qY ((w.alloc (.cells #[.string n,.string d] 44)).alloc (.cells #[.slice none 0 0,.bool false,.slice none 0 0] 138));have V:Below w.heap.size w W1:=ak▸(qB.alloc qN _).alloc (by simp only [qab];omega) _;have bB:W1.heap[w.heap.size]? = some (.cells #[.string n,.string d] 44 (0,0)):=by rw [ak,qL _ _ _ (by simp only [qab];omega)];exact qM _ _ _ rfl
 have aT:W1.heap[w.heap.size+1]? = some (.cells #[.slice none 0 0,.bool false,.slice none 0 0] 138 (0,0)):=by rw [ak];exact qM _ _ _ (by simp)
 have l1:w.heap.size+1<W1.heap.size:=(qG aT).1;have bE:=qH aM;have bF:=qH aY;have HR:=qH (qA V (qA bB (qA aT l1)));clear aM aY V bB aT l1;have af:Hu (∀W,Below W1.heap.size W1 W->W.heap[w.heap.size]? = some (.cells #[.string n,.string d] 44 (0,0))/\W.heap[w.heap.size+1]? = some (.cells #[.slice none 0 0,.bool false,.slice none 0 0] 138 (0,0))):=qH fun W h=>⟨(h.block _ (by have:=HR.o.2.2.2;omega)).trans HR.o.2.1,(h.block _ HR.o.2.2.2).trans HR.o.2.2.1⟩
 go_enter func94,ntmps94;go_wp2_with fail;rw [<-ak];clear ak;refine (bE.o _).mono ?_;rintro e w1 ⟨c1,rfl,bO,V⟩;rcases bO with ⟨rfl,aD⟩ | ⟨rfl,aD⟩
 ·have d1:=qC w1 _ 1 _ _ _ (af.o w1 V).1;have H1:=qH (qA V aD);clear V aD;go_wp2_with fail;refine (bF.o _).mono ?_;rintro e J ⟨c2,rfl,bP,aW⟩;have Y:Below W1.heap.size W1 J:=H1.o.1.trans (aW.mono H1.o.1.size);clear aW;rcases bP with ⟨rfl,az⟩ | ⟨rfl,az⟩
  ·have aC:Below J.heap.size J J:=Below.refl _ _;have bC:Below J.heap.size J J.drew:=aC.drew;have aZ:J.drew.heap.size=J.heap.size:=rfl;have U:=af.o J Y;have l0:w.heap.size<J.heap.size:=(qG U.1).1;have C0:∀W,Below J.heap.size J W->W.cell? ⟨w.heap.size,0,none⟩=some (.string n):=fun W h=>(h.cell (p:=⟨w.heap.size,0,none⟩) l0).trans (qC _ _ 0 _ _ _ U.1)
   have C1:∀W,Below J.heap.size J W->W.cell? ⟨w.heap.size,1,none⟩=some (.string d):=fun W h=>(h.cell (p:=⟨w.heap.size,1,none⟩) l0).trans (qC _ _ 1 _ _ _ U.1)
   have bz:=fun W=>(qcn .f) n H1.o.2 W
   have bA:=fun W=>(qcn .f) d az W
   have bK:=qH bz;have bL:=qH bA;have H2:=qH (qA Y (qA az U));clear bz bA Y az U;go_wp2_with fail;have F:∀W:World,W.drew.heap.size=W.heap.size:=fun _=>rfl
   go_cut [4,5] (fun x4 x5 W=>∃(g3 g4:Nat) (a3:Option Addr) (n3 c3:Nat) (b3:Bool) (a4:Option Addr) (n4 c4:Nat) (b4:Bool),x4=.pointer (some ⟨g3,0,none⟩)/\x5=.pointer (some ⟨g4,0,none⟩)/\Two J W g3 g4 (a3,n3,c3,b3) (a4,n4,c4,b4) (ival n.data.toList) (ival d.data.toList))
   case first =>
    go_region_held3 (fun W=>Below J.heap.size J W) (first | with_reducible exact aC | with_reducible exact bC | with_reducible exact I | with_reducible exact H | ((repeat (first | refine Below.setCell ?_ (by first | exact qae _ | exact H.size | exact I.size | exact qao qN | exact qao H.size | exact qao I.size) _ | refine qbU ?_ qN | refine Below.drew ?_));first | exact I | exact H | exact aC)) (first | (go_at_call_of 147 (Value.string n);refine (bK.o _).mono ?_;rintro e w3 ⟨p3,rfl,au,aR⟩;have H:Below J.heap.size J w3:=bjoin (by ((repeat (first | refine Below.setCell ?_ (by first | exact qae _ | exact H.size | exact I.size | exact qao qN | exact qao H.size | exact qao I.size) _ | refine qbU ?_ qN | refine Below.drew ?_));first | exact aC)) au;obtain⟨a3,n3,c3,b3,rfl⟩:=qbV aR;have aK:=qH aR;obtain⟨k3,bS⟩:=bcell au;have Z3:=qH (zkeep au);have s3:_<=_:=au.size;(try simp only [qab,aZ,F] at s3);(try have q3:J.heap.size<w3.heap.size:=by omega);(try have r3:J.heap.size+1<w3.heap.size:=by omega);clear au aR) | (go_at_call_of 147 (Value.string d);refine (bL.o _).mono ?_;rintro e w4 ⟨p4,rfl,Z,aS⟩;have I:Below J.heap.size J w4:=bjoin (by ((repeat (first | refine Below.setCell ?_ (by first | exact qae _ | exact H.size | exact I.size | exact qao qN | exact qao H.size | exact qao I.size) _ | refine qbU ?_ qN | refine Below.drew ?_));first | exact H)) Z;obtain⟨a4,n4,c4,b4,rfl⟩:=qbV aS;have aj:=qH (qA (show IntAt w4 _ _ from (by first | exact aK.o.below Z | exact (aK.o.below (qbU qB qN)).below Z | exact (aK.o.below (qbU (qbU qB qN) qN)).below Z)) aS);obtain⟨k4,bT⟩:=bcell Z;have Z4:=qH (zkeep Z);have s4:_<=_:=Z.size;(try simp only [qab] at s4);(try have q4:J.heap.size<w4.heap.size:=by omega);(try have r4:J.heap.size+1<w4.heap.size:=by omega);(try have t4:w3.heap.size<w4.heap.size:=by omega);(try have u4:w3.heap.size+1<w4.heap.size:=by omega);clear Z aS))
    all_goals go_wp2_with fail
    all_goals go_meet
    all_goals refine⟨_,_,a3,n3,c3,b3,a4,n4,c4,b4,rfl,rfl,?_⟩
    all_goals first
     | with_reducible exact two_aa aj.o I
     | with_reducible exact two_bb aj.o I
     | (with_reducible refine two_pa aj.o I ?_ ?_;(first | exact qae _ | exact H.size | exact I.size | exact qbB _ | exact qao H.size);(refine Z4.o _ _ ?_;((try with_reducible refine zdrew ?_);first | (refine qM _ _ _ ?_;((try simp only) <;> omega)) | (refine Z3.o _ _ ?_;((try with_reducible refine zdrew ?_);first | (refine qM _ _ _ ?_;((try simp only) <;> omega)) | (refine (qL _ _ _ ?_).trans ?_;((try simp only [qab,F]);omega);(refine qM _ _ _ ?_;((try simp only [qab,F]) <;> omega))))) | (refine (qL _ _ _ ?_).trans ?_;((try simp only [qab,F]);omega);(first | (refine qM _ _ _ ?_;((try simp only [qab,F]) <;> omega)) | (refine Z3.o _ _ ?_;((try with_reducible refine zdrew ?_);first | (refine qM _ _ _ ?_;((try simp only [qab,F]) <;> omega)) | (refine (qL _ _ _ ?_).trans ?_;((try simp only [qab,F]);omega);(refine qM _ _ _ ?_;((try simp only [qab,F]) <;> omega))))))) | (refine (qL _ _ _ ?_).trans ?_;((try simp only [qab,F]);omega);refine (qL _ _ _ ?_).trans ?_;((try simp only [qab,F]);omega);(refine Z3.o _ _ ?_;((try with_reducible refine zdrew ?_);first | (refine qM _ _ _ ?_;((try simp only [qab,F]) <;> omega)) | (refine (qL _ _ _ ?_).trans ?_;((try simp only [qab,F]);omega);(refine qM _ _ _ ?_;((try simp only [qab,F]) <;> omega)))))))))
     | (with_reducible refine two_pb aj.o I ?_ ?_;(first | exact qae _ | exact H.size | exact I.size | exact qbB _ | exact qao H.size);(refine Z4.o _ _ ?_;((try with_reducible refine zdrew ?_);first | (refine qM _ _ _ ?_;((try simp only) <;> omega)) | (refine Z3.o _ _ ?_;((try with_reducible refine zdrew ?_);first | (refine qM _ _ _ ?_;((try simp only) <;> omega)) | (refine (qL _ _ _ ?_).trans ?_;((try simp only [qab,F]);omega);(refine qM _ _ _ ?_;((try simp only [qab,F]) <;> omega))))) | (refine (qL _ _ _ ?_).trans ?_;((try simp only [qab,F]);omega);(first | (refine qM _ _ _ ?_;((try simp only [qab,F]) <;> omega)) | (refine Z3.o _ _ ?_;((try with_reducible refine zdrew ?_);first | (refine qM _ _ _ ?_;((try simp only [qab,F]) <;> omega)) | (refine (qL _ _ _ ?_).trans ?_;((try simp only [qab,F]);omega);(refine qM _ _ _ ?_;((try simp only [qab,F]) <;> omega))))))) | (refine (qL _ _ _ ?_).trans ?_;((try simp only [qab,F]);omega);refine (qL _ _ _ ?_).trans ?_;((try simp only [qab,F]);omega);(refine Z3.o _ _ ?_;((try with_reducible refine zdrew ?_);first | (refine qM _ _ _ ?_;((try simp only [qab,F]) <;> omega)) | (refine (qL _ _ _ ?_).trans ?_;((try simp only [qab,F]);omega);(refine qM _ _ _ ?_;((try simp only [qab,F]) <;> omega)))))))))
     | (with_reducible refine two_pp aj.o I ?_ ?_ ?_ ?_ ?_;(first | exact qae _ | exact H.size | exact I.size | exact qbB _ | exact qao H.size);(first | exact qae _ | exact H.size | exact I.size | exact qbB _ | exact qao H.size);omega;(refine Z4.o _ _ ?_;((try with_reducible refine zdrew ?_);first | (refine qM _ _ _ ?_;((try simp only [qab]) <;> omega)) | (refine Z3.o _ _ ?_;((try with_reducible refine zdrew ?_);first | (refine qM _ _ _ ?_;((try simp only [qab]) <;> omega)) | (refine (qL _ _ _ ?_).trans ?_;((try simp only [qab]);omega);(refine qM _ _ _ ?_;((try simp only) <;> omega))))) | (refine (qL _ _ _ ?_).trans ?_;((try simp only [qab]);omega);(first | (refine qM _ _ _ ?_;((try simp only) <;> omega)) | (refine Z3.o _ _ ?_;((try with_reducible refine zdrew ?_);first | (refine qM _ _ _ ?_;((try simp only) <;> omega)) | (refine (qL _ _ _ ?_).trans ?_;((try simp only [qab,F]);omega);(refine qM _ _ _ ?_;((try simp only [qab,F]) <;> omega))))))) | (refine (qL _ _ _ ?_).trans ?_;((try simp only [qab,F]);omega);refine (qL _ _ _ ?_).trans ?_;((try simp only [qab,F]);omega);(refine Z3.o _ _ ?_;((try with_reducible refine zdrew ?_);first | (refine qM _ _ _ ?_;((try simp only [qab,F]) <;> omega)) | (refine (qL _ _ _ ?_).trans ?_;((try simp only [qab,F]);omega);(refine qM _ _ _ ?_;((try simp only [qab,F]) <;> omega))))))));(refine Z4.o _ _ ?_;((try with_reducible refine zdrew ?_);first | (refine qM _ _ _ ?_;((try simp only [qab]) <;> omega)) | (refine Z3.o _ _ ?_;((try with_reducible refine zdrew ?_);first | (refine qM _ _ _ ?_;((try simp only [qab]) <;> omega)) | (refine (qL _ _ _ ?_).trans ?_;((try simp only [qab]);omega);(refine qM _ _ _ ?_;((try simp only) <;> omega))))) | (refine (qL _ _ _ ?_).trans ?_;((try simp only [qab]);omega);(first | (refine qM _ _ _ ?_;((try simp only) <;> omega)) | (refine Z3.o _ _ ?_;((try with_reducible refine zdrew ?_);first | (refine qM _ _ _ ?_;((try simp only) <;> omega)) | (refine (qL _ _ _ ?_).trans ?_;((try simp only [qab,F]);omega);(refine qM _ _ _ ?_;((try simp only [qab,F]) <;> omega))))))) | (refine (qL _ _ _ ?_).trans ?_;((try simp only [qab,F]);omega);refine (qL _ _ _ ?_).trans ?_;((try simp only [qab,F]);omega);(refine Z3.o _ _ ?_;((try with_reducible refine zdrew ?_);first | (refine qM _ _ _ ?_;((try simp only [qab,F]) <;> omega)) | (refine (qL _ _ _ ?_).trans ?_;((try simp only [qab,F]);omega);(refine qM _ _ _ ?_;((try simp only [qab,F]) <;> omega)))))))))
   case rest =>
    obtain⟨g3,g4,a3,n3,c3,b3,a4,n4,c4,b4,rfl,rfl,h3,h4,av,ai,hb⟩:=hcut;dsimp only at h3 h4 av ai;have aA:=qC wc _ 0 _ _ _ h3;have aV:=qC wc _ 1 _ _ _ h3;have aB:=qC wc _ 0 _ _ _ h4;have bM:=qC wc _ 1 _ _ _ h4;have aI:=qgN _ _ wc ai;have HS:=qH aI;have HH:=qH (qA h3 (qA h4 (qA av (qA ai hb))));have ay:wc.heap[w.heap.size+1]? = some (.cells #[.slice none 0 0,.bool false,.slice none 0 0] 138 (0,0)):=(hb.block _ (qG H2.o.2.2.2).1).trans H2.o.2.2.2;have H5:=qH (qA ay (HR.o.1.trans ((H2.o.1.trans (hb.mono H2.o.1.size)).mono HR.o.1.size)));clear h3 h4 av ai hb aI ay C0 C1;go_wp2_with fail;refine HS.o.mono ?_;rintro e w5 ⟨rfl,aa⟩;have bR:=qH aa;have H6:=qH (qA ((aa.block _ (qG H5.o.1).1).trans H5.o.1) (H5.o.2.trans (aa.mono H5.o.2.size)));have av:=HH.o.2.2.1.below aa;have ai:=HH.o.2.2.2.1.below aa;have h3:=(aa.block _ (qG HH.o.1).1).trans HH.o.1;have h4:=(aa.block _ (qG HH.o.2.1).1).trans HH.o.2.1;clear aa aA aV aB bM
    by_cases aH:0<ival d.data.toList
    ·rw [show cmp3 (ival d.data.toList) 0=1 by unfold cmp3;rw [if_neg (by omega),if_neg (by omega)]];have aA:=qC w5 _ 0 _ _ _ h3;have aB:=qC w5 _ 0 _ _ _ h4;obtain⟨m3,ax,aO⟩:=av;obtain⟨m4,aQ,aP⟩:=ai;have bu:m3=.slice a3 n3 c3:=by simp only [qaP,qaV,qaN] at ax;exact ax.1.symm
     have bv:m4=.slice a4 n4 c4:=by simp only [qaP,qaV,qaN] at aQ;exact aQ.1.symm
     have aF:b3=decide (ival n.data.toList<0):=by simp only [qaP,qaV,qaN,qbw] at ax;exact ax.2.1
     subst bu bv;have bN:=H1.o.2.fit;have bf:=H2.o.2.1.fit;have bi:=(qcZ .f) (ival n.data.toList).natAbs (ival d.data.toList).natAbs 67 (by decide) _ _ w5 aO aP bN bf;have bH:=qH bi;have HG:=qH (qA aO (qA aP (qA h3 (qA h4 aF))));clear bi aO aP h3 h4 ax aQ aF;go_wp2_with fail;refine bH.o.mono ?_;rintro e w7 ⟨vg,rfl,aX,bD⟩;have bq:Fit 1 67:=Fit.mono (show Fit 1 1 from (by show 1<1000000000 ^ 1;decide)) (by decide);have bn:Fit ((ival n.data.toList).natAbs.gcd (ival d.data.toList).natAbs) 67:=bf.le (Nat.gcd_le_right _ (by omega));have aN:=(qc6 .f) ((ival n.data.toList).natAbs.gcd (ival d.data.toList).natAbs) 1 67 (by decide) vg (.slice (some ⟨w7.heap.size,0,none⟩) 1 1) (w7.alloc (.cells #[.int .u32 (1:Int)] 232)) (bD.below (qB.alloc qN _)) (qeD w7 _ (by decide) (by decide)) bn bq;obtain⟨cr,ah⟩:=qX (cmp3 (((ival n.data.toList).natAbs.gcd (ival d.data.toList).natAbs:Nat):Int) ((1:Nat):Int));have aG:cr=0↔(ival n.data.toList).natAbs.gcd (ival d.data.toList).natAbs=1:=by
      rw [<-ah];unfold cmp3
      constructor
      ·intro h;split at h
       ·omega
       ·split at h
        ·omega
        ·omega
      ·intro h;rw [if_neg (by omega),if_pos (by omega)]
     rw [ah] at aN;have bG:=qH aN;have aJ:=qH aG;have aU:=qH aX;obtain⟨ag,bg,og,cg,ng,Mg,rfl,_,_⟩:=bD;clear aN ah aG aX bq bn aA aB;go_wp2_with fail;refine bG.o.mono ?_;rintro e w8 ⟨rfl,aL⟩;have O:Below w5.heap.size w5 w8:=aU.o.trans (((qB.alloc qN _:Below w7.heap.size w7 (w7.alloc (.cells #[.int .u32 (1:Int)] 232))).trans (aL.mono (by simp only [qab];omega))).mono aU.o.size);have H8:=qH (qA ((O.block _ (qG H6.o.1).1).trans H6.o.1) (H6.o.2.trans (O.mono H6.o.2.size)))
     by_cases ae:(ival n.data.toList).natAbs.gcd (ival d.data.toList).natAbs=1
     ·have ah:cr=0:=aJ.o.2 ae;have HY:Hu (FOk n.data.toList d.data.toList):=qH ⟨H1.o.2,H2.o.2.1,aH,ae⟩;have h3:=(O.block _ (qG HG.o.2.2.1).1).trans HG.o.2.2.1;have h4:=(O.block _ (qG HG.o.2.2.2.1).1).trans HG.o.2.2.2.1;have aA:=qC w8 _ 0 _ _ _ h3;have aV:=qC w8 _ 1 _ _ _ h3;have aB:=qC w8 _ 0 _ _ _ h4;have bI:=qH (qcF (cs':=#[.slice a3 n3 c3,.bool b3,.slice a4 n4 c4]) (HG.o.1.below O) H8.o.1 qd0);have bJ:=qH (qcF (cs':=#[.slice a3 n3 c3,.bool b3,.slice a4 n4 c4]) (HG.o.2.1.below O) H8.o.1 qd0);subst ah;clear h3 h4 aL O ae
      go_wp2_with (with_reducible refine sR_ rfl 138 _ _ rfl (w.heap.size+1) #[.slice a3 n3 c3,.bool b3,.slice a4 n4 c4] H8.o.1 3 ?_)
      exact qR (v:=.tuple #[.agg #[.slice a3 n3 c3,.bool b3,.slice a4 n4 c4],.bool true]) (rB_ rfl (w.heap.size+1) (qT _ _ _ _ _ _ H8.o.1) underlying138 3) rfl ⟨_,_,rfl,qan ⟨rfl,HY.o,_,_,by rw [HG.o.2.2.2.2],bI.o,bJ.o⟩,qS H8.o.2 (by omega) _⟩
     ·have HN:Hu (¬FOk n.data.toList d.data.toList):=qH (fun h=>ae h.cop);have ah:((cr:Int) == 0)=false:=by rw [beq_eq_false_iff_ne];exact fun h=>ae (aJ.o.1 h)
      have bQ:¬cr=0:=fun h=>ae (aJ.o.1 h)
      clear aL O ae
      go_wp2_with (with_reducible refine sR_ rfl 138 _ _ rfl (w.heap.size+1) #[.slice none 0 0,.bool false,.slice none 0 0] H8.o.1 3 ?_)
      exact qR (v:=.tuple #[.agg #[.slice none 0 0,.bool false,.slice none 0 0],.bool false]) (rB_ rfl (w.heap.size+1) (qT _ _ _ _ _ _ H8.o.1) underlying138 3) rfl ⟨_,_,rfl,qag ⟨rfl,HN.o,rfl⟩,qS H8.o.2 (by omega) _⟩
    ·have HN:Hu (¬FOk n.data.toList d.data.toList):=qH (fun h=>aH h.pos);have aM:cmp3 (ival d.data.toList) 0<1:=by unfold cmp3;split <;> (try split) <;> omega
     generalize cmp3 (ival d.data.toList) 0=cr at *
     go_wp2_with (with_reducible refine sR_ rfl 138 _ _ rfl (w.heap.size+1) #[.slice none 0 0,.bool false,.slice none 0 0] H6.o.1 3 ?_)
     exact qR (v:=.tuple #[.agg #[.slice none 0 0,.bool false,.slice none 0 0],.bool false]) (rB_ rfl (w.heap.size+1) (qT _ _ _ _ _ _ H6.o.1) underlying138 3) rfl ⟨_,_,rfl,qag ⟨rfl,HN.o,rfl⟩,qS H6.o.2 (by omega) _⟩
  ·have HX:=qH (qA ((af.o J Y).2) (HR.o.1.trans (Y.mono HR.o.1.size)));have HN:Hu (¬FOk n.data.toList d.data.toList):=qH (fun h=>az h.vd)
   go_wp2_with (with_reducible refine sR_ rfl 138 _ _ rfl (w.heap.size+1) #[.slice none 0 0,.bool false,.slice none 0 0] HX.o.1 3 ?_)
   exact qR (v:=.tuple #[.agg #[.slice none 0 0,.bool false,.slice none 0 0],.bool false]) (rB_ rfl (w.heap.size+1) (qT _ _ _ _ _ _ HX.o.1) underlying138 3) rfl ⟨_,_,rfl,qag ⟨rfl,HN.o,rfl⟩,qS HX.o.2 (by omega) _⟩
 ·have HX:=qH (qA ((af.o w1 V).2) (HR.o.1.trans (V.mono HR.o.1.size)));have HN:Hu (¬FOk n.data.toList d.data.toList):=qH (fun h=>aD h.vn)
  go_wp2_with (with_reducible refine sR_ rfl 138 _ _ rfl (w.heap.size+1) #[.slice none 0 0,.bool false,.slice none 0 0] HX.o.1 3 ?_)
  exact qR (v:=.tuple #[.agg #[.slice none 0 0,.bool false,.slice none 0 0],.bool false]) (rB_ rfl (w.heap.size+1) (qT _ _ _ _ _ _ HX.o.1) underlying138 3) rfl ⟨_,_,rfl,qag ⟨rfl,HN.o,rfl⟩,qS HX.o.2 (by omega) _⟩
def RatV (W:World) (v:Value) (q:Rat):Prop:=RatAt W v q.num q.den
theorem RatV.below {W W':World} {v:Value} {q:Rat} (h:RatV W v q) (F:Below W.heap.size W W'):RatV W' v q:=RatAt.below h F
theorem qcH {W:World} {v:Value} {z:Int} {d:Nat} (h:RatAt W v z d):∃(a:Option Addr) (n c:Nat) (b:Bool) (F:Option Addr) (e f:Nat),v=.agg #[.slice a n c,.bool b,.slice F e f]:=by
 obtain⟨m,o,rfl,⟨am,bm,H,cm,n,M,rfl,_,_⟩,⟨ao,bo,I,co,no,O,rfl,_,_⟩⟩:=h;exact⟨am,n,cm,_,ao,no,co,rfl⟩
def RFit (q:Rat) (K:Nat):Prop:=Fit q.num.natAbs K/\Fit q.den K
theorem row_set3 {W:World} {g:Nat} {t:TypeId} (h:W.heap[g]? = some (.cells #[.slice none 0 0,.bool false,.slice none 0 0] t (0,0))) (a:Option Addr) (n c:Nat) (b:Bool) (d:Option Addr) (e f:Nat) :
  (((W.setCell ⟨g,0,none⟩ (.slice a n c)).setCell ⟨g,1,none⟩ (.bool b)).setCell ⟨g,2,none⟩ (.slice d e f)).heap[g]? = some (.cells #[.slice a n c,.bool b,.slice d e f] t (0,0)) :=
 heap_setCell_same _ g 2 _ t _ (heap_setCell_same _ g 1 _ t _ (heap_setCell_same _ g 0 _ t _ h))
theorem rat_set3 {W:World} {v:Value} {q:Rat} {g:Nat} {t:TypeId} (O:RatV W v q) (h:W.heap[g]? = some (.cells #[.slice none 0 0,.bool false,.slice none 0 0] t (0,0))) (a:Option Addr) (n c:Nat) (b:Bool) (d:Option Addr) (e f:Nat) :
  RatV (((W.setCell ⟨g,0,none⟩ (.slice a n c)).setCell ⟨g,1,none⟩ (.bool b)).setCell ⟨g,2,none⟩ (.slice d e f)) v q:=by
 obtain⟨m,o,H,I,J⟩:=O;have F:W.grownBy (((W.setCell ⟨g,0,none⟩ (.slice a n c)).setCell ⟨g,1,none⟩ (.bool b)).setCell ⟨g,2,none⟩ (.slice d e f)) (some g):=qbZ (qbZ (qbW W g 0 _) (qbW _ g 1 _)) (qbW _ g 2 _);exact⟨m,o,H,qcp I F h qd0,qcp J F h qd0⟩
theorem qkF (p q:Rat) (K:Nat) (hK:K<=68719476736) (v u:Value) (w:World) (hv:RatV w v p) (hu:RatV w u q) (hp:RFit p K) (hq:RFit q K) :
  Calls prog 86 #[v,u] w fun e w'=>∃r,e=.returned r/\Below w.heap.size w w'/\RatV w' r (p*q):=by
 obtain⟨mx,mX,rfl,hx,hX⟩:=hv;obtain⟨my,mY,rfl,hy,hY⟩:=hu;obtain⟨x,aU⟩:=qX p.num.natAbs;obtain⟨y,aV⟩:=qX q.num.natAbs;obtain⟨X,aM⟩:=qX p.den;obtain⟨Y,aO⟩:=qX q.den;have ay:=mul_low p.reduced q.reduced (qbe p.den_nz) (qbe q.den_nz);have aL:0<X:=aM▸qbe p.den_nz;have aN:0<Y:=aO▸qbe q.den_nz;obtain⟨fx,fX⟩:=hp;obtain⟨fy,fY⟩:=hq;rw [aU] at hx fx;rw [aV] at hy fy;rw [aM] at hX fX;rw [aO] at hY fY;rw [aU,aV,aM,aO] at ay;have bg:0<x.gcd Y:=qba _ aN;have bi:0<y.gcd X:=qba _ aL;have fg:Fit (x.gcd Y) K:=fY.le (Nat.gcd_le_right _ aN);have fh:Fit (y.gcd X) K:=fX.le (Nat.gcd_le_right _ aL);have aX:∀(W:World) (m o:Value),IntAt W m (if (decide (p.num<0) != decide (q.num<0))=true then -((x / x.gcd Y*(y / y.gcd X):Nat):Int) else ((x / x.gcd Y*(y / y.gcd X):Nat):Int))->MagAt W o (X / y.gcd X*(Y / x.gcd Y))->∃a n c b d e f,m=.agg #[.slice a n c,.bool b]/\o=.slice d e f/\RatV W (.agg #[.slice a n c,.bool b,.slice d e f]) (p*q):=by
  intro W m o hm ho;obtain⟨zz,bz⟩:=qX (if (decide (p.num<0) != decide (q.num<0))=true then -((x / x.gcd Y*(y / y.gcd X):Nat):Int) else ((x / x.gcd Y*(y / y.gcd X):Nat):Int));have bS:zz.natAbs=x / x.gcd Y*(y / y.gcd X):=by rw [<-bz];split <;> omega
  have bQ:X / y.gcd X*(Y / x.gcd Y)≠0:=by
   have h1:=Nat.div_pos (qbP aL (qaW y X)) bi;have h2:=Nat.div_pos (qbP aN (qaW x Y)) bg;exact qbl (qbT h1 h2)
  have hq:=rat_mul (p:=p) (q:=q) (z:=zz) (d:=X / y.gcd X*(Y / x.gcd Y)) bQ (by rw [bS];exact ay.1) (by
   have h2:=ay.2;have e1:((x / x.gcd Y*(y / y.gcd X):Nat):Int)*(X*Y:Nat)=((x*y:Nat):Int)*(X / y.gcd X*(Y / x.gcd Y):Nat):=by rw [<-Int.natCast_mul,<-Int.natCast_mul,h2]
   have e2:p.num*q.num=if (decide (p.num<0) != decide (q.num<0))=true then -((x*y:Nat):Int) else ((x*y:Nat):Int):=by
    rw [<-aU,<-aV];exact (qiM p.num q.num).symm
   rw [aM,aO,e2,<-bz];split
   ·rw [qbz,qbz,e1]
   ·exact e1)
  rw [bz] at hm;obtain⟨a,n,c,b,rfl⟩:=qbV hm;obtain⟨m',bn,bP⟩:=hm;obtain⟨ao,bo,oo,co,no,O,rfl,Io,hO⟩:=ho;refine⟨a,n,c,b,ao,no,co,rfl,rfl,m',.slice ao no co,?_,?_,?_⟩
  ·simp only [qaP,qaV,qaN] at bn;rw [hq.1,<-bn.1,<-bn.2.1]
  ·rw [hq.1];exact bP
  ·rw [hq.2];exact⟨ao,bo,oo,co,no,O,rfl,Io,hO⟩
 have bA:=qH aX;generalize decide (p.num<0)=b0 at *;generalize decide (q.num<0)=b1 at *;have HX:=qH (qA hx (qA hX (qA hy hY)));have HF:=qH (qA fx (qA fX (qA fy fY)));have HP:=qH (qA aL (qA aN (qA bg (qA bi (qA fg fh)))));have HK:=qH hK;obtain⟨a0,_,_,c0,n0,_,rfl,_,_⟩:=hx;obtain⟨d0,_,_,f0,e0,_,rfl,_,_⟩:=hX;obtain⟨a1,_,_,c1,n1,_,rfl,_,_⟩:=hy;obtain⟨d1,_,_,f1,e1,_,rfl,_,_⟩:=hY;clear ay aX aL aN bg bi fg fh fx fX fy fY hK aU aV aM aO;obtain⟨J,aG⟩:=qY (((w.alloc (.cells #[.slice a0 n0 c0,.bool b0,.slice d0 e0 f0] 138)).alloc (.cells #[.slice a1 n1 c1,.bool b1,.slice d1 e1 f1] 138)).alloc (.cells #[.slice none 0 0,.bool false,.slice none 0 0] 138));have bH:Below w.heap.size w J:=aG▸qbU (qbU (qbU qB qN) qN) qN;have aS:J.heap[w.heap.size]? = some (.cells #[.slice a0 n0 c0,.bool b0,.slice d0 e0 f0] 138 (0,0)):=by rw [aG,qL _ _ _ (by simp only [qab];omega),qL _ _ _ (by simp only [qab];omega)];exact qM _ _ _ (by simp)
 have aT:J.heap[w.heap.size+1]? = some (.cells #[.slice a1 n1 c1,.bool b1,.slice d1 e1 f1] 138 (0,0)):=by rw [aG,qL _ _ _ (by simp only [qab];omega)];exact qM _ _ _ (by simp)
 have bu:J.heap[w.heap.size+1+1]? = some (.cells #[.slice none 0 0,.bool false,.slice none 0 0] 138 (0,0)):=by rw [aG];exact qM _ _ _ (by simp)
 have l2:w.heap.size+1+1<J.heap.size:=(qG bu).1;have az:∀W,Below (w.heap.size+1+1) J W->W.cell? ⟨w.heap.size,0,none⟩=some (.slice a0 n0 c0):=fun W h=>(h.cell (p:=⟨w.heap.size,0,none⟩) (by show w.heap.size<_;omega)).trans (qC _ _ 0 _ _ _ aS)
 have aA:∀W,Below (w.heap.size+1+1) J W->W.cell? ⟨w.heap.size,1,none⟩=some (.bool b0):=fun W h=>(h.cell (p:=⟨w.heap.size,1,none⟩) (by show w.heap.size<_;omega)).trans (qC _ _ 1 _ _ _ aS)
 have aB:∀W,Below (w.heap.size+1+1) J W->W.cell? ⟨w.heap.size,2,none⟩=some (.slice d0 e0 f0):=fun W h=>(h.cell (p:=⟨w.heap.size,2,none⟩) (by show w.heap.size<_;omega)).trans (qC _ _ 2 _ _ _ aS)
 have aC:∀W,Below (w.heap.size+1+1) J W->W.cell? ⟨w.heap.size+1,0,none⟩=some (.slice a1 n1 c1):=fun W h=>(h.cell (p:=⟨w.heap.size+1,0,none⟩) (by show w.heap.size+1<_;omega)).trans (qC _ _ 0 _ _ _ aT)
 have aD:∀W,Below (w.heap.size+1+1) J W->W.cell? ⟨w.heap.size+1,1,none⟩=some (.bool b1):=fun W h=>(h.cell (p:=⟨w.heap.size+1,1,none⟩) (by show w.heap.size+1<_;omega)).trans (qC _ _ 1 _ _ _ aT)
 have aF:∀W,Below (w.heap.size+1+1) J W->W.cell? ⟨w.heap.size+1,2,none⟩=some (.slice d1 e1 f1):=fun W h=>(h.cell (p:=⟨w.heap.size+1,2,none⟩) (by show w.heap.size+1<_;omega)).trans (qC _ _ 2 _ _ _ aT)
 have HR:=qH (qA bH bu);have ak:=qH l2;clear aS aT bu bH;go_enter func86,ntmps86;go_wp2_with fail;rw [<-aG];clear aG;refine ((qcZ .f) x Y K (by have:=HK.o;omega) _ _ J (HX.o.1.below HR.o.1) (HX.o.2.2.2.below HR.o.1) HF.o.1 HF.o.2.2.2).mono ?_;rintro e w2 ⟨vg,rfl,F,hv⟩;have Mw2_g:=qH hv;have I:Hu (Below w.heap.size w w2/\Below (w.heap.size+1+1) J w2):=qH ⟨HR.o.1.trans (F.mono HR.o.1.size),F.mono (qar ak.o)⟩;have bC:=qH ((F.block _ (qG HR.o.2).1).trans HR.o.2);obtain⟨sg,_,_,ug,tg,_,rfl,_,_⟩:=hv;clear F;have ae:=az w2 I.o.2;have af:=aA w2 I.o.2;have ag:=aB w2 I.o.2;have ah:=aC w2 I.o.2;have ai:=aD w2 I.o.2;have aj:=aF w2 I.o.2;go_wp2_with fail;refine ((qcZ .f) y X K (by have:=HK.o;omega) _ _ w2 (HX.o.2.2.1.below I.o.1) (HX.o.2.1.below I.o.1) HF.o.2.2.1 HF.o.2.1).mono ?_;rintro e w3 ⟨vh,rfl,F,hv⟩;have Mw3_g:=qH (Mw2_g.o.below F);have Mw3_h:=qH hv;have U:Hu (Below w.heap.size w w3/\Below (w.heap.size+1+1) J w3):=qH ⟨I.o.1.trans (F.mono I.o.1.size),(I.o.2).trans (F.mono (qaj (qar ak.o) (I.o.2).size))⟩;have bD:=qH ((F.block _ (qG bC.o).1).trans bC.o);obtain⟨sh,_,_,uh,th,_,rfl,_,_⟩:=hv;clear F ae;have ae:=az w3 U.o.2;clear af;have af:=aA w3 U.o.2;clear ag;have ag:=aB w3 U.o.2;clear ah;have ah:=aC w3 U.o.2;clear ai;have ai:=aD w3 U.o.2;clear aj;have aj:=aF w3 U.o.2;go_wp2_with fail;refine ((qb3 .f) x (x.gcd Y) K (by have:=HK.o;omega) _ _ w3 (HX.o.1.below U.o.1) Mw3_g.o HF.o.1 HP.o.2.2.2.2.1 HP.o.2.2.1).mono ?_;rintro e w4 ⟨va,_,rfl,F,hv,_⟩;have Mw4_g:=qH (Mw3_g.o.below F);have Mw4_h:=qH (Mw3_h.o.below F);have Mw4_a:=qH hv;have V:Hu (Below w.heap.size w w4/\Below (w.heap.size+1+1) J w4):=qH ⟨U.o.1.trans (F.mono U.o.1.size),(U.o.2).trans (F.mono (qaj (qar ak.o) (U.o.2).size))⟩;have bE:=qH ((F.block _ (qG bD.o).1).trans bD.o);obtain⟨sa,_,_,ua,ta,_,rfl,_,_⟩:=hv;clear F ae;have ae:=az w4 V.o.2;clear af;have af:=aA w4 V.o.2;clear ag;have ag:=aB w4 V.o.2;clear ah;have ah:=aC w4 V.o.2;clear ai;have ai:=aD w4 V.o.2;clear aj;have aj:=aF w4 V.o.2;go_wp2_with fail;refine ((qb3 .f) X (y.gcd X) K (by have:=HK.o;omega) _ _ w4 (HX.o.2.1.below V.o.1) Mw4_h.o HF.o.2.1 HP.o.2.2.2.2.2 HP.o.2.2.2.1).mono ?_;rintro e w5 ⟨vb,_,rfl,F,hv,_⟩;have Mw5_g:=qH (Mw4_g.o.below F);have Mw5_h:=qH (Mw4_h.o.below F);have Mw5_a:=qH (Mw4_a.o.below F);have Mw5_b:=qH hv;have Z:Hu (Below w.heap.size w w5/\Below (w.heap.size+1+1) J w5):=qH ⟨V.o.1.trans (F.mono V.o.1.size),(V.o.2).trans (F.mono (qaj (qar ak.o) (V.o.2).size))⟩;have bF:=qH ((F.block _ (qG bE.o).1).trans bE.o);obtain⟨sb,_,_,ub,tb,_,rfl,_,_⟩:=hv;clear F ae;have ae:=az w5 Z.o.2;clear af;have af:=aA w5 Z.o.2;clear ag;have ag:=aB w5 Z.o.2;clear ah;have ah:=aC w5 Z.o.2;clear ai;have ai:=aD w5 Z.o.2;clear aj;have aj:=aF w5 Z.o.2;go_wp2_with fail;refine ((qb3 .f) y (y.gcd X) K (by have:=HK.o;omega) _ _ w5 (HX.o.2.2.1.below Z.o.1) Mw5_h.o HF.o.2.2.1 HP.o.2.2.2.2.2 HP.o.2.2.2.1).mono ?_;rintro e w6 ⟨vc,_,rfl,F,hv,_⟩;have Mw6_g:=qH (Mw5_g.o.below F);have Mw6_h:=qH (Mw5_h.o.below F);have Mw6_a:=qH (Mw5_a.o.below F);have Mw6_b:=qH (Mw5_b.o.below F);have Mw6_c:=qH hv;have aa:Hu (Below w.heap.size w w6/\Below (w.heap.size+1+1) J w6):=qH ⟨Z.o.1.trans (F.mono Z.o.1.size),(Z.o.2).trans (F.mono (qaj (qar ak.o) (Z.o.2).size))⟩;have bG:=qH ((F.block _ (qG bF.o).1).trans bF.o);obtain⟨sc,_,_,uc,tc,_,rfl,_,_⟩:=hv;clear F ae;have ae:=az w6 aa.o.2;clear af;have af:=aA w6 aa.o.2;clear ag;have ag:=aB w6 aa.o.2;clear ah;have ah:=aC w6 aa.o.2;clear ai;have ai:=aD w6 aa.o.2;clear aj;have aj:=aF w6 aa.o.2;go_wp2_with fail;refine ((qb3 .f) Y (x.gcd Y) K (by have:=HK.o;omega) _ _ w6 (HX.o.2.2.2.below aa.o.1) Mw6_g.o HF.o.2.2.2 HP.o.2.2.2.2.1 HP.o.2.2.1).mono ?_;rintro e w7 ⟨vd,_,rfl,F,hv,_⟩;have Mw7_g:=qH (Mw6_g.o.below F);have Mw7_h:=qH (Mw6_h.o.below F);have Mw7_a:=qH (Mw6_a.o.below F);have Mw7_b:=qH (Mw6_b.o.below F);have Mw7_c:=qH (Mw6_c.o.below F);have Mw7_d:=qH hv;have av:Hu (Below w.heap.size w w7/\Below (w.heap.size+1+1) J w7):=qH ⟨aa.o.1.trans (F.mono aa.o.1.size),(aa.o.2).trans (F.mono (qaj (qar ak.o) (aa.o.2).size))⟩;have bO:=qH ((F.block _ (qG bG.o).1).trans bG.o);obtain⟨sd,_,_,ud,td,_,rfl,_,_⟩:=hv;clear F ae;have ae:=az w7 av.o.2;clear af;have af:=aA w7 av.o.2;clear ag;have ag:=aB w7 av.o.2;clear ah;have ah:=aC w7 av.o.2;clear ai;have ai:=aD w7 av.o.2;clear aj;have aj:=aF w7 av.o.2;have bM:=qH (fun (W:World) (h:Below w7.heap.size w7 W)=>(qch .f) (x / x.gcd Y) (y / y.gcd X) K K (by have:=HK.o;omega) (.slice sa ta ua) (.slice sc tc uc) W (Mw7_a.o.below h) (Mw7_c.o.below h) (HF.o.1.le (qaR _ _)) (HF.o.2.2.1.le (qaR _ _)));have bN:=qH (fun (W:World) (h:Below w7.heap.size w7 W)=>(qch .f) (X / y.gcd X) (Y / x.gcd Y) K K (by have:=HK.o;omega) (.slice sb tb ub) (.slice sd td ud) W (Mw7_b.o.below h) (Mw7_d.o.below h) (HF.o.2.1.le (qaR _ _)) (HF.o.2.2.2.le (qaR _ _)));have HS:=qH (fun (W:World) (m:Value) (h:MagAt W m (x / x.gcd Y*(y / y.gcd X)))=>(qb6 .f) (x / x.gcd Y*(y / y.gcd X)) (b0 != b1) m W h);have bv:Below (w.heap.size+1+1) J w7:=av.o.2;have aY:Below (w.heap.size+1+1) J w7.drew:=bv.drew;have bK:w.heap.size+1+1<w7.heap.size:=qai ak.o bv.size;have bB:=qH bK;clear bK;go_wp2_with fail
 go_region_held3 (fun W=>Below (w.heap.size+1+1) J W) (first | with_reducible exact bv | with_reducible exact aY | with_reducible exact aI | with_reducible exact bf | with_reducible exact aZ | ((iterate 3 refine Below.setCell ?_ (by exact qae _) _);exact aI)) (first | (go_at_call_of 155 (Value.slice sa ta ua);refine (bM.o _ (qB.drew)).mono ?_;rintro e w8 ⟨p8,rfl,aQ,bJ⟩;have aZ:Below (w.heap.size+1+1) J w8:=aY.trans (aQ.mono (qar bB.o));have aK:=qH (qA bJ (qA ((aQ.block _ bB.o).trans bO.o) (((Below.refl w7.heap.size w7).drew).trans aQ)));clear aQ bJ) | (go_at_call 95;refine (HS.o _ _ aK.o.1).mono ?_;rintro e w9 ⟨p9,rfl,aR,bq⟩;have bf:Below (w.heap.size+1+1) J w9:=aZ.trans (aR.mono (qaj (qar ak.o) aZ.size));obtain⟨a9,n9,c9,b9,rfl⟩:=qbV bq;have aP:=qH (qA bq (qA ((aR.block _ (qG aK.o.2.1).1).trans aK.o.2.1) (aK.o.2.2.trans (aR.mono aK.o.2.2.size))));clear aR bq) | (go_at_call_of 155 (Value.slice sb tb ub);refine (bN.o _ aP.o.2.2).mono ?_;rintro e au ⟨bT,rfl,ax,aW⟩;have aI:Below (w.heap.size+1+1) J au:=bf.trans (ax.mono (qaj (qar ak.o) bf.size));obtain⟨a8,n8,c8,b8,d8,e8,f8,aH,bR,bL⟩:=bA.o au _ _ (aP.o.1.below ax) aW;have H:=(ax.block _ (qG aP.o.2.1).1).trans aP.o.2.1;subst bR;have e0:=qC au _ 0 _ _ _ H;have e1:=qC au _ 1 _ _ _ H;have e2:=qC au _ 2 _ _ _ H;have f0:=qF au _ 0 _ _ H;have f1:=qF au _ 1 _ _ H;have f2:=qF au _ 2 _ _ H;have bI:a8=a9/\n8=n9/\c8=c9/\b8=b9:=(by simp only [qaP,qaV,qaN,qbH,qbw] at aH;exact⟨aH.1.1.symm,aH.1.2.1.symm,aH.1.2.2.symm,aH.2.1.symm⟩);obtain⟨rfl,rfl,rfl,rfl⟩:=bI;have aJ:=qH (qA bL H);clear ax aW aH bL H))
 go_wp2_with fail;exact qR (v:=.agg #[.slice a8 n8 c8,.bool b8,.slice d8 e8 f8]) (rA_ rfl (w.heap.size+1+1) (row_set3 aJ.o.2 a8 n8 c8 b8 d8 e8 f8) underlying138 3) rfl ⟨_,rfl,HR.o.1.trans ((((aI.setCell (by exact qae _) _).setCell (by exact qae _) _).setCell (by exact qae _) _).mono (by omega)),rat_set3 aJ.o.1 aJ.o.2 _ _ _ _ _ _ _⟩
def One (F W:World) (g:Nat) (v:Option Addr×Nat×Nat×Bool) (z:Int):Prop :=
 W.heap[g]? = some (.cells #[.slice v.1 v.2.1 v.2.2.1,.bool v.2.2.2] 136 (0,0))/\IntAt W (.agg #[.slice v.1 v.2.1 v.2.2.1,.bool v.2.2.2]) z/\Below F.heap.size F W
theorem qeT {W:World} {v:Value} {q:Rat} {g:Nat} {t:TypeId} {cs':Array Value} (J:RatV W v q) (h:W.heap[g]? = some (.cells #[.slice none 0 0,.bool false,.slice none 0 0] t (0,0))):RatV (W.setRow g cs') v q:=by
 obtain⟨m,o,F,H,I⟩:=J;exact⟨m,o,F,qcF H h qd0,qcF I h qd0⟩
theorem one_a {F W:World} {a:Option Addr} {n c:Nat} {b:Bool} {z:Int} (h:IntAt W (.agg #[.slice a n c,.bool b]) z) (H:Below F.heap.size F W) :
  One F (W.alloc (.cells #[.slice a n c,.bool b] 136)) W.heap.size (a,n,c,b) z :=
 ⟨qM _ _ _ rfl,h.below (qbU qB qN),qbU H qN⟩
theorem one_p {F W:World} {g:Nat} {a:Option Addr} {n c:Nat} {b:Bool} {z:Int} (h:IntAt W (.agg #[.slice a n c,.bool b]) z) (H:Below F.heap.size F W) (hg:F.heap.size<=g) (I:W.heap[g]? = some (.cells #[.slice none 0 0,.bool false] 136 (0,0))) :
  One F ((W.setCell ⟨g,0,none⟩ (.slice a n c)).setCell ⟨g,1,none⟩ (.bool b)) g (a,n,c,b) z:=by
 obtain⟨p1,p2,p3⟩:=qgW I a n c b;exact⟨p1,p3 _ _ _ h,(H.setCell (by exact hg) _).setCell (by exact hg) _⟩
theorem qkE (p q:Rat) (K:Nat) (hK:K<=34359738368) (v u:Value) (w:World) (J:RatV w v p) (hu:RatV w u q) (hp:RFit p K) (hq:RFit q K) :
  Calls prog 87 #[v,u] w fun e w'=>∃r,e=.returned r/\Below w.heap.size w w'/\RatV w' r (p+q):=by
 obtain⟨mx,mX,rfl,hx,hX⟩:=J;obtain⟨my,mY,rfl,hy,hY⟩:=hu;obtain⟨x,bg⟩:=qX p.num;obtain⟨y,bi⟩:=qX q.num;obtain⟨X,aK⟩:=qX p.den;obtain⟨Y,aL⟩:=qX q.den;have aj:=add_low p.reduced q.reduced (qbe p.den_nz);have aV:0<X:=aK▸qbe p.den_nz;have aW:0<Y:=aL▸qbe q.den_nz;obtain⟨fx,fX⟩:=hp;obtain⟨fy,fY⟩:=hq;rw [bg] at hx fx ⊢;rw [bi] at hy fy ⊢;rw [aK] at hX fX;rw [aL] at hY fY;rw [bg,bi,aK,aL] at aj;have aN:0<X.gcd Y:=Nat.gcd_pos_of_pos_left _ aV;have fg:Fit (X.gcd Y) K:=fY.le (Nat.gcd_le_right _ aW);obtain⟨l,hl⟩:=qX (Y / X.gcd Y);obtain⟨r,hr⟩:=qX (X / X.gcd Y);have fl:Fit l K:=hl▸fY.le (qaR _ _);have fr:Fit r K:=hr▸fX.le (qaR _ _);have ak:0<r:=hr▸Nat.div_pos (qbP aV (qbN X Y)) aN;obtain⟨S,hS⟩:=qX (x*l+y*r:Int);have ah:=aj S (by rw [hl,hr];exact hS.symm);rw [hr] at ah;have g1:Fit (x*l).natAbs (K+K):=by rw [qaF,qam];exact fx.mul fl
 have g2:Fit (y*r).natAbs (K+K):=by rw [qaF,qam];exact fy.mul fr
 have fS:Fit S.natAbs (K+K+1):=by rw [<-hS];exact (Fit.add g1 g2).le (qbF _ _)
 have aX:0<S.natAbs.gcd (X.gcd Y):=qba _ aN;have fh:Fit (S.natAbs.gcd (X.gcd Y)) K:=fg.le (Nat.gcd_le_right _ aN);obtain⟨h,hh⟩:=qX (S.natAbs.gcd (X.gcd Y));rw [hh] at ah aX fh;have bN:h∣Y:=hh▸Nat.dvd_trans (qaW _ _) (qaW _ _);have bq:∀(W:World) (m o:Value),IntAt W m (if decide (S<0)=true then -((S.natAbs / h:Nat):Int) else ((S.natAbs / h:Nat):Int))->MagAt W o (r*(Y / h))->∃a n c b d e f,m=.agg #[.slice a n c,.bool b]/\o=.slice d e f/\RatV W (.agg #[.slice a n c,.bool b,.slice d e f]) (p+q):=by
  intro W m o hm ho;have dn:(if decide (S<0)=true then -((S.natAbs / h:Nat):Int) else ((S.natAbs / h:Nat):Int))=S.tdiv (h:Int):=by
   have:=qiL S (h:Int);rw [qU (by omega:¬(h:Int)<0),Bool.bne_false,qam] at this;exact this
  rw [dn] at hm;have dw:(S.tdiv (h:Int)).natAbs=S.natAbs / h:=by rw [Int.natAbs_tdiv,qam];rfl
  have di:r*(Y / h)≠0:=qbl (qbT ak (Nat.div_pos (qbP aW bN) aX));have hq:=rat_add (p:=p) (q:=q) (z:=S.tdiv (h:Int)) (d:=r*(Y / h)) di (by rw [dw];exact ah.1) (by
   rw [bg,bi,aK,aL];exact ah.2)
  obtain⟨a,n,c,b,rfl⟩:=qbV hm;obtain⟨m',bu,dh⟩:=hm;obtain⟨ao,bo,oo,co,no,O,rfl,Io,hO⟩:=ho;refine⟨a,n,c,b,ao,no,co,rfl,rfl,m',.slice ao no co,?_,?_,?_⟩
  ·simp only [qaP,qaV,qaN] at bu;rw [hq.1,<-bu.1,<-bu.2.1]
  ·rw [hq.1];exact dh
  ·rw [hq.2];exact⟨ao,bo,oo,co,no,O,rfl,Io,hO⟩
 have bB:=qH bq;have bO:∀W a n c,MagAt W (.slice a n c) x.natAbs->IntAt W (.agg #[.slice a n c,.bool (decide (x<0))]) x:=fun W a n c h=>⟨_,rfl,h⟩
 have bP:∀W a n c,MagAt W (.slice a n c) y.natAbs->IntAt W (.agg #[.slice a n c,.bool (decide (y<0))]) y:=fun W a n c h=>⟨_,rfl,h⟩
 generalize decide (x<0)=b0 at *;generalize decide (y<0)=b1 at *;have HX:=qH (qA hx (qA hX (qA hy hY)));have HF:=qH (qA fx (qA fX (qA fy fY)));have ag:=qH (qA fl (qA fr (qA g1 (qA g2 (qA fS fh)))));have HP:=qH (qA aV (qA aW (qA aN (qA aX fg))));have HE:=qH (qA hl (qA hr (qA hS hh)));have HK:=qH hK;have bY:=qH bO;have bZ:=qH bP;obtain⟨a0,_,_,c0,n0,_,rfl,_,_⟩:=hx;obtain⟨d0,_,_,f0,e0,_,rfl,_,_⟩:=hX;obtain⟨a1,_,_,c1,n1,_,rfl,_,_⟩:=hy;obtain⟨d1,_,_,f1,e1,_,rfl,_,_⟩:=hY;clear ah aj bq aV aW aN aX fg fh fx fX fy fY hK bg bi aK aL hl hr hS hh fl fr fS g1 g2 ak bN bO bP;obtain⟨W1,aB⟩:=qY (((w.alloc (.cells #[.slice a0 n0 c0,.bool b0,.slice d0 e0 f0] 138)).alloc (.cells #[.slice a1 n1 c1,.bool b1,.slice d1 e1 f1] 138)).alloc (.cells #[.slice none 0 0,.bool false,.slice none 0 0] 138));have bL:Below w.heap.size w W1:=aB▸qbU (qbU (qbU qB qN) qN) qN;have ak:W1.heap[w.heap.size]? = some (.cells #[.slice a0 n0 c0,.bool b0,.slice d0 e0 f0] 138 (0,0)):=by rw [aB,qL _ _ _ (by simp only [qab];omega),qL _ _ _ (by simp only [qab];omega)];exact qM _ _ _ (by simp)
 have bf:W1.heap[w.heap.size+1]? = some (.cells #[.slice a1 n1 c1,.bool b1,.slice d1 e1 f1] 138 (0,0)):=by rw [aB,qL _ _ _ (by simp only [qab];omega)];exact qM _ _ _ (by simp)
 have bA:W1.heap[w.heap.size+1+1]? = some (.cells #[.slice none 0 0,.bool false,.slice none 0 0] 138 (0,0)):=by rw [aB];exact qM _ _ _ (by simp)
 have l2:w.heap.size+1+1<W1.heap.size:=(qG bA).1;have av:∀W,Below (w.heap.size+1+1) W1 W->W.cell? ⟨w.heap.size,0,none⟩=some (.slice a0 n0 c0):=fun W h=>(h.cell (p:=⟨w.heap.size,0,none⟩) (by show w.heap.size<_;omega)).trans (qC _ _ 0 _ _ _ ak)
 have ax:∀W,Below (w.heap.size+1+1) W1 W->W.cell? ⟨w.heap.size,1,none⟩=some (.bool b0):=fun W h=>(h.cell (p:=⟨w.heap.size,1,none⟩) (by show w.heap.size<_;omega)).trans (qC _ _ 1 _ _ _ ak)
 have aF:∀W,Below (w.heap.size+1+1) W1 W->W.cell? ⟨w.heap.size,2,none⟩=some (.slice d0 e0 f0):=fun W h=>(h.cell (p:=⟨w.heap.size,2,none⟩) (by show w.heap.size<_;omega)).trans (qC _ _ 2 _ _ _ ak)
 have ay:∀W,Below (w.heap.size+1+1) W1 W->W.cell? ⟨w.heap.size+1,0,none⟩=some (.slice a1 n1 c1):=fun W h=>(h.cell (p:=⟨w.heap.size+1,0,none⟩) (by show w.heap.size+1<_;omega)).trans (qC _ _ 0 _ _ _ bf)
 have az:∀W,Below (w.heap.size+1+1) W1 W->W.cell? ⟨w.heap.size+1,1,none⟩=some (.bool b1):=fun W h=>(h.cell (p:=⟨w.heap.size+1,1,none⟩) (by show w.heap.size+1<_;omega)).trans (qC _ _ 1 _ _ _ bf)
 have aG:∀W,Below (w.heap.size+1+1) W1 W->W.cell? ⟨w.heap.size+1,2,none⟩=some (.slice d1 e1 f1):=fun W h=>(h.cell (p:=⟨w.heap.size+1,2,none⟩) (by show w.heap.size+1<_;omega)).trans (qC _ _ 2 _ _ _ bf)
 have HR:=qH (qA bL bA);have aA:=qH l2;clear ak bf bA bL;go_enter func87,ntmps87;go_wp2_with fail;rw [<-aB];clear aB;refine ((qcZ .f) X Y K (by have:=HK.o;omega) _ _ W1 (HX.o.2.1.below HR.o.1) (HX.o.2.2.2.below HR.o.1) HF.o.2.1 HF.o.2.2.2).mono ?_;rintro e w2 ⟨vg,rfl,F,J⟩;have Mw2_g:=qH J;have ae:Hu (Below w.heap.size w w2/\Below (w.heap.size+1+1) W1 w2):=qH ⟨HR.o.1.trans (F.mono HR.o.1.size),F.mono (qar aA.o)⟩;have bI:=qH ((F.block _ (qG HR.o.2).1).trans HR.o.2);obtain⟨sg,_,_,ug,tg,_,rfl,_,_⟩:=J;clear F;have aP:=av w2 ae.o.2;have aQ:=ax w2 ae.o.2;have aR:=aF w2 ae.o.2;have aS:=ay w2 ae.o.2;have aT:=az w2 ae.o.2;have au:=aG w2 ae.o.2;go_wp2_with fail;refine ((qb3 .f) Y (X.gcd Y) K (by have:=HK.o;omega) _ _ w2 (HX.o.2.2.2.below ae.o.1) Mw2_g.o HF.o.2.2.2 HP.o.2.2.2.2 HP.o.2.2.1).mono ?_;rintro e w3 ⟨vl,_,rfl,F,J,_⟩;rw [HE.o.1] at J;have Mw3_g:=qH (Mw2_g.o.below F);have Mw3_l:=qH J;have af:Hu (Below w.heap.size w w3/\Below (w.heap.size+1+1) W1 w3):=qH ⟨ae.o.1.trans (F.mono ae.o.1.size),(ae.o.2).trans (F.mono (qaj (qar aA.o) (ae.o.2).size))⟩;have bJ:=qH ((F.block _ (qG bI.o).1).trans bI.o);obtain⟨sl,_,_,ul,tl,_,rfl,_,_⟩:=J;clear F aP;have aP:=av w3 af.o.2;clear aQ;have aQ:=ax w3 af.o.2;clear aR;have aR:=aF w3 af.o.2;clear aS;have aS:=ay w3 af.o.2;clear aT;have aT:=az w3 af.o.2;clear au;have au:=aG w3 af.o.2;go_wp2_with fail;refine ((qb3 .f) X (X.gcd Y) K (by have:=HK.o;omega) _ _ w3 (HX.o.2.1.below af.o.1) Mw3_g.o HF.o.2.1 HP.o.2.2.2.2 HP.o.2.2.1).mono ?_;rintro e I ⟨vr,_,rfl,F,J,_⟩;rw [HE.o.2.1] at J;have Mw4_g:=qH (Mw3_g.o.below F);have Mw4_l:=qH (Mw3_l.o.below F);have Mw4_r:=qH J;have H:Hu (Below w.heap.size w I/\Below (w.heap.size+1+1) W1 I):=qH ⟨af.o.1.trans (F.mono af.o.1.size),(af.o.2).trans (F.mono (qaj (qar aA.o) (af.o.2).size))⟩;have bK:=qH ((F.block _ (qG bJ.o).1).trans bJ.o);obtain⟨sr,_,_,ur,tr,_,rfl,_,_⟩:=J;clear F aP;have aP:=av I H.o.2;clear aQ;have aQ:=ax I H.o.2;clear aR;have aR:=aF I H.o.2;clear aS;have aS:=ay I H.o.2;clear aT;have aT:=az I H.o.2;clear au;have au:=aG I H.o.2;have aD:Below I.heap.size I I:=Below.refl _ _;have bR:Below I.heap.size I I.drew:=aD.drew;have df:∀W:World,W.drew.heap.size=W.heap.size:=fun _=>rfl
 have aO:w.heap.size+1+1<I.heap.size:=qai aA.o H.o.2.size;have bU:∀W,Below I.heap.size I W->W.cell? ⟨w.heap.size,0,none⟩=some (.slice a0 n0 c0):=fun W h=>av W (H.o.2.trans (h.mono (qar aO)))
 have bV:∀W,Below I.heap.size I W->W.cell? ⟨w.heap.size,1,none⟩=some (.bool b0):=fun W h=>ax W (H.o.2.trans (h.mono (qar aO)))
 have bW:∀W,Below I.heap.size I W->W.cell? ⟨w.heap.size+1,0,none⟩=some (.slice a1 n1 c1):=fun W h=>ay W (H.o.2.trans (h.mono (qar aO)))
 have bX:∀W,Below I.heap.size I W->W.cell? ⟨w.heap.size+1,1,none⟩=some (.bool b1):=fun W h=>az W (H.o.2.trans (h.mono (qar aO)))
 have HC:=qH (qA av (qA ax (qA aF (qA ay (qA az aG)))));clear av ax aF ay az aG aP aQ aR aS aT au;go_upto_region 4 with fail
 go_cut [10] (fun x10 W=>∃(g7:Nat) (a7:Option Addr) (n7 c7:Nat) (b7:Bool),x10=.pointer (some ⟨g7,0,none⟩)/\One I W g7 (a7,n7,c7,b7) S)
 case first =>
  go_region_held3 (fun W=>Below I.heap.size I W) (first | with_reducible exact aD | with_reducible exact bR | with_reducible exact V | with_reducible exact aa | with_reducible exact U | ((repeat (first | refine Below.setCell ?_ (by first | exact qae _ | exact V.size | exact aa.size | exact U.size | exact qao qN) _ | refine qbU ?_ qN | refine Below.drew ?_));first | exact V | exact aa | exact U | exact aD)) (first | (go_at_call_of 133 (Value.slice sl tl ul);refine ((qct .f) x l K K (by have:=HK.o;omega) _ _ _ (bY.o _ _ _ _ (HX.o.1.below (H.o.1.trans (Below.mono (by ((repeat (first | refine Below.setCell ?_ (by first | exact qae _ | exact V.size | exact aa.size | exact U.size | exact qao qN) _ | refine qbU ?_ qN | refine Below.drew ?_));first | exact aD)) H.o.1.size)))) (Mw4_l.o.below (by ((repeat (first | refine Below.setCell ?_ (by first | exact qae _ | exact V.size | exact aa.size | exact U.size | exact qao qN) _ | refine qbU ?_ qN | refine Below.drew ?_));first | exact aD))) HF.o.1 ag.o.1).mono ?_;rintro e w5 ⟨p5,rfl,aM,bv⟩;have U:Below I.heap.size I w5:=bjoin (by ((repeat (first | refine Below.setCell ?_ (by first | exact qae _ | exact V.size | exact aa.size | exact U.size | exact qao qN) _ | refine qbU ?_ qN | refine Below.drew ?_));first | exact aD)) aM;obtain⟨a5,n5,c5,b5,rfl⟩:=qbV bv;obtain⟨k5,dA⟩:=bcell aM;have Z5:=qH (zkeep aM);have s5:_<=_:=aM.size;(try simp only [qab,df] at s5);have I5:=qH bv;(try have q5:I.heap.size<w5.heap.size:=by omega);clear aM bv) | (go_at_call_of 133 (Value.slice sr tr ur);refine ((qct .f) y r K K (by have:=HK.o;omega) _ _ _ (bZ.o _ _ _ _ (HX.o.2.2.1.below (H.o.1.trans (Below.mono (by ((repeat (first | refine Below.setCell ?_ (by first | exact qae _ | exact V.size | exact aa.size | exact U.size | exact qao qN) _ | refine qbU ?_ qN | refine Below.drew ?_));first | exact U)) H.o.1.size)))) (Mw4_r.o.below (by ((repeat (first | refine Below.setCell ?_ (by first | exact qae _ | exact V.size | exact aa.size | exact U.size | exact qao qN) _ | refine qbU ?_ qN | refine Below.drew ?_));first | exact U))) HF.o.2.2.1 ag.o.2.1).mono ?_;rintro e w6 ⟨p6,rfl,ai,bz⟩;have aa:Below I.heap.size I w6:=bjoin (by ((repeat (first | refine Below.setCell ?_ (by first | exact qae _ | exact V.size | exact aa.size | exact U.size | exact qao qN) _ | refine qbU ?_ qN | refine Below.drew ?_));first | exact U)) ai;obtain⟨a6,n6,c6,b6,rfl⟩:=qbV bz;obtain⟨k6,dB⟩:=bcell ai;have Z6:=qH (zkeep ai);have s6:_<=_:=ai.size;(try simp only [qab] at s6);have J6:Hu (IntAt w6 _ _):=qH (by first | exact I5.o.below ai | exact (I5.o.below (qbU qB qN)).below ai);have I6:=qH bz;(try have q6:I.heap.size<w6.heap.size:=by omega);(try have r6:w5.heap.size<w6.heap.size:=by omega);clear ai bz) | (go_at_call 134;refine ((qde .f) (x*(l:Int)) (y*(r:Int)) (K+K) (by have:=HK.o;omega) _ _ _ (by first | exact J6.o | exact J6.o.below (qbU qB qN)) (by first | exact I6.o | exact I6.o.below (qbU qB qN)) ag.o.2.2.1 ag.o.2.2.2.1).mono ?_;rintro e w7 ⟨p7,rfl,Z,aZ⟩;rw [HE.o.2.2.1] at aZ;have V:Below I.heap.size I w7:=bjoin (by ((repeat (first | refine Below.setCell ?_ (by first | exact qae _ | exact V.size | exact aa.size | exact U.size | exact qao qN) _ | refine qbU ?_ qN | refine Below.drew ?_));first | exact aa)) Z;obtain⟨a7,n7,c7,b7,rfl⟩:=qbV aZ;obtain⟨k7,dC⟩:=bcell Z;have Z7:=qH (zkeep Z);have s7:_<=_:=Z.size;(try simp only [qab] at s7);have I7:=qH aZ;(try have q7:I.heap.size<w7.heap.size:=by omega);(try have r7:w5.heap.size<w7.heap.size:=by omega);(try have t7:w6.heap.size<w7.heap.size:=by omega);clear Z aZ))
  all_goals go_wp2_with fail
  all_goals go_meet
  all_goals refine⟨_,a7,n7,c7,b7,rfl,?_⟩
  all_goals first
   | with_reducible exact one_a I7.o V
   | (with_reducible refine one_p I7.o V ?_ ?_;(first | exact qae _ | exact U.size | exact aa.size | exact V.size);(refine Z7.o _ _ ?_;first | (refine qM _ _ _ ?_;((try simp only) <;> omega)) | (refine Z6.o _ _ ?_;first | (refine qM _ _ _ ?_;((try simp only) <;> omega)) | (refine Z5.o _ _ ?_;(try with_reducible refine zdrew ?_);(refine qM _ _ _ ?_;((try simp only) <;> omega))))))
 case rest =>
  obtain⟨g7,a7,n7,c7,b7,rfl,h7,i7,Z⟩:=hcut;dsimp only at h7 i7;obtain⟨m7,aY,bM⟩:=i7;have e7:m7=.slice a7 n7 c7/\b7=decide (S<0):=by
   simp only [qaP,qaV,qaN,qbw] at aY;exact⟨aY.1.symm,aY.2.1⟩
  obtain⟨rfl,bn⟩:=e7;have aJ:=qH (qA bM (qA h7 (qA Z bn)));have HB:=qH (qA (H.o.1.trans (Z.mono H.o.1.size)) (qA (H.o.2.trans (Z.mono (qar aO))) ((Z.block _ (qG bK.o).1).trans bK.o)));have Mg:=qH (Mw4_g.o.below Z);have Mr:=qH (Mw4_r.o.below Z);have q0:=qC wc _ 0 _ _ _ h7;clear aY bM h7 Z bn bU bV bW bX;go_wp2_with fail;refine ((qcZ .f) S.natAbs (X.gcd Y) (K+K+1) (by have:=HK.o;omega) _ _ wc aJ.o.1 Mg.o ag.o.2.2.2.2.1 (HP.o.2.2.2.2.mono (by omega))).mono ?_;rintro e w8 ⟨vh,rfl,F,J⟩;rw [HE.o.2.2.2] at J;have bC:=qH J;have cz:=qH (aJ.o.1.below F);have cO:=qH (Mr.o.below F);have H8:=qH (qA (HB.o.1.trans (F.mono HB.o.1.size)) (qA (HB.o.2.1.trans (F.mono (qaj (qar aA.o) HB.o.2.1.size))) (qA ((F.block _ (qG HB.o.2.2).1).trans HB.o.2.2) ((F.block _ (qG aJ.o.2.1).1).trans aJ.o.2.1))));have q0:=qC w8 _ 0 _ _ _ H8.o.2.2.2;obtain⟨sh,_,_,uh,th,_,rfl,_,_⟩:=J;clear F;go_wp2_with fail;refine ((qb3 .f) S.natAbs h (K+K+1) (by have:=HK.o;omega) _ _ w8 cz.o bC.o ag.o.2.2.2.2.1 (ag.o.2.2.2.2.2.mono (by omega)) HP.o.2.2.2.1).mono ?_;rintro e w9 ⟨vn,_,rfl,F,J,_⟩;have cB:=qH (bC.o.below F);have cK:=qH J;have cZ:=qH (cO.o.below F);have H9:=qH (qA (H8.o.1.trans (F.mono H8.o.1.size)) (qA (H8.o.2.1.trans (F.mono (qaj (qar aA.o) H8.o.2.1.size))) (qA ((F.block _ (qG H8.o.2.2.1).1).trans H8.o.2.2.1) ((F.block _ (qG H8.o.2.2.2).1).trans H8.o.2.2.2))));have au:=HC.o.2.2.2.2.2 w9 H9.o.2.1;have q1:=qC w9 _ 1 _ _ _ H9.o.2.2.2;obtain⟨sn,_,_,un,tn,_,rfl,_,_⟩:=J;clear F q0;go_wp2_with fail;refine ((qb3 .f) Y h K (by have:=HK.o;omega) _ _ w9 (HX.o.2.2.2.below H9.o.1) cB.o HF.o.2.2.2 ag.o.2.2.2.2.2 HP.o.2.2.2.1).mono ?_;rintro e bT ⟨vt,_,rfl,F,J,_⟩;have bG:=qH J;have bD:=qH (cK.o.below F);have bE:=qH (cZ.o.below F);have aH:=qH (qA (H9.o.1.trans (F.mono H9.o.1.size)) (qA ((F.block _ (qG H9.o.2.2.1).1).trans H9.o.2.2.1) ((F.block _ (qG H9.o.2.2.2).1).trans H9.o.2.2.2)));have q1:=qC bT _ 1 _ _ _ aH.o.2.2;obtain⟨st,_,_,ut,tt,_,rfl,_,_⟩:=J;clear F au;go_wp2_with fail;refine ((qb6 .f) (S.natAbs / h) b7 _ bT bD.o).mono ?_;rintro e dx ⟨dD,rfl,F,J⟩;rw [aJ.o.2.2.2] at J;have cu:=qH J;have bH:=qH (bG.o.below F);have bF:=qH (bE.o.below F);have aU:=qH (qA (aH.o.1.trans (F.mono aH.o.1.size)) ((F.block _ (qG aH.o.2.1).1).trans aH.o.2.1));obtain⟨a9,n9,c9,b9,rfl⟩:=qbV J;clear F J q1;go_wp2_with fail;refine ((qch .f) r (Y / h) K K (by have:=HK.o;omega) _ _ dx bF.o bH.o ag.o.2.1 (HF.o.2.2.2.le (qaR _ _))).mono ?_;rintro e dz ⟨dE,rfl,F,J⟩;obtain⟨a8,n8,c8,b8,d8,e8,f8,aC,dm,bS⟩:=bB.o dz _ _ (cu.o.below F) J;have bQ:a8=a9/\n8=n9/\c8=c9/\b8=b9:=by
   simp only [qaP,qaV,qaN,qbH,qbw] at aC;exact⟨aC.1.1.symm,aC.1.2.1.symm,aC.1.2.2.symm,aC.2.1.symm⟩
  obtain⟨rfl,rfl,rfl,rfl⟩:=bQ;subst dm;have aI:=qH (qA ((F.block _ (qG aU.o.2).1).trans aU.o.2) (qA (aU.o.1.trans (F.mono aU.o.1.size)) bS));clear F J aC bS
  go_wp2_with (with_reducible refine sR_ rfl 138 _ _ rfl (w.heap.size+1+1) #[.slice a8 n8 c8,.bool b8,.slice d8 e8 f8] aI.o.1 3 ?_)
  exact qR (v:=.agg #[.slice a8 n8 c8,.bool b8,.slice d8 e8 f8]) (rA_ rfl (w.heap.size+1+1) (qT _ _ _ _ _ _ aI.o.1) underlying138 3) rfl ⟨_,rfl,qS aI.o.2.1 (by omega) _,qeT aI.o.2.2 aI.o.1⟩
def fval (n d:List UInt8):Rat:=mkRat (ival n) (ival d).natAbs
theorem FOk.val {n d:List UInt8} (h:FOk n d):(fval n d).num=ival n/\(fval n d).den=(ival d).natAbs:=by
 have F:(ival d).natAbs≠0:=by have:=h.pos;omega
 exact qi5 F h.cop F rfl rfl
theorem FOk.fit {n d:List UInt8} (h:FOk n d):RFit (fval n d) 67:=by
 unfold RFit;rw [h.val.1,h.val.2];exact⟨h.vn.fit,h.vd.fit⟩
theorem FOk.at {n d:List UInt8} (h:FOk n d) {W:World} {v:Value} (F:RatAt W v (ival n) (ival d).natAbs):RatV W v (fval n d):=by
 unfold RatV;rw [h.val.1,h.val.2];exact F
theorem qc8 {W:World} {v:Value} {ok:Bool} {n d:List UInt8} (h:ok=true/\FOk n d/\RatAt W v (ival n) (ival d).natAbs\/ok=false/\¬FOk n d/\v=.agg #[.slice none 0 0,.bool false,.slice none 0 0]):∃(a:Option Addr) (x c:Nat) (b:Bool) (F:Option Addr) (e f:Nat),v=.agg #[.slice a x c,.bool b,.slice F e f]:=by
 rcases h with ⟨_,_,h⟩ | ⟨_,_,h⟩
 ·exact qcH h
 ·exact⟨_,_,_,_,_,_,_,h⟩
theorem qfL (n d:ByteArray) (w:World) :
  Calls prog 111 #[.agg #[.string n,.string d]] w fun e Z=>qfd w (FOk n.data.toList d.data.toList) 20 e Z:=by
 have Y:=qH (fun W=>qdw n d W);have O:Hu (∀cs,Below w.heap.size w (w.alloc (.cells cs 44))):=qH fun cs=>qB.alloc qN _
 go_enter func111,ntmps111;go_wp2_with fail;refine (Y.o _).mono ?_;rintro e w1 ⟨v,ok,rfl,I,V⟩;obtain⟨a,x,c,b,d',e',f',rfl⟩:=qc8 I;have F:Below w.heap.size w w1:=(O.o _).trans (V.mono (O.o _).size);have U:=qH (qbU (o:=.cells #[.slice a x c,.bool b,.slice d' e' f'] 138) F qN);clear V F;rcases I with ⟨rfl,H,_⟩ | ⟨rfl,H,_⟩
 ·have J:=qH H;clear H;go_wp2;go_ret;exact⟨0,rfl,qan ⟨rfl,J.o⟩,U.o⟩
 ·have J:=qH H;clear H;go_wp2;go_ret;exact⟨20,rfl,qag ⟨rfl,J.o⟩,U.o⟩
def Short (q:Rat):Prop:=(num q.num.natAbs).size<=600/\(num q.den).size<=600
def fstr (q:Rat):Value:=.agg #[.string (qb7 q.num),.string (num q.den)]
def qgs (w:World) (q:Rat) (e:Ending) (F:World):Prop:=(Short q/\e=.returned (.tuple #[fstr q,.int .i64 0])\/¬Short q/\e=.returned (.tuple #[.agg #[.string ⟨#[]⟩,.string ⟨#[]⟩],.int .i64 6]))/\Below w.heap.size w F
theorem qeU (q:Rat) (K:Nat) (aD:0<K) (hK:K<=34359738368) (v:Value) (w:World) (hv:RatV w v q) (hq:RFit q K) (hT:HasT w) :
  Calls prog 96 #[v] w fun e w'=>qgs w q e w':=by
 obtain⟨m,o,rfl,hm,ho⟩:=hv;have hi:∀W,Below w.heap.size w W->IntAt W (.agg #[m,.bool (decide (q.num<0))]) q.num:=fun W h=>⟨m,rfl,hm.below h⟩
 have l1:=qH (fun (W:World) (h:Below w.heap.size w W)=>(qdE .f) q.num.natAbs K (by omega) m W (hm.below h) hq.1 (hT.below h));have l2:=qH (fun (W:World) (h:Below w.heap.size w W)=>(qdE .f) q.den K (by omega) o W (ho.below h) hq.2 (hT.below h));have t1:=qH (fun (W:World) (h:Below w.heap.size w W)=>(qe9 .f) q.num K aD (by omega) _ W (hi W h) hq.1 (hT.below h));have t2:=qH (fun (W:World) (h:Below w.heap.size w W)=>(qep .f) q.den K (by omega) o W (ho.below h) hq.2 (hT.below h));generalize decide (q.num<0)=b0 at *;obtain⟨a0,_,_,c0,n0,_,rfl,_,_⟩:=hm;obtain⟨d0,_,_,f0,e0,_,rfl,_,_⟩:=ho;clear hi hT hq hK;obtain⟨L1,ag⟩:∃L,(num q.num.natAbs).size=L:=⟨_,rfl⟩;obtain⟨L2,ah⟩:∃L,(num q.den).size=L:=⟨_,rfl⟩;have aB:Short q↔L1<=600/\L2<=600:=by unfold Short;rw [ag,ah]
 rw [ag] at l1;rw [ah] at l2;have ae:=qH aB;obtain⟨W1,J⟩:=qY ((w.alloc (.cells #[.slice a0 n0 c0,.bool b0,.slice d0 e0 f0] 138)).alloc (.cells #[.string ⟨#[]⟩,.string ⟨#[]⟩] 44));have ax:Below w.heap.size w W1:=J▸qbU (qbU qB qN) qN;have ay:W1.heap[w.heap.size]? = some (.cells #[.slice a0 n0 c0,.bool b0,.slice d0 e0 f0] 138 (0,0)):=by rw [J,qL _ _ _ (by simp only [qab];omega)];exact qM _ _ _ rfl
 have az:W1.heap[w.heap.size+1]? = some (.cells #[.string ⟨#[]⟩,.string ⟨#[]⟩] 44 (0,0)):=by rw [J];exact qM _ _ _ (by simp)
 have HR:=qH (qA ax (qA ay az));clear aB ag ah ax ay az;go_enter func96,ntmps96;go_wp2_with fail;rw [<-J];clear J;refine (l1.o W1 HR.o.1).mono ?_;rintro e w2 ⟨rfl,Y⟩;have H:=qH (qA (HR.o.1.trans (Y.mono HR.o.1.size)) (qA ((Y.block _ (qG HR.o.2.1).1).trans HR.o.2.1) ((Y.block _ (qG HR.o.2.2).1).trans HR.o.2.2)));clear Y
 by_cases h1:(600:Int)<L1
 ·have HN:Hu (¬Short q):=qH (fun h=>by have:=ae.o.1 h;omega)
  go_wp2_with (with_reducible refine sR_ rfl 44 _ _ rfl (w.heap.size+1) #[.string ⟨#[]⟩,.string ⟨#[]⟩] H.o.2.2 2 ?_)
  exact qR (v:=.tuple #[.agg #[.string ⟨#[]⟩,.string ⟨#[]⟩],.int .i64 6]) (rB_ rfl (w.heap.size+1) (qT _ _ _ _ _ _ H.o.2.2) underlying44 2) rfl ⟨qag ⟨HN.o,rfl⟩,qS H.o.1 (by omega) _⟩
 ·have k2:=qC w2 _ 2 _ _ _ H.o.2.1;go_wp2_with fail;refine (l2.o w2 H.o.1).mono ?_;rintro e U ⟨rfl,Z⟩;have I:=qH (qA (H.o.1.trans (Z.mono H.o.1.size)) (qA ((Z.block _ (qG H.o.2.1).1).trans H.o.2.1) ((Z.block _ (qG H.o.2.2).1).trans H.o.2.2)));clear Z k2
  by_cases h2:(600:Int)<L2
  ·have HN:Hu (¬Short q):=qH (fun h=>by have:=ae.o.1 h;omega)
   go_wp2_with (with_reducible refine sR_ rfl 44 _ _ rfl (w.heap.size+1) #[.string ⟨#[]⟩,.string ⟨#[]⟩] I.o.2.2 2 ?_)
   exact qR (v:=.tuple #[.agg #[.string ⟨#[]⟩,.string ⟨#[]⟩],.int .i64 6]) (rB_ rfl (w.heap.size+1) (qT _ _ _ _ _ _ I.o.2.2) underlying44 2) rfl ⟨qag ⟨HN.o,rfl⟩,qS I.o.1 (by omega) _⟩
  ·have HY:Hu (Short q):=qH (ae.o.2 (by omega));have aA:w.heap.size+1<U.heap.size:=(qG I.o.2.2).1;have C0:∀W,Below (w.heap.size+1) U W->W.cell? ⟨w.heap.size,0,none⟩=some (.slice a0 n0 c0):=fun W h=>(h.cell (p:=⟨w.heap.size,0,none⟩) (by show w.heap.size<_;omega)).trans (qC _ _ 0 _ _ _ I.o.2.1)
   have C1:∀W,Below (w.heap.size+1) U W->W.cell? ⟨w.heap.size,1,none⟩=some (.bool b0):=fun W h=>(h.cell (p:=⟨w.heap.size,1,none⟩) (by show w.heap.size<_;omega)).trans (qC _ _ 1 _ _ _ I.o.2.1)
   have C2:∀W,Below (w.heap.size+1) U W->W.cell? ⟨w.heap.size,2,none⟩=some (.slice d0 e0 f0):=fun W h=>(h.cell (p:=⟨w.heap.size,2,none⟩) (by show w.heap.size<_;omega)).trans (qC _ _ 2 _ _ _ I.o.2.1)
   have aC:Below (w.heap.size+1) U U:=Below.refl _ _;have O:Below (w.heap.size+1) U U.drew:=aC.drew;have af:=qH aA;obtain⟨T1,ai⟩:∃T,qb7 q.num=T:=⟨_,rfl⟩;obtain⟨T2,aj⟩:∃T,num q.den=T:=⟨_,rfl⟩;rw [ai] at t1;rw [aj] at t2;have av:=qH (qA ai aj);clear aA ai aj;go_wp2_with fail
   go_region_held3 (fun W=>Below (w.heap.size+1) U W) (first | with_reducible exact aC | with_reducible exact O | with_reducible exact aa | with_reducible exact V | ((iterate 2 refine Below.setCell ?_ (by exact qae _) _);exact aa)) (first | (go_at_call 161;refine (t1.o _ (I.o.1.trans (O.mono (by omega)))).mono ?_;rintro e w4 ⟨rfl,ak⟩;have V:Below (w.heap.size+1) U w4:=O.trans (ak.mono (qar af.o));have R4:=qH ((ak.block _ af.o).trans I.o.2.2);clear ak) | (go_at_call 162;refine (t2.o _ (I.o.1.trans (V.mono (by omega)))).mono ?_;rintro e w5 ⟨rfl,au⟩;have aa:Below (w.heap.size+1) U w5:=V.trans (au.mono (qaj (qar af.o) V.size));have F:=(au.block _ (qG R4.o).1).trans R4.o;have e0:=qC w5 _ 0 _ _ _ F;have e1:=qC w5 _ 1 _ _ _ F;have f0:=qF w5 _ 0 _ _ F;have f1:=qF w5 _ 1 _ _ F;have R5:=qH F;clear au F))
   go_wp2_with fail;refine qR (v:=.tuple #[.agg #[.string T1,.string T2],.int .i64 0]) (rB_ rfl (w.heap.size+1) (heap_setCell_same _ _ 1 _ 44 _ (heap_setCell_same _ _ 0 _ 44 _ R5.o)) underlying44 2) rfl ⟨qan ⟨HY.o,?_⟩,I.o.1.trans (((aa.setCell (by exact qae _) _).setCell (by exact qae _) _).mono (by omega))⟩;unfold fstr;rw [show qb7 q.num=T1 from av.o.1,av.o.2]
theorem qlw (p q:Rat) (K:Nat) (hK:K<=34359738368) (v u:Value) (w:World) (hv:RatV w v p) (hu:RatV w u q) (hp:RFit p K) (hq:RFit q K) :
  Calls prog 65 #[v,u] w fun e w'=>e=.returned (.int .i64 (cmp3 (p.num*(q.den:Int) + -(q.num*(p.den:Int))) 0))/\Below w.heap.size w w':=by
 obtain⟨mx,mX,rfl,hx,hX⟩:=hv;obtain⟨my,mY,rfl,hy,hY⟩:=hu;obtain⟨x,ak⟩:=qX p.num;obtain⟨y,au⟩:=qX q.num;obtain⟨X,Z⟩:=qX p.den;obtain⟨Y,aa⟩:=qX q.den;obtain⟨fx,fX⟩:=hp;obtain⟨fy,fY⟩:=hq;rw [ak] at hx fx;rw [au] at hy fy;rw [Z] at hX fX;rw [aa] at hY fY;rw [ak,au,Z,aa];have g1:Fit (x*Y).natAbs (K+K):=by rw [qaF,qam];exact fx.mul fY
 have g2:Fit (y*X).natAbs (K+K):=by rw [qaF,qam];exact fy.mul fX
 have g3:Fit (-(y*(X:Int))).natAbs (K+K):=by rw [qbj];exact g2
 obtain⟨R0,V⟩:∃R,cmp3 (x*(Y:Int) + -(y*(X:Int))) 0=R:=⟨_,rfl⟩;rw [V];have aF:∀W a n c,MagAt W (.slice a n c) x.natAbs->IntAt W (.agg #[.slice a n c,.bool (decide (x<0))]) x:=fun W a n c h=>⟨_,rfl,h⟩
 have aG:∀W a n c,MagAt W (.slice a n c) y.natAbs->IntAt W (.agg #[.slice a n c,.bool (decide (y<0))]) y:=fun W a n c h=>⟨_,rfl,h⟩
 generalize decide (x<0)=b0 at *;generalize decide (y<0)=b1 at *;have HX:=qH (qA hx (qA hX (qA hy hY)));have HF:=qH (qA fx (qA fX (qA fy fY)));have HG:=qH (qA g1 (qA g2 g3));have HK:=qH hK;have aK:=qH V;have aI:=qH aF;have aJ:=qH aG;obtain⟨a0,_,_,c0,n0,_,rfl,_,_⟩:=hx;obtain⟨d0,_,_,f0,e0,_,rfl,_,_⟩:=hX;obtain⟨a1,_,_,c1,n1,_,rfl,_,_⟩:=hy;obtain⟨d1,_,_,f1,e1,_,rfl,_,_⟩:=hY;clear g1 g2 g3 fx fX fy fY hK ak au Z aa aF aG V;obtain⟨F,I⟩:=qY ((w.alloc (.cells #[.slice a0 n0 c0,.bool b0,.slice d0 e0 f0] 138)).alloc (.cells #[.slice a1 n1 c1,.bool b1,.slice d1 e1 f1] 138));have aA:Below w.heap.size w F:=I▸qbU (qbU qB qN) qN;have U:F.heap[w.heap.size]? = some (.cells #[.slice a0 n0 c0,.bool b0,.slice d0 e0 f0] 138 (0,0)):=by rw [I,qL _ _ _ (by simp only [qab];omega)];exact qM _ _ _ (by simp)
 have J:F.heap[w.heap.size+1]? = some (.cells #[.slice a1 n1 c1,.bool b1,.slice d1 e1 f1] 138 (0,0)):=by rw [I];exact qM _ _ _ (by simp)
 have l2:w.heap.size+1<F.heap.size:=(qG J).1;have aL:∀W,Below F.heap.size F W->W.cell? ⟨w.heap.size,0,none⟩=some (.slice a0 n0 c0):=fun W h=>(h.cell (p:=⟨w.heap.size,0,none⟩) (by show w.heap.size<_;omega)).trans (qC _ _ 0 _ _ _ U)
 have aM:∀W,Below F.heap.size F W->W.cell? ⟨w.heap.size,1,none⟩=some (.bool b0):=fun W h=>(h.cell (p:=⟨w.heap.size,1,none⟩) (by show w.heap.size<_;omega)).trans (qC _ _ 1 _ _ _ U)
 have aN:∀W,Below F.heap.size F W->W.cell? ⟨w.heap.size,2,none⟩=some (.slice d0 e0 f0):=fun W h=>(h.cell (p:=⟨w.heap.size,2,none⟩) (by show w.heap.size<_;omega)).trans (qC _ _ 2 _ _ _ U)
 have aO:∀W,Below F.heap.size F W->W.cell? ⟨w.heap.size+1,0,none⟩=some (.slice a1 n1 c1):=fun W h=>(h.cell (p:=⟨w.heap.size+1,0,none⟩) (by show w.heap.size+1<_;omega)).trans (qC _ _ 0 _ _ _ J)
 have aP:∀W,Below F.heap.size F W->W.cell? ⟨w.heap.size+1,1,none⟩=some (.bool b1):=fun W h=>(h.cell (p:=⟨w.heap.size+1,1,none⟩) (by show w.heap.size+1<_;omega)).trans (qC _ _ 1 _ _ _ J)
 have aQ:∀W,Below F.heap.size F W->W.cell? ⟨w.heap.size+1,2,none⟩=some (.slice d1 e1 f1):=fun W h=>(h.cell (p:=⟨w.heap.size+1,2,none⟩) (by show w.heap.size+1<_;omega)).trans (qC _ _ 2 _ _ _ J)
 have HR:=qH aA;clear U J aA l2;have aH:Below F.heap.size F F:=Below.refl _ _;have H:Below F.heap.size F F.drew:=aH.drew;have HW:Hu (∀W,Below F.heap.size F W->Below w.heap.size w W):=qH fun W h=>HR.o.trans (h.mono HR.o.size)
 go_enter func65,ntmps65;go_wp2_with fail;rw [<-I];clear I
 go_region_held3 (fun W=>Below F.heap.size F W) (first | with_reducible exact aH | with_reducible exact H | with_reducible exact az | with_reducible exact ay | with_reducible exact ax | with_reducible exact av | with_reducible exact O) (first | (go_at_call_of 133 (Value.agg #[Value.slice a0 n0 c0,Value.bool b0]);refine ((qct .f) x Y K K (by have:=HK.o;omega) _ _ _ (aI.o _ _ _ _ (HX.o.1.below (HW.o _ H))) (HX.o.2.2.2.below (HW.o _ H)) HF.o.1 HF.o.2.2.2).mono ?_;rintro e w2 ⟨p2,rfl,aB,ag⟩;have O:Below F.heap.size F w2:=H.trans aB;obtain⟨a2,n2,c2,b2,rfl⟩:=qbV ag;have I2:=qH ag;clear aB ag) | (go_at_call_of 133 (Value.agg #[Value.slice a1 n1 c1,Value.bool b1]);refine ((qct .f) y X K K (by have:=HK.o;omega) _ _ _ (aJ.o _ _ _ _ (HX.o.2.2.1.below (HW.o _ O))) (HX.o.2.1.below (HW.o _ O)) HF.o.2.2.1 HF.o.2.1).mono ?_;rintro e w3 ⟨p3,rfl,ae,ah⟩;have av:Below F.heap.size F w3:=bjoin O ae;obtain⟨a3,n3,c3,b3,rfl⟩:=qbV ah;have I3:=qH ah;have J3:=qH (I2.o.below ae);clear ae ah) | (go_at_call 135;refine ((qdR .f) _ _ _ I3.o).mono ?_;rintro e w4 ⟨p4,rfl,af,ai⟩;have ax:Below F.heap.size F w4:=bjoin av af;obtain⟨a4,n4,c4,b4,rfl⟩:=qbV ai;have I4:=qH ai;have J4:=qH (J3.o.below af);clear af ai) | (go_at_call 134;refine ((qde .f) _ _ (K+K) (by have:=HK.o;omega) _ _ _ J4.o I4.o HG.o.1 HG.o.2.2).mono ?_;rintro e w5 ⟨p5,rfl,aC,aj⟩;have ay:Below F.heap.size F w5:=bjoin ax aC;obtain⟨a5,n5,c5,b5,rfl⟩:=qbV aj;have I5:=qH aj;clear aC aj) | (go_at_call 136;refine (qgN _ _ _ I5.o).mono ?_;rw [aK.o];rintro e w6 ⟨rfl,aD⟩;have az:Below F.heap.size F w6:=bjoin ay aD;clear aD))
 go_wp2;go_ret;exact⟨rfl,HW.o _ az⟩
def FCmps (w:World) (n d m c:List UInt8) (e:Ending) (F:World):Prop :=
 ((FOk n d/\FOk m c)/\e=.returned (.tuple #[.int .i64 (cmp3 ((fval n d).num*((fval m c).den:Int) + -((fval m c).num*((fval n d).den:Int))) 0),.int .i64 0]) \/
  ¬(FOk n d/\FOk m c)/\e=.returned (.tuple #[.int .i64 0,.int .i64 20]))/\Below w.heap.size w F
def qj6 (w:World) (I:Rat->Rat->Rat) (n d m c:List UInt8) (e:Ending) (H:World):Prop :=
 (∃v F,e=.returned (.tuple #[v,.int .i64 F])/\((FOk n d/\FOk m c)/\F=0/\RatV H v (I (fval n d) (fval m c))\/¬(FOk n d/\FOk m c)/\F=20/\v=.agg #[.slice none 0 0,.bool false,.slice none 0 0]))/\Below w.heap.size w H
def FDoes (w:World) (F:Rat->Rat->Rat) (n d m c:List UInt8) (e:Ending) (H:World):Prop :=
 ((FOk n d/\FOk m c)/\(Short (F (fval n d) (fval m c))/\e=.returned (.tuple #[fstr (F (fval n d) (fval m c)),.int .i64 0])\/¬Short (F (fval n d) (fval m c))/\e=.returned (.tuple #[.agg #[.string ⟨#[]⟩,.string ⟨#[]⟩],.int .i64 6])) \/
  ¬(FOk n d/\FOk m c)/\e=.returned (.tuple #[.agg #[.string ⟨#[]⟩,.string ⟨#[]⟩],.int .i64 20]))/\Below w.heap.size w H
theorem qk1 (n d m c:ByteArray) (w:World) :
  Calls prog 64 #[.agg #[.string n,.string d],.agg #[.string m,.string c],.func (.func 65) #[] #[]] w fun e w'=>FCmps w n.data.toList d.data.toList m.data.toList c.data.toList e w':=by
 obtain⟨W1,Y⟩:=qY ((w.alloc (.cells #[.string n,.string d] 44)).alloc (.cells #[.string m,.string c] 44));have F:Below w.heap.size w W1:=Y▸qbU (qbU qB qN) qN;have ay:W1.heap[w.heap.size]? = some (.cells #[.string n,.string d] 44 (0,0)):=by rw [Y,qL _ _ _ (by simp only [qab];omega)];exact qM _ _ _ rfl
 have az:W1.heap[w.heap.size+1]? = some (.cells #[.string m,.string c] 44 (0,0)):=by rw [Y];exact qM _ _ _ (by simp)
 have aA:True:=trivial;have HR:=qH (qA F (qA ay (qA az aA)));clear F ay az aA;go_enter func64,ntmps64;go_wp2_with fail;rw [<-Y];clear Y;refine (qdw n d W1).mono ?_;rintro e w1 ⟨v1,ok1,rfl,ae,F⟩;obtain⟨a0,n0,c0,b0,d0,e0,f0,rfl⟩:=qc8 ae;have aC:=qH ae;have k1:=qC w1 _ 0 _ _ _ ((F.block _ (qG HR.o.2.2.1).1).trans HR.o.2.2.1);have k2:=qC w1 _ 1 _ _ _ ((F.block _ (qG HR.o.2.2.1).1).trans HR.o.2.2.1);have q1:w.heap.size+1<w1.heap.size:=qai (qG HR.o.2.2.1).1 F.size;have au:=qH F;clear F ae;go_wp2_with fail;obtain⟨V1,ag⟩:=qY (w1.alloc (.cells #[.slice a0 n0 c0,.bool b0,.slice d0 e0 f0] 138));rw [<-ag];have U:V1.heap[w1.heap.size]? = some (.cells #[.slice a0 n0 c0,.bool b0,.slice d0 e0 f0] 138 (0,0)):=by rw [ag];exact qM _ _ _ rfl
 have aa:Below w1.heap.size w1 V1:=ag▸qbU qB qN;clear ag k1 k2;refine (qdw m c V1).mono ?_;rintro e w2 ⟨v2,aG,rfl,af,aj⟩;obtain⟨a1,n1,c1,b1,d1,e1,f1,rfl⟩:=qc8 af;have aD:=qH af;have O:=(aj.block _ (qG U).1).trans U;have Z:Below w1.heap.size w1 w2:=aa.trans (aj.mono aa.size);have av:=qH Z;have ak:Below w.heap.size w w2:=HR.o.1.trans ((au.o.trans (Z.mono au.o.size)).mono HR.o.1.size);obtain⟨V2,ah⟩:=qY (w2.alloc (.cells #[.slice a1 n1 c1,.bool b1,.slice d1 e1 f1] 138));have V:Below w2.heap.size w2 V2:=ah▸qbU qB qN;have r8:=(V.block _ (qG O).1).trans O;have r9:V2.heap[w2.heap.size]? = some (.cells #[.slice a1 n1 c1,.bool b1,.slice d1 e1 f1] 138 (0,0)):=by rw [ah];exact qM _ _ _ rfl
 have I:=qH (qA r8 (qA r9 (qA (ak.trans (V.mono ak.size)) V)));have x0:=qC w2 _ 0 _ _ _ O;have x1:=qC w2 _ 1 _ _ _ O;have x2:=qC w2 _ 2 _ _ _ O;have aF:=(qG O).1;have ai:=qH ah;clear U aa aj af O Z ak V r8 r9 ah;have HO:=qH (fun (h1:FOk n.data.toList d.data.toList) (h2:FOk m.data.toList c.data.toList) (hv:RatV V2 (.agg #[.slice a0 n0 c0,.bool b0,.slice d0 e0 f0]) (fval n.data.toList d.data.toList)) (hu:RatV V2 (.agg #[.slice a1 n1 c1,.bool b1,.slice d1 e1 f1]) (fval m.data.toList c.data.toList))=>qlw _ _ 67 (by decide) _ _ V2 hv hu h1.fit h2.fit);rcases aC.o with ⟨rfl,H,U⟩ | ⟨rfl,H,_⟩
 ·rcases aD.o with ⟨rfl,J,aB⟩ | ⟨rfl,J,_⟩
  ·have hc:=HO.o H J ((H.at U).below (av.o.trans (I.o.2.2.2.mono av.o.size))) ((J.at aB).below I.o.2.2.2);have HC:=qH (qA hc (qA H J));clear H J U aB hc;have x3:=qC V2 _ 0 _ _ _ I.o.1;go_wp2_with fail;rw [<-ai.o];refine HC.o.1.mono ?_;rintro e w9 ⟨rfl,ax⟩;have H9:=qH (I.o.2.2.1.trans (ax.mono I.o.2.2.1.size));clear ax;go_wp2_with fail
   go_ret2
   exact⟨qan ⟨HC.o.2,rfl⟩,H9.o⟩
  ·have HN:=qH (show ¬(FOk n.data.toList d.data.toList/\FOk m.data.toList c.data.toList) from fun h=>J h.2);clear H J U;go_wp2_with fail
   go_ret2
   exact⟨qag ⟨HN.o,rfl⟩,ai.o▸I.o.2.2.1⟩
 ·have HN:=qH (show ¬(FOk n.data.toList d.data.toList/\FOk m.data.toList c.data.toList) from fun h=>H h.1);clear H;go_wp2_with fail
  go_ret2
  exact⟨qag ⟨HN.o,rfl⟩,ai.o▸I.o.2.2.1⟩
theorem qk0 (n d m c:ByteArray) (w:World) :
  Calls prog 85 #[.agg #[.string n,.string d],.agg #[.string m,.string c],.func (.func 87) #[] #[]] w fun e w'=>qj6 w (· + ·) n.data.toList d.data.toList m.data.toList c.data.toList e w':=by
 obtain⟨W1,aa⟩:=qY (((w.alloc (.cells #[.string n,.string d] 44)).alloc (.cells #[.string m,.string c] 44)).alloc (.cells #[.slice none 0 0,.bool false,.slice none 0 0] 138));have I:Below w.heap.size w W1:=aa▸qbU (qbU (qbU qB qN) qN) qN;have aF:W1.heap[w.heap.size]? = some (.cells #[.string n,.string d] 44 (0,0)):=by rw [aa,qL _ _ _ (by simp only [qab];omega),qL _ _ _ (by simp only [qab];omega)];exact qM _ _ _ rfl
 have aG:W1.heap[w.heap.size+1]? = some (.cells #[.string m,.string c] 44 (0,0)):=by rw [aa,qL _ _ _ (by simp only [qab];omega)];exact qM _ _ _ (by simp)
 have aH:W1.heap[w.heap.size+1+1]? = some (.cells #[.slice none 0 0,.bool false,.slice none 0 0] 138 (0,0)):=by rw [aa];exact qM _ _ _ (by simp)
 have HR:=qH (qA I (qA aF (qA aG aH)));clear I aF aG aH;go_enter func85,ntmps85;go_wp2_with fail;rw [<-aa];clear aa;refine (qdw n d W1).mono ?_;rintro e w1 ⟨v1,ok1,rfl,ah,I⟩;obtain⟨a0,n0,c0,b0,d0,e0,f0,rfl⟩:=qc8 ah;have aJ:=qH ah;have k1:=qC w1 _ 0 _ _ _ ((I.block _ (qG HR.o.2.2.1).1).trans HR.o.2.2.1);have k2:=qC w1 _ 1 _ _ _ ((I.block _ (qG HR.o.2.2.1).1).trans HR.o.2.2.1);have q1:w.heap.size+1<w1.heap.size:=qai (qG HR.o.2.2.1).1 I.size;have av:=qH I;clear I ah;go_wp2_with fail;obtain⟨V1,ak⟩:=qY (w1.alloc (.cells #[.slice a0 n0 c0,.bool b0,.slice d0 e0 f0] 138));rw [<-ak];have V:V1.heap[w1.heap.size]? = some (.cells #[.slice a0 n0 c0,.bool b0,.slice d0 e0 f0] 138 (0,0)):=by rw [ak];exact qM _ _ _ rfl
 have ag:Below w1.heap.size w1 V1:=ak▸qbU qB qN;clear ak k1 k2;refine (qdw m c V1).mono ?_;rintro e w2 ⟨v2,aM,rfl,ai,az⟩;obtain⟨a1,n1,c1,b1,d1,e1,f1,rfl⟩:=qc8 ai;have aK:=qH ai;have U:=(az.block _ (qG V).1).trans V;have af:Below w1.heap.size w1 w2:=ag.trans (az.mono ag.size);have ax:=qH af;have aB:Below w.heap.size w w2:=HR.o.1.trans ((av.o.trans (af.mono av.o.size)).mono HR.o.1.size);obtain⟨V2,au⟩:=qY (w2.alloc (.cells #[.slice a1 n1 c1,.bool b1,.slice d1 e1 f1] 138));have Y:Below w2.heap.size w2 V2:=au▸qbU qB qN;have r8:=(Y.block _ (qG U).1).trans U;have r9:V2.heap[w2.heap.size]? = some (.cells #[.slice a1 n1 c1,.bool b1,.slice d1 e1 f1] 138 (0,0)):=by rw [au];exact qM _ _ _ rfl
 have F:=qH (qA r8 (qA r9 (qA (aB.trans (Y.mono aB.size)) Y)));have x0:=qC w2 _ 0 _ _ _ U;have x1:=qC w2 _ 1 _ _ _ U;have x2:=qC w2 _ 2 _ _ _ U;have aL:=(qG U).1;have ae:=qH au;clear V ag az ai U af aB Y r8 r9 au;have HO:=qH (fun (h1:FOk n.data.toList d.data.toList) (h2:FOk m.data.toList c.data.toList) (hv:RatV V2 (.agg #[.slice a0 n0 c0,.bool b0,.slice d0 e0 f0]) (fval n.data.toList d.data.toList)) (hu:RatV V2 (.agg #[.slice a1 n1 c1,.bool b1,.slice d1 e1 f1]) (fval m.data.toList c.data.toList))=>qkE _ _ 67 (by decide) _ _ V2 hv hu h1.fit h2.fit);have Z:Hu (V2.heap[w.heap.size+1+1]? = some (.cells #[.slice none 0 0,.bool false,.slice none 0 0] 138 (0,0))):=qH (by
  have h1:=(av.o.block _ (qG HR.o.2.2.2).1).trans HR.o.2.2.2;have h2:=(ax.o.block _ (qG h1).1).trans h1;exact (F.o.2.2.2.block _ (qG h2).1).trans h2)
 rcases aJ.o with ⟨rfl,J,V⟩ | ⟨rfl,J,_⟩
 ·rcases aK.o with ⟨rfl,O,aI⟩ | ⟨rfl,O,_⟩
  ·have hc:=HO.o J O ((J.at V).below (ax.o.trans (F.o.2.2.2.mono ax.o.size))) ((O.at aI).below F.o.2.2.2);have HC:=qH (qA hc (qA J O));clear J O V aI hc;go_wp2_with fail;rw [<-ae.o];refine HC.o.1.mono ?_;rintro e w9 ⟨v9,rfl,aA,aD⟩;obtain⟨a7,n7,c7,b7,d7,e7,f7,rfl⟩:=qcH aD;have aC:=(aA.block _ (qG Z.o).1).trans Z.o;have H9:=qH (qA aC (qA (F.o.2.2.1.trans (aA.mono F.o.2.2.1.size)) (qeT (cs':=#[.slice a7 n7 c7,.bool b7,.slice d7 e7 f7]) aD aC)));clear aA aD aC
   go_wp2_with (with_reducible refine sR_ rfl 138 _ _ rfl (w.heap.size+1+1) #[.slice a7 n7 c7,.bool b7,.slice d7 e7 f7] H9.o.1 3 ?_)
   exact qR (v:=.tuple #[.agg #[.slice a7 n7 c7,.bool b7,.slice d7 e7 f7],.int .i64 0]) (rB_ rfl (w.heap.size+1+1) (qT _ _ _ _ _ _ H9.o.1) underlying138 3) rfl ⟨⟨_,_,rfl,qan ⟨HC.o.2,rfl,H9.o.2.2⟩⟩,qS H9.o.2.1 (by omega) _⟩
  ·have HN:=qH (show ¬(FOk n.data.toList d.data.toList/\FOk m.data.toList c.data.toList) from fun h=>O h.2);clear J O V;have aj:((w2.alloc (.cells #[.slice a1 n1 c1,.bool b1,.slice d1 e1 f1] 138)).alloc (.cells #[.slice none 0 0,.bool false,.slice none 0 0] 138)).heap[w.heap.size+1+1]? = some (.cells #[.slice none 0 0,.bool false,.slice none 0 0] 138 (0,0)):=by
    rw [<-ae.o];exact (qL _ _ _ (qG Z.o).1).trans Z.o
   have H:=qH aj;have ay:=qH (show Below w.heap.size w ((w2.alloc (.cells #[.slice a1 n1 c1,.bool b1,.slice d1 e1 f1] 138)).alloc (.cells #[.slice none 0 0,.bool false,.slice none 0 0] 138)) from ae.o▸(F.o.2.2.1.alloc F.o.2.2.1.size _));clear aj
   go_wp2_with (with_reducible refine sR_ rfl 138 _ _ rfl (w.heap.size+1+1) #[.slice none 0 0,.bool false,.slice none 0 0] H.o 3 ?_)
   exact qR (v:=.tuple #[.agg #[.slice none 0 0,.bool false,.slice none 0 0],.int .i64 20]) (rB_ rfl (w.heap.size+1+1) (qT _ _ _ _ _ _ H.o) underlying138 3) rfl ⟨⟨_,_,rfl,qag ⟨HN.o,rfl,rfl⟩⟩,qS ay.o (by omega) _⟩
 ·have HN:=qH (show ¬(FOk n.data.toList d.data.toList/\FOk m.data.toList c.data.toList) from fun h=>J h.1);clear J;have aj:((w2.alloc (.cells #[.slice a1 n1 c1,.bool b1,.slice d1 e1 f1] 138)).alloc (.cells #[.slice none 0 0,.bool false,.slice none 0 0] 138)).heap[w.heap.size+1+1]? = some (.cells #[.slice none 0 0,.bool false,.slice none 0 0] 138 (0,0)):=by
   rw [<-ae.o];exact (qL _ _ _ (qG Z.o).1).trans Z.o
  have H:=qH aj;have ay:=qH (show Below w.heap.size w ((w2.alloc (.cells #[.slice a1 n1 c1,.bool b1,.slice d1 e1 f1] 138)).alloc (.cells #[.slice none 0 0,.bool false,.slice none 0 0] 138)) from ae.o▸(F.o.2.2.1.alloc F.o.2.2.1.size _));clear aj
  go_wp2_with (with_reducible refine sR_ rfl 138 _ _ rfl (w.heap.size+1+1) #[.slice none 0 0,.bool false,.slice none 0 0] H.o 3 ?_)
  exact qR (v:=.tuple #[.agg #[.slice none 0 0,.bool false,.slice none 0 0],.int .i64 20]) (rB_ rfl (w.heap.size+1+1) (qT _ _ _ _ _ _ H.o) underlying138 3) rfl ⟨⟨_,_,rfl,qag ⟨HN.o,rfl,rfl⟩⟩,qS ay.o (by omega) _⟩
theorem qk2 (n d m c:ByteArray) (w:World) :
  Calls prog 85 #[.agg #[.string n,.string d],.agg #[.string m,.string c],.func (.func 86) #[] #[]] w fun e w'=>qj6 w (· * ·) n.data.toList d.data.toList m.data.toList c.data.toList e w':=by
 obtain⟨W1,aa⟩:=qY (((w.alloc (.cells #[.string n,.string d] 44)).alloc (.cells #[.string m,.string c] 44)).alloc (.cells #[.slice none 0 0,.bool false,.slice none 0 0] 138));have I:Below w.heap.size w W1:=aa▸qbU (qbU (qbU qB qN) qN) qN;have aF:W1.heap[w.heap.size]? = some (.cells #[.string n,.string d] 44 (0,0)):=by rw [aa,qL _ _ _ (by simp only [qab];omega),qL _ _ _ (by simp only [qab];omega)];exact qM _ _ _ rfl
 have aG:W1.heap[w.heap.size+1]? = some (.cells #[.string m,.string c] 44 (0,0)):=by rw [aa,qL _ _ _ (by simp only [qab];omega)];exact qM _ _ _ (by simp)
 have aH:W1.heap[w.heap.size+1+1]? = some (.cells #[.slice none 0 0,.bool false,.slice none 0 0] 138 (0,0)):=by rw [aa];exact qM _ _ _ (by simp)
 have HR:=qH (qA I (qA aF (qA aG aH)));clear I aF aG aH;go_enter func85,ntmps85;go_wp2_with fail;rw [<-aa];clear aa;refine (qdw n d W1).mono ?_;rintro e w1 ⟨v1,ok1,rfl,ah,I⟩;obtain⟨a0,n0,c0,b0,d0,e0,f0,rfl⟩:=qc8 ah;have aJ:=qH ah;have k1:=qC w1 _ 0 _ _ _ ((I.block _ (qG HR.o.2.2.1).1).trans HR.o.2.2.1);have k2:=qC w1 _ 1 _ _ _ ((I.block _ (qG HR.o.2.2.1).1).trans HR.o.2.2.1);have q1:w.heap.size+1<w1.heap.size:=qai (qG HR.o.2.2.1).1 I.size;have av:=qH I;clear I ah;go_wp2_with fail;obtain⟨V1,ak⟩:=qY (w1.alloc (.cells #[.slice a0 n0 c0,.bool b0,.slice d0 e0 f0] 138));rw [<-ak];have V:V1.heap[w1.heap.size]? = some (.cells #[.slice a0 n0 c0,.bool b0,.slice d0 e0 f0] 138 (0,0)):=by rw [ak];exact qM _ _ _ rfl
 have ag:Below w1.heap.size w1 V1:=ak▸qbU qB qN;clear ak k1 k2;refine (qdw m c V1).mono ?_;rintro e w2 ⟨v2,aM,rfl,ai,az⟩;obtain⟨a1,n1,c1,b1,d1,e1,f1,rfl⟩:=qc8 ai;have aK:=qH ai;have U:=(az.block _ (qG V).1).trans V;have af:Below w1.heap.size w1 w2:=ag.trans (az.mono ag.size);have ax:=qH af;have aB:Below w.heap.size w w2:=HR.o.1.trans ((av.o.trans (af.mono av.o.size)).mono HR.o.1.size);obtain⟨V2,au⟩:=qY (w2.alloc (.cells #[.slice a1 n1 c1,.bool b1,.slice d1 e1 f1] 138));have Y:Below w2.heap.size w2 V2:=au▸qbU qB qN;have r8:=(Y.block _ (qG U).1).trans U;have r9:V2.heap[w2.heap.size]? = some (.cells #[.slice a1 n1 c1,.bool b1,.slice d1 e1 f1] 138 (0,0)):=by rw [au];exact qM _ _ _ rfl
 have F:=qH (qA r8 (qA r9 (qA (aB.trans (Y.mono aB.size)) Y)));have x0:=qC w2 _ 0 _ _ _ U;have x1:=qC w2 _ 1 _ _ _ U;have x2:=qC w2 _ 2 _ _ _ U;have aL:=(qG U).1;have ae:=qH au;clear V ag az ai U af aB Y r8 r9 au;have HO:=qH (fun (h1:FOk n.data.toList d.data.toList) (h2:FOk m.data.toList c.data.toList) (hv:RatV V2 (.agg #[.slice a0 n0 c0,.bool b0,.slice d0 e0 f0]) (fval n.data.toList d.data.toList)) (hu:RatV V2 (.agg #[.slice a1 n1 c1,.bool b1,.slice d1 e1 f1]) (fval m.data.toList c.data.toList))=>qkF _ _ 67 (by decide) _ _ V2 hv hu h1.fit h2.fit);have Z:Hu (V2.heap[w.heap.size+1+1]? = some (.cells #[.slice none 0 0,.bool false,.slice none 0 0] 138 (0,0))):=qH (by
  have h1:=(av.o.block _ (qG HR.o.2.2.2).1).trans HR.o.2.2.2;have h2:=(ax.o.block _ (qG h1).1).trans h1;exact (F.o.2.2.2.block _ (qG h2).1).trans h2)
 rcases aJ.o with ⟨rfl,J,V⟩ | ⟨rfl,J,_⟩
 ·rcases aK.o with ⟨rfl,O,aI⟩ | ⟨rfl,O,_⟩
  ·have hc:=HO.o J O ((J.at V).below (ax.o.trans (F.o.2.2.2.mono ax.o.size))) ((O.at aI).below F.o.2.2.2);have HC:=qH (qA hc (qA J O));clear J O V aI hc;go_wp2_with fail;rw [<-ae.o];refine HC.o.1.mono ?_;rintro e w9 ⟨v9,rfl,aA,aD⟩;obtain⟨a7,n7,c7,b7,d7,e7,f7,rfl⟩:=qcH aD;have aC:=(aA.block _ (qG Z.o).1).trans Z.o;have H9:=qH (qA aC (qA (F.o.2.2.1.trans (aA.mono F.o.2.2.1.size)) (qeT (cs':=#[.slice a7 n7 c7,.bool b7,.slice d7 e7 f7]) aD aC)));clear aA aD aC
   go_wp2_with (with_reducible refine sR_ rfl 138 _ _ rfl (w.heap.size+1+1) #[.slice a7 n7 c7,.bool b7,.slice d7 e7 f7] H9.o.1 3 ?_)
   exact qR (v:=.tuple #[.agg #[.slice a7 n7 c7,.bool b7,.slice d7 e7 f7],.int .i64 0]) (rB_ rfl (w.heap.size+1+1) (qT _ _ _ _ _ _ H9.o.1) underlying138 3) rfl ⟨⟨_,_,rfl,qan ⟨HC.o.2,rfl,H9.o.2.2⟩⟩,qS H9.o.2.1 (by omega) _⟩
  ·have HN:=qH (show ¬(FOk n.data.toList d.data.toList/\FOk m.data.toList c.data.toList) from fun h=>O h.2);clear J O V;have aj:((w2.alloc (.cells #[.slice a1 n1 c1,.bool b1,.slice d1 e1 f1] 138)).alloc (.cells #[.slice none 0 0,.bool false,.slice none 0 0] 138)).heap[w.heap.size+1+1]? = some (.cells #[.slice none 0 0,.bool false,.slice none 0 0] 138 (0,0)):=by
    rw [<-ae.o];exact (qL _ _ _ (qG Z.o).1).trans Z.o
   have H:=qH aj;have ay:=qH (show Below w.heap.size w ((w2.alloc (.cells #[.slice a1 n1 c1,.bool b1,.slice d1 e1 f1] 138)).alloc (.cells #[.slice none 0 0,.bool false,.slice none 0 0] 138)) from ae.o▸(F.o.2.2.1.alloc F.o.2.2.1.size _));clear aj
   go_wp2_with (with_reducible refine sR_ rfl 138 _ _ rfl (w.heap.size+1+1) #[.slice none 0 0,.bool false,.slice none 0 0] H.o 3 ?_)
   exact qR (v:=.tuple #[.agg #[.slice none 0 0,.bool false,.slice none 0 0],.int .i64 20]) (rB_ rfl (w.heap.size+1+1) (qT _ _ _ _ _ _ H.o) underlying138 3) rfl ⟨⟨_,_,rfl,qag ⟨HN.o,rfl,rfl⟩⟩,qS ay.o (by omega) _⟩
 ·have HN:=qH (show ¬(FOk n.data.toList d.data.toList/\FOk m.data.toList c.data.toList) from fun h=>J h.1);clear J;have aj:((w2.alloc (.cells #[.slice a1 n1 c1,.bool b1,.slice d1 e1 f1] 138)).alloc (.cells #[.slice none 0 0,.bool false,.slice none 0 0] 138)).heap[w.heap.size+1+1]? = some (.cells #[.slice none 0 0,.bool false,.slice none 0 0] 138 (0,0)):=by
   rw [<-ae.o];exact (qL _ _ _ (qG Z.o).1).trans Z.o
  have H:=qH aj;have ay:=qH (show Below w.heap.size w ((w2.alloc (.cells #[.slice a1 n1 c1,.bool b1,.slice d1 e1 f1] 138)).alloc (.cells #[.slice none 0 0,.bool false,.slice none 0 0] 138)) from ae.o▸(F.o.2.2.1.alloc F.o.2.2.1.size _));clear aj
  go_wp2_with (with_reducible refine sR_ rfl 138 _ _ rfl (w.heap.size+1+1) #[.slice none 0 0,.bool false,.slice none 0 0] H.o 3 ?_)
  exact qR (v:=.tuple #[.agg #[.slice none 0 0,.bool false,.slice none 0 0],.int .i64 20]) (rB_ rfl (w.heap.size+1+1) (qT _ _ _ _ _ _ H.o) underlying138 3) rfl ⟨⟨_,_,rfl,qag ⟨HN.o,rfl,rfl⟩⟩,qS ay.o (by omega) _⟩
theorem RFit.add {p q:Rat} {K:Nat} (F:RFit p K) (H:RFit q K):RFit (p+q) (K+K+1):=by
 have I:Fit (p.num*q.den+q.num*p.den).natAbs (K+K+1):=by
  refine (Fit.add (x:=(p.num*q.den).natAbs) (y:=(q.num*p.den).natAbs) (K:=K+K) ?_ ?_).le (qbF _ _)
  ·rw [qaF,qam];exact F.1.mul H.2
  ·rw [qaF,qam];exact H.1.mul F.2
 have J:Fit (p.den*q.den) (K+K+1):=(F.2.mul H.2).mono (by omega);rw [Rat.add_def'];have hne:=qbo p.den_nz q.den_nz
 constructor
 ·rw [Rat.num_mkRat,if_neg hne];refine I.le ?_;rw [Int.natAbs_ediv_of_dvd (Int.ofNat_dvd_left.2 (qaW _ _))];exact qaR _ _
 ·rw [Rat.den_mkRat,if_neg hne];exact J.le (qaR _ _)
theorem RFit.mul {p q:Rat} {K:Nat} (F:RFit p K) (H:RFit q K):RFit (p*q) (K+K):=by
 have I:Fit (p.num*q.num).natAbs (K+K):=by rw [qaF];exact F.1.mul H.1
 have J:Fit (p.den*q.den) (K+K):=F.2.mul H.2;rw [Rat.mul_def'];have hne:=qbo p.den_nz q.den_nz
 constructor
 ·rw [Rat.num_mkRat,if_neg hne];refine I.le ?_;rw [Int.natAbs_ediv_of_dvd (Int.ofNat_dvd_left.2 (qaW _ _))];exact qaR _ _
 ·rw [Rat.den_mkRat,if_neg hne];exact J.le (qaR _ _)
theorem qkj (n d m c:ByteArray) (w:World) :
  Calls prog 17 #[.agg #[.string n,.string d],.agg #[.string m,.string c]] w fun e V=>FCmps w n.data.toList d.data.toList m.data.toList c.data.toList e V:=by
 have U:=qH (fun W=>qk1 n d m c W);have J:Hu (Below w.heap.size w ((w.alloc (.cells #[.string n,.string d] 44)).alloc (.cells #[.string m,.string c] 44))):=qH (qbU (qbU qB qN) qN);go_enter func17,ntmps17;go_wp2_with fail;refine (U.o _).mono ?_;rintro e Y ⟨h,O⟩;have I:=qH (J.o.trans (O.mono J.o.size));clear O;rcases h with ⟨F,rfl⟩ | ⟨F,rfl⟩
 ·have H:=qH F;clear F;go_wp2_with fail
  go_ret2
  exact⟨qan ⟨H.o,rfl⟩,I.o⟩
 ·have H:=qH F;clear F;go_wp2_with fail
  go_ret2
  exact⟨qag ⟨H.o,rfl⟩,I.o⟩
theorem qgy (a:Option Addr) (x c:Nat) (b:Bool) (d:Option Addr) (F f:Nat) (w:World) :
  Calls prog 84 #[.agg #[.slice a x c,.bool b,.slice d F f],.int .i64 20] w fun e I=>e=.returned (.tuple #[.agg #[.string ⟨#[]⟩,.string ⟨#[]⟩],.int .i64 20])/\Below w.heap.size w I:=by
 have H:∀cs,Hu (Below w.heap.size w ((w.alloc (.cells #[.slice a x c,.bool b,.slice d F f] 138)).alloc (.cells cs 44))):=fun cs=>qH (qbU (qbU qB qN) qN)
 go_enter func84,ntmps84;go_wp2_with fail;exact qR (v:=.tuple #[.agg #[.string ⟨#[]⟩,.string ⟨#[]⟩],.int .i64 20]) (rB_ rfl (w.heap.size+1) (qM _ _ _ (by simp)) underlying44 2) rfl ⟨rfl,(H _).o⟩
theorem qhu (q:Rat) (K:Nat) (aa:0<K) (hK:K<=34359738368) (v:Value) (w:World) (hv:RatV w v q) (hq:RFit q K) (hT:HasT w) :
  Calls prog 84 #[v,.int .i64 0] w fun e w'=>qgs w q e w':=by
 obtain⟨a,x,c,b,d,e0,f,rfl⟩:=qcH hv;obtain⟨W1,F⟩:=qY ((w.alloc (.cells #[.slice a x c,.bool b,.slice d e0 f] 138)).alloc (.cells #[.string ⟨#[]⟩,.string ⟨#[]⟩] 44));have H:Below w.heap.size w W1:=F▸qbU (qbU qB qN) qN;have V:W1.heap[w.heap.size+1]? = some (.cells #[.string ⟨#[]⟩,.string ⟨#[]⟩] 44 (0,0)):=by rw [F];exact qM _ _ _ (by simp)
 have HW:=qH (qeU q K aa hK _ W1 (hv.below H) hq (hT.below H));have Z:=qH (qA H V);clear hv hq hT H V hK;go_enter func84,ntmps84;go_wp2_with fail;rw [<-F];clear F;refine HW.o.mono ?_;rintro e w2 ⟨h,hb⟩;have O:=qH (qA ((hb.block _ (qG Z.o.2).1).trans Z.o.2) (Z.o.1.trans (hb.mono Z.o.1.size)));clear hb;rcases h with ⟨Y,rfl⟩ | ⟨Y,rfl⟩
 ·unfold fstr;have HS:=qH Y;obtain⟨T1,I⟩:∃T,qb7 q.num=T:=⟨_,rfl⟩;obtain⟨T2,J⟩:∃T,num q.den=T:=⟨_,rfl⟩;rw [I,J];have U:=qH (qA I J);clear I J Y
  go_wp2_with (with_reducible refine sR_ rfl 44 _ _ rfl (w.heap.size+1) #[.string T1,.string T2] O.o.1 2 ?_)
  refine qR (v:=.tuple #[.agg #[.string T1,.string T2],.int .i64 0]) (rB_ rfl (w.heap.size+1) (qT _ _ _ _ _ _ O.o.1) underlying44 2) rfl ⟨qan ⟨HS.o,?_⟩,qS O.o.2 (by omega) _⟩;unfold fstr;rw [U.o.1,U.o.2]
 ·have HS:=qH Y;clear Y
  go_wp2_with (with_reducible refine sR_ rfl 44 _ _ rfl (w.heap.size+1) #[.string ⟨#[]⟩,.string ⟨#[]⟩] O.o.1 2 ?_)
  exact qR (v:=.tuple #[.agg #[.string ⟨#[]⟩,.string ⟨#[]⟩],.int .i64 6]) (rB_ rfl (w.heap.size+1) (qT _ _ _ _ _ _ O.o.1) underlying44 2) rfl ⟨qag ⟨HS.o,rfl⟩,qS O.o.2 (by omega) _⟩
theorem fadd_any (n d m c:ByteArray) (w:World) (hT:HasT w) :
  Calls prog 27 #[.agg #[.string n,.string d],.agg #[.string m,.string c]] w fun e w'=>FDoes w (· + ·) n.data.toList d.data.toList m.data.toList c.data.toList e w':=by
 have HT:=qH hT;have HA:=qH (fun W=>qk0 n d m c W);obtain⟨W1,J⟩:=qY (((w.alloc (.cells #[.string n,.string d] 44)).alloc (.cells #[.string m,.string c] 44)).alloc (.cells #[.string ⟨#[]⟩,.string ⟨#[]⟩] 44));have ae:Below w.heap.size w W1:=J▸qbU (qbU (qbU qB qN) qN) qN;have af:W1.heap[w.heap.size+1+1]? = some (.cells #[.string ⟨#[]⟩,.string ⟨#[]⟩] 44 (0,0)):=by rw [J];exact qM _ _ _ (by simp)
 have HR:=qH (qA ae af);clear ae af hT;go_enter func27,ntmps27;go_wp2_with fail;rw [<-J];clear J;refine (HA.o W1).mono ?_;rintro e w2 ⟨⟨v,er,rfl,h⟩,F⟩;have I:=qH (qA ((F.block _ (qG HR.o.2).1).trans HR.o.2) (HR.o.1.trans (F.mono HR.o.1.size)));clear F;rcases h with ⟨Z,rfl,hv⟩ | ⟨Z,rfl,rfl⟩
 ·have O:=qhu _ (67+67+1) (by decide) (by decide) v w2 hv (Z.1.fit.add Z.2.fit) (HT.o.below I.o.2);have HF:=qH Z;have U:=qH O;obtain⟨a7,n7,c7,b7,d7,e7,f7,rfl⟩:=qcH hv;clear Z O hv;go_wp2_with fail;refine U.o.mono ?_;rintro e w3 ⟨h,F⟩;have H:=qH (qA ((F.block _ (qG I.o.1).1).trans I.o.1) (I.o.2.trans (F.mono I.o.2.size)));clear F;rcases h with ⟨hs,rfl⟩ | ⟨hs,rfl⟩
  ·unfold fstr;have HS:=qH hs;obtain⟨q,hq⟩:=qX (((· + ·):Rat->Rat->Rat) (fval n.data.toList d.data.toList) (fval m.data.toList c.data.toList));obtain⟨T1,V⟩:∃T,qb7 (((· + ·):Rat->Rat->Rat) (fval n.data.toList d.data.toList) (fval m.data.toList c.data.toList)).num=T:=⟨_,rfl⟩;obtain⟨T2,Y⟩:∃T,num (((· + ·):Rat->Rat->Rat) (fval n.data.toList d.data.toList) (fval m.data.toList c.data.toList)).den=T:=⟨_,rfl⟩;rw [V,Y];have aa:=qH (qA V Y);clear V Y hs hq
   go_wp2_with (with_reducible refine sR_ rfl 44 _ _ rfl (w.heap.size+1+1) #[.string T1,.string T2] H.o.1 2 ?_)
   refine qR (v:=.tuple #[.agg #[.string T1,.string T2],.int .i64 0]) (rB_ rfl (w.heap.size+1+1) (qT _ _ _ _ _ _ H.o.1) underlying44 2) rfl ⟨qan ⟨HF.o,qan ⟨HS.o,?_⟩⟩,qS H.o.2 (by omega) _⟩;unfold fstr;rw [aa.o.1,aa.o.2]
  ·have HS:=qH hs;clear hs
   go_wp2_with (with_reducible refine sR_ rfl 44 _ _ rfl (w.heap.size+1+1) #[.string ⟨#[]⟩,.string ⟨#[]⟩] H.o.1 2 ?_)
   exact qR (v:=.tuple #[.agg #[.string ⟨#[]⟩,.string ⟨#[]⟩],.int .i64 6]) (rB_ rfl (w.heap.size+1+1) (qT _ _ _ _ _ _ H.o.1) underlying44 2) rfl ⟨qan ⟨HF.o,qag ⟨HS.o,rfl⟩⟩,qS H.o.2 (by omega) _⟩
 ·have HF:=qH Z;have U:=qH (fun W=>qgy none 0 0 false none 0 0 W);clear Z;go_wp2_with fail;refine (U.o _).mono ?_;rintro e w3 ⟨rfl,F⟩;have H:=qH (qA ((F.block _ (qG I.o.1).1).trans I.o.1) (I.o.2.trans (F.mono I.o.2.size)));clear F
  go_wp2_with (with_reducible refine sR_ rfl 44 _ _ rfl (w.heap.size+1+1) #[.string ⟨#[]⟩,.string ⟨#[]⟩] H.o.1 2 ?_)
  exact qR (v:=.tuple #[.agg #[.string ⟨#[]⟩,.string ⟨#[]⟩],.int .i64 20]) (rB_ rfl (w.heap.size+1+1) (qT _ _ _ _ _ _ H.o.1) underlying44 2) rfl ⟨qag ⟨HF.o,rfl⟩,qS H.o.2 (by omega) _⟩
theorem fmul_any (n d m c:ByteArray) (w:World) (hT:HasT w) :
  Calls prog 26 #[.agg #[.string n,.string d],.agg #[.string m,.string c]] w fun e w'=>FDoes w (· * ·) n.data.toList d.data.toList m.data.toList c.data.toList e w':=by
 have HT:=qH hT;have HA:=qH (fun W=>qk2 n d m c W);obtain⟨W1,J⟩:=qY (((w.alloc (.cells #[.string n,.string d] 44)).alloc (.cells #[.string m,.string c] 44)).alloc (.cells #[.string ⟨#[]⟩,.string ⟨#[]⟩] 44));have ae:Below w.heap.size w W1:=J▸qbU (qbU (qbU qB qN) qN) qN;have af:W1.heap[w.heap.size+1+1]? = some (.cells #[.string ⟨#[]⟩,.string ⟨#[]⟩] 44 (0,0)):=by rw [J];exact qM _ _ _ (by simp)
 have HR:=qH (qA ae af);clear ae af hT;go_enter func26,ntmps26;go_wp2_with fail;rw [<-J];clear J;refine (HA.o W1).mono ?_;rintro e w2 ⟨⟨v,er,rfl,h⟩,F⟩;have I:=qH (qA ((F.block _ (qG HR.o.2).1).trans HR.o.2) (HR.o.1.trans (F.mono HR.o.1.size)));clear F;rcases h with ⟨Z,rfl,hv⟩ | ⟨Z,rfl,rfl⟩
 ·have O:=qhu _ (67+67) (by decide) (by decide) v w2 hv (Z.1.fit.mul Z.2.fit) (HT.o.below I.o.2);have HF:=qH Z;have U:=qH O;obtain⟨a7,n7,c7,b7,d7,e7,f7,rfl⟩:=qcH hv;clear Z O hv;go_wp2_with fail;refine U.o.mono ?_;rintro e w3 ⟨h,F⟩;have H:=qH (qA ((F.block _ (qG I.o.1).1).trans I.o.1) (I.o.2.trans (F.mono I.o.2.size)));clear F;rcases h with ⟨hs,rfl⟩ | ⟨hs,rfl⟩
  ·unfold fstr;have HS:=qH hs;obtain⟨q,hq⟩:=qX (((· * ·):Rat->Rat->Rat) (fval n.data.toList d.data.toList) (fval m.data.toList c.data.toList));obtain⟨T1,V⟩:∃T,qb7 (((· * ·):Rat->Rat->Rat) (fval n.data.toList d.data.toList) (fval m.data.toList c.data.toList)).num=T:=⟨_,rfl⟩;obtain⟨T2,Y⟩:∃T,num (((· * ·):Rat->Rat->Rat) (fval n.data.toList d.data.toList) (fval m.data.toList c.data.toList)).den=T:=⟨_,rfl⟩;rw [V,Y];have aa:=qH (qA V Y);clear V Y hs hq
   go_wp2_with (with_reducible refine sR_ rfl 44 _ _ rfl (w.heap.size+1+1) #[.string T1,.string T2] H.o.1 2 ?_)
   refine qR (v:=.tuple #[.agg #[.string T1,.string T2],.int .i64 0]) (rB_ rfl (w.heap.size+1+1) (qT _ _ _ _ _ _ H.o.1) underlying44 2) rfl ⟨qan ⟨HF.o,qan ⟨HS.o,?_⟩⟩,qS H.o.2 (by omega) _⟩;unfold fstr;rw [aa.o.1,aa.o.2]
  ·have HS:=qH hs;clear hs
   go_wp2_with (with_reducible refine sR_ rfl 44 _ _ rfl (w.heap.size+1+1) #[.string ⟨#[]⟩,.string ⟨#[]⟩] H.o.1 2 ?_)
   exact qR (v:=.tuple #[.agg #[.string ⟨#[]⟩,.string ⟨#[]⟩],.int .i64 6]) (rB_ rfl (w.heap.size+1+1) (qT _ _ _ _ _ _ H.o.1) underlying44 2) rfl ⟨qan ⟨HF.o,qag ⟨HS.o,rfl⟩⟩,qS H.o.2 (by omega) _⟩
 ·have HF:=qH Z;have U:=qH (fun W=>qgy none 0 0 false none 0 0 W);clear Z;go_wp2_with fail;refine (U.o _).mono ?_;rintro e w3 ⟨rfl,F⟩;have H:=qH (qA ((F.block _ (qG I.o.1).1).trans I.o.1) (I.o.2.trans (F.mono I.o.2.size)));clear F
  go_wp2_with (with_reducible refine sR_ rfl 44 _ _ rfl (w.heap.size+1+1) #[.string ⟨#[]⟩,.string ⟨#[]⟩] H.o.1 2 ?_)
  exact qR (v:=.tuple #[.agg #[.string ⟨#[]⟩,.string ⟨#[]⟩],.int .i64 20]) (rB_ rfl (w.heap.size+1+1) (qT _ _ _ _ _ _ H.o.1) underlying44 2) rfl ⟨qag ⟨HF.o,rfl⟩,qS H.o.2 (by omega) _⟩
theorem qjV (n d:Int) (hd:d≠0):(Rat.divInt n d).num=(if (decide (n<0) != decide (d<0))=true then -((n.natAbs / n.natAbs.gcd d.natAbs:Nat):Int) else ((n.natAbs / n.natAbs.gcd d.natAbs:Nat):Int))/\(Rat.divInt n d).den=d.natAbs / n.natAbs.gcd d.natAbs:=by
 have hg:0<n.natAbs.gcd d.natAbs:=qba _ (by omega);obtain⟨z,O⟩:=qX (if (decide (n<0) != decide (d<0))=true then -((n.natAbs / n.natAbs.gcd d.natAbs:Nat):Int) else ((n.natAbs / n.natAbs.gcd d.natAbs:Nat):Int));rw [O];have U:z.natAbs=n.natAbs / n.natAbs.gcd d.natAbs:=by
  rw [<-O];generalize n.natAbs / n.natAbs.gcd d.natAbs=A;split <;> omega
 have h0:d.natAbs / n.natAbs.gcd d.natAbs≠0:=qbl (Nat.div_pos (qbP (by omega) (qaW _ _)) hg);have hc:z.natAbs.Coprime (d.natAbs / n.natAbs.gcd d.natAbs):=by rw [U];exact Nat.coprime_div_gcd_div_gcd hg
 have hx:n.natAbs / n.natAbs.gcd d.natAbs*d.natAbs=n.natAbs*(d.natAbs / n.natAbs.gcd d.natAbs):=by
  obtain⟨a,V⟩:=qbN n.natAbs d.natAbs;obtain⟨b,Y⟩:=qaW n.natAbs d.natAbs;have Z:n.natAbs / n.natAbs.gcd d.natAbs=a:=by (conv=>lhs;lhs;rw [V]);exact qaY _ hg
  have eb:d.natAbs / n.natAbs.gcd d.natAbs=b:=by (conv=>lhs;lhs;rw [Y]);exact qaY _ hg
  rw [Z,eb];generalize n.natAbs.gcd d.natAbs=g at *;rw [V,Y];simp only [qbr,qat]
 have e:=qi5 (z:=z) (N:=if d<0 then -n else n) (D:=d.natAbs) h0 hc (by omega) (by
  have F:((n.natAbs / n.natAbs.gcd d.natAbs:Nat):Int)*(d.natAbs:Int)=(n.natAbs:Int)*((d.natAbs / n.natAbs.gcd d.natAbs:Nat):Int):=by exact_mod_cast hx
  generalize ((d.natAbs / n.natAbs.gcd d.natAbs:Nat):Int)=B at *;rw [<-O];generalize ((n.natAbs / n.natAbs.gcd d.natAbs:Nat):Int)=A at *
  by_cases I:n<0
  ·have J:(n.natAbs:Int) = -n:=by omega
   rw [J] at F
   by_cases H:d<0
   ·rw [qV I,qV H,if_neg (by decide),if_pos H];exact F
   ·rw [qV I,qU H,if_pos (by decide),if_neg H,qbz,F,qbz,Int.neg_neg]
  ·have J:(n.natAbs:Int)=n:=by omega
   rw [J] at F
   by_cases H:d<0
   ·rw [qU I,qV H,if_pos (by decide),if_pos H,qbz,F,qbz]
   ·rw [qU I,qU H,if_neg (by decide),if_neg H];exact F) (q:=Rat.divInt n d) (by
  by_cases H:d<0
  ·rw [if_pos H,<-Rat.divInt_ofNat,<-Rat.neg_divInt_neg]
   congr 1;omega
  ·rw [if_neg H,<-Rat.divInt_ofNat]
   congr 1;omega)
 exact e
theorem qhz (n d:Int) (aC:d≠0) (K:Nat) (az:0<K) (hK:K<=34359738368) (v u:Value) (w:World) (hv:IntAt w v n) (hu:IntAt w u d) (fn:Fit n.natAbs K) (fd:Fit d.natAbs K) (hT:HasT w) :
  Calls prog 179 #[v,u] w fun e w'=>qgs w (Rat.divInt n d) e w':=by
 obtain⟨mn,rfl,hn⟩:=hv;obtain⟨md,rfl,hd⟩:=hu;obtain⟨aa,ae⟩:=qjV n d aC;obtain⟨q,hq⟩:=qX (Rat.divInt n d);rw [hq] at aa ae ⊢;have av:0<n.natAbs.gcd d.natAbs:=qba _ (by omega);have fg:Fit (n.natAbs.gcd d.natAbs) K:=fd.le (Nat.gcd_le_right _ (by omega));obtain⟨g,hg⟩:=qX (n.natAbs.gcd d.natAbs);obtain⟨x,hx⟩:=qX n.natAbs;obtain⟨y,hy⟩:=qX d.natAbs;rw [hg] at aa ae av fg;rw [hx] at aa hn fn hg;rw [hy] at ae hd fd hg;obtain⟨a,ha⟩:=qX (x / g);obtain⟨b,F⟩:=qX (y / g);rw [ha] at aa;rw [F] at ae;have fa:Fit a K:=ha▸fn.le (qaR _ _);have fb:Fit b K:=F▸fd.le (qaR _ _);have aD:q.num.natAbs=a:=by rw [aa];split <;> omega
 have aA:Short q↔(num a).size<=600/\(num b).size<=600:=by unfold Short;rw [aD,ae]
 have HQ:=qH (qA aa (qA ae aA));generalize decide (n<0)=b0 at *;generalize decide (d<0)=b1 at *;have HF:=qH (qA fn (qA fd (qA fg (qA fa fb))));have HE:=qH (qA hg (qA ha (qA F av)));have HK:=qH (qA az hK);have HX:=qH (qA hn hd);have HT:=qH hT;obtain⟨a0,_,_,c0,n0,_,rfl,_,_⟩:=hn;obtain⟨a1,_,_,c1,n1,_,rfl,_,_⟩:=hd;obtain⟨W1,af⟩:=qY (((w.alloc (.cells #[.slice a0 n0 c0,.bool b0] 242)).alloc (.cells #[.slice a1 n1 c1,.bool b1] 242)).alloc (.cells #[.string ⟨#[]⟩,.string ⟨#[]⟩] 44));have aB:Below w.heap.size w W1:=af▸qbU (qbU (qbU qB qN) qN) qN;have aF:W1.heap[w.heap.size]? = some (.cells #[.slice a0 n0 c0,.bool b0] 242 (0,0)):=by rw [af,qL _ _ _ (by simp only [qab];omega),qL _ _ _ (by simp only [qab];omega)];exact qM _ _ _ rfl
 have aG:W1.heap[w.heap.size+1]? = some (.cells #[.slice a1 n1 c1,.bool b1] 242 (0,0)):=by rw [af,qL _ _ _ (by simp only [qab];omega)];exact qM _ _ _ (by simp)
 have aH:W1.heap[w.heap.size+1+1]? = some (.cells #[.string ⟨#[]⟩,.string ⟨#[]⟩] 44 (0,0)):=by rw [af];exact qM _ _ _ (by simp)
 have J:=qH (qA aB (qA aF (qA aG aH)));have HN:=qH hq;clear hq aa ae aA aD fn fd fg fa fb hg ha F av az hK hT aB aF aG aH hx hy aC;go_enter func179,ntmps179;go_wp2_with fail;rw [<-af];clear af
 ·refine ((qcZ .l) x y K (by have:=HK.o;omega) _ _ W1 (HX.o.1.below J.o.1) (HX.o.2.below J.o.1) HF.o.1 HF.o.2.1).mono ?_;rintro e w2 ⟨vg,rfl,F,hv⟩;rw [HE.o.1] at hv;have Mw2_g:=qH hv;have O:=qH (qA (J.o.1.trans (F.mono J.o.1.size)) (qA ((F.block _ (qG J.o.2.1).1).trans J.o.2.1) (qA ((F.block _ (qG J.o.2.2.1).1).trans J.o.2.2.1) ((F.block _ (qG J.o.2.2.2).1).trans J.o.2.2.2))));have aN:=qC w2 _ 0 _ _ _ O.o.2.1;obtain⟨sg,_,_,ug,tg,_,rfl,_,_⟩:=hv;clear F;go_wp2_with fail;refine ((qb3 .l) x g K (by have:=HK.o;omega) _ _ w2 (HX.o.1.below O.o.1) Mw2_g.o HF.o.1 HF.o.2.2.1 HE.o.2.2.2).mono ?_;rintro e w3 ⟨va,_,rfl,F,hv,_⟩;rw [HE.o.2.1] at hv;have Mw3_a:=qH hv;have U:=qH (qA (O.o.1.trans (F.mono O.o.1.size)) (qA ((F.block _ (qG O.o.2.1).1).trans O.o.2.1) (qA ((F.block _ (qG O.o.2.2.1).1).trans O.o.2.2.1) ((F.block _ (qG O.o.2.2.2).1).trans O.o.2.2.2))));have Mw3_g:=qH (Mw2_g.o.below F);have aP:=qC w3 _ 0 _ _ _ U.o.2.2.1;obtain⟨sa,_,_,ua,ta,_,rfl,_,_⟩:=hv;clear F aN;go_wp2_with fail;refine ((qb3 .l) y g K (by have:=HK.o;omega) _ _ w3 (HX.o.2.below U.o.1) Mw3_g.o HF.o.2.1 HF.o.2.2.1 HE.o.2.2.2).mono ?_;rintro e w4 ⟨vb,_,rfl,F,hv,_⟩;rw [HE.o.2.2.1] at hv;have Mw4_b:=qH hv;have V:=qH (qA (U.o.1.trans (F.mono U.o.1.size)) (qA ((F.block _ (qG U.o.2.1).1).trans U.o.2.1) (qA ((F.block _ (qG U.o.2.2.1).1).trans U.o.2.2.1) ((F.block _ (qG U.o.2.2.2).1).trans U.o.2.2.2))));have Mw4_a:=qH (Mw3_a.o.below F);obtain⟨sb,_,_,ub,tb,_,rfl,_,_⟩:=hv;clear F aP;obtain⟨L1,ai⟩:∃L,(num a).size=L:=⟨_,rfl⟩;obtain⟨L2,aj⟩:∃L,(num b).size=L:=⟨_,rfl⟩;have HL:=qH (show Short q↔L1<=600/\L2<=600 by rw [<-ai,<-aj];exact HQ.o.2.2);have l1:=(qdE .l) a K (by have:=HK.o;omega) _ w4 Mw4_a.o HF.o.2.2.2.1 (HT.o.below V.o.1);rw [ai] at l1;have aI:=qH l1;have aM:=qH aj;clear l1 ai aj;go_wp2_with fail;refine aI.o.mono ?_;rintro e w5 ⟨rfl,F⟩;have I:=qH (qA (V.o.1.trans (F.mono V.o.1.size)) (qA ((F.block _ (qG V.o.2.1).1).trans V.o.2.1) (qA ((F.block _ (qG V.o.2.2.1).1).trans V.o.2.2.1) ((F.block _ (qG V.o.2.2.2).1).trans V.o.2.2.2))));have Mw5_a:=qH (Mw4_a.o.below F);have Mw5_b:=qH (Mw4_b.o.below F);clear F
  by_cases h1:(600:Int)<L1
  ·have ag:Hu (¬Short q):=qH (fun h=>by have:=HL.o.1 h;omega)
   go_wp2_with (with_reducible refine sR_ rfl 44 _ _ rfl (w.heap.size+1+1) #[.string ⟨#[]⟩,.string ⟨#[]⟩] I.o.2.2.2 2 ?_)
   exact qR (v:=.tuple #[.agg #[.string ⟨#[]⟩,.string ⟨#[]⟩],.int .i64 6]) (rB_ rfl (w.heap.size+1+1) (qT _ _ _ _ _ _ I.o.2.2.2) underlying44 2) rfl ⟨qag ⟨ag.o,rfl⟩,qS I.o.1 (by omega) _⟩
  ·have l2:=(qdE .l) b K (by have:=HK.o;omega) _ w5 Mw5_b.o HF.o.2.2.2.2 (HT.o.below I.o.1);rw [aM.o] at l2;have aJ:=qH l2;clear l2;go_wp2_with fail;refine aJ.o.mono ?_;rintro e w6 ⟨rfl,F⟩;have H:=qH (qA (I.o.1.trans (F.mono I.o.1.size)) (qA ((F.block _ (qG I.o.2.1).1).trans I.o.2.1) (qA ((F.block _ (qG I.o.2.2.1).1).trans I.o.2.2.1) ((F.block _ (qG I.o.2.2.2).1).trans I.o.2.2.2))));have Mw6_a:=qH (Mw5_a.o.below F);have Mw6_b:=qH (Mw5_b.o.below F);clear F
   by_cases h2:(600:Int)<L2
   ·have ag:Hu (¬Short q):=qH (fun h=>by have:=HL.o.1 h;omega)
    go_wp2_with (with_reducible refine sR_ rfl 44 _ _ rfl (w.heap.size+1+1) #[.string ⟨#[]⟩,.string ⟨#[]⟩] H.o.2.2.2 2 ?_)
    exact qR (v:=.tuple #[.agg #[.string ⟨#[]⟩,.string ⟨#[]⟩],.int .i64 6]) (rB_ rfl (w.heap.size+1+1) (qT _ _ _ _ _ _ H.o.2.2.2) underlying44 2) rfl ⟨qag ⟨ag.o,rfl⟩,qS H.o.1 (by omega) _⟩
   ·have HY:Hu (Short q):=qH (HL.o.2 (by omega));have aO:=qC w6 _ 1 _ _ _ H.o.2.1;have aQ:=qC w6 _ 1 _ _ _ H.o.2.2.1;go_wp2_with fail;refine ((qb6 .l) a (b0 != b1) _ w6 Mw6_a.o).mono ?_;rintro e w7 ⟨v7,rfl,F,hv⟩;rw [<-HQ.o.1] at hv;have I7:=qH hv;have Y:=qH (qA (H.o.1.trans (F.mono H.o.1.size)) (qA ((F.block _ (qG H.o.2.1).1).trans H.o.2.1) (qA ((F.block _ (qG H.o.2.2.1).1).trans H.o.2.2.1) ((F.block _ (qG H.o.2.2.2).1).trans H.o.2.2.2))));have Mw7_b:=qH (Mw6_b.o.below F);obtain⟨a9,n9,c9,b9,rfl⟩:=qbV hv;have fq:Fit q.num.natAbs K:=by
     have h:=HQ.o.1;rw [h];split <;> (first | (rw [qbj,qam];exact HF.o.2.2.2.1) | (rw [qam];exact HF.o.2.2.2.1))
    have t7:=(qe9 .l) q.num K HK.o.1 (by have:=HK.o;omega) _ w7 I7.o fq (HT.o.below Y.o.1);obtain⟨T1,ak⟩:∃T,qb7 q.num=T:=⟨_,rfl⟩;rw [ak] at t7;have aK:=qH t7;have ax:=qH ak;clear F aO aQ hv t7 ak fq;go_wp2_with fail;refine aK.o.mono ?_;rintro e w8 ⟨rfl,F⟩;have Z:=qH (qA (Y.o.1.trans (F.mono Y.o.1.size)) (qA ((F.block _ (qG Y.o.2.1).1).trans Y.o.2.1) (qA ((F.block _ (qG Y.o.2.2.1).1).trans Y.o.2.2.1) ((F.block _ (qG Y.o.2.2.2).1).trans Y.o.2.2.2))));have Mw8_b:=qH (Mw7_b.o.below F);have t8:=(qep .l) b K (by have:=HK.o;omega) _ w8 Mw8_b.o HF.o.2.2.2.2 (HT.o.below Z.o.1);obtain⟨T2,au⟩:∃T,num b=T:=⟨_,rfl⟩;rw [au] at t8;have aL:=qH t8;have ay:=qH au;clear F t8 au;go_wp2_with fail;refine aL.o.mono ?_;rintro e w9 ⟨rfl,F⟩;have ah:=qH (qA (Z.o.1.trans (F.mono Z.o.1.size)) (qA ((F.block _ (qG Z.o.2.1).1).trans Z.o.2.1) (qA ((F.block _ (qG Z.o.2.2.1).1).trans Z.o.2.2.1) ((F.block _ (qG Z.o.2.2.2).1).trans Z.o.2.2.2))));clear F
    go_wp2_with (with_reducible refine sR_ rfl 44 _ _ rfl (w.heap.size+1+1) #[.string T1,.string T2] ah.o.2.2.2 2 ?_)
    refine qR (v:=.tuple #[.agg #[.string T1,.string T2],.int .i64 0]) (rB_ rfl (w.heap.size+1+1) (qT _ _ _ _ _ _ ah.o.2.2.2) underlying44 2) rfl ⟨qan ⟨HY.o,?_⟩,qS ah.o.1 (by omega) _⟩;unfold fstr;rw [show qb7 q.num=T1 from ax.o,HQ.o.2.1,ay.o]
structure VCells (W:World) (ao:Option Addr) (b off:Nat) (vs:List Value):Prop where
 addr:0<vs.length->ao=some ⟨b,off,none⟩
 cell:∀k,k<vs.length->W.cell? ⟨b,off+k,none⟩=some (vs.getD k undef)
theorem VCells.below {W W':World} {F:Option Addr} {b off:Nat} {I:List Value} (h:VCells W F b off I) (J:Below W.heap.size W W'):VCells W' F b off I :=
 ⟨h.addr,fun k H=>(J.cell (qac W _ (h.cell k H))).trans (h.cell k H)⟩
def qdD (W:World) (H:List Value) (F:List Nat):Prop:=H.length=F.length/\∀k,k<F.length->MagAt W (H.getD k undef) (F.getD k 0)
theorem qdD.below {W W':World} {F:List Value} {H:List Nat} (h:qdD W F H) (I:Below W.heap.size W W'):qdD W' F H:=⟨h.1,fun k J=>(h.2 k J).below I⟩
def lcms (F:List Nat):Nat:=F.foldl Nat.lcm 1
theorem qft (F:List Nat) (k:Nat) (h:k<F.length):lcms (F.take (k+1))=(lcms (F.take k)).lcm (F.getD k 0):=by
 unfold lcms;rw [List.take_add_one,qad h,List.foldl_append,qaa,qad h];rfl
theorem qfs (F:List Nat) (h:∀k,k<F.length->0<F.getD k 0):∀k,k<=F.length->0<lcms (F.take k)
 | 0,_=>by simp [lcms]
 | k+1,hk=>by rw [qft F k (by omega)];exact Nat.lcm_pos (qfs F h k (by omega)) (h k (by omega))
theorem qfr (F:List Nat) (J:Nat) (h:∀k,k<F.length->0<F.getD k 0/\Fit (F.getD k 0) J):∀k,k<=F.length->Fit (lcms (F.take k)) (k*J+1)
 | 0,_=>by show 1<1000000000 ^ (0*J+1);rw [Nat.zero_mul];decide
 | k+1,H=>by
  rw [qft F k (by omega)];have I:=(qfr F J h k (by omega)).mul (h k (by omega)).2;have O:=qfs F (fun k H=>(h k H).1) k (by omega);have U:=(h k (by omega)).1;refine (I.le (qbP (qbT O U) (Nat.lcm_dvd_mul _ _))).mono ?_;rw [qaE];omega
theorem qhU (F:List Nat):∀m k,k<m->m<=F.length->F.getD k 0∣lcms (F.take m)
 | 0,_,h,_=>absurd h (by omega)
 | m+1,k,H,hm=>by
  rw [qft F m (by omega)]
  by_cases e:k=m
  ·subst e;exact Nat.dvd_lcm_right _ _
  ·exact Nat.dvd_trans (qhU F m k (by omega) (by omega)) (Nat.dvd_lcm_left _ _)
theorem qhs (ao:Option Addr) (b off n c:Nat) (vs:List Value) (I:List Nat) (J:Nat) (w:World) (hn:I.length=n) (F:VCells w ao b off vs) (hm:qdD w vs I) (hx:∀k,k<n->0<I.getD k 0/\Fit (I.getD k 0) J) (hb:n*J+1<=137438953472) (hJ:J<=137438953472) (au:n<=1048576) :
  Calls prog 226 #[.slice ao n c] w fun e w'=>∃v,e=.returned v/\Below w.heap.size w w'/\MagAt w' v (lcms I):=by
 have ag:vs.length=n:=hm.1.trans hn;have H:=qH (qA F (qA hm (qA hn ag)));have HX:=qH (qA hx (qA hb hJ));clear F hm hn ag hx hb hJ;go_enter func226,ntmps226;go_wp2
 go_loopw [3,9] (fun x3 x9 W=>∃k:Nat,k<=n/\x9=.int .i64 k/\Hu (MagAt W x3 (lcms (I.take k)))/\Hu (Below w.heap.size w W)) (fun _ x9 _=>n-(intOf x9).toNat)
 case atStart=>exact⟨0,qal _,rfl,qH (qeD w _ (by decide) (by decide)),qH (qbU qB qN)⟩
 case round =>
  obtain⟨k,hk,rfl,hM,hB⟩:=hrel
  by_cases aj:k<n
  ·have ak:(k:Int)<n:=by omega
   have ah:=H.o.1.addr (by have:=H.o.2.2.2;omega);subst ah;have hc:=(H.o.1.below hB.o).cell k (by have:=H.o.2.2.2;omega);have V:=((H.o.2.1.below hB.o).2 k (by have:=H.o.2.2.1;omega));obtain⟨vk,af⟩:=qX (vs.getD k undef);rw [af] at hc V;have Y:∀j,j<I.length->0<I.getD j 0/\Fit (I.getD j 0) J:=fun j hj=>HX.o.1 j (by have:=H.o.2.2.1;omega)
   have ai:k*J<=n*J:=qaH _ hk;have U:=qeE (lcms (I.take k)) (I.getD k 0) (k*J+1) J (by have:=HX.o.2.1;omega) HX.o.2.2 (qfs I (fun j hj=>(Y j hj).1) k (by have:=H.o.2.2.1;omega)) (Y k (by have:=H.o.2.2.1;omega)).1 _ vk wr hM.o V (qfr I J Y k (by have:=H.o.2.2.1;omega)) (Y k (by have:=H.o.2.2.1;omega)).2;rw [<-qft I k (by have:=H.o.2.2.1;omega)] at U;have HM:=qH U;have HV:=qH V;obtain⟨sa,_,_,sc,sn,_,rfl,_,_⟩:=V;obtain⟨ua,_,_,uc,un,_,rfl,_,_⟩:=hM.o;clear U ai af;go_wp2_with fail;refine HM.o.mono ?_;rintro e w2 ⟨v2,rfl,aa,ae⟩;have H2:=qH (qA (hB.o.trans (aa.mono hB.o.size)) ae);clear aa ae;go_wp2;go_roundw
   case rel=>exact⟨k+1,aj,by go_num,qH H2.o.2,qH H2.o.1⟩
   case measure=>simp [intOf];omega
  ·obtain rfl:k=n:=by omega
   have O:=hM.o;rw [qak (by have:=H.o.2.2.1;omega)] at O;have Z:=qH O;clear O;go_wp2;go_ret;exact⟨_,rfl,hB.o,Z.o⟩
