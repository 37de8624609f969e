import Derived.Deep.RegionHeld3
import Derived.Test.YtjalhnlhcdfncaaGreatDoorBo10
import Derived.Test.YtjalhnlhcdfncaaGreatDoorBo6
set_option maxRecDepth 100000
set_option maxHeartbeats 0
namespace Go.Proofs.YtjalhnlhcdfncaaGreatDoor
open Go.RowKit Go.Proofs.Tryz
theorem qds {W:World} {m:Value} {b:Bool} {z:Int} {g:Nat} {cs cs':Array Value} {t:TypeId} {E:Nat×Nat} (h:IntAt W (.agg #[m,.bool b]) z) (hg:W.heap[g]? = some (.cells cs t E)) (hne:∀x∈cs.toList,∀d,x≠.int .u32 d):IntAt (W.setRow g cs') (.agg #[m,.bool b]) z:=by
 obtain⟨m',F,H⟩:=h;exact⟨m',F,qda H hg hne⟩
theorem qb6 {W:World} {v:Value} {z:Int} (h:IntAt W v z):∃(a:Option Addr) (n c:Nat) (b:Bool),v=.agg #[.slice a n c,.bool b]:=by
 obtain⟨m,rfl,am,bm,H,cm,n,M,rfl,F,E⟩:=h;exact⟨am,n,cm,_,rfl⟩
theorem qb7 (W:World) (g k:Nat) (v:Value):W.grownBy (W.setCell ⟨g,k,none⟩ v) (some g) :=
 ⟨rfl,rfl,rfl,by simp [World.setCell],fun i _ hr=>qW _ _ _ _ (fun e=>hr (by rw [e]))⟩
theorem qdl {W:World} {g:Nat} {t:TypeId} (h:W.heap[g]? = some (.cells #[.slice none 0 0,.bool false] t (0,0))) (a:Option Addr) (n c:Nat) (b:Bool) :
  ((W.setCell ⟨g,0,none⟩ (.slice a n c)).setCell ⟨g,1,none⟩ (.bool b)).heap[g]? = some (.cells #[.slice a n c,.bool b] t (0,0)) :=
 heap_setCell_same _ g 1 _ t _ (heap_setCell_same _ g 0 _ t _ h)
theorem qdk {W:World} {m:Value} {E:Bool} {z:Int} {g:Nat} {t:TypeId} (I:IntAt W (.agg #[m,.bool E]) z) (h:W.heap[g]? = some (.cells #[.slice none 0 0,.bool false] t (0,0))) (a:Option Addr) (n c:Nat) (b:Bool) :
  IntAt ((W.setCell ⟨g,0,none⟩ (.slice a n c)).setCell ⟨g,1,none⟩ (.bool b)) (.agg #[m,.bool E]) z:=by
 obtain⟨m',F,H⟩:=I;refine⟨m',F,?_⟩;refine qcA (qcA H (qb7 W g 0 _) h qfG) (qb7 _ g 1 _) (heap_setCell_same W g 0 _ t _ h) ?_;intro x hx d;rcases qat.1 (show x∈[Value.slice a n c,Value.bool false] from hx) with rfl | hx
 ·intro h;cases h
 ·rw [qap.1 hx];intro h;cases h
theorem qjz (x y:Int):(if (decide (x<0) != decide (y<0))=true then -((x.natAbs*y.natAbs:Nat):Int) else ((x.natAbs*y.natAbs:Nat):Int))=x*y:=by
 rw [<-qaE]
 by_cases hx:x<0
 ·by_cases hy:y<0
  ·rw [qV hx,qV hy,if_neg (by decide)];have:=Int.mul_pos_of_neg_of_neg hx hy;omega
  ·rw [qV hx,qU hy,if_pos (by decide)];have:=Int.mul_nonpos_of_nonpos_of_nonneg (Int.le_of_lt hx) (Int.not_lt.1 hy);omega
 ·by_cases hy:y<0
  ·rw [qU hx,qV hy,if_pos (by decide)];have:=Int.mul_nonpos_of_nonneg_of_nonpos (Int.not_lt.1 hx) (Int.le_of_lt hy);omega
  ·rw [qU hx,qU hy,if_neg (by decide)];have:=Int.mul_nonneg (Int.not_lt.1 hx) (Int.not_lt.1 hy);omega
theorem qkK (x:Int) (y:Nat):(if decide (x<0)=true then -((x.natAbs*y:Nat):Int) else ((x.natAbs*y:Nat):Int))=x*(y:Int):=by
 by_cases hx:x<0
 ·rw [qV hx,if_pos rfl,Int.natCast_mul,<-qbN];congr 1;omega
 ·rw [qU hx,if_neg (by decide),Int.natCast_mul];congr 1;omega
theorem qd9 (V:Pk) (z:Int) (v:Value) (w:World) (hv:IntAt w v z) :
  Calls prog (Pk.of V 109 156) #[v] w fun e w'=>∃u,e=.returned u/\Below w.heap.size w w'/\IntAt w' u (-z):=by
 obtain⟨m,rfl,hm⟩:=hv;have hs:=fun (W:World) (h:Below w.heap.size w W)=>(qcq V) z.natAbs (!decide (z<0)) m W (hm.below h)
 have hz:(if (!decide (z<0))=true then -(z.natAbs:Int) else (z.natAbs:Int)) = -z:=by
  by_cases h:z<0
  ·rw [qV h,if_neg (by decide)];omega
  ·rw [qU h,if_pos (by decide)];omega
 rw [hz] at hs;have HS:=qH hs;generalize decide (z<0)=b at *;obtain⟨am,bm,om,cm,n,M,rfl,Im,aa⟩:=hm;clear hs hz Im aa;obtain⟨W1,H⟩:=qY ((w.alloc (.cells #[.slice am n cm,.bool b] (Pk.of V 125 217))).alloc (.cells #[.slice none 0 0,.bool false] (Pk.of V 125 217)));have I:Below w.heap.size w W1:=H▸(qB.alloc qN _).alloc (by simp) _;have O:W1.heap[w.heap.size+1]? = some (.cells #[.slice none 0 0,.bool false] (Pk.of V 125 217) (0,0)):=by rw [H];exact qM _ _ _ (by simp)
 cases V <;> dsimp only [Pk.of] at * <;> (
 first | go_enter func109,ntmps109 | go_enter func156,ntmps156
 go_wp2_with fail;rw [<-H];refine (HS.o _ I).mono ?_;rintro e w2 ⟨u,rfl,J,U⟩;have E:=(J.block (w.heap.size+1) (qG O).1).trans O;have F:Below w.heap.size w w2:=I.trans (J.mono I.size);clear H I O;obtain⟨a9,n9,c9,b9,rfl⟩:=qb6 U;have Y:=qds (cs':=#[.slice a9 n9 c9,.bool b9]) U E qfG;have Z:=qH (qA E (qA F (qS F (show w.heap.size<=w.heap.size+1 by omega) #[.slice a9 n9 c9,.bool b9])));have HV:=qH Y;clear E F Y J U
 go_wp2_with ((with_reducible refine wpList_store_row rfl _ _ _ rfl (w.heap.size+1) #[.slice a9 n9 c9,.bool b9] ?_ ?_ _ _ Z.o.1 2 ?_ ?_ ?_ ?_ ?_);(next=>rfl);(next=>rfl);(next=>kernel_rfl);(next=>rfl);(next=>rfl);(next=>rfl))
 exact qR (v:=.agg #[.slice a9 n9 c9,.bool b9]) (qc9 rfl _ _ (w.heap.size+1) _ _ _ rfl (qT _ _ _ _ _ _ Z.o.1) (by first | exact underlying125 | exact underlying217) rfl 2 (by kernel_rfl) rfl) rfl ⟨_,rfl,Z.o.2.2,HV.o⟩)
theorem qcU (x y:Int) (K J:Nat) (hK:K+J<=274877906944) (v u:Value) (w:World) (hv:IntAt w v x) (hu:IntAt w u y) (hx:Fit x.natAbs K) (hy:Fit y.natAbs J) :
  Calls prog 153 #[v,u] w fun e w'=>∃u,e=.returned u/\Below w.heap.size w w'/\IntAt w' u (x*y):=by
 obtain⟨m,rfl,hm⟩:=hv;obtain⟨o,rfl,ho⟩:=hu;have ht:=fun (W:World) (h:Below w.heap.size w W)=>(qcz .l) x.natAbs y.natAbs K J hK m o W (hm.below h) (ho.below h) hx hy
 have hs:=fun (W:World) (p:Value) (h:MagAt W p (x.natAbs*y.natAbs))=>(qcq .l) (x.natAbs*y.natAbs) (decide (x<0) != decide (y<0)) p W h
 rw [qjz] at hs;generalize decide (x<0)=b0 at *;generalize decide (y<0)=b1 at *;obtain⟨a0,bm,om,c0,n0,M,rfl,Im,ax⟩:=hm;obtain⟨a1,bo,oo,c1,n1,O,rfl,Io,ay⟩:=ho;have HT:=qH ht;have HS:=qH hs;clear ht hs Im ax Io ay hx hy hK;obtain⟨F,H⟩:=qY (((w.alloc (.cells #[.slice a0 n0 c0,.bool b0] 217)).alloc (.cells #[.slice a1 n1 c1,.bool b1] 217)).alloc (.cells #[.slice none 0 0,.bool false] 217));have au:Below w.heap.size w F:=H▸((qB.alloc qN _).alloc (by simp only [qab];omega) _).alloc (by simp only [qab];omega) _;have ag:F.heap[w.heap.size]? = some (.cells #[.slice a0 n0 c0,.bool b0] 217 (0,0)):=by rw [H,qL _ _ _ (by simp only [qab];omega),qL _ _ _ (by simp only [qab];omega)];exact qM _ _ _ rfl
 have ah:F.heap[w.heap.size+1]? = some (.cells #[.slice a1 n1 c1,.bool b1] 217 (0,0)):=by rw [H,qL _ _ _ (by simp only [qab];omega)];exact qM _ _ _ (by simp)
 have ai:F.heap[w.heap.size+1+1]? = some (.cells #[.slice none 0 0,.bool false] 217 (0,0)):=by rw [H];exact qM _ _ _ (by simp)
 have l2:w.heap.size+1+1<F.heap.size:=(qG ai).1;have C0:∀W,Below (w.heap.size+1+1) F W->W.cell? ⟨w.heap.size,0,none⟩=some (.slice a0 n0 c0):=fun W h=>(h.cell (p:=⟨w.heap.size,0,none⟩) (by show w.heap.size<_;omega)).trans (qC _ _ 0 _ _ _ ag)
 have C1:∀W,Below (w.heap.size+1+1) F W->W.cell? ⟨w.heap.size,1,none⟩=some (.bool b0):=fun W h=>(h.cell (p:=⟨w.heap.size,1,none⟩) (by show w.heap.size<_;omega)).trans (qC _ _ 1 _ _ _ ag)
 have D0:∀W,Below (w.heap.size+1+1) F W->W.cell? ⟨w.heap.size+1,0,none⟩=some (.slice a1 n1 c1):=fun W h=>(h.cell (p:=⟨w.heap.size+1,0,none⟩) (by show w.heap.size+1<_;omega)).trans (qC _ _ 0 _ _ _ ah)
 have D1:∀W,Below (w.heap.size+1+1) F W->W.cell? ⟨w.heap.size+1,1,none⟩=some (.bool b1):=fun W h=>(h.cell (p:=⟨w.heap.size+1,1,none⟩) (by show w.heap.size+1<_;omega)).trans (qC _ _ 1 _ _ _ ah)
 have aj:Below (w.heap.size+1+1) F F:=Below.refl _ _;have E:Below (w.heap.size+1+1) F F.drew:=qB.drew;have HR:=qH (qA au ai);clear ag ah ai au;go_enter func153,ntmps153;go_wp2_with fail;rw [<-H];clear H;have V:=qH l2
 go_region_held3 (fun W=>Below (w.heap.size+1+1) F W) (first | with_reducible exact aj | with_reducible exact E | with_reducible exact Y | with_reducible exact U | ((iterate 2 refine Below.setCell ?_ (by exact qad _) _);exact Y)) (first | (go_at_call 157;refine (HT.o _ (HR.o.1.trans (E.mono (by omega)))).mono ?_;rintro e w2 ⟨p2,rfl,aa,av⟩;have U:Below (w.heap.size+1+1) F w2:=E.trans (aa.mono (qan V.o));have ak:=qH (qA av ((aa.block _ V.o).trans HR.o.2));clear aa av) | (go_at_call 161;refine (HS.o _ _ ak.o.1).mono ?_;rintro e w3 ⟨p3,rfl,ae,af⟩;have Y:Below (w.heap.size+1+1) F w3:=U.trans (ae.mono (qak (qan V.o) U.size));obtain⟨a9,n9,c9,b9,rfl⟩:=qb6 af;have I:=(ae.block _ (qai V.o U.size)).trans ak.o.2;have e0:=qC w3 _ 0 _ _ _ I;have e1:=qC w3 _ 1 _ _ _ I;have f0:=qF w3 _ 0 _ _ I;have f1:=qF w3 _ 1 _ _ I;have Z:=qH (qA af I);clear ae af I))
 go_wp2_with fail;exact qR (v:=.agg #[.slice a9 n9 c9,.bool b9]) (rA_ rfl (w.heap.size+1+1) (qdl Z.o.2 a9 n9 c9 b9) underlying217 2) rfl ⟨_,rfl,HR.o.1.trans (((Y.setCell (by exact qad _) _).setCell (by exact qad _) _).mono (by omega)),qdk Z.o.1 Z.o.2 a9 n9 c9 b9⟩
theorem qjy (x y:Int):(if (decide (x<0) != decide (y<0))=true then -((x.natAbs / y.natAbs:Nat):Int) else ((x.natAbs / y.natAbs:Nat):Int))=x.tdiv y:=by
 obtain⟨a,rfl | rfl⟩:=Int.eq_nat_or_neg x
 ·obtain⟨b,rfl | rfl⟩:=Int.eq_nat_or_neg y
  ·rw [qU (by omega),qU (by omega),if_neg (by decide)];rfl
  ·rw [qU (by omega:¬(a:Int)<0),qbv,Int.tdiv_neg]
   by_cases E:b=0
   ·subst E;simp
   ·rw [qV (by omega),if_pos (by decide)];rfl
 ·obtain⟨b,rfl | rfl⟩:=Int.eq_nat_or_neg y
  ·rw [qU (by omega:¬(b:Int)<0),qbv,Int.neg_tdiv]
   by_cases F:a=0
   ·subst F;simp
   ·rw [qV (by omega),if_pos (by decide)];rfl
  ·rw [qbv,qbv,Int.tdiv_neg,Int.neg_tdiv,Int.neg_neg]
   by_cases F:a=0
   ·subst F
    by_cases E:b=0
    ·subst E;simp
    ·simp
   ·by_cases E:b=0
    ·subst E;simp
    ·rw [qV (by omega),qV (by omega),if_neg (by decide)];rfl
theorem qmp {x y:Int} (h:decide (x<0)=decide (y<0)):(if decide (x<0)=true then -((x.natAbs+y.natAbs:Nat):Int) else ((x.natAbs+y.natAbs:Nat):Int))=x+y:=by
 by_cases hx:x<0
 ·rw [qV hx] at h ⊢;have hy:=of_decide_eq_true h.symm;rw [if_pos rfl];omega
 ·rw [qU hx] at h ⊢;have hy:=of_decide_eq_false h.symm;rw [if_neg (by decide)];omega
theorem qhs {x y:Int} (h:¬decide (x<0)=decide (y<0)) (E:y.natAbs<=x.natAbs):(if decide (x<0)=true then -((x.natAbs-y.natAbs:Nat):Int) else ((x.natAbs-y.natAbs:Nat):Int))=x+y:=by
 by_cases hx:x<0
 ·have hy:¬y<0:=fun hy=>h (by rw [qV hx,qV hy])
  rw [qV hx,if_pos rfl];omega
 ·have hy:y<0:=by
   by_cases hy:y<0
   ·exact hy
   ·exact absurd (by rw [qU hx,qU hy]) h
  rw [qU hx,if_neg (by decide)];omega
theorem qcO (Z:Pk) (x:Int) (y K J:Nat) (hK:K+J<=274877906944) (v o:Value) (w:World) (hv:IntAt w v x) (ho:MagAt w o y) (hx:Fit x.natAbs K) (hy:Fit y J) :
  Calls prog (Pk.of Z 107 155) #[v,o] w fun e w'=>∃u,e=.returned u/\Below w.heap.size w w'/\IntAt w' u (x*(y:Int)):=by
 obtain⟨m,rfl,hm⟩:=hv;have ht:=fun (W:World) (h:Below w.heap.size w W)=>(qcz Z) x.natAbs y K J hK m o W (hm.below h) (ho.below h) hx hy
 have hs:=fun (W:World) (p:Value) (h:MagAt W p (x.natAbs*y))=>(qcq Z) (x.natAbs*y) (decide (x<0)) p W h
 rw [qkK] at hs;generalize decide (x<0)=b0 at *;obtain⟨a0,bm,om,c0,n0,M,rfl,Im,av⟩:=hm;obtain⟨a1,bo,oo,c1,n1,O,rfl,Io,ax⟩:=ho;have HT:=qH ht;have HS:=qH hs;clear ht hs Im av Io ax hx hy hK;obtain⟨F,I⟩:=qY ((w.alloc (.cells #[.slice a0 n0 c0,.bool b0] (Pk.of Z 125 217))).alloc (.cells #[.slice none 0 0,.bool false] (Pk.of Z 125 217)));have ak:Below w.heap.size w F:=I▸(qB.alloc qN _).alloc (by simp only [qab];omega) _;have ai:F.heap[w.heap.size]? = some (.cells #[.slice a0 n0 c0,.bool b0] (Pk.of Z 125 217) (0,0)):=by rw [I,qL _ _ _ (by simp only [qab];omega)];exact qM _ _ _ (by simp)
 have hr:F.heap[w.heap.size+1]? = some (.cells #[.slice none 0 0,.bool false] (Pk.of Z 125 217) (0,0)):=by rw [I];exact qM _ _ _ (by simp)
 have l2:w.heap.size+1<F.heap.size:=(qG hr).1;have ay:∀W,Below (w.heap.size+1) F W->W.cell? ⟨w.heap.size,0,none⟩=some (.slice a0 n0 c0):=fun W h=>(h.cell (p:=⟨w.heap.size,0,none⟩) (by show w.heap.size<_;omega)).trans (qC _ _ 0 _ _ _ ai)
 have az:∀W,Below (w.heap.size+1) F W->W.cell? ⟨w.heap.size,1,none⟩=some (.bool b0):=fun W h=>(h.cell (p:=⟨w.heap.size,1,none⟩) (by show w.heap.size<_;omega)).trans (qC _ _ 1 _ _ _ ai)
 have E:Below (w.heap.size+1) F F:=Below.refl _ _;have HR:=qH (qA ak hr);have Y:=qH l2;clear ai hr ak;cases Z <;> dsimp only [Pk.of] at * <;> (
 first | go_enter func107,ntmps107 | go_enter func155,ntmps155
 go_wp2_with fail;rw [<-I];clear I;have U:Below (w.heap.size+1) F F.drew:=E.drew
 go_region_held3 (fun W=>Below (w.heap.size+1) F W) (first | with_reducible exact E | with_reducible exact U | with_reducible exact aa | with_reducible exact V | ((iterate 2 refine Below.setCell ?_ (by exact qad _) _);exact aa)) (first | ((first | go_at_call 183 | go_at_call 157);refine (HT.o _ (HR.o.1.trans (U.mono (by omega)))).mono ?_;rintro e w2 ⟨p2,rfl,af,au⟩;have V:Below (w.heap.size+1) F w2:=U.trans (af.mono (qan (qai Y.o E.size)));have aj:=qH (qA au ((af.block _ (qai Y.o E.size)).trans HR.o.2));clear af au) | ((first | go_at_call 123 | go_at_call 161);refine (HS.o _ _ aj.o.1).mono ?_;rintro e w3 ⟨p3,rfl,ag,ah⟩;have aa:Below (w.heap.size+1) F w3:=V.trans (ag.mono (qak (qan Y.o) V.size));obtain⟨a9,n9,c9,b9,rfl⟩:=qb6 ah;have H:=(ag.block _ (qai Y.o V.size)).trans aj.o.2;have e0:=qC w3 _ 0 _ _ _ H;have e1:=qC w3 _ 1 _ _ _ H;have f0:=qF w3 _ 0 _ _ H;have f1:=qF w3 _ 1 _ _ H;have ae:=qH (qA ah H);clear ag ah H))
 go_wp2_with fail;exact qR (v:=.agg #[.slice a9 n9 c9,.bool b9]) (qc9 rfl _ _ (w.heap.size+1) _ _ _ rfl (qdl ae.o.2 a9 n9 c9 b9) (by first | exact underlying125 | exact underlying217) rfl 2 (by kernel_rfl) rfl) rfl ⟨_,rfl,HR.o.1.trans (((aa.setCell (by exact qad _) _).setCell (by exact qad _) _).mono (by omega)),qdk ae.o.1 ae.o.2 a9 n9 c9 b9⟩)
theorem qhr (x y:Int) (K:Nat) (hK:K<=137438953472) (v u:Value) (w:World) (hv:IntAt w v x) (hu:IntAt w u y) (hx:Fit x.natAbs K) (hy:Fit y.natAbs K) (h0:y≠0) :
  Calls prog 266 #[v,u] w fun e w'=>∃u,e=.returned u/\Below w.heap.size w w'/\IntAt w' u (x.tdiv y):=by
 obtain⟨m,rfl,hm⟩:=hv;obtain⟨o,rfl,ho⟩:=hu;have ht:=fun (W:World) (h:Below w.heap.size w W)=>(qcf .l) x.natAbs y.natAbs K hK m o W (hm.below h) (ho.below h) hx hy (by omega)
 have hs:=fun (W:World) (p:Value) (h:MagAt W p (x.natAbs / y.natAbs))=>(qcq .l) (x.natAbs / y.natAbs) (decide (x<0) != decide (y<0)) p W h
 rw [qjy] at hs;generalize decide (x<0)=b0 at *;generalize decide (y<0)=b1 at *;obtain⟨a0,bm,om,c0,n0,M,rfl,Im,ay⟩:=hm;obtain⟨a1,bo,oo,c1,n1,O,rfl,Io,az⟩:=ho;have HT:=qH ht;have HS:=qH hs;clear ht hs Im ay Io az hx hy hK;obtain⟨H,F⟩:=qY (((w.alloc (.cells #[.slice a0 n0 c0,.bool b0] 217)).alloc (.cells #[.slice a1 n1 c1,.bool b1] 217)).alloc (.cells #[.slice none 0 0,.bool false] 217));have aj:Below w.heap.size w H:=F▸((qB.alloc qN _).alloc (by simp only [qab];omega) _).alloc (by simp only [qab];omega) _;have ae:H.heap[w.heap.size]? = some (.cells #[.slice a0 n0 c0,.bool b0] 217 (0,0)):=by rw [F,qL _ _ _ (by simp only [qab];omega),qL _ _ _ (by simp only [qab];omega)];exact qM _ _ _ (by simp)
 have af:H.heap[w.heap.size+1]? = some (.cells #[.slice a1 n1 c1,.bool b1] 217 (0,0)):=by rw [F,qL _ _ _ (by simp only [qab];omega)];exact qM _ _ _ (by simp)
 have hr:H.heap[w.heap.size+1+1]? = some (.cells #[.slice none 0 0,.bool false] 217 (0,0)):=by rw [F];exact qM _ _ _ (by simp)
 have l2:w.heap.size+1+1<H.heap.size:=(qG hr).1;have au:∀W,Below (w.heap.size+1+1) H W->W.cell? ⟨w.heap.size,0,none⟩=some (.slice a0 n0 c0):=fun W h=>(h.cell (p:=⟨w.heap.size,0,none⟩) (by show w.heap.size<_;omega)).trans (qC _ _ 0 _ _ _ ae)
 have ah:∀W,Below (w.heap.size+1+1) H W->W.cell? ⟨w.heap.size,1,none⟩=some (.bool b0):=fun W h=>(h.cell (p:=⟨w.heap.size,1,none⟩) (by show w.heap.size<_;omega)).trans (qC _ _ 1 _ _ _ ae)
 have av:∀W,Below (w.heap.size+1+1) H W->W.cell? ⟨w.heap.size+1,0,none⟩=some (.slice a1 n1 c1):=fun W h=>(h.cell (p:=⟨w.heap.size+1,0,none⟩) (by show w.heap.size+1<_;omega)).trans (qC _ _ 0 _ _ _ af)
 have ai:∀W,Below (w.heap.size+1+1) H W->W.cell? ⟨w.heap.size+1,1,none⟩=some (.bool b1):=fun W h=>(h.cell (p:=⟨w.heap.size+1,1,none⟩) (by show w.heap.size+1<_;omega)).trans (qC _ _ 1 _ _ _ af)
 have aA:Below (w.heap.size+1+1) H H:=Below.refl _ _;have V:=qH (qA aj hr);have Y:=qH l2;clear ae af hr aj;go_enter func266,ntmps266;go_wp2_with fail;rw [<-F];clear F;refine (HT.o _ V.o.1).mono ?_;rintro e w2 ⟨q,r,rfl,I,hq,_⟩;have Z:Below (w.heap.size+1+1) H w2:=I.mono (qan Y.o);have aB:=ah w2 Z;have aC:=ai w2 Z;have U:=(I.block _ Y.o).trans V.o.2;have H2:=qH (qA hq (qA U (V.o.1.trans (I.mono V.o.1.size))));have ax:Hu (w.heap.size+1+1<w2.heap.size):=qH (qai Y.o I.size);clear I hq U Z au ah av ai;go_wp2_with fail;refine (HS.o _ _ H2.o.1).mono ?_;rintro e w3 ⟨u3,rfl,aa,ag⟩;have E:=(aa.block _ ax.o).trans H2.o.2.1;have J:Below w.heap.size w w3:=H2.o.2.2.trans (aa.mono H2.o.2.2.size);obtain⟨a9,n9,c9,b9,rfl⟩:=qb6 ag;have ak:=qds (cs':=#[.slice a9 n9 c9,.bool b9]) ag E qfG;have V:=qH (qA E (qA J (qS J (show w.heap.size<=w.heap.size+1+1 by omega) #[.slice a9 n9 c9,.bool b9])));have HV:=qH ak;clear E J ak aa ag
 go_wp2_with (with_reducible refine sR_ rfl 217 _ _ rfl (w.heap.size+1+1) #[.slice a9 n9 c9,.bool b9] V.o.1 2 ?_)
 exact qR (v:=.agg #[.slice a9 n9 c9,.bool b9]) (rA_ rfl (w.heap.size+1+1) (qT _ _ _ _ _ _ V.o.1) underlying217 2) rfl ⟨_,rfl,V.o.2.2,HV.o⟩
theorem qdI (V:Pk) (x y:Int) (K:Nat) (hK:K<=274877906944) (v u:Value) (w:World) (hv:IntAt w v x) (hu:IntAt w u y) (hx:Fit x.natAbs K) (hy:Fit y.natAbs K) :
  Calls prog (Pk.of V 108 154) #[v,u] w fun e w'=>∃u,e=.returned u/\Below w.heap.size w w'/\IntAt w' u (x+y):=by
 obtain⟨m,rfl,hm⟩:=hv;obtain⟨o,rfl,ho⟩:=hu
 by_cases ax:decide (x<0)=decide (y<0)
 ·have ht:=fun (W:World) (h:Below w.heap.size w W)=>(qkJ V) x.natAbs y.natAbs K hK m o W (hm.below h) (ho.below h) hx hy
  have hs:=fun (W:World) (p:Value) (h:MagAt W p (x.natAbs+y.natAbs))=>(qcq V) (x.natAbs+y.natAbs) (decide (x<0)) p W h
  rw [qmp ax] at hs;rw [<-ax];generalize decide (x<0)=b0 at *;obtain⟨b1,Z⟩:=qY b0;obtain⟨a0,bm,om,c0,n0,M,rfl,Im,az⟩:=hm;obtain⟨a1,bo,oo,c1,n1,O,rfl,Io,aA⟩:=ho;have HT:=qH ht;have HS:=qH hs;clear ht hs Im az Io aA hx hy hK ax;rw [show (.agg #[.slice a1 n1 c1,.bool b0]:Value)=.agg #[.slice a1 n1 c1,.bool b1] by rw [Z]];have aK:(b0 == b1)=true:=by rw [Z];exact beq_self_eq_true b0
  clear Z;obtain⟨E,F⟩:=qY (((w.alloc (.cells #[.slice a0 n0 c0,.bool b0] (Pk.of V 125 217))).alloc (.cells #[.slice a1 n1 c1,.bool b1] (Pk.of V 125 217))).alloc (.cells #[.slice none 0 0,.bool false] (Pk.of V 125 217)));have Z:Below w.heap.size w E:=F▸((qB.alloc qN _).alloc (by simp only [qab];omega) _).alloc (by simp only [qab];omega) _;have ai:E.heap[w.heap.size]? = some (.cells #[.slice a0 n0 c0,.bool b0] (Pk.of V 125 217) (0,0)):=by rw [F,qL _ _ _ (by simp only [qab];omega),qL _ _ _ (by simp only [qab];omega)];exact qM _ _ _ (by simp)
  have aj:E.heap[w.heap.size+1]? = some (.cells #[.slice a1 n1 c1,.bool b1] (Pk.of V 125 217) (0,0)):=by rw [F,qL _ _ _ (by simp only [qab];omega)];exact qM _ _ _ (by simp)
  have hr:E.heap[w.heap.size+1+1]? = some (.cells #[.slice none 0 0,.bool false] (Pk.of V 125 217) (0,0)):=by rw [F];exact qM _ _ _ (by simp)
  have l2:w.heap.size+1+1<E.heap.size:=(qG hr).1;have aD:∀W,Below (w.heap.size+1+1) E W->W.cell? ⟨w.heap.size,0,none⟩=some (.slice a0 n0 c0):=fun W h=>(h.cell (p:=⟨w.heap.size,0,none⟩) (by show w.heap.size<_;omega)).trans (qC _ _ 0 _ _ _ ai)
  have aF:∀W,Below (w.heap.size+1+1) E W->W.cell? ⟨w.heap.size,1,none⟩=some (.bool b0):=fun W h=>(h.cell (p:=⟨w.heap.size,1,none⟩) (by show w.heap.size<_;omega)).trans (qC _ _ 1 _ _ _ ai)
  have aG:∀W,Below (w.heap.size+1+1) E W->W.cell? ⟨w.heap.size+1,0,none⟩=some (.slice a1 n1 c1):=fun W h=>(h.cell (p:=⟨w.heap.size+1,0,none⟩) (by show w.heap.size+1<_;omega)).trans (qC _ _ 0 _ _ _ aj)
  have aH:∀W,Below (w.heap.size+1+1) E W->W.cell? ⟨w.heap.size+1,1,none⟩=some (.bool b1):=fun W h=>(h.cell (p:=⟨w.heap.size+1,1,none⟩) (by show w.heap.size+1<_;omega)).trans (qC _ _ 1 _ _ _ aj)
  have Y:Below (w.heap.size+1+1) E E:=Below.refl _ _;have HR:=qH (qA Z hr);have I:=qH l2;clear ai aj hr Z;cases V <;> dsimp only [Pk.of] at * <;> (
  first | go_enter func108,ntmps108 | go_enter func154,ntmps154
  go_wp2_with fail;rw [<-F];clear F;have J:Below (w.heap.size+1+1) E E.drew:=Y.drew
  go_region_held3 (fun W=>Below (w.heap.size+1+1) E W) (first | with_reducible exact Y | with_reducible exact J | with_reducible exact aa | with_reducible exact U | ((iterate 2 refine Below.setCell ?_ (by exact qad _) _);exact aa)) (first | ((first | go_at_call 184 | go_at_call 213);refine (HT.o _ (HR.o.1.trans (J.mono (by omega)))).mono ?_;rintro e w2 ⟨p2,rfl,af,av⟩;have U:Below (w.heap.size+1+1) E w2:=J.trans (af.mono (qan (qai I.o Y.size)));have au:=qH (qA av ((af.block _ (qai I.o Y.size)).trans HR.o.2));clear af av) | ((first | go_at_call 123 | go_at_call 161);refine (HS.o _ _ au.o.1).mono ?_;rintro e w3 ⟨p3,rfl,ag,ah⟩;have aa:Below (w.heap.size+1+1) E w3:=U.trans (ag.mono (qak (qan I.o) U.size));obtain⟨a9,n9,c9,b9,rfl⟩:=qb6 ah;have H:=(ag.block _ (qai I.o U.size)).trans au.o.2;have e0:=qC w3 _ 0 _ _ _ H;have e1:=qC w3 _ 1 _ _ _ H;have f0:=qF w3 _ 0 _ _ H;have f1:=qF w3 _ 1 _ _ H;have ae:=qH (qA ah H);clear ag ah H))
  go_wp2_with fail;exact qR (v:=.agg #[.slice a9 n9 c9,.bool b9]) (qc9 rfl _ _ (w.heap.size+1+1) _ _ _ rfl (qdl ae.o.2 a9 n9 c9 b9) (by first | exact underlying125 | exact underlying217) rfl 2 (by kernel_rfl) rfl) rfl ⟨_,rfl,HR.o.1.trans (((aa.setCell (by exact qad _) _).setCell (by exact qad _) _).mono (by omega)),qdk ae.o.1 ae.o.2 a9 n9 c9 b9⟩)
 ·have hc:=fun (W:World) (h:Below w.heap.size w W)=>(qdg V) x.natAbs y.natAbs K hK m o W (hm.below h) (ho.below h) hx hy
  have aJ:(decide (x<0) == decide (y<0))=false:=beq_eq_false_iff_ne.2 ax
  by_cases aB:x.natAbs<y.natAbs
  ·have ht:=fun (W:World) (h:Below w.heap.size w W)=>(qgF V) y.natAbs x.natAbs K hK o m W (ho.below h) (hm.below h) hy (qan aB)
   have hs:=fun (W:World) (p:Value) (h:MagAt W p (y.natAbs-x.natAbs))=>(qcq V) (y.natAbs-x.natAbs) (decide (y<0)) p W h
   rw [qhs (fun e=>ax e.symm) (qan aB),Int.add_comm] at hs;rw [show cmp3 (x.natAbs:Int) (y.natAbs:Int) = -1 by unfold cmp3;rw [if_pos (by omega)]] at hc;generalize decide (x<0)=b0 at *;generalize decide (y<0)=b1 at *;obtain⟨a0,bm,om,c0,n0,M,rfl,Im,az⟩:=hm;obtain⟨a1,bo,oo,c1,n1,O,rfl,Io,aA⟩:=ho;have HT:=qH ht;have HS:=qH hs;have HC:=qH hc;clear ht hs hc Im az Io aA hx hy hK ax aB;obtain⟨E,F⟩:=qY (((w.alloc (.cells #[.slice a0 n0 c0,.bool b0] (Pk.of V 125 217))).alloc (.cells #[.slice a1 n1 c1,.bool b1] (Pk.of V 125 217))).alloc (.cells #[.slice none 0 0,.bool false] (Pk.of V 125 217)));have Z:Below w.heap.size w E:=F▸((qB.alloc qN _).alloc (by simp only [qab];omega) _).alloc (by simp only [qab];omega) _;have ai:E.heap[w.heap.size]? = some (.cells #[.slice a0 n0 c0,.bool b0] (Pk.of V 125 217) (0,0)):=by rw [F,qL _ _ _ (by simp only [qab];omega),qL _ _ _ (by simp only [qab];omega)];exact qM _ _ _ (by simp)
   have aj:E.heap[w.heap.size+1]? = some (.cells #[.slice a1 n1 c1,.bool b1] (Pk.of V 125 217) (0,0)):=by rw [F,qL _ _ _ (by simp only [qab];omega)];exact qM _ _ _ (by simp)
   have hr:E.heap[w.heap.size+1+1]? = some (.cells #[.slice none 0 0,.bool false] (Pk.of V 125 217) (0,0)):=by rw [F];exact qM _ _ _ (by simp)
   have l2:w.heap.size+1+1<E.heap.size:=(qG hr).1;have aD:∀W,Below (w.heap.size+1+1) E W->W.cell? ⟨w.heap.size,0,none⟩=some (.slice a0 n0 c0):=fun W h=>(h.cell (p:=⟨w.heap.size,0,none⟩) (by show w.heap.size<_;omega)).trans (qC _ _ 0 _ _ _ ai)
   have aF:∀W,Below (w.heap.size+1+1) E W->W.cell? ⟨w.heap.size,1,none⟩=some (.bool b0):=fun W h=>(h.cell (p:=⟨w.heap.size,1,none⟩) (by show w.heap.size<_;omega)).trans (qC _ _ 1 _ _ _ ai)
   have aG:∀W,Below (w.heap.size+1+1) E W->W.cell? ⟨w.heap.size+1,0,none⟩=some (.slice a1 n1 c1):=fun W h=>(h.cell (p:=⟨w.heap.size+1,0,none⟩) (by show w.heap.size+1<_;omega)).trans (qC _ _ 0 _ _ _ aj)
   have aH:∀W,Below (w.heap.size+1+1) E W->W.cell? ⟨w.heap.size+1,1,none⟩=some (.bool b1):=fun W h=>(h.cell (p:=⟨w.heap.size+1,1,none⟩) (by show w.heap.size+1<_;omega)).trans (qC _ _ 1 _ _ _ aj)
   have Y:Below (w.heap.size+1+1) E E:=Below.refl _ _;have HR:=qH (qA Z hr);have I:=qH l2;clear ai aj hr Z;cases V <;> dsimp only [Pk.of] at * <;> (
   first | go_enter func108,ntmps108 | go_enter func154,ntmps154
   go_wp2_with fail;rw [<-F];clear F;refine (HC.o _ HR.o.1).mono ?_;rintro e w5 ⟨rfl,ay⟩;have ak:Below (w.heap.size+1+1) E w5:=ay.mono (qan I.o);have H5:=qH ((ay.block _ I.o).trans HR.o.2);clear ay;go_wp2_with fail;have J:Below (w.heap.size+1+1) E w5.drew:=ak.drew
   go_region_held3 (fun W=>Below (w.heap.size+1+1) E W) (first | with_reducible exact ak | with_reducible exact J | with_reducible exact aa | with_reducible exact U | ((iterate 2 refine Below.setCell ?_ (by exact qad _) _);exact aa)) (first | ((first | go_at_call 185 | go_at_call 215);refine (HT.o _ (HR.o.1.trans (J.mono (by omega)))).mono ?_;rintro e w2 ⟨p2,rfl,af,av⟩;have U:Below (w.heap.size+1+1) E w2:=J.trans (af.mono (qan (qai I.o ak.size)));have au:=qH (qA av ((af.block _ (qai I.o ak.size)).trans H5.o));clear af av) | ((first | go_at_call 123 | go_at_call 161);refine (HS.o _ _ au.o.1).mono ?_;rintro e w3 ⟨p3,rfl,ag,ah⟩;have aa:Below (w.heap.size+1+1) E w3:=U.trans (ag.mono (qak (qan I.o) U.size));obtain⟨a9,n9,c9,b9,rfl⟩:=qb6 ah;have H:=(ag.block _ (qai I.o U.size)).trans au.o.2;have e0:=qC w3 _ 0 _ _ _ H;have e1:=qC w3 _ 1 _ _ _ H;have f0:=qF w3 _ 0 _ _ H;have f1:=qF w3 _ 1 _ _ H;have ae:=qH (qA ah H);clear ag ah H))
   go_wp2_with fail;exact qR (v:=.agg #[.slice a9 n9 c9,.bool b9]) (qc9 rfl _ _ (w.heap.size+1+1) _ _ _ rfl (qdl ae.o.2 a9 n9 c9 b9) (by first | exact underlying125 | exact underlying217) rfl 2 (by kernel_rfl) rfl) rfl ⟨_,rfl,HR.o.1.trans (((aa.setCell (by exact qad _) _).setCell (by exact qad _) _).mono (by omega)),qdk ae.o.1 ae.o.2 a9 n9 c9 b9⟩)
  ·have ht:=fun (W:World) (h:Below w.heap.size w W)=>(qgF V) x.natAbs y.natAbs K hK m o W (hm.below h) (ho.below h) hx (by omega)
   have hs:=fun (W:World) (p:Value) (h:MagAt W p (x.natAbs-y.natAbs))=>(qcq V) (x.natAbs-y.natAbs) (decide (x<0)) p W h
   rw [qhs ax (by omega)] at hs;obtain⟨cr,aC⟩:=qX (cmp3 (x.natAbs:Int) (y.natAbs:Int));have aI:¬cr<0:=by rw [<-aC];unfold cmp3;rw [if_neg (by omega)];split <;> omega
   rw [aC] at hc;generalize decide (x<0)=b0 at *;generalize decide (y<0)=b1 at *;obtain⟨a0,bm,om,c0,n0,M,rfl,Im,az⟩:=hm;obtain⟨a1,bo,oo,c1,n1,O,rfl,Io,aA⟩:=ho;have HT:=qH ht;have HS:=qH hs;have HC:=qH hc;clear ht hs hc Im az Io aA hx hy hK ax aB aC;obtain⟨E,F⟩:=qY (((w.alloc (.cells #[.slice a0 n0 c0,.bool b0] (Pk.of V 125 217))).alloc (.cells #[.slice a1 n1 c1,.bool b1] (Pk.of V 125 217))).alloc (.cells #[.slice none 0 0,.bool false] (Pk.of V 125 217)));have Z:Below w.heap.size w E:=F▸((qB.alloc qN _).alloc (by simp only [qab];omega) _).alloc (by simp only [qab];omega) _;have ai:E.heap[w.heap.size]? = some (.cells #[.slice a0 n0 c0,.bool b0] (Pk.of V 125 217) (0,0)):=by rw [F,qL _ _ _ (by simp only [qab];omega),qL _ _ _ (by simp only [qab];omega)];exact qM _ _ _ (by simp)
   have aj:E.heap[w.heap.size+1]? = some (.cells #[.slice a1 n1 c1,.bool b1] (Pk.of V 125 217) (0,0)):=by rw [F,qL _ _ _ (by simp only [qab];omega)];exact qM _ _ _ (by simp)
   have hr:E.heap[w.heap.size+1+1]? = some (.cells #[.slice none 0 0,.bool false] (Pk.of V 125 217) (0,0)):=by rw [F];exact qM _ _ _ (by simp)
   have l2:w.heap.size+1+1<E.heap.size:=(qG hr).1;have aD:∀W,Below (w.heap.size+1+1) E W->W.cell? ⟨w.heap.size,0,none⟩=some (.slice a0 n0 c0):=fun W h=>(h.cell (p:=⟨w.heap.size,0,none⟩) (by show w.heap.size<_;omega)).trans (qC _ _ 0 _ _ _ ai)
   have aF:∀W,Below (w.heap.size+1+1) E W->W.cell? ⟨w.heap.size,1,none⟩=some (.bool b0):=fun W h=>(h.cell (p:=⟨w.heap.size,1,none⟩) (by show w.heap.size<_;omega)).trans (qC _ _ 1 _ _ _ ai)
   have aG:∀W,Below (w.heap.size+1+1) E W->W.cell? ⟨w.heap.size+1,0,none⟩=some (.slice a1 n1 c1):=fun W h=>(h.cell (p:=⟨w.heap.size+1,0,none⟩) (by show w.heap.size+1<_;omega)).trans (qC _ _ 0 _ _ _ aj)
   have aH:∀W,Below (w.heap.size+1+1) E W->W.cell? ⟨w.heap.size+1,1,none⟩=some (.bool b1):=fun W h=>(h.cell (p:=⟨w.heap.size+1,1,none⟩) (by show w.heap.size+1<_;omega)).trans (qC _ _ 1 _ _ _ aj)
   have Y:Below (w.heap.size+1+1) E E:=Below.refl _ _;have HR:=qH (qA Z hr);have I:=qH l2;clear ai aj hr Z;cases V <;> dsimp only [Pk.of] at * <;> (
   first | go_enter func108,ntmps108 | go_enter func154,ntmps154
   go_wp2_with fail;rw [<-F];clear F;refine (HC.o _ HR.o.1).mono ?_;rintro e w5 ⟨rfl,ay⟩;have ak:Below (w.heap.size+1+1) E w5:=ay.mono (qan I.o);have H5:=qH ((ay.block _ I.o).trans HR.o.2);clear ay;go_wp2_with fail;have J:Below (w.heap.size+1+1) E w5.drew:=ak.drew
   go_region_held3 (fun W=>Below (w.heap.size+1+1) E W) (first | with_reducible exact ak | with_reducible exact J | with_reducible exact aa | with_reducible exact U | ((iterate 2 refine Below.setCell ?_ (by exact qad _) _);exact aa)) (first | ((first | go_at_call 185 | go_at_call 215);refine (HT.o _ (HR.o.1.trans (J.mono (by omega)))).mono ?_;rintro e w2 ⟨p2,rfl,af,av⟩;have U:Below (w.heap.size+1+1) E w2:=J.trans (af.mono (qan (qai I.o ak.size)));have au:=qH (qA av ((af.block _ (qai I.o ak.size)).trans H5.o));clear af av) | ((first | go_at_call 123 | go_at_call 161);refine (HS.o _ _ au.o.1).mono ?_;rintro e w3 ⟨p3,rfl,ag,ah⟩;have aa:Below (w.heap.size+1+1) E w3:=U.trans (ag.mono (qak (qan I.o) U.size));obtain⟨a9,n9,c9,b9,rfl⟩:=qb6 ah;have H:=(ag.block _ (qai I.o U.size)).trans au.o.2;have e0:=qC w3 _ 0 _ _ _ H;have e1:=qC w3 _ 1 _ _ _ H;have f0:=qF w3 _ 0 _ _ H;have f1:=qF w3 _ 1 _ _ H;have ae:=qH (qA ah H);clear ag ah H))
   go_wp2_with fail;exact qR (v:=.agg #[.slice a9 n9 c9,.bool b9]) (qc9 rfl _ _ (w.heap.size+1+1) _ _ _ rfl (qdl ae.o.2 a9 n9 c9 b9) (by first | exact underlying125 | exact underlying217) rfl 2 (by kernel_rfl) rfl) rfl ⟨_,rfl,HR.o.1.trans (((aa.setCell (by exact qad _) _).setCell (by exact qad _) _).mono (by omega)),qdk ae.o.1 ae.o.2 a9 n9 c9 b9⟩)
def qcj (z:Int):ByteArray:=⟨(itxt z).toArray⟩
theorem qfz {z:Int} (h:z<0):qcj z=⟨#[45]⟩++num z.natAbs:=by
 apply ByteArray.ext;rw [ByteArray.data_append];unfold qcj itxt num;rw [if_pos h];simp
theorem qeb {z:Int} (h:¬z<0):qcj z=num z.natAbs:=by
 unfold qcj itxt num;rw [if_neg h]
theorem qod {x K:Nat} (h:Fit x K) (E:0<K):(num x).size<=9*K:=by
 rw [qdZ];refine qcL _ _ (by omega) ?_;rw [<-pow9];exact h
theorem qhu (U:Pk) (z:Int) (K:Nat) (aa:0<K) (hK:K<=137438953472) (v:Value) (w:World) (hv:IntAt w v z) (Y:Fit z.natAbs K) (hT:HasT w) :
  Calls prog (Pk.of U 167 222) #[v] w fun e w'=>e=.returned (.string (qcj z))/\Below w.heap.size w w':=by
 obtain⟨m,rfl,hm⟩:=hv;have V:=fun (W:World) (h:Below w.heap.size w W)=>(qeF U) z.natAbs K (by omega) m W (hm.below h) Y (hT.below h)
 have hn:=qod Y aa;have H:Hu (∀cs,Below w.heap.size w (w.alloc (.cells cs (Pk.of U 125 217)))):=qH fun cs=>qB.alloc qN _
 by_cases I:z<0
 ·rw [qfz I,qV I];generalize num z.natAbs=t at *;have O:∀W,(Op.stringOp .add ⟨#[45]⟩ t).run prog W=.ok (.string (⟨#[45]⟩++t)) W:=fun W=>run_string_add_sum W _ _ (by have:(⟨#[45]⟩:ByteArray).size=1:=rfl;omega)
  obtain⟨T,J⟩:=qX ((⟨#[45]⟩:ByteArray)++t);rw [J] at O ⊢;have HD:=qH V;obtain⟨am,bm,om,cm,n,M,rfl,Im,F⟩:=hm;clear V J Im F hn I Y hT;cases U <;> dsimp only [Pk.of] at * <;> (
  first | go_enter func167,ntmps167 | go_enter func222,ntmps222
  go_wp2_with fail;refine (HD.o _ (H.o _)).mono ?_;rintro e w1 ⟨rfl,E⟩;have Z:=qH ((H.o _).trans (E.mono (H.o _).size));clear E;go_wp2;go_ret;exact⟨rfl,Z.o⟩)
 ·rw [qeb I,qU I];generalize num z.natAbs=t at *;have HD:=qH V;obtain⟨am,bm,om,cm,n,M,rfl,Im,F⟩:=hm;clear V Im F hn I Y hT;cases U <;> dsimp only [Pk.of] at * <;> (
  first | go_enter func167,ntmps167 | go_enter func222,ntmps222
  go_wp2_with fail;refine (HD.o _ (H.o _)).mono ?_;rintro e w1 ⟨rfl,E⟩;have Z:=qH ((H.o _).trans (E.mono (H.o _).size));clear E;go_wp2;go_ret;exact⟨rfl,Z.o⟩)
theorem qht (z:Int) (v:Value) (w:World) (V:IntAt w v z) :
  Calls prog 110 #[v] w fun e w'=>e=.returned (.int .i64 (cmp3 z 0))/\Below w.heap.size w w':=by
 obtain⟨m,rfl,J⟩:=V;have E:=fun (W:World) (h:Below w.heap.size w W)=>(qcV .f) z.natAbs m W (J.below h)
 have F:Hu (∀cs,Below w.heap.size w (w.alloc (.cells cs 125))):=qH fun cs=>qB.alloc qN _
 obtain⟨am,bm,Y,cm,n,M,rfl,U,I⟩:=J;clear U I;rcases Int.lt_trichotomy z 0 with h | h | h
 ·rw [qV h,show cmp3 z 0 = -1 by unfold cmp3;rw [if_pos h]];rw [qU (show ¬z.natAbs=0 by omega)] at E;have H:=qH E;clear E h;go_enter func110,ntmps110;go_wp2_with fail;refine (H.o _ (F.o _)).mono ?_;rintro e O ⟨rfl,rfl⟩;go_wp2;go_ret;exact⟨rfl,F.o _⟩
 ·subst h;rw [qU (by omega:¬(0:Int)<0),show cmp3 0 0=0 from rfl];rw [qV (show (0:Int).natAbs=0 from rfl)] at E;have H:=qH E;clear E;go_enter func110,ntmps110;go_wp2_with fail;refine (H.o _ (F.o _)).mono ?_;rintro e O ⟨rfl,rfl⟩;go_wp2;go_ret;exact⟨rfl,F.o _⟩
 ·rw [qU (by omega:¬z<0),show cmp3 z 0=1 by unfold cmp3;rw [if_neg (by omega),if_neg (by omega)]];rw [qU (show ¬z.natAbs=0 by omega)] at E;have H:=qH E;clear E h;go_enter func110,ntmps110;go_wp2_with fail;refine (H.o _ (F.o _)).mono ?_;rintro e O ⟨rfl,rfl⟩;go_wp2;go_ret;exact⟨rfl,F.o _⟩
theorem qeT (x y K J:Nat) (hK:K<=137438953472) (hJ:J<=137438953472) (ag:0<x) (ah:0<y) (vm vo:Value) (w:World) (hm:MagAt w vm x) (ho:MagAt w vo y) (hx:Fit x K) (hy:Fit y J) :
  Calls prog 158 #[vm,vo] w fun e w'=>∃v,e=.returned v/\Below w.heap.size w w'/\MagAt w' v (x.lcm y):=by
 have af:0<x.gcd y:=Nat.gcd_pos_of_pos_left _ ag;have E:K<=max K J/\J<=max K J/\max K J<=137438953472:=by omega
 have I:=(qdb .l) x y (max K J) E.2.2 vm vo w hm ho (hx.mono E.1) (hy.mono E.2.1);have H:=fun (W:World) (g:Value) (hg:MagAt W g (x.gcd y)) (h:Below w.heap.size w W)=>(qcf .l) y (x.gcd y) (max K J) E.2.2 vo g W (ho.below h) hg (hy.mono E.2.1) ((hy.le (Nat.gcd_le_right _ ah)).mono E.2.1) af
 have F:=fun (W:World) (d:Value) (hd:MagAt W d (y / x.gcd y)) (h:Below w.heap.size w W)=>(qcz .l) x (y / x.gcd y) K J (by omega) vm d W (hm.below h) hd hx (hy.le (qa2 _ _))
 rw [<-Nat.mul_div_assoc _ (qa4 x y)] at F;have HG:=qH I;have HD:=qH H;have HT:=qH F;obtain⟨am,bm,om,cm,n,M,rfl,Im,aa⟩:=hm;obtain⟨ao,bo,oo,co,no,O,rfl,Io,ae⟩:=ho;clear I H F Im aa Io ae hx hy;go_enter func158,ntmps158;go_wp2_with fail;refine HG.o.mono ?_;rintro e w1 ⟨g,rfl,U,hg⟩;have Z:=qH (qA U hg);clear U hg;go_wp2_with fail;refine (HD.o _ _ Z.o.2 Z.o.1).mono ?_;rintro e w2 ⟨q,r,rfl,V,hq,_⟩;have H2:=qH (qA (Z.o.1.trans (V.mono Z.o.1.size)) hq);clear V hq;go_wp2_with fail;refine (HT.o _ _ H2.o.2 H2.o.1).mono ?_;rintro e w3 ⟨v,rfl,Y,hv⟩;have H3:=qH (qA (H2.o.1.trans (Y.mono H2.o.1.size)) hv);clear Y hv;go_wp2;go_ret;exact⟨_,rfl,H3.o.1,H3.o.2⟩
structure FOk (n d:List UInt8):Prop where
 vn:Valid n
 vd:Valid d
 pos:0<ival d
 cop:(ival n).natAbs.gcd (ival d).natAbs=1
def RatAt (W:World) (v:Value) (z:Int) (d:Nat):Prop:=∃m o,v=.agg #[m,.bool (decide (z<0)),o]/\MagAt W m z.natAbs/\MagAt W o d
theorem RatAt.below {W W':World} {v:Value} {z:Int} {d:Nat} (h:RatAt W v z d) (E:Below W.heap.size W W'):RatAt W' v z d:=by
 obtain⟨m,o,F,H,I⟩:=h;exact⟨m,o,F,H.below E,I.below E⟩
theorem qb4 {B:Nat} {a W:World} {o:Obj} (h:Below B a W) (hB:B<=a.heap.size):Below B a (W.alloc o):=h.alloc (qak hB h.size) o
theorem bjoin {B:Nat} {a W W':World} (h:Below B a W) (k:Below W.heap.size W W') (hB:B=a.heap.size:=by rfl):Below B a W':=h.trans (k.mono (by rw [hB];exact h.size))
theorem zkeep {W W':World} (h:Below W.heap.size W W'):∀(g:Nat) (o:Obj),W.heap[g]? = some o->W'.heap[g]? = some o:=fun g _ hg=>(h.block g (qG hg).1).trans hg
theorem qhD {W:World} {g:Nat} {t:TypeId} (h:W.heap[g]? = some (.cells #[.slice none 0 0,.bool false] t (0,0))) (a:Option Addr) (n c:Nat) (b:Bool) :
  ((W.setCell ⟨g,0,none⟩ (.slice a n c)).setCell ⟨g,1,none⟩ (.bool b)).heap[g]? = some (.cells #[.slice a n c,.bool b] t (0,0)) /\
  (∀k,k≠g->((W.setCell ⟨g,0,none⟩ (.slice a n c)).setCell ⟨g,1,none⟩ (.bool b)).heap[k]? = W.heap[k]?) /\
  (∀m E z,IntAt W (.agg #[m,.bool E]) z->IntAt ((W.setCell ⟨g,0,none⟩ (.slice a n c)).setCell ⟨g,1,none⟩ (.bool b)) (.agg #[m,.bool E]) z) :=
 ⟨qdl h a n c b,fun _k F=>(qW _ _ _ _ F).trans (qW _ _ _ _ F),fun _ _ _ H=>qdk H h a n c b⟩
theorem zdrew {W:World} {g:Nat} {o:Option Obj} (h:W.heap[g]? = o):W.drew.heap[g]? = o:=h
theorem qfn:∀x∈(#[.slice none 0 0,.bool false,.slice none 0 0]:Array Value).toList,∀d,x≠.int .u32 d:=by
 intro x hx d;rcases qat.1 hx with rfl | hx
 ·intro h;cases h
 ·rcases qat.1 hx with rfl | hx
  ·intro h;cases h
  ·rw [qap.1 hx];intro h;cases h
def Two (E W:World) (F H:Nat) (v3:Option Addr×Nat×Nat×Bool) (v4:Option Addr×Nat×Nat×Bool) (z3 z4:Int):Prop :=
 W.heap[F]? = some (.cells #[.slice v3.1 v3.2.1 v3.2.2.1,.bool v3.2.2.2] 125 (0,0))/\W.heap[H]? = some (.cells #[.slice v4.1 v4.2.1 v4.2.2.1,.bool v4.2.2.2] 125 (0,0)) /\
  IntAt W (.agg #[.slice v3.1 v3.2.1 v3.2.2.1,.bool v3.2.2.2]) z3/\IntAt W (.agg #[.slice v4.1 v4.2.1 v4.2.2.1,.bool v4.2.2.2]) z4/\Below E.heap.size E W
section
variable {W2 W:World} {a3:Option Addr} {n3 c3:Nat} {b3:Bool} {a4:Option Addr} {n4 c4:Nat} {b4:Bool} {z3 z4:Int}
theorem two_aa (h:IntAt W (.agg #[.slice a3 n3 c3,.bool b3]) z3/\IntAt W (.agg #[.slice a4 n4 c4,.bool b4]) z4) (E:Below W2.heap.size W2 W) :
  Two W2 ((W.alloc (.cells #[.slice a3 n3 c3,.bool b3] 125)).alloc (.cells #[.slice a4 n4 c4,.bool b4] 125)) W.heap.size (W.heap.size+1) (a3,n3,c3,b3) (a4,n4,c4,b4) z3 z4 :=
 have k:=qb4 (qb4 (Below.refl W.heap.size W) qN) qN
 ⟨(qL _ _ _ (by simp only [qab];omega)).trans (qM _ _ _ rfl),qM _ _ _ (by simp only [qab]),h.1.below k,h.2.below k,qb4 (qb4 E qN) qN⟩
theorem two_bb (h:IntAt W (.agg #[.slice a3 n3 c3,.bool b3]) z3/\IntAt W (.agg #[.slice a4 n4 c4,.bool b4]) z4) (E:Below W2.heap.size W2 W) :
  Two W2 ((W.alloc (.cells #[.slice a4 n4 c4,.bool b4] 125)).alloc (.cells #[.slice a3 n3 c3,.bool b3] 125)) (W.heap.size+1) W.heap.size (a3,n3,c3,b3) (a4,n4,c4,b4) z3 z4 :=
 have k:=qb4 (qb4 (Below.refl W.heap.size W) qN) qN
 ⟨qM _ _ _ (by simp only [qab]),(qL _ _ _ (by simp only [qab];omega)).trans (qM _ _ _ rfl),h.1.below k,h.2.below k,qb4 (qb4 E qN) qN⟩
theorem two_pa {g:Nat} (h:IntAt W (.agg #[.slice a3 n3 c3,.bool b3]) z3/\IntAt W (.agg #[.slice a4 n4 c4,.bool b4]) z4) (F:Below W2.heap.size W2 W) (hg:W2.heap.size<=g) (E:W.heap[g]? = some (.cells #[.slice none 0 0,.bool false] 125 (0,0))) :
  Two W2 (((W.setCell ⟨g,0,none⟩ (.slice a3 n3 c3)).setCell ⟨g,1,none⟩ (.bool b3)).alloc (.cells #[.slice a4 n4 c4,.bool b4] 125)) g W.heap.size (a3,n3,c3,b3) (a4,n4,c4,b4) z3 z4:=by
 obtain⟨p1,p2,p3⟩:=qhD E a3 n3 c3 b3;have lt:=(qG E).1;have k:∀V:World,Below V.heap.size V (V.alloc (.cells #[.slice a4 n4 c4,.bool b4] 125)):=fun V=>qb4 qB qN
 exact⟨(qL _ _ _ (by simp only [qbJ];exact lt)).trans p1,qM _ _ _ (by simp only [qbJ]),(p3 _ _ _ h.1).below (k _),(p3 _ _ _ h.2).below (k _),qb4 ((F.setCell (by exact hg) _).setCell (by exact hg) _) qN⟩
theorem two_pb {g:Nat} (h:IntAt W (.agg #[.slice a3 n3 c3,.bool b3]) z3/\IntAt W (.agg #[.slice a4 n4 c4,.bool b4]) z4) (F:Below W2.heap.size W2 W) (hg:W2.heap.size<=g) (E:W.heap[g]? = some (.cells #[.slice none 0 0,.bool false] 125 (0,0))) :
  Two W2 (((W.setCell ⟨g,0,none⟩ (.slice a4 n4 c4)).setCell ⟨g,1,none⟩ (.bool b4)).alloc (.cells #[.slice a3 n3 c3,.bool b3] 125)) W.heap.size g (a3,n3,c3,b3) (a4,n4,c4,b4) z3 z4:=by
 obtain⟨p1,p2,p3⟩:=qhD E a4 n4 c4 b4;have lt:=(qG E).1;have k:∀V:World,Below V.heap.size V (V.alloc (.cells #[.slice a3 n3 c3,.bool b3] 125)):=fun V=>qb4 qB qN
 exact⟨qM _ _ _ (by simp only [qbJ]),(qL _ _ _ (by simp only [qbJ];exact lt)).trans p1,(p3 _ _ _ h.1).below (k _),(p3 _ _ _ h.2).below (k _),qb4 ((F.setCell (by exact hg) _).setCell (by exact hg) _) qN⟩
theorem two_pp {g E:Nat} (h:IntAt W (.agg #[.slice a3 n3 c3,.bool b3]) z3/\IntAt W (.agg #[.slice a4 n4 c4,.bool b4]) z4) (I:Below W2.heap.size W2 W) (hg:W2.heap.size<=g) (F:W2.heap.size<=E) (hne:g≠E) (J:W.heap[g]? = some (.cells #[.slice none 0 0,.bool false] 125 (0,0))) (H:W.heap[E]? = some (.cells #[.slice none 0 0,.bool false] 125 (0,0))) :
  Two W2 ((((W.setCell ⟨g,0,none⟩ (.slice a3 n3 c3)).setCell ⟨g,1,none⟩ (.bool b3)).setCell ⟨E,0,none⟩ (.slice a4 n4 c4)).setCell ⟨E,1,none⟩ (.bool b4)) g E (a3,n3,c3,b3) (a4,n4,c4,b4) z3 z4:=by
 obtain⟨p1,p2,p3⟩:=qhD J a3 n3 c3 b3;obtain⟨q1,q2,q3⟩:=qhD ((p2 E (Ne.symm hne)).trans H) a4 n4 c4 b4;exact⟨(q2 g hne).trans p1,q1,q3 _ _ _ (p3 _ _ _ h.1),q3 _ _ _ (p3 _ _ _ h.2),(((I.setCell (by exact hg) _).setCell (by exact hg) _).setCell (by exact F) _).setCell (by exact F) _⟩
end
def FReadsAs (w:World) (n d:List UInt8) (e:Ending) (w':World):Prop:=∃v ok,e=.returned (.tuple #[v,.bool ok])/\(ok=true/\FOk n d/\RatAt w' v (ival n) (ival d).natAbs\/ok=false/\¬FOk n d/\v=.agg #[.slice none 0 0,.bool false,.slice none 0 0])/\Below w.heap.size w w'
theorem qen (n d:ByteArray) (w:World) :
  Calls prog 91 #[.agg #[.string n,.string d]] w fun e w'=>FReadsAs w n.data.toList d.data.toList e w':=by
 have aL:=fun W=>qgA n W
 have aX:=fun W=>qgA d W
 obtain⟨W1,aj⟩:=qY ((w.alloc (.cells #[.string n,.string d] 27)).alloc (.cells #[.slice none 0 0,.bool false,.slice none 0 0] 127));have U:Below w.heap.size w W1:=aj▸(qB.alloc qN _).alloc (by simp only [qab];omega) _;have bA:W1.heap[w.heap.size]? = some (.cells #[.string n,.string d] 27 (0,0)):=by rw [aj,qL _ _ _ (by simp only [qab];omega)];exact qM _ _ _ rfl
 have aS:W1.heap[w.heap.size+1]? = some (.cells #[.slice none 0 0,.bool false,.slice none 0 0] 127 (0,0)):=by rw [aj];exact qM _ _ _ (by simp)
 have l1:w.heap.size+1<W1.heap.size:=(qG aS).1;have bD:=qH aL;have bE:=qH aX;have HR:=qH (qA U (qA bA (qA aS l1)));clear aL aX U bA aS l1;have ae:Hu (∀W,Below W1.heap.size W1 W->W.heap[w.heap.size]? = some (.cells #[.string n,.string d] 27 (0,0))/\W.heap[w.heap.size+1]? = some (.cells #[.slice none 0 0,.bool false,.slice none 0 0] 127 (0,0))):=qH fun W h=>⟨(h.block _ (by have:=HR.o.2.2.2;omega)).trans HR.o.2.1,(h.block _ HR.o.2.2.2).trans HR.o.2.2.1⟩
 go_enter func91,ntmps91;go_wp2_with fail;rw [<-aj];clear aj;refine (bD.o _).mono ?_;rintro e w1 ⟨c1,rfl,bN,U⟩;rcases bN with ⟨rfl,aC⟩ | ⟨rfl,aC⟩
 ·have d1:=qC w1 _ 1 _ _ _ (ae.o w1 U).1;have H1:=qH (qA U aC);clear U aC;go_wp2_with fail;refine (bE.o _).mono ?_;rintro e I ⟨c2,rfl,bO,aV⟩;have V:Below W1.heap.size W1 I:=H1.o.1.trans (aV.mono H1.o.1.size);clear aV;rcases bO with ⟨rfl,ay⟩ | ⟨rfl,ay⟩
  ·have aB:Below I.heap.size I I:=Below.refl _ _;have bB:Below I.heap.size I I.drew:=aB.drew;have aY:I.drew.heap.size=I.heap.size:=rfl;have O:=ae.o I V;have l0:w.heap.size<I.heap.size:=(qG O.1).1;have C0:∀W,Below I.heap.size I W->W.cell? ⟨w.heap.size,0,none⟩=some (.string n):=fun W h=>(h.cell (p:=⟨w.heap.size,0,none⟩) l0).trans (qC _ _ 0 _ _ _ O.1)
   have C1:∀W,Below I.heap.size I W->W.cell? ⟨w.heap.size,1,none⟩=some (.string d):=fun W h=>(h.cell (p:=⟨w.heap.size,1,none⟩) l0).trans (qC _ _ 1 _ _ _ O.1)
   have bv:=fun W=>(qcx .f) n H1.o.2 W
   have bz:=fun W=>(qcx .f) d ay W
   have bJ:=qH bv;have bK:=qH bz;have H2:=qH (qA V (qA ay O));clear bv bz V ay O;go_wp2_with fail;have E:∀W:World,W.drew.heap.size=W.heap.size:=fun _=>rfl
   go_cut [4,5] (fun x4 x5 W=>∃(g3 g4:Nat) (a3:Option Addr) (n3 c3:Nat) (b3:Bool) (a4:Option Addr) (n4 c4:Nat) (b4:Bool),x4=.pointer (some ⟨g3,0,none⟩)/\x5=.pointer (some ⟨g4,0,none⟩)/\Two I W g3 g4 (a3,n3,c3,b3) (a4,n4,c4,b4) (ival n.data.toList) (ival d.data.toList))
   case first =>
    go_region_held3 (fun W=>Below I.heap.size I W) (first | with_reducible exact aB | with_reducible exact bB | with_reducible exact H | with_reducible exact F | ((repeat (first | refine Below.setCell ?_ (by first | exact qad _ | exact F.size | exact H.size | exact qar qN | exact qar F.size | exact qar H.size) _ | refine qb4 ?_ qN | refine Below.drew ?_));first | exact H | exact F | exact aB)) (first | (go_at_call_of 120 (Value.string n);refine (bJ.o _).mono ?_;rintro e w3 ⟨p3,rfl,ak,aQ⟩;have F:Below I.heap.size I w3:=bjoin (by ((repeat (first | refine Below.setCell ?_ (by first | exact qad _ | exact F.size | exact H.size | exact qar qN | exact qar F.size | exact qar H.size) _ | refine qb4 ?_ qN | refine Below.drew ?_));first | exact aB)) ak;obtain⟨a3,n3,c3,b3,rfl⟩:=qb6 aQ;have aJ:=qH aQ;obtain⟨k3,bR⟩:=bcell ak;have Z3:=qH (zkeep ak);have s3:_<=_:=ak.size;(try simp only [qab,aY,E] at s3);(try have q3:I.heap.size<w3.heap.size:=by omega);(try have r3:I.heap.size+1<w3.heap.size:=by omega);clear ak aQ) | (go_at_call_of 120 (Value.string d);refine (bK.o _).mono ?_;rintro e w4 ⟨p4,rfl,Y,aR⟩;have H:Below I.heap.size I w4:=bjoin (by ((repeat (first | refine Below.setCell ?_ (by first | exact qad _ | exact F.size | exact H.size | exact qar qN | exact qar F.size | exact qar H.size) _ | refine qb4 ?_ qN | refine Below.drew ?_));first | exact F)) Y;obtain⟨a4,n4,c4,b4,rfl⟩:=qb6 aR;have ai:=qH (qA (show IntAt w4 _ _ from (by first | exact aJ.o.below Y | exact (aJ.o.below (qb4 qB qN)).below Y | exact (aJ.o.below (qb4 (qb4 qB qN) qN)).below Y)) aR);obtain⟨k4,bS⟩:=bcell Y;have Z4:=qH (zkeep Y);have s4:_<=_:=Y.size;(try simp only [qab] at s4);(try have q4:I.heap.size<w4.heap.size:=by omega);(try have r4:I.heap.size+1<w4.heap.size:=by omega);(try have t4:w3.heap.size<w4.heap.size:=by omega);(try have u4:w3.heap.size+1<w4.heap.size:=by omega);clear Y aR))
    all_goals go_wp2_with fail
    all_goals go_meet
    all_goals refine⟨_,_,a3,n3,c3,b3,a4,n4,c4,b4,rfl,rfl,?_⟩
    all_goals first
     | with_reducible exact two_aa ai.o H
     | with_reducible exact two_bb ai.o H
     | (with_reducible refine two_pa ai.o H ?_ ?_;(first | exact qad _ | exact F.size | exact H.size | exact qbf _ | exact qar F.size);(refine Z4.o _ _ ?_;((try with_reducible refine zdrew ?_);first | (refine qM _ _ _ ?_;((try simp only) <;> omega)) | (refine Z3.o _ _ ?_;((try with_reducible refine zdrew ?_);first | (refine qM _ _ _ ?_;((try simp only) <;> omega)) | (refine (qL _ _ _ ?_).trans ?_;((try simp only [qab,E]);omega);(refine qM _ _ _ ?_;((try simp only [qab,E]) <;> omega))))) | (refine (qL _ _ _ ?_).trans ?_;((try simp only [qab,E]);omega);(first | (refine qM _ _ _ ?_;((try simp only [qab,E]) <;> omega)) | (refine Z3.o _ _ ?_;((try with_reducible refine zdrew ?_);first | (refine qM _ _ _ ?_;((try simp only [qab,E]) <;> omega)) | (refine (qL _ _ _ ?_).trans ?_;((try simp only [qab,E]);omega);(refine qM _ _ _ ?_;((try simp only [qab,E]) <;> omega))))))) | (refine (qL _ _ _ ?_).trans ?_;((try simp only [qab,E]);omega);refine (qL _ _ _ ?_).trans ?_;((try simp only [qab,E]);omega);(refine Z3.o _ _ ?_;((try with_reducible refine zdrew ?_);first | (refine qM _ _ _ ?_;((try simp only [qab,E]) <;> omega)) | (refine (qL _ _ _ ?_).trans ?_;((try simp only [qab,E]);omega);(refine qM _ _ _ ?_;((try simp only [qab,E]) <;> omega)))))))))
     | (with_reducible refine two_pb ai.o H ?_ ?_;(first | exact qad _ | exact F.size | exact H.size | exact qbf _ | exact qar F.size);(refine Z4.o _ _ ?_;((try with_reducible refine zdrew ?_);first | (refine qM _ _ _ ?_;((try simp only) <;> omega)) | (refine Z3.o _ _ ?_;((try with_reducible refine zdrew ?_);first | (refine qM _ _ _ ?_;((try simp only) <;> omega)) | (refine (qL _ _ _ ?_).trans ?_;((try simp only [qab,E]);omega);(refine qM _ _ _ ?_;((try simp only [qab,E]) <;> omega))))) | (refine (qL _ _ _ ?_).trans ?_;((try simp only [qab,E]);omega);(first | (refine qM _ _ _ ?_;((try simp only [qab,E]) <;> omega)) | (refine Z3.o _ _ ?_;((try with_reducible refine zdrew ?_);first | (refine qM _ _ _ ?_;((try simp only [qab,E]) <;> omega)) | (refine (qL _ _ _ ?_).trans ?_;((try simp only [qab,E]);omega);(refine qM _ _ _ ?_;((try simp only [qab,E]) <;> omega))))))) | (refine (qL _ _ _ ?_).trans ?_;((try simp only [qab,E]);omega);refine (qL _ _ _ ?_).trans ?_;((try simp only [qab,E]);omega);(refine Z3.o _ _ ?_;((try with_reducible refine zdrew ?_);first | (refine qM _ _ _ ?_;((try simp only [qab,E]) <;> omega)) | (refine (qL _ _ _ ?_).trans ?_;((try simp only [qab,E]);omega);(refine qM _ _ _ ?_;((try simp only [qab,E]) <;> omega)))))))))
     | (with_reducible refine two_pp ai.o H ?_ ?_ ?_ ?_ ?_;(first | exact qad _ | exact F.size | exact H.size | exact qbf _ | exact qar F.size);(first | exact qad _ | exact F.size | exact H.size | exact qbf _ | exact qar F.size);omega;(refine Z4.o _ _ ?_;((try with_reducible refine zdrew ?_);first | (refine qM _ _ _ ?_;((try simp only [qab]) <;> omega)) | (refine Z3.o _ _ ?_;((try with_reducible refine zdrew ?_);first | (refine qM _ _ _ ?_;((try simp only [qab]) <;> omega)) | (refine (qL _ _ _ ?_).trans ?_;((try simp only [qab]);omega);(refine qM _ _ _ ?_;((try simp only) <;> omega))))) | (refine (qL _ _ _ ?_).trans ?_;((try simp only [qab]);omega);(first | (refine qM _ _ _ ?_;((try simp only) <;> omega)) | (refine Z3.o _ _ ?_;((try with_reducible refine zdrew ?_);first | (refine qM _ _ _ ?_;((try simp only) <;> omega)) | (refine (qL _ _ _ ?_).trans ?_;((try simp only [qab,E]);omega);(refine qM _ _ _ ?_;((try simp only [qab,E]) <;> omega))))))) | (refine (qL _ _ _ ?_).trans ?_;((try simp only [qab,E]);omega);refine (qL _ _ _ ?_).trans ?_;((try simp only [qab,E]);omega);(refine Z3.o _ _ ?_;((try with_reducible refine zdrew ?_);first | (refine qM _ _ _ ?_;((try simp only [qab,E]) <;> omega)) | (refine (qL _ _ _ ?_).trans ?_;((try simp only [qab,E]);omega);(refine qM _ _ _ ?_;((try simp only [qab,E]) <;> omega))))))));(refine Z4.o _ _ ?_;((try with_reducible refine zdrew ?_);first | (refine qM _ _ _ ?_;((try simp only [qab]) <;> omega)) | (refine Z3.o _ _ ?_;((try with_reducible refine zdrew ?_);first | (refine qM _ _ _ ?_;((try simp only [qab]) <;> omega)) | (refine (qL _ _ _ ?_).trans ?_;((try simp only [qab]);omega);(refine qM _ _ _ ?_;((try simp only) <;> omega))))) | (refine (qL _ _ _ ?_).trans ?_;((try simp only [qab]);omega);(first | (refine qM _ _ _ ?_;((try simp only) <;> omega)) | (refine Z3.o _ _ ?_;((try with_reducible refine zdrew ?_);first | (refine qM _ _ _ ?_;((try simp only) <;> omega)) | (refine (qL _ _ _ ?_).trans ?_;((try simp only [qab,E]);omega);(refine qM _ _ _ ?_;((try simp only [qab,E]) <;> omega))))))) | (refine (qL _ _ _ ?_).trans ?_;((try simp only [qab,E]);omega);refine (qL _ _ _ ?_).trans ?_;((try simp only [qab,E]);omega);(refine Z3.o _ _ ?_;((try with_reducible refine zdrew ?_);first | (refine qM _ _ _ ?_;((try simp only [qab,E]) <;> omega)) | (refine (qL _ _ _ ?_).trans ?_;((try simp only [qab,E]);omega);(refine qM _ _ _ ?_;((try simp only [qab,E]) <;> omega)))))))))
   case rest =>
    obtain⟨g3,g4,a3,n3,c3,b3,a4,n4,c4,b4,rfl,rfl,h3,h4,au,ah,hb⟩:=hcut;dsimp only at h3 h4 au ah;have az:=qC wc _ 0 _ _ _ h3;have aU:=qC wc _ 1 _ _ _ h3;have aA:=qC wc _ 0 _ _ _ h4;have bL:=qC wc _ 1 _ _ _ h4;have aH:=qht _ _ wc ah;have HS:=qH aH;have HH:=qH (qA h3 (qA h4 (qA au (qA ah hb))));have ax:wc.heap[w.heap.size+1]? = some (.cells #[.slice none 0 0,.bool false,.slice none 0 0] 127 (0,0)):=(hb.block _ (qG H2.o.2.2.2).1).trans H2.o.2.2.2;have H5:=qH (qA ax (HR.o.1.trans ((H2.o.1.trans (hb.mono H2.o.1.size)).mono HR.o.1.size)));clear h3 h4 au ah hb aH ax C0 C1;go_wp2_with fail;refine HS.o.mono ?_;rintro e w5 ⟨rfl,Z⟩;have bQ:=qH Z;have H6:=qH (qA ((Z.block _ (qG H5.o.1).1).trans H5.o.1) (H5.o.2.trans (Z.mono H5.o.2.size)));have au:=HH.o.2.2.1.below Z;have ah:=HH.o.2.2.2.1.below Z;have h3:=(Z.block _ (qG HH.o.1).1).trans HH.o.1;have h4:=(Z.block _ (qG HH.o.2.1).1).trans HH.o.2.1;clear Z az aU aA bL
    by_cases aG:0<ival d.data.toList
    ·rw [show cmp3 (ival d.data.toList) 0=1 by unfold cmp3;rw [if_neg (by omega),if_neg (by omega)]];have az:=qC w5 _ 0 _ _ _ h3;have aA:=qC w5 _ 0 _ _ _ h4;obtain⟨m3,av,aN⟩:=au;obtain⟨m4,aP,aO⟩:=ah;have bq:m3=.slice a3 n3 c3:=by simp only [qaX,qa1,qaV] at av;exact av.1.symm
     have bu:m4=.slice a4 n4 c4:=by simp only [qaX,qa1,qaV] at aP;exact aP.1.symm
     have aD:b3=decide (ival n.data.toList<0):=by simp only [qaX,qa1,qaV,qbA] at av;exact av.2.1
     subst bq bu;have bM:=H1.o.2.fit;have aZ:=H2.o.2.1.fit;have bf:=(qdb .f) (ival n.data.toList).natAbs (ival d.data.toList).natAbs 67 (by decide) _ _ w5 aN aO bM aZ;have bG:=qH bf;have HG:=qH (qA aN (qA aO (qA h3 (qA h4 aD))));clear bf aN aO h3 h4 av aP aD;go_wp2_with fail;refine bG.o.mono ?_;rintro e w7 ⟨vg,rfl,aW,bC⟩;have bn:Fit 1 67:=Fit.mono (show Fit 1 1 from (by show 1<1000000000 ^ 1;decide)) (by decide);have bi:Fit ((ival n.data.toList).natAbs.gcd (ival d.data.toList).natAbs) 67:=aZ.le (Nat.gcd_le_right _ (by omega));have aM:=(qdg .f) ((ival n.data.toList).natAbs.gcd (ival d.data.toList).natAbs) 1 67 (by decide) vg (.slice (some ⟨w7.heap.size,0,none⟩) 1 1) (w7.alloc (.cells #[.int .u32 (1:Int)] 201)) (bC.below (qB.alloc qN _)) (qgp w7 _ (by decide) (by decide)) bi bn;obtain⟨cr,af⟩:=qX (cmp3 (((ival n.data.toList).natAbs.gcd (ival d.data.toList).natAbs:Nat):Int) ((1:Nat):Int));have aF:cr=0↔(ival n.data.toList).natAbs.gcd (ival d.data.toList).natAbs=1:=by
      rw [<-af];unfold cmp3
      constructor
      ·intro h;split at h
       ·omega
       ·split at h
        ·omega
        ·omega
      ·intro h;rw [if_neg (by omega),if_pos (by omega)]
     rw [af] at aM;have bF:=qH aM;have aI:=qH aF;have aT:=qH aW;obtain⟨ag,bg,og,cg,ng,Mg,rfl,_,_⟩:=bC;clear aM af aF aW bn bi az aA;go_wp2_with fail;refine bF.o.mono ?_;rintro e w8 ⟨rfl,aK⟩;have J:Below w5.heap.size w5 w8:=aT.o.trans (((qB.alloc qN _:Below w7.heap.size w7 (w7.alloc (.cells #[.int .u32 (1:Int)] 201))).trans (aK.mono (by simp only [qab];omega))).mono aT.o.size);have H8:=qH (qA ((J.block _ (qG H6.o.1).1).trans H6.o.1) (H6.o.2.trans (J.mono H6.o.2.size)))
     by_cases aa:(ival n.data.toList).natAbs.gcd (ival d.data.toList).natAbs=1
     ·have af:cr=0:=aI.o.2 aa;have HY:Hu (FOk n.data.toList d.data.toList):=qH ⟨H1.o.2,H2.o.2.1,aG,aa⟩;have h3:=(J.block _ (qG HG.o.2.2.1).1).trans HG.o.2.2.1;have h4:=(J.block _ (qG HG.o.2.2.2.1).1).trans HG.o.2.2.2.1;have az:=qC w8 _ 0 _ _ _ h3;have aU:=qC w8 _ 1 _ _ _ h3;have aA:=qC w8 _ 0 _ _ _ h4;have bH:=qH (qda (cs':=#[.slice a3 n3 c3,.bool b3,.slice a4 n4 c4]) (HG.o.1.below J) H8.o.1 qfn);have bI:=qH (qda (cs':=#[.slice a3 n3 c3,.bool b3,.slice a4 n4 c4]) (HG.o.2.1.below J) H8.o.1 qfn);subst af;clear h3 h4 aK J aa
      go_wp2_with (with_reducible refine sR_ rfl 127 _ _ rfl (w.heap.size+1) #[.slice a3 n3 c3,.bool b3,.slice a4 n4 c4] H8.o.1 3 ?_)
      exact qR (v:=.tuple #[.agg #[.slice a3 n3 c3,.bool b3,.slice a4 n4 c4],.bool true]) (rB_ rfl (w.heap.size+1) (qT _ _ _ _ _ _ H8.o.1) underlying127 3) rfl ⟨_,_,rfl,qaw ⟨rfl,HY.o,_,_,by rw [HG.o.2.2.2.2],bH.o,bI.o⟩,qS H8.o.2 (by omega) _⟩
     ·have HN:Hu (¬FOk n.data.toList d.data.toList):=qH (fun h=>aa h.cop);have af:((cr:Int) == 0)=false:=by rw [beq_eq_false_iff_ne];exact fun h=>aa (aI.o.1 h)
      have bP:¬cr=0:=fun h=>aa (aI.o.1 h)
      clear aK J aa
      go_wp2_with (with_reducible refine sR_ rfl 127 _ _ rfl (w.heap.size+1) #[.slice none 0 0,.bool false,.slice none 0 0] H8.o.1 3 ?_)
      exact qR (v:=.tuple #[.agg #[.slice none 0 0,.bool false,.slice none 0 0],.bool false]) (rB_ rfl (w.heap.size+1) (qT _ _ _ _ _ _ H8.o.1) underlying127 3) rfl ⟨_,_,rfl,qam ⟨rfl,HN.o,rfl⟩,qS H8.o.2 (by omega) _⟩
    ·have HN:Hu (¬FOk n.data.toList d.data.toList):=qH (fun h=>aG h.pos);have aL:cmp3 (ival d.data.toList) 0<1:=by unfold cmp3;split <;> (try split) <;> omega
     generalize cmp3 (ival d.data.toList) 0=cr at *
     go_wp2_with (with_reducible refine sR_ rfl 127 _ _ rfl (w.heap.size+1) #[.slice none 0 0,.bool false,.slice none 0 0] H6.o.1 3 ?_)
     exact qR (v:=.tuple #[.agg #[.slice none 0 0,.bool false,.slice none 0 0],.bool false]) (rB_ rfl (w.heap.size+1) (qT _ _ _ _ _ _ H6.o.1) underlying127 3) rfl ⟨_,_,rfl,qam ⟨rfl,HN.o,rfl⟩,qS H6.o.2 (by omega) _⟩
  ·have HX:=qH (qA ((ae.o I V).2) (HR.o.1.trans (V.mono HR.o.1.size)));have HN:Hu (¬FOk n.data.toList d.data.toList):=qH (fun h=>ay h.vd)
   go_wp2_with (with_reducible refine sR_ rfl 127 _ _ rfl (w.heap.size+1) #[.slice none 0 0,.bool false,.slice none 0 0] HX.o.1 3 ?_)
   exact qR (v:=.tuple #[.agg #[.slice none 0 0,.bool false,.slice none 0 0],.bool false]) (rB_ rfl (w.heap.size+1) (qT _ _ _ _ _ _ HX.o.1) underlying127 3) rfl ⟨_,_,rfl,qam ⟨rfl,HN.o,rfl⟩,qS HX.o.2 (by omega) _⟩
 ·have HX:=qH (qA ((ae.o w1 U).2) (HR.o.1.trans (U.mono HR.o.1.size)));have HN:Hu (¬FOk n.data.toList d.data.toList):=qH (fun h=>aC h.vn)
  go_wp2_with (with_reducible refine sR_ rfl 127 _ _ rfl (w.heap.size+1) #[.slice none 0 0,.bool false,.slice none 0 0] HX.o.1 3 ?_)
  exact qR (v:=.tuple #[.agg #[.slice none 0 0,.bool false,.slice none 0 0],.bool false]) (rB_ rfl (w.heap.size+1) (qT _ _ _ _ _ _ HX.o.1) underlying127 3) rfl ⟨_,_,rfl,qam ⟨rfl,HN.o,rfl⟩,qS HX.o.2 (by omega) _⟩
def RatV (W:World) (v:Value) (q:Rat):Prop:=RatAt W v q.num q.den
theorem RatV.below {W W':World} {v:Value} {q:Rat} (h:RatV W v q) (E:Below W.heap.size W W'):RatV W' v q:=RatAt.below h E
theorem qdu {W:World} {v:Value} {z:Int} {d:Nat} (h:RatAt W v z d):∃(a:Option Addr) (n c:Nat) (b:Bool) (E:Option Addr) (e f:Nat),v=.agg #[.slice a n c,.bool b,.slice E e f]:=by
 obtain⟨m,o,rfl,⟨am,bm,F,cm,n,M,rfl,_,_⟩,⟨ao,bo,H,co,no,O,rfl,_,_⟩⟩:=h;exact⟨am,n,cm,_,ao,no,co,rfl⟩
def RFit (q:Rat) (K:Nat):Prop:=Fit q.num.natAbs K/\Fit q.den K
theorem row_set3 {W:World} {g:Nat} {t:TypeId} (h:W.heap[g]? = some (.cells #[.slice none 0 0,.bool false,.slice none 0 0] t (0,0))) (a:Option Addr) (n c:Nat) (b:Bool) (d:Option Addr) (e f:Nat) :
  (((W.setCell ⟨g,0,none⟩ (.slice a n c)).setCell ⟨g,1,none⟩ (.bool b)).setCell ⟨g,2,none⟩ (.slice d e f)).heap[g]? = some (.cells #[.slice a n c,.bool b,.slice d e f] t (0,0)) :=
 heap_setCell_same _ g 2 _ t _ (heap_setCell_same _ g 1 _ t _ (heap_setCell_same _ g 0 _ t _ h))
theorem rat_set3 {W:World} {v:Value} {q:Rat} {g:Nat} {t:TypeId} (J:RatV W v q) (h:W.heap[g]? = some (.cells #[.slice none 0 0,.bool false,.slice none 0 0] t (0,0))) (a:Option Addr) (n c:Nat) (b:Bool) (d:Option Addr) (e f:Nat) :
  RatV (((W.setCell ⟨g,0,none⟩ (.slice a n c)).setCell ⟨g,1,none⟩ (.bool b)).setCell ⟨g,2,none⟩ (.slice d e f)) v q:=by
 obtain⟨m,o,F,H,I⟩:=J;have E:W.grownBy (((W.setCell ⟨g,0,none⟩ (.slice a n c)).setCell ⟨g,1,none⟩ (.bool b)).setCell ⟨g,2,none⟩ (.slice d e f)) (some g):=qb5 (qb5 (qb7 W g 0 _) (qb7 _ g 1 _)) (qb7 _ g 2 _);exact⟨m,o,F,qcA H E h qfn,qcA I E h qfn⟩
theorem rmul_any (p q:Rat) (K:Nat) (hK:K<=68719476736) (v u:Value) (w:World) (hv:RatV w v p) (hu:RatV w u q) (hp:RFit p K) (hq:RFit q K) :
  Calls prog 188 #[v,u] w fun e w'=>∃r,e=.returned r/\Below w.heap.size w w'/\RatV w' r (p*q):=by
 obtain⟨mx,mX,rfl,hx,hX⟩:=hv;obtain⟨my,mY,rfl,hy,hY⟩:=hu;obtain⟨x,aT⟩:=qX p.num.natAbs;obtain⟨y,aU⟩:=qX q.num.natAbs;obtain⟨X,aL⟩:=qX p.den;obtain⟨Y,aN⟩:=qX q.den;have ax:=mul_low p.reduced q.reduced (qbm p.den_nz) (qbm q.den_nz);have aK:0<X:=aL▸qbm p.den_nz;have aM:0<Y:=aN▸qbm q.den_nz;obtain⟨fx,fX⟩:=hp;obtain⟨fy,fY⟩:=hq;rw [aT] at hx fx;rw [aU] at hy fy;rw [aL] at hX fX;rw [aN] at hY fY;rw [aT,aU,aL,aN] at ax;have bf:0<x.gcd Y:=qbe _ aM;have bg:0<y.gcd X:=qbe _ aK;have fg:Fit (x.gcd Y) K:=fY.le (Nat.gcd_le_right _ aM);have fh:Fit (y.gcd X) K:=fX.le (Nat.gcd_le_right _ aK);have aW:∀(W:World) (m o:Value),IntAt W m (if (decide (p.num<0) != decide (q.num<0))=true then -((x / x.gcd Y*(y / y.gcd X):Nat):Int) else ((x / x.gcd Y*(y / y.gcd X):Nat):Int))->MagAt W o (X / y.gcd X*(Y / x.gcd Y))->∃a n c b d e f,m=.agg #[.slice a n c,.bool b]/\o=.slice d e f/\RatV W (.agg #[.slice a n c,.bool b,.slice d e f]) (p*q):=by
  intro W m o hm ho;obtain⟨zz,bv⟩:=qX (if (decide (p.num<0) != decide (q.num<0))=true then -((x / x.gcd Y*(y / y.gcd X):Nat):Int) else ((x / x.gcd Y*(y / y.gcd X):Nat):Int));have bR:zz.natAbs=x / x.gcd Y*(y / y.gcd X):=by rw [<-bv];split <;> omega
  have bP:X / y.gcd X*(Y / x.gcd Y)≠0:=by
   have h1:=Nat.div_pos (qbZ aK (qa4 y X)) bg;have h2:=Nat.div_pos (qbZ aM (qa4 x Y)) bf;exact qbu (qb3 h1 h2)
  have hq:=rat_mul (p:=p) (q:=q) (z:=zz) (d:=X / y.gcd X*(Y / x.gcd Y)) bP (by rw [bR];exact ax.1) (by
   have h2:=ax.2;have e1:((x / x.gcd Y*(y / y.gcd X):Nat):Int)*(X*Y:Nat)=((x*y:Nat):Int)*(X / y.gcd X*(Y / x.gcd Y):Nat):=by rw [<-Int.natCast_mul,<-Int.natCast_mul,h2]
   have e2:p.num*q.num=if (decide (p.num<0) != decide (q.num<0))=true then -((x*y:Nat):Int) else ((x*y:Nat):Int):=by
    rw [<-aT,<-aU];exact (qjz p.num q.num).symm
   rw [aL,aN,e2,<-bv];split
   ·rw [qbN,qbN,e1]
   ·exact e1)
  rw [bv] at hm;obtain⟨a,n,c,b,rfl⟩:=qb6 hm;obtain⟨m',bi,bO⟩:=hm;obtain⟨ao,bo,oo,co,no,O,rfl,Io,hO⟩:=ho;refine⟨a,n,c,b,ao,no,co,rfl,rfl,m',.slice ao no co,?_,?_,?_⟩
  ·simp only [qaX,qa1,qaV] at bi;rw [hq.1,<-bi.1,<-bi.2.1]
  ·rw [hq.1];exact bO
  ·rw [hq.2];exact⟨ao,bo,oo,co,no,O,rfl,Io,hO⟩
 have bz:=qH aW;generalize decide (p.num<0)=b0 at *;generalize decide (q.num<0)=b1 at *;have HX:=qH (qA hx (qA hX (qA hy hY)));have HF:=qH (qA fx (qA fX (qA fy fY)));have HP:=qH (qA aK (qA aM (qA bf (qA bg (qA fg fh)))));have HK:=qH hK;obtain⟨a0,_,_,c0,n0,_,rfl,_,_⟩:=hx;obtain⟨d0,_,_,f0,e0,_,rfl,_,_⟩:=hX;obtain⟨a1,_,_,c1,n1,_,rfl,_,_⟩:=hy;obtain⟨d1,_,_,f1,e1,_,rfl,_,_⟩:=hY;clear ax aW aK aM bf bg fg fh fx fX fy fY hK aT aU aL aN;obtain⟨I,aF⟩:=qY (((w.alloc (.cells #[.slice a0 n0 c0,.bool b0,.slice d0 e0 f0] 127)).alloc (.cells #[.slice a1 n1 c1,.bool b1,.slice d1 e1 f1] 127)).alloc (.cells #[.slice none 0 0,.bool false,.slice none 0 0] 127));have bG:Below w.heap.size w I:=aF▸qb4 (qb4 (qb4 qB qN) qN) qN;have aR:I.heap[w.heap.size]? = some (.cells #[.slice a0 n0 c0,.bool b0,.slice d0 e0 f0] 127 (0,0)):=by rw [aF,qL _ _ _ (by simp only [qab];omega),qL _ _ _ (by simp only [qab];omega)];exact qM _ _ _ (by simp)
 have aS:I.heap[w.heap.size+1]? = some (.cells #[.slice a1 n1 c1,.bool b1,.slice d1 e1 f1] 127 (0,0)):=by rw [aF,qL _ _ _ (by simp only [qab];omega)];exact qM _ _ _ (by simp)
 have bq:I.heap[w.heap.size+1+1]? = some (.cells #[.slice none 0 0,.bool false,.slice none 0 0] 127 (0,0)):=by rw [aF];exact qM _ _ _ (by simp)
 have l2:w.heap.size+1+1<I.heap.size:=(qG bq).1;have ay:∀W,Below (w.heap.size+1+1) I W->W.cell? ⟨w.heap.size,0,none⟩=some (.slice a0 n0 c0):=fun W h=>(h.cell (p:=⟨w.heap.size,0,none⟩) (by show w.heap.size<_;omega)).trans (qC _ _ 0 _ _ _ aR)
 have az:∀W,Below (w.heap.size+1+1) I W->W.cell? ⟨w.heap.size,1,none⟩=some (.bool b0):=fun W h=>(h.cell (p:=⟨w.heap.size,1,none⟩) (by show w.heap.size<_;omega)).trans (qC _ _ 1 _ _ _ aR)
 have aA:∀W,Below (w.heap.size+1+1) I W->W.cell? ⟨w.heap.size,2,none⟩=some (.slice d0 e0 f0):=fun W h=>(h.cell (p:=⟨w.heap.size,2,none⟩) (by show w.heap.size<_;omega)).trans (qC _ _ 2 _ _ _ aR)
 have aB:∀W,Below (w.heap.size+1+1) I W->W.cell? ⟨w.heap.size+1,0,none⟩=some (.slice a1 n1 c1):=fun W h=>(h.cell (p:=⟨w.heap.size+1,0,none⟩) (by show w.heap.size+1<_;omega)).trans (qC _ _ 0 _ _ _ aS)
 have aC:∀W,Below (w.heap.size+1+1) I W->W.cell? ⟨w.heap.size+1,1,none⟩=some (.bool b1):=fun W h=>(h.cell (p:=⟨w.heap.size+1,1,none⟩) (by show w.heap.size+1<_;omega)).trans (qC _ _ 1 _ _ _ aS)
 have aD:∀W,Below (w.heap.size+1+1) I W->W.cell? ⟨w.heap.size+1,2,none⟩=some (.slice d1 e1 f1):=fun W h=>(h.cell (p:=⟨w.heap.size+1,2,none⟩) (by show w.heap.size+1<_;omega)).trans (qC _ _ 2 _ _ _ aS)
 have HR:=qH (qA bG bq);have aj:=qH l2;clear aR aS bq bG;go_enter func188,ntmps188;go_wp2_with fail;rw [<-aF];clear aF;refine ((qdb .f) x Y K (by have:=HK.o;omega) _ _ I (HX.o.1.below HR.o.1) (HX.o.2.2.2.below HR.o.1) HF.o.1 HF.o.2.2.2).mono ?_;rintro e w2 ⟨vg,rfl,E,hv⟩;have Mw2_g:=qH hv;have H:Hu (Below w.heap.size w w2/\Below (w.heap.size+1+1) I w2):=qH ⟨HR.o.1.trans (E.mono HR.o.1.size),E.mono (qan aj.o)⟩;have bB:=qH ((E.block _ (qG HR.o.2).1).trans HR.o.2);obtain⟨sg,_,_,ug,tg,_,rfl,_,_⟩:=hv;clear E;have aa:=ay w2 H.o.2;have ae:=az w2 H.o.2;have af:=aA w2 H.o.2;have ag:=aB w2 H.o.2;have ah:=aC w2 H.o.2;have ai:=aD w2 H.o.2;go_wp2_with fail;refine ((qdb .f) y X K (by have:=HK.o;omega) _ _ w2 (HX.o.2.2.1.below H.o.1) (HX.o.2.1.below H.o.1) HF.o.2.2.1 HF.o.2.1).mono ?_;rintro e w3 ⟨vh,rfl,E,hv⟩;have Mw3_g:=qH (Mw2_g.o.below E);have Mw3_h:=qH hv;have J:Hu (Below w.heap.size w w3/\Below (w.heap.size+1+1) I w3):=qH ⟨H.o.1.trans (E.mono H.o.1.size),(H.o.2).trans (E.mono (qak (qan aj.o) (H.o.2).size))⟩;have bC:=qH ((E.block _ (qG bB.o).1).trans bB.o);obtain⟨sh,_,_,uh,th,_,rfl,_,_⟩:=hv;clear E aa;have aa:=ay w3 J.o.2;clear ae;have ae:=az w3 J.o.2;clear af;have af:=aA w3 J.o.2;clear ag;have ag:=aB w3 J.o.2;clear ah;have ah:=aC w3 J.o.2;clear ai;have ai:=aD w3 J.o.2;go_wp2_with fail;refine ((qcf .f) x (x.gcd Y) K (by have:=HK.o;omega) _ _ w3 (HX.o.1.below J.o.1) Mw3_g.o HF.o.1 HP.o.2.2.2.2.1 HP.o.2.2.1).mono ?_;rintro e w4 ⟨va,_,rfl,E,hv,_⟩;have Mw4_g:=qH (Mw3_g.o.below E);have Mw4_h:=qH (Mw3_h.o.below E);have Mw4_a:=qH hv;have U:Hu (Below w.heap.size w w4/\Below (w.heap.size+1+1) I w4):=qH ⟨J.o.1.trans (E.mono J.o.1.size),(J.o.2).trans (E.mono (qak (qan aj.o) (J.o.2).size))⟩;have bD:=qH ((E.block _ (qG bC.o).1).trans bC.o);obtain⟨sa,_,_,ua,ta,_,rfl,_,_⟩:=hv;clear E aa;have aa:=ay w4 U.o.2;clear ae;have ae:=az w4 U.o.2;clear af;have af:=aA w4 U.o.2;clear ag;have ag:=aB w4 U.o.2;clear ah;have ah:=aC w4 U.o.2;clear ai;have ai:=aD w4 U.o.2;go_wp2_with fail;refine ((qcf .f) X (y.gcd X) K (by have:=HK.o;omega) _ _ w4 (HX.o.2.1.below U.o.1) Mw4_h.o HF.o.2.1 HP.o.2.2.2.2.2 HP.o.2.2.2.1).mono ?_;rintro e w5 ⟨vb,_,rfl,E,hv,_⟩;have Mw5_g:=qH (Mw4_g.o.below E);have Mw5_h:=qH (Mw4_h.o.below E);have Mw5_a:=qH (Mw4_a.o.below E);have Mw5_b:=qH hv;have V:Hu (Below w.heap.size w w5/\Below (w.heap.size+1+1) I w5):=qH ⟨U.o.1.trans (E.mono U.o.1.size),(U.o.2).trans (E.mono (qak (qan aj.o) (U.o.2).size))⟩;have bE:=qH ((E.block _ (qG bD.o).1).trans bD.o);obtain⟨sb,_,_,ub,tb,_,rfl,_,_⟩:=hv;clear E aa;have aa:=ay w5 V.o.2;clear ae;have ae:=az w5 V.o.2;clear af;have af:=aA w5 V.o.2;clear ag;have ag:=aB w5 V.o.2;clear ah;have ah:=aC w5 V.o.2;clear ai;have ai:=aD w5 V.o.2;go_wp2_with fail;refine ((qcf .f) y (y.gcd X) K (by have:=HK.o;omega) _ _ w5 (HX.o.2.2.1.below V.o.1) Mw5_h.o HF.o.2.2.1 HP.o.2.2.2.2.2 HP.o.2.2.2.1).mono ?_;rintro e w6 ⟨vc,_,rfl,E,hv,_⟩;have Mw6_g:=qH (Mw5_g.o.below E);have Mw6_h:=qH (Mw5_h.o.below E);have Mw6_a:=qH (Mw5_a.o.below E);have Mw6_b:=qH (Mw5_b.o.below E);have Mw6_c:=qH hv;have Z:Hu (Below w.heap.size w w6/\Below (w.heap.size+1+1) I w6):=qH ⟨V.o.1.trans (E.mono V.o.1.size),(V.o.2).trans (E.mono (qak (qan aj.o) (V.o.2).size))⟩;have bF:=qH ((E.block _ (qG bE.o).1).trans bE.o);obtain⟨sc,_,_,uc,tc,_,rfl,_,_⟩:=hv;clear E aa;have aa:=ay w6 Z.o.2;clear ae;have ae:=az w6 Z.o.2;clear af;have af:=aA w6 Z.o.2;clear ag;have ag:=aB w6 Z.o.2;clear ah;have ah:=aC w6 Z.o.2;clear ai;have ai:=aD w6 Z.o.2;go_wp2_with fail;refine ((qcf .f) Y (x.gcd Y) K (by have:=HK.o;omega) _ _ w6 (HX.o.2.2.2.below Z.o.1) Mw6_g.o HF.o.2.2.2 HP.o.2.2.2.2.1 HP.o.2.2.1).mono ?_;rintro e w7 ⟨vd,_,rfl,E,hv,_⟩;have Mw7_g:=qH (Mw6_g.o.below E);have Mw7_h:=qH (Mw6_h.o.below E);have Mw7_a:=qH (Mw6_a.o.below E);have Mw7_b:=qH (Mw6_b.o.below E);have Mw7_c:=qH (Mw6_c.o.below E);have Mw7_d:=qH hv;have au:Hu (Below w.heap.size w w7/\Below (w.heap.size+1+1) I w7):=qH ⟨Z.o.1.trans (E.mono Z.o.1.size),(Z.o.2).trans (E.mono (qak (qan aj.o) (Z.o.2).size))⟩;have bN:=qH ((E.block _ (qG bF.o).1).trans bF.o);obtain⟨sd,_,_,ud,td,_,rfl,_,_⟩:=hv;clear E aa;have aa:=ay w7 au.o.2;clear ae;have ae:=az w7 au.o.2;clear af;have af:=aA w7 au.o.2;clear ag;have ag:=aB w7 au.o.2;clear ah;have ah:=aC w7 au.o.2;clear ai;have ai:=aD w7 au.o.2;have bL:=qH (fun (W:World) (h:Below w7.heap.size w7 W)=>(qcz .f) (x / x.gcd Y) (y / y.gcd X) K K (by have:=HK.o;omega) (.slice sa ta ua) (.slice sc tc uc) W (Mw7_a.o.below h) (Mw7_c.o.below h) (HF.o.1.le (qa2 _ _)) (HF.o.2.2.1.le (qa2 _ _)));have bM:=qH (fun (W:World) (h:Below w7.heap.size w7 W)=>(qcz .f) (X / y.gcd X) (Y / x.gcd Y) K K (by have:=HK.o;omega) (.slice sb tb ub) (.slice sd td ud) W (Mw7_b.o.below h) (Mw7_d.o.below h) (HF.o.2.1.le (qa2 _ _)) (HF.o.2.2.2.le (qa2 _ _)));have HS:=qH (fun (W:World) (m:Value) (h:MagAt W m (x / x.gcd Y*(y / y.gcd X)))=>(qcq .f) (x / x.gcd Y*(y / y.gcd X)) (b0 != b1) m W h);have bu:Below (w.heap.size+1+1) I w7:=au.o.2;have aX:Below (w.heap.size+1+1) I w7.drew:=bu.drew;have bJ:w.heap.size+1+1<w7.heap.size:=qai aj.o bu.size;have bA:=qH bJ;clear bJ;go_wp2_with fail
 go_region_held3 (fun W=>Below (w.heap.size+1+1) I W) (first | with_reducible exact bu | with_reducible exact aX | with_reducible exact aH | with_reducible exact aZ | with_reducible exact aY | ((iterate 3 refine Below.setCell ?_ (by exact qad _) _);exact aH)) (first | (go_at_call_of 183 (Value.slice sa ta ua);refine (bL.o _ (qB.drew)).mono ?_;rintro e w8 ⟨p8,rfl,aP,bI⟩;have aY:Below (w.heap.size+1+1) I w8:=aX.trans (aP.mono (qan bA.o));have aJ:=qH (qA bI (qA ((aP.block _ bA.o).trans bN.o) (((Below.refl w7.heap.size w7).drew).trans aP)));clear aP bI) | (go_at_call 123;refine (HS.o _ _ aJ.o.1).mono ?_;rintro e w9 ⟨p9,rfl,aQ,bn⟩;have aZ:Below (w.heap.size+1+1) I w9:=aY.trans (aQ.mono (qak (qan aj.o) aY.size));obtain⟨a9,n9,c9,b9,rfl⟩:=qb6 bn;have aO:=qH (qA bn (qA ((aQ.block _ (qG aJ.o.2.1).1).trans aJ.o.2.1) (aJ.o.2.2.trans (aQ.mono aJ.o.2.2.size))));clear aQ bn) | (go_at_call_of 183 (Value.slice sb tb ub);refine (bM.o _ aO.o.2.2).mono ?_;rintro e ak ⟨bS,rfl,av,aV⟩;have aH:Below (w.heap.size+1+1) I ak:=aZ.trans (av.mono (qak (qan aj.o) aZ.size));obtain⟨a8,n8,c8,b8,d8,e8,f8,aG,bQ,bK⟩:=bz.o ak _ _ (aO.o.1.below av) aV;have F:=(av.block _ (qG aO.o.2.1).1).trans aO.o.2.1;subst bQ;have e0:=qC ak _ 0 _ _ _ F;have e1:=qC ak _ 1 _ _ _ F;have e2:=qC ak _ 2 _ _ _ F;have f0:=qF ak _ 0 _ _ F;have f1:=qF ak _ 1 _ _ F;have f2:=qF ak _ 2 _ _ F;have bH:a8=a9/\n8=n9/\c8=c9/\b8=b9:=(by simp only [qaX,qa1,qaV,qbY,qbA] at aG;exact⟨aG.1.1.symm,aG.1.2.1.symm,aG.1.2.2.symm,aG.2.1.symm⟩);obtain⟨rfl,rfl,rfl,rfl⟩:=bH;have aI:=qH (qA bK F);clear av aV aG bK F))
 go_wp2_with fail;exact qR (v:=.agg #[.slice a8 n8 c8,.bool b8,.slice d8 e8 f8]) (rA_ rfl (w.heap.size+1+1) (row_set3 aI.o.2 a8 n8 c8 b8 d8 e8 f8) underlying127 3) rfl ⟨_,rfl,HR.o.1.trans ((((aH.setCell (by exact qad _) _).setCell (by exact qad _) _).setCell (by exact qad _) _).mono (by omega)),rat_set3 aI.o.1 aI.o.2 _ _ _ _ _ _ _⟩
def One (E W:World) (g:Nat) (v:Option Addr×Nat×Nat×Bool) (z:Int):Prop :=
 W.heap[g]? = some (.cells #[.slice v.1 v.2.1 v.2.2.1,.bool v.2.2.2] 125 (0,0))/\IntAt W (.agg #[.slice v.1 v.2.1 v.2.2.1,.bool v.2.2.2]) z/\Below E.heap.size E W
theorem qgw {W:World} {v:Value} {q:Rat} {g:Nat} {t:TypeId} {cs':Array Value} (I:RatV W v q) (h:W.heap[g]? = some (.cells #[.slice none 0 0,.bool false,.slice none 0 0] t (0,0))):RatV (W.setRow g cs') v q:=by
 obtain⟨m,o,E,F,H⟩:=I;exact⟨m,o,E,qda F h qfn,qda H h qfn⟩
theorem one_a {E W:World} {a:Option Addr} {n c:Nat} {b:Bool} {z:Int} (h:IntAt W (.agg #[.slice a n c,.bool b]) z) (F:Below E.heap.size E W) :
  One E (W.alloc (.cells #[.slice a n c,.bool b] 125)) W.heap.size (a,n,c,b) z :=
 ⟨qM _ _ _ rfl,h.below (qb4 qB qN),qb4 F qN⟩
theorem one_p {E W:World} {g:Nat} {a:Option Addr} {n c:Nat} {b:Bool} {z:Int} (h:IntAt W (.agg #[.slice a n c,.bool b]) z) (F:Below E.heap.size E W) (hg:E.heap.size<=g) (H:W.heap[g]? = some (.cells #[.slice none 0 0,.bool false] 125 (0,0))) :
  One E ((W.setCell ⟨g,0,none⟩ (.slice a n c)).setCell ⟨g,1,none⟩ (.bool b)) g (a,n,c,b) z:=by
 obtain⟨p1,p2,p3⟩:=qhD H a n c b;exact⟨p1,p3 _ _ _ h,(F.setCell (by exact hg) _).setCell (by exact hg) _⟩
theorem radd_any (p q:Rat) (K:Nat) (hK:K<=34359738368) (v u:Value) (w:World) (I:RatV w v p) (hu:RatV w u q) (hp:RFit p K) (hq:RFit q K) :
  Calls prog 165 #[v,u] w fun e w'=>∃r,e=.returned r/\Below w.heap.size w w'/\RatV w' r (p+q):=by
 obtain⟨mx,mX,rfl,hx,hX⟩:=I;obtain⟨my,mY,rfl,hy,hY⟩:=hu;obtain⟨x,bf⟩:=qX p.num;obtain⟨y,bg⟩:=qX q.num;obtain⟨X,aJ⟩:=qX p.den;obtain⟨Y,aK⟩:=qX q.den;have ai:=add_low p.reduced q.reduced (qbm p.den_nz);have aU:0<X:=aJ▸qbm p.den_nz;have aV:0<Y:=aK▸qbm q.den_nz;obtain⟨fx,fX⟩:=hp;obtain⟨fy,fY⟩:=hq;rw [bf] at hx fx ⊢;rw [bg] at hy fy ⊢;rw [aJ] at hX fX;rw [aK] at hY fY;rw [bf,bg,aJ,aK] at ai;have aM:0<X.gcd Y:=Nat.gcd_pos_of_pos_left _ aU;have fg:Fit (X.gcd Y) K:=fY.le (Nat.gcd_le_right _ aV);obtain⟨l,hl⟩:=qX (Y / X.gcd Y);obtain⟨r,hr⟩:=qX (X / X.gcd Y);have fl:Fit l K:=hl▸fY.le (qa2 _ _);have fr:Fit r K:=hr▸fX.le (qa2 _ _);have aj:0<r:=hr▸Nat.div_pos (qbZ aU (qbT X Y)) aM;obtain⟨S,hS⟩:=qX (x*l+y*r:Int);have ag:=ai S (by rw [hl,hr];exact hS.symm);rw [hr] at ag;have g1:Fit (x*l).natAbs (K+K):=by rw [qaE,qas];exact fx.mul fl
 have g2:Fit (y*r).natAbs (K+K):=by rw [qaE,qas];exact fy.mul fr
 have fS:Fit S.natAbs (K+K+1):=by rw [<-hS];exact (Fit.add g1 g2).le (Int.natAbs_add_le _ _)
 have aW:0<S.natAbs.gcd (X.gcd Y):=qbe _ aM;have fh:Fit (S.natAbs.gcd (X.gcd Y)) K:=fg.le (Nat.gcd_le_right _ aM);obtain⟨h,hh⟩:=qX (S.natAbs.gcd (X.gcd Y));rw [hh] at ag aW fh;have bM:h∣Y:=hh▸Nat.dvd_trans (qa4 _ _) (qa4 _ _);have bn:∀(W:World) (m o:Value),IntAt W m (if decide (S<0)=true then -((S.natAbs / h:Nat):Int) else ((S.natAbs / h:Nat):Int))->MagAt W o (r*(Y / h))->∃a n c b d e f,m=.agg #[.slice a n c,.bool b]/\o=.slice d e f/\RatV W (.agg #[.slice a n c,.bool b,.slice d e f]) (p+q):=by
  intro W m o hm ho;have dm:(if decide (S<0)=true then -((S.natAbs / h:Nat):Int) else ((S.natAbs / h:Nat):Int))=S.tdiv (h:Int):=by
   have:=qjy S (h:Int);rw [qU (by omega:¬(h:Int)<0),Bool.bne_false,qas] at this;exact this
  rw [dm] at hm;have dn:(S.tdiv (h:Int)).natAbs=S.natAbs / h:=by rw [Int.natAbs_tdiv,qas];rfl
  have dh:r*(Y / h)≠0:=qbu (qb3 aj (Nat.div_pos (qbZ aV bM) aW));have hq:=rat_add (p:=p) (q:=q) (z:=S.tdiv (h:Int)) (d:=r*(Y / h)) dh (by rw [dn];exact ag.1) (by
   rw [bf,bg,aJ,aK];exact ag.2)
  obtain⟨a,n,c,b,rfl⟩:=qb6 hm;obtain⟨m',bq,df⟩:=hm;obtain⟨ao,bo,oo,co,no,O,rfl,Io,hO⟩:=ho;refine⟨a,n,c,b,ao,no,co,rfl,rfl,m',.slice ao no co,?_,?_,?_⟩
  ·simp only [qaX,qa1,qaV] at bq;rw [hq.1,<-bq.1,<-bq.2.1]
  ·rw [hq.1];exact df
  ·rw [hq.2];exact⟨ao,bo,oo,co,no,O,rfl,Io,hO⟩
 have bA:=qH bn;have bN:∀W a n c,MagAt W (.slice a n c) x.natAbs->IntAt W (.agg #[.slice a n c,.bool (decide (x<0))]) x:=fun W a n c h=>⟨_,rfl,h⟩
 have bO:∀W a n c,MagAt W (.slice a n c) y.natAbs->IntAt W (.agg #[.slice a n c,.bool (decide (y<0))]) y:=fun W a n c h=>⟨_,rfl,h⟩
 generalize decide (x<0)=b0 at *;generalize decide (y<0)=b1 at *;have HX:=qH (qA hx (qA hX (qA hy hY)));have HF:=qH (qA fx (qA fX (qA fy fY)));have af:=qH (qA fl (qA fr (qA g1 (qA g2 (qA fS fh)))));have HP:=qH (qA aU (qA aV (qA aM (qA aW fg))));have HE:=qH (qA hl (qA hr (qA hS hh)));have HK:=qH hK;have bX:=qH bN;have bY:=qH bO;obtain⟨a0,_,_,c0,n0,_,rfl,_,_⟩:=hx;obtain⟨d0,_,_,f0,e0,_,rfl,_,_⟩:=hX;obtain⟨a1,_,_,c1,n1,_,rfl,_,_⟩:=hy;obtain⟨d1,_,_,f1,e1,_,rfl,_,_⟩:=hY;clear ag ai bn aU aV aM aW fg fh fx fX fy fY hK bf bg aJ aK hl hr hS hh fl fr fS g1 g2 aj bM bN bO;obtain⟨W1,aA⟩:=qY (((w.alloc (.cells #[.slice a0 n0 c0,.bool b0,.slice d0 e0 f0] 127)).alloc (.cells #[.slice a1 n1 c1,.bool b1,.slice d1 e1 f1] 127)).alloc (.cells #[.slice none 0 0,.bool false,.slice none 0 0] 127));have bK:Below w.heap.size w W1:=aA▸qb4 (qb4 (qb4 qB qN) qN) qN;have aj:W1.heap[w.heap.size]? = some (.cells #[.slice a0 n0 c0,.bool b0,.slice d0 e0 f0] 127 (0,0)):=by rw [aA,qL _ _ _ (by simp only [qab];omega),qL _ _ _ (by simp only [qab];omega)];exact qM _ _ _ (by simp)
 have aZ:W1.heap[w.heap.size+1]? = some (.cells #[.slice a1 n1 c1,.bool b1,.slice d1 e1 f1] 127 (0,0)):=by rw [aA,qL _ _ _ (by simp only [qab];omega)];exact qM _ _ _ (by simp)
 have bz:W1.heap[w.heap.size+1+1]? = some (.cells #[.slice none 0 0,.bool false,.slice none 0 0] 127 (0,0)):=by rw [aA];exact qM _ _ _ (by simp)
 have l2:w.heap.size+1+1<W1.heap.size:=(qG bz).1;have au:∀W,Below (w.heap.size+1+1) W1 W->W.cell? ⟨w.heap.size,0,none⟩=some (.slice a0 n0 c0):=fun W h=>(h.cell (p:=⟨w.heap.size,0,none⟩) (by show w.heap.size<_;omega)).trans (qC _ _ 0 _ _ _ aj)
 have av:∀W,Below (w.heap.size+1+1) W1 W->W.cell? ⟨w.heap.size,1,none⟩=some (.bool b0):=fun W h=>(h.cell (p:=⟨w.heap.size,1,none⟩) (by show w.heap.size<_;omega)).trans (qC _ _ 1 _ _ _ aj)
 have aD:∀W,Below (w.heap.size+1+1) W1 W->W.cell? ⟨w.heap.size,2,none⟩=some (.slice d0 e0 f0):=fun W h=>(h.cell (p:=⟨w.heap.size,2,none⟩) (by show w.heap.size<_;omega)).trans (qC _ _ 2 _ _ _ aj)
 have ax:∀W,Below (w.heap.size+1+1) W1 W->W.cell? ⟨w.heap.size+1,0,none⟩=some (.slice a1 n1 c1):=fun W h=>(h.cell (p:=⟨w.heap.size+1,0,none⟩) (by show w.heap.size+1<_;omega)).trans (qC _ _ 0 _ _ _ aZ)
 have ay:∀W,Below (w.heap.size+1+1) W1 W->W.cell? ⟨w.heap.size+1,1,none⟩=some (.bool b1):=fun W h=>(h.cell (p:=⟨w.heap.size+1,1,none⟩) (by show w.heap.size+1<_;omega)).trans (qC _ _ 1 _ _ _ aZ)
 have aF:∀W,Below (w.heap.size+1+1) W1 W->W.cell? ⟨w.heap.size+1,2,none⟩=some (.slice d1 e1 f1):=fun W h=>(h.cell (p:=⟨w.heap.size+1,2,none⟩) (by show w.heap.size+1<_;omega)).trans (qC _ _ 2 _ _ _ aZ)
 have HR:=qH (qA bK bz);have az:=qH l2;clear aj aZ bz bK;go_enter func165,ntmps165;go_wp2_with fail;rw [<-aA];clear aA;refine ((qdb .f) X Y K (by have:=HK.o;omega) _ _ W1 (HX.o.2.1.below HR.o.1) (HX.o.2.2.2.below HR.o.1) HF.o.2.1 HF.o.2.2.2).mono ?_;rintro e w2 ⟨vg,rfl,E,I⟩;have Mw2_g:=qH I;have aa:Hu (Below w.heap.size w w2/\Below (w.heap.size+1+1) W1 w2):=qH ⟨HR.o.1.trans (E.mono HR.o.1.size),E.mono (qan az.o)⟩;have bH:=qH ((E.block _ (qG HR.o.2).1).trans HR.o.2);obtain⟨sg,_,_,ug,tg,_,rfl,_,_⟩:=I;clear E;have aO:=au w2 aa.o.2;have aP:=av w2 aa.o.2;have aQ:=aD w2 aa.o.2;have aR:=ax w2 aa.o.2;have aS:=ay w2 aa.o.2;have ak:=aF w2 aa.o.2;go_wp2_with fail;refine ((qcf .f) Y (X.gcd Y) K (by have:=HK.o;omega) _ _ w2 (HX.o.2.2.2.below aa.o.1) Mw2_g.o HF.o.2.2.2 HP.o.2.2.2.2 HP.o.2.2.1).mono ?_;rintro e w3 ⟨vl,_,rfl,E,I,_⟩;rw [HE.o.1] at I;have Mw3_g:=qH (Mw2_g.o.below E);have Mw3_l:=qH I;have ae:Hu (Below w.heap.size w w3/\Below (w.heap.size+1+1) W1 w3):=qH ⟨aa.o.1.trans (E.mono aa.o.1.size),(aa.o.2).trans (E.mono (qak (qan az.o) (aa.o.2).size))⟩;have bI:=qH ((E.block _ (qG bH.o).1).trans bH.o);obtain⟨sl,_,_,ul,tl,_,rfl,_,_⟩:=I;clear E aO;have aO:=au w3 ae.o.2;clear aP;have aP:=av w3 ae.o.2;clear aQ;have aQ:=aD w3 ae.o.2;clear aR;have aR:=ax w3 ae.o.2;clear aS;have aS:=ay w3 ae.o.2;clear ak;have ak:=aF w3 ae.o.2;go_wp2_with fail;refine ((qcf .f) X (X.gcd Y) K (by have:=HK.o;omega) _ _ w3 (HX.o.2.1.below ae.o.1) Mw3_g.o HF.o.2.1 HP.o.2.2.2.2 HP.o.2.2.1).mono ?_;rintro e H ⟨vr,_,rfl,E,I,_⟩;rw [HE.o.2.1] at I;have Mw4_g:=qH (Mw3_g.o.below E);have Mw4_l:=qH (Mw3_l.o.below E);have Mw4_r:=qH I;have F:Hu (Below w.heap.size w H/\Below (w.heap.size+1+1) W1 H):=qH ⟨ae.o.1.trans (E.mono ae.o.1.size),(ae.o.2).trans (E.mono (qak (qan az.o) (ae.o.2).size))⟩;have bJ:=qH ((E.block _ (qG bI.o).1).trans bI.o);obtain⟨sr,_,_,ur,tr,_,rfl,_,_⟩:=I;clear E aO;have aO:=au H F.o.2;clear aP;have aP:=av H F.o.2;clear aQ;have aQ:=aD H F.o.2;clear aR;have aR:=ax H F.o.2;clear aS;have aS:=ay H F.o.2;clear ak;have ak:=aF H F.o.2;have aC:Below H.heap.size H H:=Below.refl _ _;have bQ:Below H.heap.size H H.drew:=aC.drew;have cZ:∀W:World,W.drew.heap.size=W.heap.size:=fun _=>rfl
 have aN:w.heap.size+1+1<H.heap.size:=qai az.o F.o.2.size;have bT:∀W,Below H.heap.size H W->W.cell? ⟨w.heap.size,0,none⟩=some (.slice a0 n0 c0):=fun W h=>au W (F.o.2.trans (h.mono (qan aN)))
 have bU:∀W,Below H.heap.size H W->W.cell? ⟨w.heap.size,1,none⟩=some (.bool b0):=fun W h=>av W (F.o.2.trans (h.mono (qan aN)))
 have bV:∀W,Below H.heap.size H W->W.cell? ⟨w.heap.size+1,0,none⟩=some (.slice a1 n1 c1):=fun W h=>ax W (F.o.2.trans (h.mono (qan aN)))
 have bW:∀W,Below H.heap.size H W->W.cell? ⟨w.heap.size+1,1,none⟩=some (.bool b1):=fun W h=>ay W (F.o.2.trans (h.mono (qan aN)))
 have HC:=qH (qA au (qA av (qA aD (qA ax (qA ay aF)))));clear au av aD ax ay aF aO aP aQ aR aS ak;go_upto_region 4 with fail
 go_cut [10] (fun x10 W=>∃(g7:Nat) (a7:Option Addr) (n7 c7:Nat) (b7:Bool),x10=.pointer (some ⟨g7,0,none⟩)/\One H W g7 (a7,n7,c7,b7) S)
 case first =>
  go_region_held3 (fun W=>Below H.heap.size H W) (first | with_reducible exact aC | with_reducible exact bQ | with_reducible exact U | with_reducible exact Z | with_reducible exact J | ((repeat (first | refine Below.setCell ?_ (by first | exact qad _ | exact U.size | exact Z.size | exact J.size | exact qar qN) _ | refine qb4 ?_ qN | refine Below.drew ?_));first | exact U | exact Z | exact J | exact aC)) (first | (go_at_call_of 107 (Value.slice sl tl ul);refine ((qcO .f) x l K K (by have:=HK.o;omega) _ _ _ (bX.o _ _ _ _ (HX.o.1.below (F.o.1.trans (Below.mono (by ((repeat (first | refine Below.setCell ?_ (by first | exact qad _ | exact U.size | exact Z.size | exact J.size | exact qar qN) _ | refine qb4 ?_ qN | refine Below.drew ?_));first | exact aC)) F.o.1.size)))) (Mw4_l.o.below (by ((repeat (first | refine Below.setCell ?_ (by first | exact qad _ | exact U.size | exact Z.size | exact J.size | exact qar qN) _ | refine qb4 ?_ qN | refine Below.drew ?_));first | exact aC))) HF.o.1 af.o.1).mono ?_;rintro e w5 ⟨p5,rfl,aL,bu⟩;have J:Below H.heap.size H w5:=bjoin (by ((repeat (first | refine Below.setCell ?_ (by first | exact qad _ | exact U.size | exact Z.size | exact J.size | exact qar qN) _ | refine qb4 ?_ qN | refine Below.drew ?_));first | exact aC)) aL;obtain⟨a5,n5,c5,b5,rfl⟩:=qb6 bu;obtain⟨k5,dz⟩:=bcell aL;have Z5:=qH (zkeep aL);have s5:_<=_:=aL.size;(try simp only [qab,cZ] at s5);have I5:=qH bu;(try have q5:H.heap.size<w5.heap.size:=by omega);clear aL bu) | (go_at_call_of 107 (Value.slice sr tr ur);refine ((qcO .f) y r K K (by have:=HK.o;omega) _ _ _ (bY.o _ _ _ _ (HX.o.2.2.1.below (F.o.1.trans (Below.mono (by ((repeat (first | refine Below.setCell ?_ (by first | exact qad _ | exact U.size | exact Z.size | exact J.size | exact qar qN) _ | refine qb4 ?_ qN | refine Below.drew ?_));first | exact J)) F.o.1.size)))) (Mw4_r.o.below (by ((repeat (first | refine Below.setCell ?_ (by first | exact qad _ | exact U.size | exact Z.size | exact J.size | exact qar qN) _ | refine qb4 ?_ qN | refine Below.drew ?_));first | exact J))) HF.o.2.2.1 af.o.2.1).mono ?_;rintro e w6 ⟨p6,rfl,ah,bv⟩;have Z:Below H.heap.size H w6:=bjoin (by ((repeat (first | refine Below.setCell ?_ (by first | exact qad _ | exact U.size | exact Z.size | exact J.size | exact qar qN) _ | refine qb4 ?_ qN | refine Below.drew ?_));first | exact J)) ah;obtain⟨a6,n6,c6,b6,rfl⟩:=qb6 bv;obtain⟨k6,dA⟩:=bcell ah;have Z6:=qH (zkeep ah);have s6:_<=_:=ah.size;(try simp only [qab] at s6);have J6:Hu (IntAt w6 _ _):=qH (by first | exact I5.o.below ah | exact (I5.o.below (qb4 qB qN)).below ah);have I6:=qH bv;(try have q6:H.heap.size<w6.heap.size:=by omega);(try have r6:w5.heap.size<w6.heap.size:=by omega);clear ah bv) | (go_at_call 108;refine ((qdI .f) (x*(l:Int)) (y*(r:Int)) (K+K) (by have:=HK.o;omega) _ _ _ (by first | exact J6.o | exact J6.o.below (qb4 qB qN)) (by first | exact I6.o | exact I6.o.below (qb4 qB qN)) af.o.2.2.1 af.o.2.2.2.1).mono ?_;rintro e w7 ⟨p7,rfl,V,aY⟩;rw [HE.o.2.2.1] at aY;have U:Below H.heap.size H w7:=bjoin (by ((repeat (first | refine Below.setCell ?_ (by first | exact qad _ | exact U.size | exact Z.size | exact J.size | exact qar qN) _ | refine qb4 ?_ qN | refine Below.drew ?_));first | exact Z)) V;obtain⟨a7,n7,c7,b7,rfl⟩:=qb6 aY;obtain⟨k7,dB⟩:=bcell V;have Z7:=qH (zkeep V);have s7:_<=_:=V.size;(try simp only [qab] at s7);have I7:=qH aY;(try have q7:H.heap.size<w7.heap.size:=by omega);(try have r7:w5.heap.size<w7.heap.size:=by omega);(try have t7:w6.heap.size<w7.heap.size:=by omega);clear V aY))
  all_goals go_wp2_with fail
  all_goals go_meet
  all_goals refine⟨_,a7,n7,c7,b7,rfl,?_⟩
  all_goals first
   | with_reducible exact one_a I7.o U
   | (with_reducible refine one_p I7.o U ?_ ?_;(first | exact qad _ | exact J.size | exact Z.size | exact U.size);(refine Z7.o _ _ ?_;first | (refine qM _ _ _ ?_;((try simp only) <;> omega)) | (refine Z6.o _ _ ?_;first | (refine qM _ _ _ ?_;((try simp only) <;> omega)) | (refine Z5.o _ _ ?_;(try with_reducible refine zdrew ?_);(refine qM _ _ _ ?_;((try simp only) <;> omega))))))
 case rest =>
  obtain⟨g7,a7,n7,c7,b7,rfl,h7,i7,V⟩:=hcut;dsimp only at h7 i7;obtain⟨m7,aX,bL⟩:=i7;have e7:m7=.slice a7 n7 c7/\b7=decide (S<0):=by
   simp only [qaX,qa1,qaV,qbA] at aX;exact⟨aX.1.symm,aX.2.1⟩
  obtain⟨rfl,bi⟩:=e7;have aI:=qH (qA bL (qA h7 (qA V bi)));have HB:=qH (qA (F.o.1.trans (V.mono F.o.1.size)) (qA (F.o.2.trans (V.mono (qan aN))) ((V.block _ (qG bJ.o).1).trans bJ.o)));have Mg:=qH (Mw4_g.o.below V);have Mr:=qH (Mw4_r.o.below V);have q0:=qC wc _ 0 _ _ _ h7;clear aX bL h7 V bi bT bU bV bW;go_wp2_with fail;refine ((qdb .f) S.natAbs (X.gcd Y) (K+K+1) (by have:=HK.o;omega) _ _ wc aI.o.1 Mg.o af.o.2.2.2.2.1 (HP.o.2.2.2.2.mono (by omega))).mono ?_;rintro e w8 ⟨vh,rfl,E,I⟩;rw [HE.o.2.2.2] at I;have bB:=qH I;have cu:=qH (aI.o.1.below E);have cK:=qH (Mr.o.below E);have H8:=qH (qA (HB.o.1.trans (E.mono HB.o.1.size)) (qA (HB.o.2.1.trans (E.mono (qak (qan az.o) HB.o.2.1.size))) (qA ((E.block _ (qG HB.o.2.2).1).trans HB.o.2.2) ((E.block _ (qG aI.o.2.1).1).trans aI.o.2.1))));have q0:=qC w8 _ 0 _ _ _ H8.o.2.2.2;obtain⟨sh,_,_,uh,th,_,rfl,_,_⟩:=I;clear E;go_wp2_with fail;refine ((qcf .f) S.natAbs h (K+K+1) (by have:=HK.o;omega) _ _ w8 cu.o bB.o af.o.2.2.2.2.1 (af.o.2.2.2.2.2.mono (by omega)) HP.o.2.2.2.1).mono ?_;rintro e w9 ⟨vn,_,rfl,E,I,_⟩;have cz:=qH (bB.o.below E);have cB:=qH I;have cO:=qH (cK.o.below E);have H9:=qH (qA (H8.o.1.trans (E.mono H8.o.1.size)) (qA (H8.o.2.1.trans (E.mono (qak (qan az.o) H8.o.2.1.size))) (qA ((E.block _ (qG H8.o.2.2.1).1).trans H8.o.2.2.1) ((E.block _ (qG H8.o.2.2.2).1).trans H8.o.2.2.2))));have ak:=HC.o.2.2.2.2.2 w9 H9.o.2.1;have q1:=qC w9 _ 1 _ _ _ H9.o.2.2.2;obtain⟨sn,_,_,un,tn,_,rfl,_,_⟩:=I;clear E q0;go_wp2_with fail;refine ((qcf .f) Y h K (by have:=HK.o;omega) _ _ w9 (HX.o.2.2.2.below H9.o.1) cz.o HF.o.2.2.2 af.o.2.2.2.2.2 HP.o.2.2.2.1).mono ?_;rintro e bS ⟨vt,_,rfl,E,I,_⟩;have bF:=qH I;have bC:=qH (cB.o.below E);have bD:=qH (cO.o.below E);have aG:=qH (qA (H9.o.1.trans (E.mono H9.o.1.size)) (qA ((E.block _ (qG H9.o.2.2.1).1).trans H9.o.2.2.1) ((E.block _ (qG H9.o.2.2.2).1).trans H9.o.2.2.2)));have q1:=qC bS _ 1 _ _ _ aG.o.2.2;obtain⟨st,_,_,ut,tt,_,rfl,_,_⟩:=I;clear E ak;go_wp2_with fail;refine ((qcq .f) (S.natAbs / h) b7 _ bS bC.o).mono ?_;rintro e dw ⟨dC,rfl,E,I⟩;rw [aI.o.2.2.2] at I;have bZ:=qH I;have bG:=qH (bF.o.below E);have bE:=qH (bD.o.below E);have aT:=qH (qA (aG.o.1.trans (E.mono aG.o.1.size)) ((E.block _ (qG aG.o.2.1).1).trans aG.o.2.1));obtain⟨a9,n9,c9,b9,rfl⟩:=qb6 I;clear E I q1;go_wp2_with fail;refine ((qcz .f) r (Y / h) K K (by have:=HK.o;omega) _ _ dw bE.o bG.o af.o.2.1 (HF.o.2.2.2.le (qa2 _ _))).mono ?_;rintro e dx ⟨dD,rfl,E,I⟩;obtain⟨a8,n8,c8,b8,d8,e8,f8,aB,di,bR⟩:=bA.o dx _ _ (bZ.o.below E) I;have bP:a8=a9/\n8=n9/\c8=c9/\b8=b9:=by
   simp only [qaX,qa1,qaV,qbY,qbA] at aB;exact⟨aB.1.1.symm,aB.1.2.1.symm,aB.1.2.2.symm,aB.2.1.symm⟩
  obtain⟨rfl,rfl,rfl,rfl⟩:=bP;subst di;have aH:=qH (qA ((E.block _ (qG aT.o.2).1).trans aT.o.2) (qA (aT.o.1.trans (E.mono aT.o.1.size)) bR));clear E I aB bR
  go_wp2_with (with_reducible refine sR_ rfl 127 _ _ rfl (w.heap.size+1+1) #[.slice a8 n8 c8,.bool b8,.slice d8 e8 f8] aH.o.1 3 ?_)
  exact qR (v:=.agg #[.slice a8 n8 c8,.bool b8,.slice d8 e8 f8]) (rA_ rfl (w.heap.size+1+1) (qT _ _ _ _ _ _ aH.o.1) underlying127 3) rfl ⟨_,rfl,qS aH.o.2.1 (by omega) _,qgw aH.o.2.2 aH.o.1⟩
def fval (n d:List UInt8):Rat:=mkRat (ival n) (ival d).natAbs
theorem FOk.val {n d:List UInt8} (h:FOk n d):(fval n d).num=ival n/\(fval n d).den=(ival d).natAbs:=by
 have E:(ival d).natAbs≠0:=by have:=h.pos;omega
 exact qjQ E h.cop E rfl rfl
theorem FOk.fit {n d:List UInt8} (h:FOk n d):RFit (fval n d) 67:=by
 unfold RFit;rw [h.val.1,h.val.2];exact⟨h.vn.fit,h.vd.fit⟩
theorem FOk.at {n d:List UInt8} (h:FOk n d) {W:World} {v:Value} (E:RatAt W v (ival n) (ival d).natAbs):RatV W v (fval n d):=by
 unfold RatV;rw [h.val.1,h.val.2];exact E
theorem qd6 {W:World} {v:Value} {ok:Bool} {n d:List UInt8} (h:ok=true/\FOk n d/\RatAt W v (ival n) (ival d).natAbs\/ok=false/\¬FOk n d/\v=.agg #[.slice none 0 0,.bool false,.slice none 0 0]):∃(a:Option Addr) (x c:Nat) (b:Bool) (E:Option Addr) (e f:Nat),v=.agg #[.slice a x c,.bool b,.slice E e f]:=by
 rcases h with ⟨_,_,h⟩ | ⟨_,_,h⟩
 ·exact qdu h
 ·exact⟨_,_,_,_,_,_,_,h⟩
theorem qe6 (n d:ByteArray) (w:World) :
  Calls prog 80 #[.agg #[.string n,.string d]] w fun e w'=>qfI w (FOk n.data.toList d.data.toList) 20 e w':=by
 have V:=qH (fun W=>qen n d W);have J:Hu (∀cs,Below w.heap.size w (w.alloc (.cells cs 27))):=qH fun cs=>qB.alloc qN _
 go_enter func80,ntmps80;go_wp2_with fail;refine (V.o _).mono ?_;rintro e Y ⟨v,ok,rfl,H,U⟩;obtain⟨a,x,c,b,d',e',f',rfl⟩:=qd6 H;have E:Below w.heap.size w Y:=(J.o _).trans (U.mono (J.o _).size);have O:=qH (qb4 (o:=.cells #[.slice a x c,.bool b,.slice d' e' f'] 127) E qN);clear U E;rcases H with ⟨rfl,F,_⟩ | ⟨rfl,F,_⟩
 ·have I:=qH F;clear F;go_wp2;go_ret;exact⟨0,rfl,qaw ⟨rfl,I.o⟩,O.o⟩
 ·have I:=qH F;clear F;go_wp2;go_ret;exact⟨20,rfl,qam ⟨rfl,I.o⟩,O.o⟩
def Short (q:Rat):Prop:=(num q.num.natAbs).size<=600/\(num q.den).size<=600
def fstr (q:Rat):Value:=.agg #[.string (qcj q.num),.string (num q.den)]
def qg4 (w:World) (q:Rat) (e:Ending) (w':World):Prop:=(Short q/\e=.returned (.tuple #[fstr q,.int .i64 0])\/¬Short q/\e=.returned (.tuple #[.agg #[.string ⟨#[]⟩,.string ⟨#[]⟩],.int .i64 6]))/\Below w.heap.size w w'
theorem qgy (q:Rat) (K:Nat) (aC:0<K) (hK:K<=34359738368) (v:Value) (w:World) (hv:RatV w v q) (hq:RFit q K) (hT:HasT w) :
  Calls prog 93 #[v] w fun e w'=>qg4 w q e w':=by
 obtain⟨m,o,rfl,hm,ho⟩:=hv;have hi:∀W,Below w.heap.size w W->IntAt W (.agg #[m,.bool (decide (q.num<0))]) q.num:=fun W h=>⟨m,rfl,hm.below h⟩
 have l1:=qH (fun (W:World) (h:Below w.heap.size w W)=>(qdX .f) q.num.natAbs K (by omega) m W (hm.below h) hq.1 (hT.below h));have l2:=qH (fun (W:World) (h:Below w.heap.size w W)=>(qdX .f) q.den K (by omega) o W (ho.below h) hq.2 (hT.below h));have t1:=qH (fun (W:World) (h:Below w.heap.size w W)=>(qhu .f) q.num K aC (by omega) _ W (hi W h) hq.1 (hT.below h));have t2:=qH (fun (W:World) (h:Below w.heap.size w W)=>(qeF .f) q.den K (by omega) o W (ho.below h) hq.2 (hT.below h));generalize decide (q.num<0)=b0 at *;obtain⟨a0,_,_,c0,n0,_,rfl,_,_⟩:=hm;obtain⟨d0,_,_,f0,e0,_,rfl,_,_⟩:=ho;clear hi hT hq hK;obtain⟨L1,af⟩:∃L,(num q.num.natAbs).size=L:=⟨_,rfl⟩;obtain⟨L2,ag⟩:∃L,(num q.den).size=L:=⟨_,rfl⟩;have aA:Short q↔L1<=600/\L2<=600:=by unfold Short;rw [af,ag]
 rw [af] at l1;rw [ag] at l2;have aa:=qH aA;obtain⟨W1,I⟩:=qY ((w.alloc (.cells #[.slice a0 n0 c0,.bool b0,.slice d0 e0 f0] 127)).alloc (.cells #[.string ⟨#[]⟩,.string ⟨#[]⟩] 27));have av:Below w.heap.size w W1:=I▸qb4 (qb4 qB qN) qN;have ax:W1.heap[w.heap.size]? = some (.cells #[.slice a0 n0 c0,.bool b0,.slice d0 e0 f0] 127 (0,0)):=by rw [I,qL _ _ _ (by simp only [qab];omega)];exact qM _ _ _ rfl
 have ay:W1.heap[w.heap.size+1]? = some (.cells #[.string ⟨#[]⟩,.string ⟨#[]⟩] 27 (0,0)):=by rw [I];exact qM _ _ _ (by simp)
 have HR:=qH (qA av (qA ax ay));clear aA af ag av ax ay;go_enter func93,ntmps93;go_wp2_with fail;rw [<-I];clear I;refine (l1.o W1 HR.o.1).mono ?_;rintro e w2 ⟨rfl,V⟩;have F:=qH (qA (HR.o.1.trans (V.mono HR.o.1.size)) (qA ((V.block _ (qG HR.o.2.1).1).trans HR.o.2.1) ((V.block _ (qG HR.o.2.2).1).trans HR.o.2.2)));clear V
 by_cases h1:(600:Int)<L1
 ·have HN:Hu (¬Short q):=qH (fun h=>by have:=aa.o.1 h;omega)
  go_wp2_with (with_reducible refine sR_ rfl 27 _ _ rfl (w.heap.size+1) #[.string ⟨#[]⟩,.string ⟨#[]⟩] F.o.2.2 2 ?_)
  exact qR (v:=.tuple #[.agg #[.string ⟨#[]⟩,.string ⟨#[]⟩],.int .i64 6]) (rB_ rfl (w.heap.size+1) (qT _ _ _ _ _ _ F.o.2.2) underlying27 2) rfl ⟨qam ⟨HN.o,rfl⟩,qS F.o.1 (by omega) _⟩
 ·have k2:=qC w2 _ 2 _ _ _ F.o.2.1;go_wp2_with fail;refine (l2.o w2 F.o.1).mono ?_;rintro e O ⟨rfl,Y⟩;have H:=qH (qA (F.o.1.trans (Y.mono F.o.1.size)) (qA ((Y.block _ (qG F.o.2.1).1).trans F.o.2.1) ((Y.block _ (qG F.o.2.2).1).trans F.o.2.2)));clear Y k2
  by_cases h2:(600:Int)<L2
  ·have HN:Hu (¬Short q):=qH (fun h=>by have:=aa.o.1 h;omega)
   go_wp2_with (with_reducible refine sR_ rfl 27 _ _ rfl (w.heap.size+1) #[.string ⟨#[]⟩,.string ⟨#[]⟩] H.o.2.2 2 ?_)
   exact qR (v:=.tuple #[.agg #[.string ⟨#[]⟩,.string ⟨#[]⟩],.int .i64 6]) (rB_ rfl (w.heap.size+1) (qT _ _ _ _ _ _ H.o.2.2) underlying27 2) rfl ⟨qam ⟨HN.o,rfl⟩,qS H.o.1 (by omega) _⟩
  ·have HY:Hu (Short q):=qH (aa.o.2 (by omega));have az:w.heap.size+1<O.heap.size:=(qG H.o.2.2).1;have C0:∀W,Below (w.heap.size+1) O W->W.cell? ⟨w.heap.size,0,none⟩=some (.slice a0 n0 c0):=fun W h=>(h.cell (p:=⟨w.heap.size,0,none⟩) (by show w.heap.size<_;omega)).trans (qC _ _ 0 _ _ _ H.o.2.1)
   have C1:∀W,Below (w.heap.size+1) O W->W.cell? ⟨w.heap.size,1,none⟩=some (.bool b0):=fun W h=>(h.cell (p:=⟨w.heap.size,1,none⟩) (by show w.heap.size<_;omega)).trans (qC _ _ 1 _ _ _ H.o.2.1)
   have C2:∀W,Below (w.heap.size+1) O W->W.cell? ⟨w.heap.size,2,none⟩=some (.slice d0 e0 f0):=fun W h=>(h.cell (p:=⟨w.heap.size,2,none⟩) (by show w.heap.size<_;omega)).trans (qC _ _ 2 _ _ _ H.o.2.1)
   have aB:Below (w.heap.size+1) O O:=Below.refl _ _;have J:Below (w.heap.size+1) O O.drew:=aB.drew;have ae:=qH az;obtain⟨T1,ah⟩:∃T,qcj q.num=T:=⟨_,rfl⟩;obtain⟨T2,ai⟩:∃T,num q.den=T:=⟨_,rfl⟩;rw [ah] at t1;rw [ai] at t2;have au:=qH (qA ah ai);clear az ah ai;go_wp2_with fail
   go_region_held3 (fun W=>Below (w.heap.size+1) O W) (first | with_reducible exact aB | with_reducible exact J | with_reducible exact Z | with_reducible exact U | ((iterate 2 refine Below.setCell ?_ (by exact qad _) _);exact Z)) (first | (go_at_call 167;refine (t1.o _ (H.o.1.trans (J.mono (by omega)))).mono ?_;rintro e w4 ⟨rfl,aj⟩;have U:Below (w.heap.size+1) O w4:=J.trans (aj.mono (qan ae.o));have R4:=qH ((aj.block _ ae.o).trans H.o.2.2);clear aj) | (go_at_call 168;refine (t2.o _ (H.o.1.trans (U.mono (by omega)))).mono ?_;rintro e w5 ⟨rfl,ak⟩;have Z:Below (w.heap.size+1) O w5:=U.trans (ak.mono (qak (qan ae.o) U.size));have E:=(ak.block _ (qG R4.o).1).trans R4.o;have e0:=qC w5 _ 0 _ _ _ E;have e1:=qC w5 _ 1 _ _ _ E;have f0:=qF w5 _ 0 _ _ E;have f1:=qF w5 _ 1 _ _ E;have R5:=qH E;clear ak E))
   go_wp2_with fail;refine qR (v:=.tuple #[.agg #[.string T1,.string T2],.int .i64 0]) (rB_ rfl (w.heap.size+1) (heap_setCell_same _ _ 1 _ 27 _ (heap_setCell_same _ _ 0 _ 27 _ R5.o)) underlying27 2) rfl ⟨qaw ⟨HY.o,?_⟩,H.o.1.trans (((Z.setCell (by exact qad _) _).setCell (by exact qad _) _).mono (by omega))⟩;unfold fstr;rw [show qcj q.num=T1 from au.o.1,au.o.2]
theorem qgx (p q:Rat) (K:Nat) (hK:K<=34359738368) (v u:Value) (w:World) (hv:RatV w v p) (hu:RatV w u q) (hp:RFit p K) (hq:RFit q K) :
  Calls prog 60 #[v,u] w fun e w'=>e=.returned (.int .i64 (cmp3 (p.num*(q.den:Int) + -(q.num*(p.den:Int))) 0))/\Below w.heap.size w w':=by
 obtain⟨mx,mX,rfl,hx,hX⟩:=hv;obtain⟨my,mY,rfl,hy,hY⟩:=hu;obtain⟨x,aj⟩:=qX p.num;obtain⟨y,ak⟩:=qX q.num;obtain⟨X,V⟩:=qX p.den;obtain⟨Y,Z⟩:=qX q.den;obtain⟨fx,fX⟩:=hp;obtain⟨fy,fY⟩:=hq;rw [aj] at hx fx;rw [ak] at hy fy;rw [V] at hX fX;rw [Z] at hY fY;rw [aj,ak,V,Z];have g1:Fit (x*Y).natAbs (K+K):=by rw [qaE,qas];exact fx.mul fY
 have g2:Fit (y*X).natAbs (K+K):=by rw [qaE,qas];exact fy.mul fX
 have g3:Fit (-(y*(X:Int))).natAbs (K+K):=by rw [qbv];exact g2
 obtain⟨R0,U⟩:∃R,cmp3 (x*(Y:Int) + -(y*(X:Int))) 0=R:=⟨_,rfl⟩;rw [U];have aD:∀W a n c,MagAt W (.slice a n c) x.natAbs->IntAt W (.agg #[.slice a n c,.bool (decide (x<0))]) x:=fun W a n c h=>⟨_,rfl,h⟩
 have aF:∀W a n c,MagAt W (.slice a n c) y.natAbs->IntAt W (.agg #[.slice a n c,.bool (decide (y<0))]) y:=fun W a n c h=>⟨_,rfl,h⟩
 generalize decide (x<0)=b0 at *;generalize decide (y<0)=b1 at *;have HX:=qH (qA hx (qA hX (qA hy hY)));have HF:=qH (qA fx (qA fX (qA fy fY)));have HG:=qH (qA g1 (qA g2 g3));have HK:=qH hK;have aJ:=qH U;have aH:=qH aD;have aI:=qH aF;obtain⟨a0,_,_,c0,n0,_,rfl,_,_⟩:=hx;obtain⟨d0,_,_,f0,e0,_,rfl,_,_⟩:=hX;obtain⟨a1,_,_,c1,n1,_,rfl,_,_⟩:=hy;obtain⟨d1,_,_,f1,e1,_,rfl,_,_⟩:=hY;clear g1 g2 g3 fx fX fy fY hK aj ak V Z aD aF U;obtain⟨E,H⟩:=qY ((w.alloc (.cells #[.slice a0 n0 c0,.bool b0,.slice d0 e0 f0] 127)).alloc (.cells #[.slice a1 n1 c1,.bool b1,.slice d1 e1 f1] 127));have az:Below w.heap.size w E:=H▸qb4 (qb4 qB qN) qN;have O:E.heap[w.heap.size]? = some (.cells #[.slice a0 n0 c0,.bool b0,.slice d0 e0 f0] 127 (0,0)):=by rw [H,qL _ _ _ (by simp only [qab];omega)];exact qM _ _ _ (by simp)
 have I:E.heap[w.heap.size+1]? = some (.cells #[.slice a1 n1 c1,.bool b1,.slice d1 e1 f1] 127 (0,0)):=by rw [H];exact qM _ _ _ (by simp)
 have l2:w.heap.size+1<E.heap.size:=(qG I).1;have aK:∀W,Below E.heap.size E W->W.cell? ⟨w.heap.size,0,none⟩=some (.slice a0 n0 c0):=fun W h=>(h.cell (p:=⟨w.heap.size,0,none⟩) (by show w.heap.size<_;omega)).trans (qC _ _ 0 _ _ _ O)
 have aL:∀W,Below E.heap.size E W->W.cell? ⟨w.heap.size,1,none⟩=some (.bool b0):=fun W h=>(h.cell (p:=⟨w.heap.size,1,none⟩) (by show w.heap.size<_;omega)).trans (qC _ _ 1 _ _ _ O)
 have aM:∀W,Below E.heap.size E W->W.cell? ⟨w.heap.size,2,none⟩=some (.slice d0 e0 f0):=fun W h=>(h.cell (p:=⟨w.heap.size,2,none⟩) (by show w.heap.size<_;omega)).trans (qC _ _ 2 _ _ _ O)
 have aN:∀W,Below E.heap.size E W->W.cell? ⟨w.heap.size+1,0,none⟩=some (.slice a1 n1 c1):=fun W h=>(h.cell (p:=⟨w.heap.size+1,0,none⟩) (by show w.heap.size+1<_;omega)).trans (qC _ _ 0 _ _ _ I)
 have aO:∀W,Below E.heap.size E W->W.cell? ⟨w.heap.size+1,1,none⟩=some (.bool b1):=fun W h=>(h.cell (p:=⟨w.heap.size+1,1,none⟩) (by show w.heap.size+1<_;omega)).trans (qC _ _ 1 _ _ _ I)
 have aP:∀W,Below E.heap.size E W->W.cell? ⟨w.heap.size+1,2,none⟩=some (.slice d1 e1 f1):=fun W h=>(h.cell (p:=⟨w.heap.size+1,2,none⟩) (by show w.heap.size+1<_;omega)).trans (qC _ _ 2 _ _ _ I)
 have HR:=qH az;clear O I az l2;have aG:Below E.heap.size E E:=Below.refl _ _;have F:Below E.heap.size E E.drew:=aG.drew;have HW:Hu (∀W,Below E.heap.size E W->Below w.heap.size w W):=qH fun W h=>HR.o.trans (h.mono HR.o.size)
 go_enter func60,ntmps60;go_wp2_with fail;rw [<-H];clear H
 go_region_held3 (fun W=>Below E.heap.size E W) (first | with_reducible exact aG | with_reducible exact F | with_reducible exact ay | with_reducible exact ax | with_reducible exact av | with_reducible exact au | with_reducible exact J) (first | (go_at_call_of 107 (Value.agg #[Value.slice a0 n0 c0,Value.bool b0]);refine ((qcO .f) x Y K K (by have:=HK.o;omega) _ _ _ (aH.o _ _ _ _ (HX.o.1.below (HW.o _ F))) (HX.o.2.2.2.below (HW.o _ F)) HF.o.1 HF.o.2.2.2).mono ?_;rintro e w2 ⟨p2,rfl,aA,af⟩;have J:Below E.heap.size E w2:=F.trans aA;obtain⟨a2,n2,c2,b2,rfl⟩:=qb6 af;have I2:=qH af;clear aA af) | (go_at_call_of 107 (Value.agg #[Value.slice a1 n1 c1,Value.bool b1]);refine ((qcO .f) y X K K (by have:=HK.o;omega) _ _ _ (aI.o _ _ _ _ (HX.o.2.2.1.below (HW.o _ J))) (HX.o.2.1.below (HW.o _ J)) HF.o.2.2.1 HF.o.2.1).mono ?_;rintro e w3 ⟨p3,rfl,aa,ag⟩;have au:Below E.heap.size E w3:=bjoin J aa;obtain⟨a3,n3,c3,b3,rfl⟩:=qb6 ag;have I3:=qH ag;have J3:=qH (I2.o.below aa);clear aa ag) | (go_at_call 109;refine ((qd9 .f) _ _ _ I3.o).mono ?_;rintro e w4 ⟨p4,rfl,ae,ah⟩;have av:Below E.heap.size E w4:=bjoin au ae;obtain⟨a4,n4,c4,b4,rfl⟩:=qb6 ah;have I4:=qH ah;have J4:=qH (J3.o.below ae);clear ae ah) | (go_at_call 108;refine ((qdI .f) _ _ (K+K) (by have:=HK.o;omega) _ _ _ J4.o I4.o HG.o.1 HG.o.2.2).mono ?_;rintro e w5 ⟨p5,rfl,aB,ai⟩;have ax:Below E.heap.size E w5:=bjoin av aB;obtain⟨a5,n5,c5,b5,rfl⟩:=qb6 ai;have I5:=qH ai;clear aB ai) | (go_at_call 110;refine (qht _ _ _ I5.o).mono ?_;rw [aJ.o];rintro e w6 ⟨rfl,aC⟩;have ay:Below E.heap.size E w6:=bjoin ax aC;clear aC))
 go_wp2;go_ret;exact⟨rfl,HW.o _ ay⟩
def FCmps (w:World) (n d m c:List UInt8) (e:Ending) (w':World):Prop :=
 ((FOk n d/\FOk m c)/\e=.returned (.tuple #[.int .i64 (cmp3 ((fval n d).num*((fval m c).den:Int) + -((fval m c).num*((fval n d).den:Int))) 0),.int .i64 0]) \/
  ¬(FOk n d/\FOk m c)/\e=.returned (.tuple #[.int .i64 0,.int .i64 20]))/\Below w.heap.size w w'
def FApplies (w:World) (F:Rat->Rat->Rat) (n d m c:List UInt8) (e:Ending) (w':World):Prop :=
 (∃v E,e=.returned (.tuple #[v,.int .i64 E])/\((FOk n d/\FOk m c)/\E=0/\RatV w' v (F (fval n d) (fval m c))\/¬(FOk n d/\FOk m c)/\E=20/\v=.agg #[.slice none 0 0,.bool false,.slice none 0 0]))/\Below w.heap.size w w'
def FDoes (w:World) (E:Rat->Rat->Rat) (n d m c:List UInt8) (e:Ending) (w':World):Prop :=
 ((FOk n d/\FOk m c)/\(Short (E (fval n d) (fval m c))/\e=.returned (.tuple #[fstr (E (fval n d) (fval m c)),.int .i64 0])\/¬Short (E (fval n d) (fval m c))/\e=.returned (.tuple #[.agg #[.string ⟨#[]⟩,.string ⟨#[]⟩],.int .i64 6])) \/
  ¬(FOk n d/\FOk m c)/\e=.returned (.tuple #[.agg #[.string ⟨#[]⟩,.string ⟨#[]⟩],.int .i64 20]))/\Below w.heap.size w w'
theorem ql0 (n d m c:ByteArray) (w:World) :
  Calls prog 59 #[.agg #[.string n,.string d],.agg #[.string m,.string c],.func (.func 60) #[] #[]] w fun e w'=>FCmps w n.data.toList d.data.toList m.data.toList c.data.toList e w':=by
 obtain⟨W1,V⟩:=qY ((w.alloc (.cells #[.string n,.string d] 27)).alloc (.cells #[.string m,.string c] 27));have E:Below w.heap.size w W1:=V▸qb4 (qb4 qB qN) qN;have ax:W1.heap[w.heap.size]? = some (.cells #[.string n,.string d] 27 (0,0)):=by rw [V,qL _ _ _ (by simp only [qab];omega)];exact qM _ _ _ rfl
 have ay:W1.heap[w.heap.size+1]? = some (.cells #[.string m,.string c] 27 (0,0)):=by rw [V];exact qM _ _ _ (by simp)
 have az:True:=trivial;have HR:=qH (qA E (qA ax (qA ay az)));clear E ax ay az;go_enter func59,ntmps59;go_wp2_with fail;rw [<-V];clear V;refine (qen n d W1).mono ?_;rintro e w1 ⟨v1,ok1,rfl,aa,E⟩;obtain⟨a0,n0,c0,b0,d0,e0,f0,rfl⟩:=qd6 aa;have aB:=qH aa;have k1:=qC w1 _ 0 _ _ _ ((E.block _ (qG HR.o.2.2.1).1).trans HR.o.2.2.1);have k2:=qC w1 _ 1 _ _ _ ((E.block _ (qG HR.o.2.2.1).1).trans HR.o.2.2.1);have q1:w.heap.size+1<w1.heap.size:=qai (qG HR.o.2.2.1).1 E.size;have ak:=qH E;clear E aa;go_wp2_with fail;obtain⟨V1,af⟩:=qY (w1.alloc (.cells #[.slice a0 n0 c0,.bool b0,.slice d0 e0 f0] 127));rw [<-af];have O:V1.heap[w1.heap.size]? = some (.cells #[.slice a0 n0 c0,.bool b0,.slice d0 e0 f0] 127 (0,0)):=by rw [af];exact qM _ _ _ rfl
 have Z:Below w1.heap.size w1 V1:=af▸qb4 qB qN;clear af k1 k2;refine (qen m c V1).mono ?_;rintro e w2 ⟨v2,aF,rfl,ae,ai⟩;obtain⟨a1,n1,c1,b1,d1,e1,f1,rfl⟩:=qd6 ae;have aC:=qH ae;have J:=(ai.block _ (qG O).1).trans O;have Y:Below w1.heap.size w1 w2:=Z.trans (ai.mono Z.size);have au:=qH Y;have aj:Below w.heap.size w w2:=HR.o.1.trans ((ak.o.trans (Y.mono ak.o.size)).mono HR.o.1.size);obtain⟨V2,ag⟩:=qY (w2.alloc (.cells #[.slice a1 n1 c1,.bool b1,.slice d1 e1 f1] 127));have U:Below w2.heap.size w2 V2:=ag▸qb4 qB qN;have r8:=(U.block _ (qG J).1).trans J;have r9:V2.heap[w2.heap.size]? = some (.cells #[.slice a1 n1 c1,.bool b1,.slice d1 e1 f1] 127 (0,0)):=by rw [ag];exact qM _ _ _ rfl
 have H:=qH (qA r8 (qA r9 (qA (aj.trans (U.mono aj.size)) U)));have x0:=qC w2 _ 0 _ _ _ J;have x1:=qC w2 _ 1 _ _ _ J;have x2:=qC w2 _ 2 _ _ _ J;have aD:=(qG J).1;have ah:=qH ag;clear O Z ai ae J Y aj U r8 r9 ag;have HO:=qH (fun (h1:FOk n.data.toList d.data.toList) (h2:FOk m.data.toList c.data.toList) (hv:RatV V2 (.agg #[.slice a0 n0 c0,.bool b0,.slice d0 e0 f0]) (fval n.data.toList d.data.toList)) (hu:RatV V2 (.agg #[.slice a1 n1 c1,.bool b1,.slice d1 e1 f1]) (fval m.data.toList c.data.toList))=>qgx _ _ 67 (by decide) _ _ V2 hv hu h1.fit h2.fit);rcases aB.o with ⟨rfl,F,O⟩ | ⟨rfl,F,_⟩
 ·rcases aC.o with ⟨rfl,I,aA⟩ | ⟨rfl,I,_⟩
  ·have hc:=HO.o F I ((F.at O).below (au.o.trans (H.o.2.2.2.mono au.o.size))) ((I.at aA).below H.o.2.2.2);have HC:=qH (qA hc (qA F I));clear F I O aA hc;have x3:=qC V2 _ 0 _ _ _ H.o.1;go_wp2_with fail;rw [<-ah.o];refine HC.o.1.mono ?_;rintro e w9 ⟨rfl,av⟩;have H9:=qH (H.o.2.2.1.trans (av.mono H.o.2.2.1.size));clear av;go_wp2_with fail
   go_ret2
   exact⟨qaw ⟨HC.o.2,rfl⟩,H9.o⟩
  ·have HN:=qH (show ¬(FOk n.data.toList d.data.toList/\FOk m.data.toList c.data.toList) from fun h=>I h.2);clear F I O;go_wp2_with fail
   go_ret2
   exact⟨qam ⟨HN.o,rfl⟩,ah.o▸H.o.2.2.1⟩
 ·have HN:=qH (show ¬(FOk n.data.toList d.data.toList/\FOk m.data.toList c.data.toList) from fun h=>F h.1);clear F;go_wp2_with fail
  go_ret2
  exact⟨qam ⟨HN.o,rfl⟩,ah.o▸H.o.2.2.1⟩
theorem ql1 (n d m c:ByteArray) (w:World) :
  Calls prog 187 #[.agg #[.string n,.string d],.agg #[.string m,.string c],.func (.func 188) #[] #[]] w fun e w'=>FApplies w (· * ·) n.data.toList d.data.toList m.data.toList c.data.toList e w':=by
 obtain⟨W1,Z⟩:=qY (((w.alloc (.cells #[.string n,.string d] 27)).alloc (.cells #[.string m,.string c] 27)).alloc (.cells #[.slice none 0 0,.bool false,.slice none 0 0] 127));have H:Below w.heap.size w W1:=Z▸qb4 (qb4 (qb4 qB qN) qN) qN;have aD:W1.heap[w.heap.size]? = some (.cells #[.string n,.string d] 27 (0,0)):=by rw [Z,qL _ _ _ (by simp only [qab];omega),qL _ _ _ (by simp only [qab];omega)];exact qM _ _ _ rfl
 have aF:W1.heap[w.heap.size+1]? = some (.cells #[.string m,.string c] 27 (0,0)):=by rw [Z,qL _ _ _ (by simp only [qab];omega)];exact qM _ _ _ (by simp)
 have aG:W1.heap[w.heap.size+1+1]? = some (.cells #[.slice none 0 0,.bool false,.slice none 0 0] 127 (0,0)):=by rw [Z];exact qM _ _ _ (by simp)
 have HR:=qH (qA H (qA aD (qA aF aG)));clear H aD aF aG;go_enter func187,ntmps187;go_wp2_with fail;rw [<-Z];clear Z;refine (qen n d W1).mono ?_;rintro e w1 ⟨v1,ok1,rfl,ag,H⟩;obtain⟨a0,n0,c0,b0,d0,e0,f0,rfl⟩:=qd6 ag;have aI:=qH ag;have k1:=qC w1 _ 0 _ _ _ ((H.block _ (qG HR.o.2.2.1).1).trans HR.o.2.2.1);have k2:=qC w1 _ 1 _ _ _ ((H.block _ (qG HR.o.2.2.1).1).trans HR.o.2.2.1);have q1:w.heap.size+1<w1.heap.size:=qai (qG HR.o.2.2.1).1 H.size;have au:=qH H;clear H ag;go_wp2_with fail;obtain⟨V1,aj⟩:=qY (w1.alloc (.cells #[.slice a0 n0 c0,.bool b0,.slice d0 e0 f0] 127));rw [<-aj];have U:V1.heap[w1.heap.size]? = some (.cells #[.slice a0 n0 c0,.bool b0,.slice d0 e0 f0] 127 (0,0)):=by rw [aj];exact qM _ _ _ rfl
 have af:Below w1.heap.size w1 V1:=aj▸qb4 qB qN;clear aj k1 k2;refine (qen m c V1).mono ?_;rintro e w2 ⟨v2,aL,rfl,ah,ay⟩;obtain⟨a1,n1,c1,b1,d1,e1,f1,rfl⟩:=qd6 ah;have aJ:=qH ah;have O:=(ay.block _ (qG U).1).trans U;have ae:Below w1.heap.size w1 w2:=af.trans (ay.mono af.size);have av:=qH ae;have aA:Below w.heap.size w w2:=HR.o.1.trans ((au.o.trans (ae.mono au.o.size)).mono HR.o.1.size);obtain⟨V2,ak⟩:=qY (w2.alloc (.cells #[.slice a1 n1 c1,.bool b1,.slice d1 e1 f1] 127));have V:Below w2.heap.size w2 V2:=ak▸qb4 qB qN;have r8:=(V.block _ (qG O).1).trans O;have r9:V2.heap[w2.heap.size]? = some (.cells #[.slice a1 n1 c1,.bool b1,.slice d1 e1 f1] 127 (0,0)):=by rw [ak];exact qM _ _ _ rfl
 have E:=qH (qA r8 (qA r9 (qA (aA.trans (V.mono aA.size)) V)));have x0:=qC w2 _ 0 _ _ _ O;have x1:=qC w2 _ 1 _ _ _ O;have x2:=qC w2 _ 2 _ _ _ O;have aK:=(qG O).1;have aa:=qH ak;clear U af ay ah O ae aA V r8 r9 ak;have HO:=qH (fun (h1:FOk n.data.toList d.data.toList) (h2:FOk m.data.toList c.data.toList) (hv:RatV V2 (.agg #[.slice a0 n0 c0,.bool b0,.slice d0 e0 f0]) (fval n.data.toList d.data.toList)) (hu:RatV V2 (.agg #[.slice a1 n1 c1,.bool b1,.slice d1 e1 f1]) (fval m.data.toList c.data.toList))=>rmul_any _ _ 67 (by decide) _ _ V2 hv hu h1.fit h2.fit);have Y:Hu (V2.heap[w.heap.size+1+1]? = some (.cells #[.slice none 0 0,.bool false,.slice none 0 0] 127 (0,0))):=qH (by
  have h1:=(au.o.block _ (qG HR.o.2.2.2).1).trans HR.o.2.2.2;have h2:=(av.o.block _ (qG h1).1).trans h1;exact (E.o.2.2.2.block _ (qG h2).1).trans h2)
 rcases aI.o with ⟨rfl,I,U⟩ | ⟨rfl,I,_⟩
 ·rcases aJ.o with ⟨rfl,J,aH⟩ | ⟨rfl,J,_⟩
  ·have hc:=HO.o I J ((I.at U).below (av.o.trans (E.o.2.2.2.mono av.o.size))) ((J.at aH).below E.o.2.2.2);have HC:=qH (qA hc (qA I J));clear I J U aH hc;go_wp2_with fail;rw [<-aa.o];refine HC.o.1.mono ?_;rintro e w9 ⟨v9,rfl,az,aC⟩;obtain⟨a7,n7,c7,b7,d7,e7,f7,rfl⟩:=qdu aC;have aB:=(az.block _ (qG Y.o).1).trans Y.o;have H9:=qH (qA aB (qA (E.o.2.2.1.trans (az.mono E.o.2.2.1.size)) (qgw (cs':=#[.slice a7 n7 c7,.bool b7,.slice d7 e7 f7]) aC aB)));clear az aC aB
   go_wp2_with (with_reducible refine sR_ rfl 127 _ _ rfl (w.heap.size+1+1) #[.slice a7 n7 c7,.bool b7,.slice d7 e7 f7] H9.o.1 3 ?_)
   exact qR (v:=.tuple #[.agg #[.slice a7 n7 c7,.bool b7,.slice d7 e7 f7],.int .i64 0]) (rB_ rfl (w.heap.size+1+1) (qT _ _ _ _ _ _ H9.o.1) underlying127 3) rfl ⟨⟨_,_,rfl,qaw ⟨HC.o.2,rfl,H9.o.2.2⟩⟩,qS H9.o.2.1 (by omega) _⟩
  ·have HN:=qH (show ¬(FOk n.data.toList d.data.toList/\FOk m.data.toList c.data.toList) from fun h=>J h.2);clear I J U;have ai:((w2.alloc (.cells #[.slice a1 n1 c1,.bool b1,.slice d1 e1 f1] 127)).alloc (.cells #[.slice none 0 0,.bool false,.slice none 0 0] 127)).heap[w.heap.size+1+1]? = some (.cells #[.slice none 0 0,.bool false,.slice none 0 0] 127 (0,0)):=by
    rw [<-aa.o];exact (qL _ _ _ (qG Y.o).1).trans Y.o
   have F:=qH ai;have ax:=qH (show Below w.heap.size w ((w2.alloc (.cells #[.slice a1 n1 c1,.bool b1,.slice d1 e1 f1] 127)).alloc (.cells #[.slice none 0 0,.bool false,.slice none 0 0] 127)) from aa.o▸(E.o.2.2.1.alloc E.o.2.2.1.size _));clear ai
   go_wp2_with (with_reducible refine sR_ rfl 127 _ _ rfl (w.heap.size+1+1) #[.slice none 0 0,.bool false,.slice none 0 0] F.o 3 ?_)
   exact qR (v:=.tuple #[.agg #[.slice none 0 0,.bool false,.slice none 0 0],.int .i64 20]) (rB_ rfl (w.heap.size+1+1) (qT _ _ _ _ _ _ F.o) underlying127 3) rfl ⟨⟨_,_,rfl,qam ⟨HN.o,rfl,rfl⟩⟩,qS ax.o (by omega) _⟩
 ·have HN:=qH (show ¬(FOk n.data.toList d.data.toList/\FOk m.data.toList c.data.toList) from fun h=>I h.1);clear I;have ai:((w2.alloc (.cells #[.slice a1 n1 c1,.bool b1,.slice d1 e1 f1] 127)).alloc (.cells #[.slice none 0 0,.bool false,.slice none 0 0] 127)).heap[w.heap.size+1+1]? = some (.cells #[.slice none 0 0,.bool false,.slice none 0 0] 127 (0,0)):=by
   rw [<-aa.o];exact (qL _ _ _ (qG Y.o).1).trans Y.o
  have F:=qH ai;have ax:=qH (show Below w.heap.size w ((w2.alloc (.cells #[.slice a1 n1 c1,.bool b1,.slice d1 e1 f1] 127)).alloc (.cells #[.slice none 0 0,.bool false,.slice none 0 0] 127)) from aa.o▸(E.o.2.2.1.alloc E.o.2.2.1.size _));clear ai
  go_wp2_with (with_reducible refine sR_ rfl 127 _ _ rfl (w.heap.size+1+1) #[.slice none 0 0,.bool false,.slice none 0 0] F.o 3 ?_)
  exact qR (v:=.tuple #[.agg #[.slice none 0 0,.bool false,.slice none 0 0],.int .i64 20]) (rB_ rfl (w.heap.size+1+1) (qT _ _ _ _ _ _ F.o) underlying127 3) rfl ⟨⟨_,_,rfl,qam ⟨HN.o,rfl,rfl⟩⟩,qS ax.o (by omega) _⟩
theorem RFit.mul {p q:Rat} {K:Nat} (E:RFit p K) (F:RFit q K):RFit (p*q) (K+K):=by
 have H:Fit (p.num*q.num).natAbs (K+K):=by rw [qaE];exact E.1.mul F.1
 have I:Fit (p.den*q.den) (K+K):=E.2.mul F.2;rw [Rat.mul_def'];have hne:=qb0 p.den_nz q.den_nz
 constructor
 ·rw [Rat.num_mkRat,if_neg hne];refine H.le ?_;rw [Int.natAbs_ediv_of_dvd (Int.ofNat_dvd_left.2 (qa4 _ _))];exact qa2 _ _
 ·rw [Rat.den_mkRat,if_neg hne];exact I.le (qa2 _ _)
theorem fcmp_any (n d m c:ByteArray) (w:World) :
  Calls prog 25 #[.agg #[.string n,.string d],.agg #[.string m,.string c]] w fun e w'=>FCmps w n.data.toList d.data.toList m.data.toList c.data.toList e w':=by
 have O:=qH (fun W=>ql0 n d m c W);have I:Hu (Below w.heap.size w ((w.alloc (.cells #[.string n,.string d] 27)).alloc (.cells #[.string m,.string c] 27))):=qH (qb4 (qb4 qB qN) qN);go_enter func25,ntmps25;go_wp2_with fail;refine (O.o _).mono ?_;rintro e U ⟨h,J⟩;have H:=qH (I.o.trans (J.mono I.o.size));clear J;rcases h with ⟨E,rfl⟩ | ⟨E,rfl⟩
 ·have F:=qH E;clear E;go_wp2_with fail
  go_ret2
  exact⟨qaw ⟨F.o,rfl⟩,H.o⟩
 ·have F:=qH E;clear E;go_wp2_with fail
  go_ret2
  exact⟨qam ⟨F.o,rfl⟩,H.o⟩
theorem qkx (a:Option Addr) (x c:Nat) (b:Bool) (d:Option Addr) (E f:Nat) (w:World) :
  Calls prog 186 #[.agg #[.slice a x c,.bool b,.slice d E f],.int .i64 20] w fun e w'=>e=.returned (.tuple #[.agg #[.string ⟨#[]⟩,.string ⟨#[]⟩],.int .i64 20])/\Below w.heap.size w w':=by
 have F:∀cs,Hu (Below w.heap.size w ((w.alloc (.cells #[.slice a x c,.bool b,.slice d E f] 127)).alloc (.cells cs 27))):=fun cs=>qH (qb4 (qb4 qB qN) qN)
 go_enter func186,ntmps186;go_wp2_with fail;exact qR (v:=.tuple #[.agg #[.string ⟨#[]⟩,.string ⟨#[]⟩],.int .i64 20]) (rB_ rfl (w.heap.size+1) (qM _ _ _ (by simp)) underlying27 2) rfl ⟨rfl,(F _).o⟩
theorem ql4 (q:Rat) (K:Nat) (aa:0<K) (hK:K<=34359738368) (v:Value) (w:World) (hv:RatV w v q) (hq:RFit q K) (hT:HasT w) :
  Calls prog 186 #[v,.int .i64 0] w fun e w'=>qg4 w q e w':=by
 obtain⟨a,x,c,b,d,e0,f,rfl⟩:=qdu hv;obtain⟨W1,E⟩:=qY ((w.alloc (.cells #[.slice a x c,.bool b,.slice d e0 f] 127)).alloc (.cells #[.string ⟨#[]⟩,.string ⟨#[]⟩] 27));have F:Below w.heap.size w W1:=E▸qb4 (qb4 qB qN) qN;have U:W1.heap[w.heap.size+1]? = some (.cells #[.string ⟨#[]⟩,.string ⟨#[]⟩] 27 (0,0)):=by rw [E];exact qM _ _ _ (by simp)
 have HW:=qH (qgy q K aa hK _ W1 (hv.below F) hq (hT.below F));have Y:=qH (qA F U);clear hv hq hT F U hK;go_enter func186,ntmps186;go_wp2_with fail;rw [<-E];clear E;refine HW.o.mono ?_;rintro e w2 ⟨h,hb⟩;have J:=qH (qA ((hb.block _ (qG Y.o.2).1).trans Y.o.2) (Y.o.1.trans (hb.mono Y.o.1.size)));clear hb;rcases h with ⟨V,rfl⟩ | ⟨V,rfl⟩
 ·unfold fstr;have Z:=qH V;obtain⟨T1,H⟩:∃T,qcj q.num=T:=⟨_,rfl⟩;obtain⟨T2,I⟩:∃T,num q.den=T:=⟨_,rfl⟩;rw [H,I];have O:=qH (qA H I);clear H I V
  go_wp2_with (with_reducible refine sR_ rfl 27 _ _ rfl (w.heap.size+1) #[.string T1,.string T2] J.o.1 2 ?_)
  refine qR (v:=.tuple #[.agg #[.string T1,.string T2],.int .i64 0]) (rB_ rfl (w.heap.size+1) (qT _ _ _ _ _ _ J.o.1) underlying27 2) rfl ⟨qaw ⟨Z.o,?_⟩,qS J.o.2 (by omega) _⟩;unfold fstr;rw [O.o.1,O.o.2]
 ·have Z:=qH V;clear V
  go_wp2_with (with_reducible refine sR_ rfl 27 _ _ rfl (w.heap.size+1) #[.string ⟨#[]⟩,.string ⟨#[]⟩] J.o.1 2 ?_)
  exact qR (v:=.tuple #[.agg #[.string ⟨#[]⟩,.string ⟨#[]⟩],.int .i64 6]) (rB_ rfl (w.heap.size+1) (qT _ _ _ _ _ _ J.o.1) underlying27 2) rfl ⟨qam ⟨Z.o,rfl⟩,qS J.o.2 (by omega) _⟩
theorem fmul_any (n d m c:ByteArray) (w:World) (hT:HasT w) :
  Calls prog 114 #[.agg #[.string n,.string d],.agg #[.string m,.string c]] w fun e w'=>FDoes w (· * ·) n.data.toList d.data.toList m.data.toList c.data.toList e w':=by
 have HT:=qH hT;have HA:=qH (fun W=>ql1 n d m c W);obtain⟨W1,I⟩:=qY (((w.alloc (.cells #[.string n,.string d] 27)).alloc (.cells #[.string m,.string c] 27)).alloc (.cells #[.string ⟨#[]⟩,.string ⟨#[]⟩] 27));have aa:Below w.heap.size w W1:=I▸qb4 (qb4 (qb4 qB qN) qN) qN;have ae:W1.heap[w.heap.size+1+1]? = some (.cells #[.string ⟨#[]⟩,.string ⟨#[]⟩] 27 (0,0)):=by rw [I];exact qM _ _ _ (by simp)
 have HR:=qH (qA aa ae);clear aa ae hT;go_enter func114,ntmps114;go_wp2_with fail;rw [<-I];clear I;refine (HA.o W1).mono ?_;rintro e w2 ⟨⟨v,er,rfl,h⟩,E⟩;have H:=qH (qA ((E.block _ (qG HR.o.2).1).trans HR.o.2) (HR.o.1.trans (E.mono HR.o.1.size)));clear E;rcases h with ⟨Y,rfl,hv⟩ | ⟨Y,rfl,rfl⟩
 ·have J:=ql4 _ (67+67) (by decide) (by decide) v w2 hv (Y.1.fit.mul Y.2.fit) (HT.o.below H.o.2);have HF:=qH Y;have O:=qH J;obtain⟨a7,n7,c7,b7,d7,e7,f7,rfl⟩:=qdu hv;clear Y J hv;go_wp2_with fail;refine O.o.mono ?_;rintro e w3 ⟨h,E⟩;have F:=qH (qA ((E.block _ (qG H.o.1).1).trans H.o.1) (H.o.2.trans (E.mono H.o.2.size)));clear E;rcases h with ⟨hs,rfl⟩ | ⟨hs,rfl⟩
  ·unfold fstr;have HS:=qH hs;obtain⟨q,hq⟩:=qX (((· * ·):Rat->Rat->Rat) (fval n.data.toList d.data.toList) (fval m.data.toList c.data.toList));obtain⟨T1,U⟩:∃T,qcj (((· * ·):Rat->Rat->Rat) (fval n.data.toList d.data.toList) (fval m.data.toList c.data.toList)).num=T:=⟨_,rfl⟩;obtain⟨T2,V⟩:∃T,num (((· * ·):Rat->Rat->Rat) (fval n.data.toList d.data.toList) (fval m.data.toList c.data.toList)).den=T:=⟨_,rfl⟩;rw [U,V];have Z:=qH (qA U V);clear U V hs hq
   go_wp2_with (with_reducible refine sR_ rfl 27 _ _ rfl (w.heap.size+1+1) #[.string T1,.string T2] F.o.1 2 ?_)
   refine qR (v:=.tuple #[.agg #[.string T1,.string T2],.int .i64 0]) (rB_ rfl (w.heap.size+1+1) (qT _ _ _ _ _ _ F.o.1) underlying27 2) rfl ⟨qaw ⟨HF.o,qaw ⟨HS.o,?_⟩⟩,qS F.o.2 (by omega) _⟩;unfold fstr;rw [Z.o.1,Z.o.2]
  ·have HS:=qH hs;clear hs
   go_wp2_with (with_reducible refine sR_ rfl 27 _ _ rfl (w.heap.size+1+1) #[.string ⟨#[]⟩,.string ⟨#[]⟩] F.o.1 2 ?_)
   exact qR (v:=.tuple #[.agg #[.string ⟨#[]⟩,.string ⟨#[]⟩],.int .i64 6]) (rB_ rfl (w.heap.size+1+1) (qT _ _ _ _ _ _ F.o.1) underlying27 2) rfl ⟨qaw ⟨HF.o,qam ⟨HS.o,rfl⟩⟩,qS F.o.2 (by omega) _⟩
 ·have HF:=qH Y;have O:=qH (fun W=>qkx none 0 0 false none 0 0 W);clear Y;go_wp2_with fail;refine (O.o _).mono ?_;rintro e w3 ⟨rfl,E⟩;have F:=qH (qA ((E.block _ (qG H.o.1).1).trans H.o.1) (H.o.2.trans (E.mono H.o.2.size)));clear E
  go_wp2_with (with_reducible refine sR_ rfl 27 _ _ rfl (w.heap.size+1+1) #[.string ⟨#[]⟩,.string ⟨#[]⟩] F.o.1 2 ?_)
  exact qR (v:=.tuple #[.agg #[.string ⟨#[]⟩,.string ⟨#[]⟩],.int .i64 20]) (rB_ rfl (w.heap.size+1+1) (qT _ _ _ _ _ _ F.o.1) underlying27 2) rfl ⟨qam ⟨HF.o,rfl⟩,qS F.o.2 (by omega) _⟩
theorem qkS (n d:Int) (hd:d≠0):(Rat.divInt n d).num=(if (decide (n<0) != decide (d<0))=true then -((n.natAbs / n.natAbs.gcd d.natAbs:Nat):Int) else ((n.natAbs / n.natAbs.gcd d.natAbs:Nat):Int))/\(Rat.divInt n d).den=d.natAbs / n.natAbs.gcd d.natAbs:=by
 have hg:0<n.natAbs.gcd d.natAbs:=qbe _ (by omega);obtain⟨z,J⟩:=qX (if (decide (n<0) != decide (d<0))=true then -((n.natAbs / n.natAbs.gcd d.natAbs:Nat):Int) else ((n.natAbs / n.natAbs.gcd d.natAbs:Nat):Int));rw [J];have O:z.natAbs=n.natAbs / n.natAbs.gcd d.natAbs:=by
  rw [<-J];generalize n.natAbs / n.natAbs.gcd d.natAbs=A;split <;> omega
 have h0:d.natAbs / n.natAbs.gcd d.natAbs≠0:=qbu (Nat.div_pos (qbZ (by omega) (qa4 _ _)) hg);have hc:z.natAbs.Coprime (d.natAbs / n.natAbs.gcd d.natAbs):=by rw [O];exact Nat.coprime_div_gcd_div_gcd hg
 have hx:n.natAbs / n.natAbs.gcd d.natAbs*d.natAbs=n.natAbs*(d.natAbs / n.natAbs.gcd d.natAbs):=by
  obtain⟨a,U⟩:=qbT n.natAbs d.natAbs;obtain⟨b,V⟩:=qa4 n.natAbs d.natAbs;have Y:n.natAbs / n.natAbs.gcd d.natAbs=a:=by (conv=>lhs;lhs;rw [U]);exact qa6 _ hg
  have Z:d.natAbs / n.natAbs.gcd d.natAbs=b:=by (conv=>lhs;lhs;rw [V]);exact qa6 _ hg
  rw [Y,Z];generalize n.natAbs.gcd d.natAbs=g at *;rw [U,V];simp only [qbB,qav]
 have e:=qjQ (z:=z) (N:=if d<0 then -n else n) (D:=d.natAbs) h0 hc (by omega) (by
  have E:((n.natAbs / n.natAbs.gcd d.natAbs:Nat):Int)*(d.natAbs:Int)=(n.natAbs:Int)*((d.natAbs / n.natAbs.gcd d.natAbs:Nat):Int):=by exact_mod_cast hx
  generalize ((d.natAbs / n.natAbs.gcd d.natAbs:Nat):Int)=B at *;rw [<-J];generalize ((n.natAbs / n.natAbs.gcd d.natAbs:Nat):Int)=A at *
  by_cases H:n<0
  ·have I:(n.natAbs:Int) = -n:=by omega
   rw [I] at E
   by_cases F:d<0
   ·rw [qV H,qV F,if_neg (by decide),if_pos F];exact E
   ·rw [qV H,qU F,if_pos (by decide),if_neg F,qbN,E,qbN,Int.neg_neg]
  ·have I:(n.natAbs:Int)=n:=by omega
   rw [I] at E
   by_cases F:d<0
   ·rw [qU H,qV F,if_pos (by decide),if_pos F,qbN,E,qbN]
   ·rw [qU H,qU F,if_neg (by decide),if_neg F];exact E) (q:=Rat.divInt n d) (by
  by_cases F:d<0
  ·rw [if_pos F,<-Rat.divInt_ofNat,<-Rat.neg_divInt_neg]
   congr 1;omega
  ·rw [if_neg F,<-Rat.divInt_ofNat]
   congr 1;omega)
 exact e
theorem qih (n d:Int) (aC:d≠0) (K:Nat) (az:0<K) (hK:K<=34359738368) (v u:Value) (w:World) (Z:IntAt w v n) (hu:IntAt w u d) (fn:Fit n.natAbs K) (fd:Fit d.natAbs K) (hT:HasT w) :
  Calls prog 160 #[v,u] w fun e w'=>qg4 w (Rat.divInt n d) e w':=by
 obtain⟨mn,rfl,hn⟩:=Z;obtain⟨md,rfl,hd⟩:=hu;obtain⟨aa,ae⟩:=qkS n d aC;obtain⟨q,hq⟩:=qX (Rat.divInt n d);rw [hq] at aa ae ⊢;have av:0<n.natAbs.gcd d.natAbs:=qbe _ (by omega);have fg:Fit (n.natAbs.gcd d.natAbs) K:=fd.le (Nat.gcd_le_right _ (by omega));obtain⟨g,hg⟩:=qX (n.natAbs.gcd d.natAbs);obtain⟨x,hx⟩:=qX n.natAbs;obtain⟨y,hy⟩:=qX d.natAbs;rw [hg] at aa ae av fg;rw [hx] at aa hn fn hg;rw [hy] at ae hd fd hg;obtain⟨a,ha⟩:=qX (x / g);obtain⟨b,E⟩:=qX (y / g);rw [ha] at aa;rw [E] at ae;have fa:Fit a K:=ha▸fn.le (qa2 _ _);have fb:Fit b K:=E▸fd.le (qa2 _ _);have aD:q.num.natAbs=a:=by rw [aa];split <;> omega
 have aA:Short q↔(num a).size<=600/\(num b).size<=600:=by unfold Short;rw [aD,ae]
 have HQ:=qH (qA aa (qA ae aA));generalize decide (n<0)=b0 at *;generalize decide (d<0)=b1 at *;have HF:=qH (qA fn (qA fd (qA fg (qA fa fb))));have HE:=qH (qA hg (qA ha (qA E av)));have HK:=qH (qA az hK);have HX:=qH (qA hn hd);have HT:=qH hT;obtain⟨a0,_,_,c0,n0,_,rfl,_,_⟩:=hn;obtain⟨a1,_,_,c1,n1,_,rfl,_,_⟩:=hd;obtain⟨W1,af⟩:=qY (((w.alloc (.cells #[.slice a0 n0 c0,.bool b0] 217)).alloc (.cells #[.slice a1 n1 c1,.bool b1] 217)).alloc (.cells #[.string ⟨#[]⟩,.string ⟨#[]⟩] 27));have aB:Below w.heap.size w W1:=af▸qb4 (qb4 (qb4 qB qN) qN) qN;have aF:W1.heap[w.heap.size]? = some (.cells #[.slice a0 n0 c0,.bool b0] 217 (0,0)):=by rw [af,qL _ _ _ (by simp only [qab];omega),qL _ _ _ (by simp only [qab];omega)];exact qM _ _ _ rfl
 have aG:W1.heap[w.heap.size+1]? = some (.cells #[.slice a1 n1 c1,.bool b1] 217 (0,0)):=by rw [af,qL _ _ _ (by simp only [qab];omega)];exact qM _ _ _ (by simp)
 have aH:W1.heap[w.heap.size+1+1]? = some (.cells #[.string ⟨#[]⟩,.string ⟨#[]⟩] 27 (0,0)):=by rw [af];exact qM _ _ _ (by simp)
 have I:=qH (qA aB (qA aF (qA aG aH)));have HN:=qH hq;clear hq aa ae aA aD fn fd fg fa fb hg ha E av az hK hT aB aF aG aH hx hy aC;go_enter func160,ntmps160;go_wp2_with fail;rw [<-af];clear af
 ·refine ((qdb .l) x y K (by have:=HK.o;omega) _ _ W1 (HX.o.1.below I.o.1) (HX.o.2.below I.o.1) HF.o.1 HF.o.2.1).mono ?_;rintro e w2 ⟨vg,rfl,E,Z⟩;rw [HE.o.1] at Z;have Mw2_g:=qH Z;have J:=qH (qA (I.o.1.trans (E.mono I.o.1.size)) (qA ((E.block _ (qG I.o.2.1).1).trans I.o.2.1) (qA ((E.block _ (qG I.o.2.2.1).1).trans I.o.2.2.1) ((E.block _ (qG I.o.2.2.2).1).trans I.o.2.2.2))));have aN:=qC w2 _ 0 _ _ _ J.o.2.1;obtain⟨sg,_,_,ug,tg,_,rfl,_,_⟩:=Z;clear E;go_wp2_with fail;refine ((qcf .l) x g K (by have:=HK.o;omega) _ _ w2 (HX.o.1.below J.o.1) Mw2_g.o HF.o.1 HF.o.2.2.1 HE.o.2.2.2).mono ?_;rintro e w3 ⟨va,_,rfl,E,Z,_⟩;rw [HE.o.2.1] at Z;have Mw3_a:=qH Z;have O:=qH (qA (J.o.1.trans (E.mono J.o.1.size)) (qA ((E.block _ (qG J.o.2.1).1).trans J.o.2.1) (qA ((E.block _ (qG J.o.2.2.1).1).trans J.o.2.2.1) ((E.block _ (qG J.o.2.2.2).1).trans J.o.2.2.2))));have Mw3_g:=qH (Mw2_g.o.below E);have aP:=qC w3 _ 0 _ _ _ O.o.2.2.1;obtain⟨sa,_,_,ua,ta,_,rfl,_,_⟩:=Z;clear E aN;go_wp2_with fail;refine ((qcf .l) y g K (by have:=HK.o;omega) _ _ w3 (HX.o.2.below O.o.1) Mw3_g.o HF.o.2.1 HF.o.2.2.1 HE.o.2.2.2).mono ?_;rintro e w4 ⟨vb,_,rfl,E,Z,_⟩;rw [HE.o.2.2.1] at Z;have Mw4_b:=qH Z;have U:=qH (qA (O.o.1.trans (E.mono O.o.1.size)) (qA ((E.block _ (qG O.o.2.1).1).trans O.o.2.1) (qA ((E.block _ (qG O.o.2.2.1).1).trans O.o.2.2.1) ((E.block _ (qG O.o.2.2.2).1).trans O.o.2.2.2))));have Mw4_a:=qH (Mw3_a.o.below E);obtain⟨sb,_,_,ub,tb,_,rfl,_,_⟩:=Z;clear E aP;obtain⟨L1,ai⟩:∃L,(num a).size=L:=⟨_,rfl⟩;obtain⟨L2,aj⟩:∃L,(num b).size=L:=⟨_,rfl⟩;have HL:=qH (show Short q↔L1<=600/\L2<=600 by rw [<-ai,<-aj];exact HQ.o.2.2);have l1:=(qdX .l) a K (by have:=HK.o;omega) _ w4 Mw4_a.o HF.o.2.2.2.1 (HT.o.below U.o.1);rw [ai] at l1;have aI:=qH l1;have aM:=qH aj;clear l1 ai aj;go_wp2_with fail;refine aI.o.mono ?_;rintro e w5 ⟨rfl,E⟩;have H:=qH (qA (U.o.1.trans (E.mono U.o.1.size)) (qA ((E.block _ (qG U.o.2.1).1).trans U.o.2.1) (qA ((E.block _ (qG U.o.2.2.1).1).trans U.o.2.2.1) ((E.block _ (qG U.o.2.2.2).1).trans U.o.2.2.2))));have Mw5_a:=qH (Mw4_a.o.below E);have Mw5_b:=qH (Mw4_b.o.below E);clear E
  by_cases h1:(600:Int)<L1
  ·have ag:Hu (¬Short q):=qH (fun h=>by have:=HL.o.1 h;omega)
   go_wp2_with (with_reducible refine sR_ rfl 27 _ _ rfl (w.heap.size+1+1) #[.string ⟨#[]⟩,.string ⟨#[]⟩] H.o.2.2.2 2 ?_)
   exact qR (v:=.tuple #[.agg #[.string ⟨#[]⟩,.string ⟨#[]⟩],.int .i64 6]) (rB_ rfl (w.heap.size+1+1) (qT _ _ _ _ _ _ H.o.2.2.2) underlying27 2) rfl ⟨qam ⟨ag.o,rfl⟩,qS H.o.1 (by omega) _⟩
  ·have l2:=(qdX .l) b K (by have:=HK.o;omega) _ w5 Mw5_b.o HF.o.2.2.2.2 (HT.o.below H.o.1);rw [aM.o] at l2;have aJ:=qH l2;clear l2;go_wp2_with fail;refine aJ.o.mono ?_;rintro e w6 ⟨rfl,E⟩;have F:=qH (qA (H.o.1.trans (E.mono H.o.1.size)) (qA ((E.block _ (qG H.o.2.1).1).trans H.o.2.1) (qA ((E.block _ (qG H.o.2.2.1).1).trans H.o.2.2.1) ((E.block _ (qG H.o.2.2.2).1).trans H.o.2.2.2))));have Mw6_a:=qH (Mw5_a.o.below E);have Mw6_b:=qH (Mw5_b.o.below E);clear E
   by_cases h2:(600:Int)<L2
   ·have ag:Hu (¬Short q):=qH (fun h=>by have:=HL.o.1 h;omega)
    go_wp2_with (with_reducible refine sR_ rfl 27 _ _ rfl (w.heap.size+1+1) #[.string ⟨#[]⟩,.string ⟨#[]⟩] F.o.2.2.2 2 ?_)
    exact qR (v:=.tuple #[.agg #[.string ⟨#[]⟩,.string ⟨#[]⟩],.int .i64 6]) (rB_ rfl (w.heap.size+1+1) (qT _ _ _ _ _ _ F.o.2.2.2) underlying27 2) rfl ⟨qam ⟨ag.o,rfl⟩,qS F.o.1 (by omega) _⟩
   ·have HY:Hu (Short q):=qH (HL.o.2 (by omega));have aO:=qC w6 _ 1 _ _ _ F.o.2.1;have aQ:=qC w6 _ 1 _ _ _ F.o.2.2.1;go_wp2_with fail;refine ((qcq .l) a (b0 != b1) _ w6 Mw6_a.o).mono ?_;rintro e w7 ⟨v7,rfl,E,Z⟩;rw [<-HQ.o.1] at Z;have I7:=qH Z;have V:=qH (qA (F.o.1.trans (E.mono F.o.1.size)) (qA ((E.block _ (qG F.o.2.1).1).trans F.o.2.1) (qA ((E.block _ (qG F.o.2.2.1).1).trans F.o.2.2.1) ((E.block _ (qG F.o.2.2.2).1).trans F.o.2.2.2))));have Mw7_b:=qH (Mw6_b.o.below E);obtain⟨a9,n9,c9,b9,rfl⟩:=qb6 Z;have fq:Fit q.num.natAbs K:=by
     have h:=HQ.o.1;rw [h];split <;> (first | (rw [qbv,qas];exact HF.o.2.2.2.1) | (rw [qas];exact HF.o.2.2.2.1))
    have t7:=(qhu .l) q.num K HK.o.1 (by have:=HK.o;omega) _ w7 I7.o fq (HT.o.below V.o.1);obtain⟨T1,ak⟩:∃T,qcj q.num=T:=⟨_,rfl⟩;rw [ak] at t7;have aK:=qH t7;have ax:=qH ak;clear E aO aQ Z t7 ak fq;go_wp2_with fail;refine aK.o.mono ?_;rintro e w8 ⟨rfl,E⟩;have Y:=qH (qA (V.o.1.trans (E.mono V.o.1.size)) (qA ((E.block _ (qG V.o.2.1).1).trans V.o.2.1) (qA ((E.block _ (qG V.o.2.2.1).1).trans V.o.2.2.1) ((E.block _ (qG V.o.2.2.2).1).trans V.o.2.2.2))));have Mw8_b:=qH (Mw7_b.o.below E);have t8:=(qeF .l) b K (by have:=HK.o;omega) _ w8 Mw8_b.o HF.o.2.2.2.2 (HT.o.below Y.o.1);obtain⟨T2,au⟩:∃T,num b=T:=⟨_,rfl⟩;rw [au] at t8;have aL:=qH t8;have ay:=qH au;clear E t8 au;go_wp2_with fail;refine aL.o.mono ?_;rintro e w9 ⟨rfl,E⟩;have ah:=qH (qA (Y.o.1.trans (E.mono Y.o.1.size)) (qA ((E.block _ (qG Y.o.2.1).1).trans Y.o.2.1) (qA ((E.block _ (qG Y.o.2.2.1).1).trans Y.o.2.2.1) ((E.block _ (qG Y.o.2.2.2).1).trans Y.o.2.2.2))));clear E
    go_wp2_with (with_reducible refine sR_ rfl 27 _ _ rfl (w.heap.size+1+1) #[.string T1,.string T2] ah.o.2.2.2 2 ?_)
    refine qR (v:=.tuple #[.agg #[.string T1,.string T2],.int .i64 0]) (rB_ rfl (w.heap.size+1+1) (qT _ _ _ _ _ _ ah.o.2.2.2) underlying27 2) rfl ⟨qaw ⟨HY.o,?_⟩,qS ah.o.1 (by omega) _⟩;unfold fstr;rw [show qcj q.num=T1 from ax.o,HQ.o.2.1,ay.o]
structure VCells (W:World) (ao:Option Addr) (b off:Nat) (vs:List Value):Prop where
 addr:0<vs.length->ao=some ⟨b,off,none⟩
 cell:∀k,k<vs.length->W.cell? ⟨b,off+k,none⟩=some (vs.getD k undef)
theorem VCells.below {W W':World} {E:Option Addr} {b off:Nat} {H:List Value} (h:VCells W E b off H) (I:Below W.heap.size W W'):VCells W' E b off H :=
 ⟨h.addr,fun k F=>(I.cell (qae W _ (h.cell k F))).trans (h.cell k F)⟩
def qdU (W:World) (F:List Value) (E:List Nat):Prop:=F.length=E.length/\∀k,k<E.length->MagAt W (F.getD k undef) (E.getD k 0)
theorem qdU.below {W W':World} {E:List Value} {F:List Nat} (h:qdU W E F) (H:Below W.heap.size W W'):qdU W' E F:=⟨h.1,fun k I=>(h.2 k I).below H⟩
def lcms (E:List Nat):Nat:=E.foldl Nat.lcm 1
theorem qf6 (E:List Nat) (k:Nat) (h:k<E.length):lcms (E.take (k+1))=(lcms (E.take k)).lcm (E.getD k 0):=by
 unfold lcms;rw [qbw,qac h,List.foldl_append,qaa,qac h];rfl
theorem qf5 (E:List Nat) (h:∀k,k<E.length->0<E.getD k 0):∀k,k<=E.length->0<lcms (E.take k)
 | 0,_=>by simp [lcms]
 | k+1,hk=>by rw [qf6 E k (by omega)];exact Nat.lcm_pos (qf5 E h k (by omega)) (h k (by omega))
theorem qf4 (E:List Nat) (J:Nat) (h:∀k,k<E.length->0<E.getD k 0/\Fit (E.getD k 0) J):∀k,k<=E.length->Fit (lcms (E.take k)) (k*J+1)
 | 0,_=>by show 1<1000000000 ^ (0*J+1);rw [Nat.zero_mul];decide
 | k+1,F=>by
  rw [qf6 E k (by omega)];have H:=(qf4 E J h k (by omega)).mul (h k (by omega)).2;have I:=qf5 E (fun k F=>(h k F).1) k (by omega);have O:=(h k (by omega)).1;refine (H.le (qbZ (qb3 I O) (Nat.lcm_dvd_mul _ _))).mono ?_;rw [qaI];omega
theorem qiF (E:List Nat):∀m k,k<m->m<=E.length->E.getD k 0∣lcms (E.take m)
 | 0,_,h,_=>absurd h (by omega)
 | m+1,k,F,hm=>by
  rw [qf6 E m (by omega)]
  by_cases e:k=m
  ·subst e;exact Nat.dvd_lcm_right _ _
  ·exact Nat.dvd_trans (qiF E m k (by omega) (by omega)) (Nat.dvd_lcm_left _ _)
theorem qh3 (ao:Option Addr) (b off n c:Nat) (vs:List Value) (F:List Nat) (J:Nat) (w:World) (hn:F.length=n) (E:VCells w ao b off vs) (hm:qdU w vs F) (hx:∀k,k<n->0<F.getD k 0/\Fit (F.getD k 0) J) (hb:n*J+1<=137438953472) (hJ:J<=137438953472) (ak:n<=1048576) :
  Calls prog 210 #[.slice ao n c] w fun e w'=>∃v,e=.returned v/\Below w.heap.size w w'/\MagAt w' v (lcms F):=by
 have af:vs.length=n:=hm.1.trans hn;have H:=qH (qA E (qA hm (qA hn af)));have HX:=qH (qA hx (qA hb hJ));clear E hm hn af hx hb hJ;go_enter func210,ntmps210;go_wp2
 go_loopw [3,9] (fun x3 x9 W=>∃k:Nat,k<=n/\x9=.int .i64 k/\Hu (MagAt W x3 (lcms (F.take k)))/\Hu (Below w.heap.size w W)) (fun _ x9 _=>n-(intOf x9).toNat)
 case atStart=>exact⟨0,qaj _,rfl,qH (qgp w _ (by decide) (by decide)),qH (qb4 qB qN)⟩
 case round =>
  obtain⟨k,hk,rfl,hM,hB⟩:=hrel
  by_cases ai:k<n
  ·have aj:(k:Int)<n:=by omega
   have ag:=H.o.1.addr (by have:=H.o.2.2.2;omega);subst ag;have hc:=(H.o.1.below hB.o).cell k (by have:=H.o.2.2.2;omega);have U:=((H.o.2.1.below hB.o).2 k (by have:=H.o.2.2.1;omega));obtain⟨vk,ae⟩:=qX (vs.getD k undef);rw [ae] at hc U;have V:∀j,j<F.length->0<F.getD j 0/\Fit (F.getD j 0) J:=fun j hj=>HX.o.1 j (by have:=H.o.2.2.1;omega)
   have ah:k*J<=n*J:=qaW _ hk;have O:=qeT (lcms (F.take k)) (F.getD k 0) (k*J+1) J (by have:=HX.o.2.1;omega) HX.o.2.2 (qf5 F (fun j hj=>(V j hj).1) k (by have:=H.o.2.2.1;omega)) (V k (by have:=H.o.2.2.1;omega)).1 _ vk wr hM.o U (qf4 F J V k (by have:=H.o.2.2.1;omega)) (V k (by have:=H.o.2.2.1;omega)).2;rw [<-qf6 F k (by have:=H.o.2.2.1;omega)] at O;have HM:=qH O;have HV:=qH U;obtain⟨sa,_,_,sc,sn,_,rfl,_,_⟩:=U;obtain⟨ua,_,_,uc,un,_,rfl,_,_⟩:=hM.o;clear O ah ae;go_wp2_with fail;refine HM.o.mono ?_;rintro e w2 ⟨v2,rfl,Z,aa⟩;have H2:=qH (qA (hB.o.trans (Z.mono hB.o.size)) aa);clear Z aa;go_wp2;go_roundw
   case rel=>exact⟨k+1,ai,by go_num,qH H2.o.2,qH H2.o.1⟩
   case measure=>simp [intOf];omega
  ·obtain rfl:k=n:=by omega
   have I:=hM.o;rw [qah (by have:=H.o.2.2.1;omega)] at I;have Y:=qH I;clear I;go_wp2;go_ret;exact⟨_,rfl,hB.o,Y.o⟩
theorem FOk.dpos {n d:List UInt8} (h:FOk n d):0<(ival d).natAbs:=by have:=h.pos;omega
theorem qfR (a:Option Addr) (n c:Nat) (b:Bool) (w:World):(Instr.field 217 (.agg #[.slice a n c,.bool b]) 0).run prog w=.ok (.slice a n c) w:=by kernel_rfl
theorem qpj (n d:ByteArray) (hf:FOk n.data.toList d.data.toList) (pb:Nat) (a2:Option Addr) (n2 c2:Nat) (Bv K:Nat) (hK:K<=68719476736) (ai:67<=K) (w:World) (I:w.heap[pb]? = some (.cells #[.slice a2 n2 c2] 213 (0,0))) (hm:MagAt w (.slice a2 n2 c2) Bv) (hB:Fit Bv K) :
  Calls prog 211 #[.agg #[.string n,.string d],.pointer (some ⟨pb,0,none⟩)] w fun e w'=>∃v,e=.returned v/\Below w.heap.size w w'/\IntAt w' v (ival n.data.toList*((Bv / (ival d.data.toList).natAbs:Nat):Int)):=by
 obtain⟨E,H⟩:=qY ((w.alloc (.cells #[.string n,.string d] 27)).alloc (.cells #[.slice none 0 0,.bool false] 217));have J:Below w.heap.size w E:=H▸qb4 (qb4 qB qN) qN;have F:E.heap[w.heap.size]? = some (.cells #[.string n,.string d] 27 (0,0)):=by rw [H,qL _ _ _ (by simp only [qab];omega)];exact qM _ _ _ rfl
 have ay:E.heap[w.heap.size+1]? = some (.cells #[.slice none 0 0,.bool false] 217 (0,0)):=by rw [H];exact qM _ _ _ (by simp)
 have ag:=(J.block _ (qG I).1).trans I;have C0:∀W,Below E.heap.size E W->W.cell? ⟨pb,0,none⟩=some (.slice a2 n2 c2):=fun W h=>(h.cell (p:=⟨pb,0,none⟩) (qG ag).1).trans (qC _ _ 0 _ _ _ ag)
 have C1:∀W,Below E.heap.size E W->W.cell? ⟨w.heap.size,1,none⟩=some (.string d):=fun W h=>(h.cell (p:=⟨w.heap.size,1,none⟩) (qG F).1).trans (qC _ _ 1 _ _ _ F)
 have C2:∀W,Below E.heap.size E W->W.cell? ⟨w.heap.size,0,none⟩=some (.string n):=fun W h=>(h.cell (p:=⟨w.heap.size,0,none⟩) (qG F).1).trans (qC _ _ 0 _ _ _ F)
 have aA:=qH (fun W=>(qcx .l) d hf.vd W);have aB:=qH (fun W=>(qcx .l) n hf.vn W);have HR:=qH (qA J (qA ay (hm.below J)));have O:=qH (qA hf (qA hB (qA hK ai)));have aF:=qfR;have az:Below E.heap.size E E:=Below.refl _ _;have U:Below E.heap.size E E.drew:=az.drew;have HC:=qH (qA C2 F);clear J F ay ag hm hf hB I C2;go_enter func211,ntmps211;go_wp2_with fail;rw [<-H];clear H
 go_cut [4] (fun x4 W=>∃(a4:Option Addr) (n4 c4:Nat),x4=.slice a4 n4 c4/\Hu (MagAt W (.slice a4 n4 c4) (Bv / (ival d.data.toList).natAbs))/\Hu (Below E.heap.size E W))
 case first =>
  go_region_held3 (fun W=>Below E.heap.size E W) (first | with_reducible exact az | with_reducible exact U | with_reducible exact ah | with_reducible exact V) (first | (go_at_call 148;refine (aA.o _).mono ?_;rintro e w2 ⟨p2,rfl,aj,aD⟩;have V:Below E.heap.size E w2:=U.trans aj;obtain⟨m2,rfl,av⟩:=aD;have G2:=qH av;obtain⟨s2,_,_,u2,t2,_,rfl,_,_⟩:=av;clear aj) | (go_at_call 159;refine ((qcf .l) Bv (ival d.data.toList).natAbs K (by have:=O.o.2.2.1;omega) _ _ _ (HR.o.2.2.below V) G2.o O.o.2.1 (O.o.1.vd.fit.mono O.o.2.2.2) O.o.1.dpos).mono ?_;rintro e w3 ⟨q3,r3,rfl,ak,ax,_⟩;have ah:Below E.heap.size E w3:=bjoin V ak;have G3:=qH ax;obtain⟨s3,_,_,u3,t3,_,rfl,_,_⟩:=ax;clear ak))
  all_goals go_wp2_with fail
  all_goals go_meet
  all_goals exact⟨_,_,_,rfl,G3,qH ah⟩
 case rest =>
  obtain⟨a4,n4,c4,rfl,aC,Y⟩:=hcut;have k0:=HC.o.1 wc Y.o;clear C0 C1;go_wp2_with fail;refine (aB.o _).mono ?_;rintro e w5 ⟨p5,rfl,Z,aa⟩;have I5:=qH aa;have G5:=qH (aC.o.below Z);have H5:=qH (Y.o.trans (Z.mono Y.o.size));obtain⟨a6,n6,c6,b6,rfl⟩:=qb6 aa;clear Z aa k0;go_wp2_with fail;refine ((qcO .l) (ival n.data.toList) (Bv / (ival d.data.toList).natAbs) 67 K (by have:=O.o.2.2.1;omega) _ _ w5 I5.o G5.o O.o.1.vn.fit (O.o.2.1.le (qa2 _ _))).mono ?_;rintro e w6 ⟨p6,rfl,au,ae⟩;obtain⟨a9,n9,c9,b9,rfl⟩:=qb6 ae;have h6:=H5.o.trans (au.mono H5.o.size);have af:=(h6.block _ (qG HR.o.2.1).1).trans HR.o.2.1;have H6:=qH (qA af (qA (HR.o.1.trans (h6.mono HR.o.1.size)) (qds (cs':=#[.slice a9 n9 c9,.bool b9]) ae af qfG)));clear au ae h6 af
  go_wp2_with (with_reducible refine sR_ rfl 217 _ _ rfl (w.heap.size+1) #[.slice a9 n9 c9,.bool b9] H6.o.1 2 ?_)
  exact qR (v:=.agg #[.slice a9 n9 c9,.bool b9]) (rA_ rfl (w.heap.size+1) (qT _ _ _ _ _ _ H6.o.1) underlying217 2) rfl ⟨_,rfl,qS H6.o.2.1 (by omega) _,H6.o.2.2⟩
abbrev zs0:Value:=.slice none 0 0
def PRow (W:World) (g n:Nat) (E:List Value):Prop :=
 W.heap[g]? = some (.cells (E++List.replicate (n-E.length) zs0).toArray 213 (0,0))/\(∀v∈E,∀d,v≠.int .u32 d)/\E.length<=n
theorem qkH {W:World} {v:Value} {x:Nat} (h:MagAt W v x):∀d,v≠.int .u32 d:=by
 obtain⟨_,_,_,_,_,_,rfl,_,_⟩:=h;intro d e;cases e
theorem PRow.below {W W':World} {g n:Nat} {E:List Value} (h:PRow W g n E) (F:Below W.heap.size W W'):PRow W' g n E :=
 ⟨(F.block _ (qG h.1).1).trans h.1,h.2⟩
theorem PRow.made (W:World) (n:Nat):PRow (W.alloc (.cells (madeCells #[zs0] n) 213)) W.heap.size n []:=by
 refine⟨?_,(fun _ E=>absurd E (by simp)),qaj _⟩;rw [qM _ _ _ rfl,qbp,List.length_nil,Nat.sub_zero,<-toList_madeCells_one,Array.toArray_toList]
theorem PRow.nope {W:World} {g n:Nat} {E:List Value} (h:PRow W g n E):∀x∈(E++List.replicate (n-E.length) zs0).toArray.toList,∀d,x≠.int .u32 d:=by
 intro x hx d;rcases qaL.1 (show x∈E++List.replicate (n-E.length) zs0 from hx) with hx | hx
 ·exact h.2.1 x hx d
 ·rw [(List.mem_replicate.1 hx).2];intro e;cases e
theorem PRow.at {W:World} {g n:Nat} {E:List Value} (h:PRow W g n E) (F:E.length<n):W.cell? ⟨g,E.length,none⟩=some zs0/\W.frozen? ⟨g,E.length,none⟩=false:=by
 refine⟨(qC _ _ _ _ _ _ h.1).trans ?_,qF _ _ _ _ _ h.1⟩;rw [qaz,qau qN,qaJ,qbq,if_pos (by omega)]
theorem PRow.set {W:World} {g n:Nat} {E:List Value} (h:PRow W g n E) (I:E.length<n) (v:Value) (H:∀d,v≠.int .u32 d):PRow (W.setCell ⟨g,E.length,none⟩ v) g n (E++[v]):=by
 refine⟨?_,fun x hx d=>?_,by rw [qaf,qaH];omega⟩
 ·rw [heap_setCell_same _ g E.length _ _ v h.1]
  congr 3
  obtain⟨m,F⟩:∃m,n-E.length=m+1:=⟨n-E.length-1,by omega⟩;rw [qaQ,F,qby,qbi _ _ qN,qaJ,qbx,qaf,qaH,show n-(E.length+1)=m by omega,qaG];rfl
 ·rcases qaL.1 hx with hx | hx
  ·exact h.2.1 x hx d
  ·rw [qap.1 hx];exact H d
theorem PRow.cells {W:World} {g n:Nat} {E:List Value} (h:PRow W g n E) (_hn:E.length=n):VCells W (some ⟨g,0,none⟩) g 0 E:=by
 refine⟨fun _=>rfl,fun k F=>?_⟩;rw [qaT,qC _ _ _ _ _ _ h.1,qaz,qax F,qaa,qac F];rfl
theorem qdU.keep {W W':World} {g:Nat} {cs:Array Value} {t:TypeId} {I:Nat×Nat} {F:List Value} {H:List Nat} (h:qdU W F H) (J:W.grownBy W' (some g)) (hg:W.heap[g]? = some (.cells cs t I)) (hne:∀x∈cs.toList,∀d,x≠.int .u32 d):qdU W' F H :=
 ⟨h.1,fun k E=>qcA (h.2 k E) J hg hne⟩
theorem qdU.snoc {W:World} {H:List Value} {F:List Nat} {v:Value} {x:Nat} (h:qdU W H F) (J:MagAt W v x):qdU W (H++[v]) (F++[x]):=by
 refine⟨by rw [qaf,qaf,h.1];rfl,fun k I=>?_⟩;rw [qaf,qaH] at I
 by_cases E:k<F.length
 ·rw [qaa,qaa,qax (by rw [h.1];exact E),qax E,<-qaa,<-qaa];exact h.2 k E
 ·obtain rfl:k=F.length:=by omega
  rw [qaa,qaa,qau (by rw [h.1];exact qad _),qau qN,h.1,qaJ];exact J
def iflat (E:List (Value×Bool)):List Value:=E.flatMap fun p=>[p.1,.bool p.2]
theorem qeq (E:List (Value×Bool)):(iflat E).length=E.length*2:=by
 induction E with
 | nil=>rfl
 | cons p E ih=>rw [iflat,List.flatMap_cons,qaf,<-iflat,ih,qbH];simp;omega
theorem qfX (a b:List (Value×Bool)):iflat (a++b)=iflat a++iflat b:=by unfold iflat;rw [List.flatMap_append]
def IRow (W:World) (g n:Nat) (E:List (Value×Bool)):Prop :=
 W.heap[g]? = some (.cells (iflat (E++List.replicate (n-E.length) (zs0,false))).toArray 217 (0,0))/\(∀p∈E,∀d,p.1≠.int .u32 d)/\E.length<=n
theorem IRow.below {W W':World} {g n:Nat} {E:List (Value×Bool)} (h:IRow W g n E) (F:Below W.heap.size W W'):IRow W' g n E :=
 ⟨(F.block _ (qG h.1).1).trans h.1,h.2⟩
theorem qnM {E:List (Value×Bool)} (h:∀p∈E,∀d,p.1≠.int .u32 d):∀x∈iflat E,∀d,x≠.int .u32 d:=by
 intro x hx d;unfold iflat at hx;obtain⟨p,F,hx⟩:=List.mem_flatMap.1 hx;rcases qat.1 hx with rfl | hx
 ·exact h p F d
 ·rw [qap.1 hx];intro e;cases e
theorem IRow.nope {W:World} {g n:Nat} {F:List (Value×Bool)} (h:IRow W g n F):∀x∈(iflat (F++List.replicate (n-F.length) (zs0,false))).toArray.toList,∀d,x≠.int .u32 d:=by
 refine qnM fun p E d=>?_
 rcases qaL.1 E with E | E
 ·exact h.2.1 p E d
 ·rw [(List.mem_replicate.1 E).2];intro e;cases e
theorem qfY (E:List (Value×Bool)):∀(k:Nat) (p:Value×Bool),E[k]? = some p->(iflat E)[k*2]? = some p.1/\(iflat E)[k*2+1]? = some (.bool p.2):=by
 induction E with
 | nil=>intro k p h;cases h
 | cons q E ih =>
  intro k p h;have e:iflat (q :: E)=q.1 :: .bool q.2 :: iflat E:=rfl;rw [e];cases k with
  | zero =>
   have:q=p:=qag h;subst this;exact⟨rfl,rfl⟩
  | succ k =>
   have F:=ih k p h;rw [show (k+1)*2=k*2+1+1 by omega];exact F
theorem IRow.at {W:World} {g n:Nat} {E:List (Value×Bool)} (h:IRow W g n E) (J:E.length<n):(W.cell? ⟨g,E.length*2,none⟩=some zs0/\W.cell? ⟨g,E.length*2+1,none⟩=some (.bool false))/\∀j,W.frozen? ⟨g,j,none⟩=false:=by
 have F:(E++List.replicate (n-E.length) (zs0,false))[E.length]? = some (zs0,false):=by
  rw [qau qN,qaJ,qbq,if_pos (by omega)]
 obtain⟨H,I⟩:=qfY _ _ _ F;exact⟨⟨(qC _ _ _ _ _ _ h.1).trans ((qaz ..).trans H),(qC _ _ _ _ _ _ h.1).trans ((qaz ..).trans I)⟩,fun j=>qF _ _ _ _ _ h.1⟩
theorem IRow.set {W:World} {g n:Nat} {E:List (Value×Bool)} (h:IRow W g n E) (O:E.length<n) (v:Value) (b:Bool) (J:∀d,v≠.int .u32 d) :
  IRow ((W.setCell ⟨g,E.length*2,none⟩ v).setCell ⟨g,E.length*2+1,none⟩ (.bool b)) g n (E++[(v,b)]):=by
 refine⟨?_,fun x hx d=>?_,by rw [qaf,qaH];omega⟩
 ·rw [heap_setCell_same _ g (E.length*2+1) _ _ _ (heap_setCell_same _ g (E.length*2) _ _ v h.1)]
  congr 3
  obtain⟨m,I⟩:∃m,n-E.length=m+1:=⟨n-E.length-1,by omega⟩;have F:iflat (E++List.replicate (m+1) (zs0,false))=iflat E++(zs0 :: .bool false :: iflat (List.replicate m (zs0,false))):=by
   rw [qfX,qby];rfl
  have H:iflat (E++[(v,b)]++List.replicate m (zs0,false))=iflat E++(v :: .bool b :: iflat (List.replicate m (zs0,false))):=by
   rw [qfX,qfX,qaG];rfl
  rw [qaQ,qaQ,I,qaf,qaH,show n-(E.length+1)=m by omega,F,H];rw [qbi _ _ (by rw [qeq];exact qad _),qeq,qaJ,qbx,qbi _ _ (by rw [qeq];omega),qeq,show E.length*2+1-E.length*2=1 by omega]
  rfl
 ·rcases qaL.1 hx with hx | hx
  ·exact h.2.1 x hx d
  ·rw [qap.1 hx];exact J d
theorem qnN (n:Nat):∀i,i<n*2->(iflat (List.replicate n (zs0,false)))[i]? = some (if i % 2=0 then zs0 else .bool false):=by
 intro i E;have h:=qfY (List.replicate n (zs0,false)) (i / 2) (zs0,false) (by rw [qbq,if_pos (by omega)])
 by_cases e:i % 2=0
 ·rw [if_pos e];have:=h.1
  rwa [show i / 2*2=i by omega] at this
 ·rw [if_neg e];have:=h.2
  rwa [show i / 2*2+1=i by omega] at this
theorem qn8 (n:Nat):madeCells #[zs0,.bool false] (n*2)=(iflat (List.replicate n (zs0,false))).toArray:=by
 apply Array.ext';apply List.ext_getElem?;intro i;rw [Array.getElem?_toList]
 show _=(iflat (List.replicate n (zs0,false)))[i]?
 by_cases E:i<n*2
 ·rw [qnN n i E];have F:(madeCells #[zs0,.bool false] (n*2))[i]? = some ((#[zs0,.bool false]:Array Value)[i % 2]!):=by simp [madeCells,E]
  rw [F]
  congr 1
  rcases (show i % 2=0\/i % 2=1 by omega) with e | e
  ·rw [if_pos e,e];rfl
  ·rw [if_neg (by omega),e];rfl
 ·rw [Array.getElem?_eq_none (by rw [size_madeCells];omega),qaR (by rw [qeq,qaZ];omega)]
theorem IRow.made (W:World) (n:Nat):IRow (W.alloc (.cells (madeCells #[zs0,.bool false] (n*2)) 217)) W.heap.size n []:=by
 refine⟨?_,(fun _ E=>absurd E (by simp)),qaj _⟩;rw [qM _ _ _ rfl,qbp,List.length_nil,Nat.sub_zero,qn8]
theorem infoI:(Tryz.prog.info? 217).map (fun i=>(i.zero,i.size,i.bytes))=some (some (.agg #[zs0,.bool false]),2,32):=by kernel_rfl
theorem qhp (n:Nat) (J:n<=1048576) (w:World):(Instr.makeSlice 212 (.int .i64 (n:Int)) (.int .i64 (n:Int))).run prog w=.ok (.slice (some ⟨w.heap.size,0,none⟩) n n) (w.alloc (.cells (madeCells #[zs0,.bool false] (n*2)) 217)):=by
 obtain⟨i,I,E,F,H⟩:=info_parts infoI;have h:=run_make (P:=prog) w 212 217 i _ underlying212 I E .i64 .i64 (n:Int) (n:Int) (by omega) (Int.le_refl _) (by rw [H];omega) (by omega);rw [h,F,qbO];rfl
