import Derived.Deep.RegionHeld3
import Derived.Test.YtjalhnlhcdfncaaGreatDoorBk10
import Derived.Test.YtjalhnlhcdfncaaGreatDoorBk6
set_option maxRecDepth 100000
set_option maxHeartbeats 0
namespace Go.Proofs.YtjalhnlhcdfncaaGreatDoor
open Go.RowKit Go.Proofs.Tryz
theorem qcU {W:World} {m:Value} {b:Bool} {z:Int} {g:Nat} {cs cs':Array Value} {t:TypeId} {F:Nat×Nat} (h:IntAt W (.agg #[m,.bool b]) z) (hg:W.heap[g]? = some (.cells cs t F)) (hne:∀x∈cs.toList,∀d,x≠.int .u32 d):IntAt (W.setRow g cs') (.agg #[m,.bool b]) z:=by
 obtain⟨m',G,H⟩:=h;exact⟨m',G,qdo H hg hne⟩
theorem qbN {W:World} {v:Value} {z:Int} (h:IntAt W v z):∃(a:Option Addr) (n c:Nat) (b:Bool),v=.agg #[.slice a n c,.bool b]:=by
 obtain⟨m,rfl,am,bm,H,cm,n,M,rfl,G,F⟩:=h;exact⟨am,n,cm,_,rfl⟩
theorem qbO (W:World) (g k:Nat) (v:Value):W.grownBy (W.setCell ⟨g,k,none⟩ v) (some g) :=
 ⟨rfl,rfl,rfl,by simp [World.setCell],fun i _ hr=>qW _ _ _ _ (fun e=>hr (by rw [e]))⟩
theorem qcP {W:World} {g:Nat} {t:TypeId} (h:W.heap[g]? = some (.cells #[.slice none 0 0,.bool false] t (0,0))) (a:Option Addr) (n c:Nat) (b:Bool) :
  ((W.setCell ⟨g,0,none⟩ (.slice a n c)).setCell ⟨g,1,none⟩ (.bool b)).heap[g]? = some (.cells #[.slice a n c,.bool b] t (0,0)) :=
 heap_setCell_same _ g 1 _ t _ (heap_setCell_same _ g 0 _ t _ h)
theorem qcO {W:World} {m:Value} {G:Bool} {z:Int} {g:Nat} {t:TypeId} (J:IntAt W (.agg #[m,.bool G]) z) (h:W.heap[g]? = some (.cells #[.slice none 0 0,.bool false] t (0,0))) (a:Option Addr) (n c:Nat) (b:Bool) :
  IntAt ((W.setCell ⟨g,0,none⟩ (.slice a n c)).setCell ⟨g,1,none⟩ (.bool b)) (.agg #[m,.bool G]) z:=by
 obtain⟨m',H,I⟩:=J;refine⟨m',H,?_⟩;refine qch (qch I (qbO W g 0 _) h qeR) (qbO _ g 1 _) (heap_setCell_same W g 0 _ t _ h) ?_;intro x F d;rcases qay.1 (show x∈[Value.slice a n c,Value.bool false] from F) with rfl | F
 ·intro h;cases h
 ·rw [qao.1 F];intro h;cases h
theorem qio (x y:Int):(if (decide (x<0) != decide (y<0))=true then -((x.natAbs*y.natAbs:Nat):Int) else ((x.natAbs*y.natAbs:Nat):Int))=x*y:=by
 rw [<-qaD]
 by_cases G:x<0
 ·by_cases F:y<0
  ·rw [qV G,qV F,if_neg (by decide)];have:=Int.mul_pos_of_neg_of_neg G F;omega
  ·rw [qV G,qU F,if_pos (by decide)];have:=Int.mul_nonpos_of_nonpos_of_nonneg (Int.le_of_lt G) (Int.not_lt.1 F);omega
 ·by_cases F:y<0
  ·rw [qU G,qV F,if_pos (by decide)];have:=Int.mul_nonpos_of_nonneg_of_nonpos (Int.not_lt.1 G) (Int.le_of_lt F);omega
  ·rw [qU G,qU F,if_neg (by decide)];have:=Int.mul_nonneg (Int.not_lt.1 G) (Int.not_lt.1 F);omega
theorem qji (x:Int) (y:Nat):(if decide (x<0)=true then -((x.natAbs*y:Nat):Int) else ((x.natAbs*y:Nat):Int))=x*(y:Int):=by
 by_cases F:x<0
 ·rw [qV F,if_pos rfl,Int.natCast_mul,<-qbx];congr 1;omega
 ·rw [qU F,if_neg (by decide),Int.natCast_mul];congr 1;omega
theorem qdy (V:Pk) (z:Int) (v:Value) (w:World) (hv:IntAt w v z) :
  Calls prog (Pk.of V 109 156) #[v] w fun e w'=>∃u,e=.returned u/\Below w.heap.size w w'/\IntAt w' u (-z):=by
 obtain⟨m,rfl,hm⟩:=hv;have hs:=fun (W:World) (h:Below w.heap.size w W)=>(qb2 V) z.natAbs (!decide (z<0)) m W (hm.below h)
 have hz:(if (!decide (z<0))=true then -(z.natAbs:Int) else (z.natAbs:Int)) = -z:=by
  by_cases h:z<0
  ·rw [qV h,if_neg (by decide)];omega
  ·rw [qU h,if_pos (by decide)];omega
 rw [hz] at hs;have HS:=qH hs;generalize decide (z<0)=b at *;obtain⟨am,bm,om,cm,n,M,rfl,Im,aa⟩:=hm;clear hs hz Im aa;obtain⟨W1,H⟩:=qY ((w.alloc (.cells #[.slice am n cm,.bool b] (Pk.of V 125 217))).alloc (.cells #[.slice none 0 0,.bool false] (Pk.of V 125 217)));have I:Below w.heap.size w W1:=H▸(qB.alloc qN _).alloc (by simp) _;have O:W1.heap[w.heap.size+1]? = some (.cells #[.slice none 0 0,.bool false] (Pk.of V 125 217) (0,0)):=by rw [H];exact qM _ _ _ (by simp)
 cases V <;> dsimp only [Pk.of] at * <;> (
 first | go_enter func109,ntmps109 | go_enter func156,ntmps156
 go_wp2_with fail;rw [<-H];refine (HS.o _ I).mono ?_;rintro e w2 ⟨u,rfl,J,U⟩;have F:=(J.block (w.heap.size+1) (qG O).1).trans O;have G:Below w.heap.size w w2:=I.trans (J.mono I.size);clear H I O;obtain⟨a9,n9,c9,b9,rfl⟩:=qbN U;have Y:=qcU (cs':=#[.slice a9 n9 c9,.bool b9]) U F qeR;have Z:=qH (qA F (qA G (qS G (show w.heap.size<=w.heap.size+1 by omega) #[.slice a9 n9 c9,.bool b9])));have HV:=qH Y;clear F G Y J U
 go_wp2_with ((with_reducible refine wpList_store_row rfl _ _ _ rfl (w.heap.size+1) #[.slice a9 n9 c9,.bool b9] ?_ ?_ _ _ Z.o.1 2 ?_ ?_ ?_ ?_ ?_);(next=>rfl);(next=>rfl);(next=>kernel_rfl);(next=>rfl);(next=>rfl);(next=>rfl))
 exact qR (v:=.agg #[.slice a9 n9 c9,.bool b9]) (qcC rfl _ _ (w.heap.size+1) _ _ _ rfl (qT _ _ _ _ _ _ Z.o.1) (by first | exact underlying125 | exact underlying217) rfl 2 (by kernel_rfl) rfl) rfl ⟨_,rfl,Z.o.2.2,HV.o⟩)
theorem qcp (x y:Int) (K J:Nat) (hK:K+J<=274877906944) (v u:Value) (w:World) (hv:IntAt w v x) (hu:IntAt w u y) (hx:Fit x.natAbs K) (hy:Fit y.natAbs J) :
  Calls prog 153 #[v,u] w fun e w'=>∃u,e=.returned u/\Below w.heap.size w w'/\IntAt w' u (x*y):=by
 obtain⟨m,rfl,hm⟩:=hv;obtain⟨o,rfl,ho⟩:=hu;have ht:=fun (W:World) (h:Below w.heap.size w W)=>(qb9 .l) x.natAbs y.natAbs K J hK m o W (hm.below h) (ho.below h) hx hy
 have hs:=fun (W:World) (p:Value) (h:MagAt W p (x.natAbs*y.natAbs))=>(qb2 .l) (x.natAbs*y.natAbs) (decide (x<0) != decide (y<0)) p W h
 rw [qio] at hs;generalize decide (x<0)=b0 at *;generalize decide (y<0)=b1 at *;obtain⟨a0,bm,om,c0,n0,M,rfl,Im,ax⟩:=hm;obtain⟨a1,bo,oo,c1,n1,O,rfl,Io,ay⟩:=ho;have HT:=qH ht;have HS:=qH hs;clear ht hs Im ax Io ay hx hy hK;obtain⟨G,H⟩:=qY (((w.alloc (.cells #[.slice a0 n0 c0,.bool b0] 217)).alloc (.cells #[.slice a1 n1 c1,.bool b1] 217)).alloc (.cells #[.slice none 0 0,.bool false] 217));have au:Below w.heap.size w G:=H▸((qB.alloc qN _).alloc (by simp only [qaa];omega) _).alloc (by simp only [qaa];omega) _;have ag:G.heap[w.heap.size]? = some (.cells #[.slice a0 n0 c0,.bool b0] 217 (0,0)):=by rw [H,qL _ _ _ (by simp only [qaa];omega),qL _ _ _ (by simp only [qaa];omega)];exact qM _ _ _ rfl
 have ah:G.heap[w.heap.size+1]? = some (.cells #[.slice a1 n1 c1,.bool b1] 217 (0,0)):=by rw [H,qL _ _ _ (by simp only [qaa];omega)];exact qM _ _ _ (by simp)
 have ai:G.heap[w.heap.size+1+1]? = some (.cells #[.slice none 0 0,.bool false] 217 (0,0)):=by rw [H];exact qM _ _ _ (by simp)
 have l2:w.heap.size+1+1<G.heap.size:=(qG ai).1;have C0:∀W,Below (w.heap.size+1+1) G W->W.cell? ⟨w.heap.size,0,none⟩=some (.slice a0 n0 c0):=fun W h=>(h.cell (p:=⟨w.heap.size,0,none⟩) (by show w.heap.size<_;omega)).trans (qC _ _ 0 _ _ _ ag)
 have C1:∀W,Below (w.heap.size+1+1) G W->W.cell? ⟨w.heap.size,1,none⟩=some (.bool b0):=fun W h=>(h.cell (p:=⟨w.heap.size,1,none⟩) (by show w.heap.size<_;omega)).trans (qC _ _ 1 _ _ _ ag)
 have D0:∀W,Below (w.heap.size+1+1) G W->W.cell? ⟨w.heap.size+1,0,none⟩=some (.slice a1 n1 c1):=fun W h=>(h.cell (p:=⟨w.heap.size+1,0,none⟩) (by show w.heap.size+1<_;omega)).trans (qC _ _ 0 _ _ _ ah)
 have D1:∀W,Below (w.heap.size+1+1) G W->W.cell? ⟨w.heap.size+1,1,none⟩=some (.bool b1):=fun W h=>(h.cell (p:=⟨w.heap.size+1,1,none⟩) (by show w.heap.size+1<_;omega)).trans (qC _ _ 1 _ _ _ ah)
 have aj:Below (w.heap.size+1+1) G G:=Below.refl _ _;have F:Below (w.heap.size+1+1) G G.drew:=qB.drew;have HR:=qH (qA au ai);clear ag ah ai au;go_enter func153,ntmps153;go_wp2_with fail;rw [<-H];clear H;have V:=qH l2
 go_region_held3 (fun W=>Below (w.heap.size+1+1) G W) (first | with_reducible exact aj | with_reducible exact F | with_reducible exact Y | with_reducible exact U | ((iterate 2 refine Below.setCell ?_ (by exact qae _) _);exact Y)) (first | (go_at_call 157;refine (HT.o _ (HR.o.1.trans (F.mono (by omega)))).mono ?_;rintro e w2 ⟨p2,rfl,aa,av⟩;have U:Below (w.heap.size+1+1) G w2:=F.trans (aa.mono (qap V.o));have ak:=qH (qA av ((aa.block _ V.o).trans HR.o.2));clear aa av) | (go_at_call 161;refine (HS.o _ _ ak.o.1).mono ?_;rintro e w3 ⟨p3,rfl,ae,af⟩;have Y:Below (w.heap.size+1+1) G w3:=U.trans (ae.mono (qak (qap V.o) U.size));obtain⟨a9,n9,c9,b9,rfl⟩:=qbN af;have I:=(ae.block _ (qai V.o U.size)).trans ak.o.2;have e0:=qC w3 _ 0 _ _ _ I;have e1:=qC w3 _ 1 _ _ _ I;have f0:=qF w3 _ 0 _ _ I;have f1:=qF w3 _ 1 _ _ I;have Z:=qH (qA af I);clear ae af I))
 go_wp2_with fail;exact qR (v:=.agg #[.slice a9 n9 c9,.bool b9]) (rA_ rfl (w.heap.size+1+1) (qcP Z.o.2 a9 n9 c9 b9) underlying217 2) rfl ⟨_,rfl,HR.o.1.trans (((Y.setCell (by exact qae _) _).setCell (by exact qae _) _).mono (by omega)),qcO Z.o.1 Z.o.2 a9 n9 c9 b9⟩
theorem qin (x y:Int):(if (decide (x<0) != decide (y<0))=true then -((x.natAbs / y.natAbs:Nat):Int) else ((x.natAbs / y.natAbs:Nat):Int))=x.tdiv y:=by
 obtain⟨a,rfl | rfl⟩:=Int.eq_nat_or_neg x
 ·obtain⟨b,rfl | rfl⟩:=Int.eq_nat_or_neg y
  ·rw [qU (by omega),qU (by omega),if_neg (by decide)];rfl
  ·rw [qU (by omega:¬(a:Int)<0),qbu,Int.tdiv_neg]
   by_cases F:b=0
   ·subst F;simp
   ·rw [qV (by omega),if_pos (by decide)];rfl
 ·obtain⟨b,rfl | rfl⟩:=Int.eq_nat_or_neg y
  ·rw [qU (by omega:¬(b:Int)<0),qbu,Int.neg_tdiv]
   by_cases G:a=0
   ·subst G;simp
   ·rw [qV (by omega),if_pos (by decide)];rfl
  ·rw [qbu,qbu,Int.tdiv_neg,Int.neg_tdiv,Int.neg_neg]
   by_cases G:a=0
   ·subst G
    by_cases F:b=0
    ·subst F;simp
    ·simp
   ·by_cases F:b=0
    ·subst F;simp
    ·rw [qV (by omega),qV (by omega),if_neg (by decide)];rfl
theorem qkJ {x y:Int} (h:decide (x<0)=decide (y<0)):(if decide (x<0)=true then -((x.natAbs+y.natAbs:Nat):Int) else ((x.natAbs+y.natAbs:Nat):Int))=x+y:=by
 by_cases F:x<0
 ·rw [qV F] at h ⊢;have G:=of_decide_eq_true h.symm;rw [if_pos rfl];omega
 ·rw [qU F] at h ⊢;have G:=of_decide_eq_false h.symm;rw [if_neg (by decide)];omega
theorem qgp {x y:Int} (h:¬decide (x<0)=decide (y<0)) (H:y.natAbs<=x.natAbs):(if decide (x<0)=true then -((x.natAbs-y.natAbs:Nat):Int) else ((x.natAbs-y.natAbs:Nat):Int))=x+y:=by
 by_cases G:x<0
 ·have F:¬y<0:=fun F=>h (by rw [qV G,qV F])
  rw [qV G,if_pos rfl];omega
 ·have F:y<0:=by
   by_cases F:y<0
   ·exact F
   ·exact absurd (by rw [qU G,qU F]) h
  rw [qU G,if_neg (by decide)];omega
theorem qci (Z:Pk) (x:Int) (y K J:Nat) (hK:K+J<=274877906944) (v o:Value) (w:World) (hv:IntAt w v x) (ho:MagAt w o y) (hx:Fit x.natAbs K) (hy:Fit y J) :
  Calls prog (Pk.of Z 107 155) #[v,o] w fun e w'=>∃u,e=.returned u/\Below w.heap.size w w'/\IntAt w' u (x*(y:Int)):=by
 obtain⟨m,rfl,hm⟩:=hv;have ht:=fun (W:World) (h:Below w.heap.size w W)=>(qb9 Z) x.natAbs y K J hK m o W (hm.below h) (ho.below h) hx hy
 have hs:=fun (W:World) (p:Value) (h:MagAt W p (x.natAbs*y))=>(qb2 Z) (x.natAbs*y) (decide (x<0)) p W h
 rw [qji] at hs;generalize decide (x<0)=b0 at *;obtain⟨a0,bm,om,c0,n0,M,rfl,Im,av⟩:=hm;obtain⟨a1,bo,oo,c1,n1,O,rfl,Io,ax⟩:=ho;have HT:=qH ht;have HS:=qH hs;clear ht hs Im av Io ax hx hy hK;obtain⟨G,I⟩:=qY ((w.alloc (.cells #[.slice a0 n0 c0,.bool b0] (Pk.of Z 125 217))).alloc (.cells #[.slice none 0 0,.bool false] (Pk.of Z 125 217)));have ak:Below w.heap.size w G:=I▸(qB.alloc qN _).alloc (by simp only [qaa];omega) _;have ai:G.heap[w.heap.size]? = some (.cells #[.slice a0 n0 c0,.bool b0] (Pk.of Z 125 217) (0,0)):=by rw [I,qL _ _ _ (by simp only [qaa];omega)];exact qM _ _ _ (by simp)
 have hr:G.heap[w.heap.size+1]? = some (.cells #[.slice none 0 0,.bool false] (Pk.of Z 125 217) (0,0)):=by rw [I];exact qM _ _ _ (by simp)
 have l2:w.heap.size+1<G.heap.size:=(qG hr).1;have ay:∀W,Below (w.heap.size+1) G W->W.cell? ⟨w.heap.size,0,none⟩=some (.slice a0 n0 c0):=fun W h=>(h.cell (p:=⟨w.heap.size,0,none⟩) (by show w.heap.size<_;omega)).trans (qC _ _ 0 _ _ _ ai)
 have az:∀W,Below (w.heap.size+1) G W->W.cell? ⟨w.heap.size,1,none⟩=some (.bool b0):=fun W h=>(h.cell (p:=⟨w.heap.size,1,none⟩) (by show w.heap.size<_;omega)).trans (qC _ _ 1 _ _ _ ai)
 have F:Below (w.heap.size+1) G G:=Below.refl _ _;have HR:=qH (qA ak hr);have Y:=qH l2;clear ai hr ak;cases Z <;> dsimp only [Pk.of] at * <;> (
 first | go_enter func107,ntmps107 | go_enter func155,ntmps155
 go_wp2_with fail;rw [<-I];clear I;have U:Below (w.heap.size+1) G G.drew:=F.drew
 go_region_held3 (fun W=>Below (w.heap.size+1) G W) (first | with_reducible exact F | with_reducible exact U | with_reducible exact aa | with_reducible exact V | ((iterate 2 refine Below.setCell ?_ (by exact qae _) _);exact aa)) (first | ((first | go_at_call 183 | go_at_call 157);refine (HT.o _ (HR.o.1.trans (U.mono (by omega)))).mono ?_;rintro e w2 ⟨p2,rfl,af,au⟩;have V:Below (w.heap.size+1) G w2:=U.trans (af.mono (qap (qai Y.o F.size)));have aj:=qH (qA au ((af.block _ (qai Y.o F.size)).trans HR.o.2));clear af au) | ((first | go_at_call 123 | go_at_call 161);refine (HS.o _ _ aj.o.1).mono ?_;rintro e w3 ⟨p3,rfl,ag,ah⟩;have aa:Below (w.heap.size+1) G w3:=V.trans (ag.mono (qak (qap Y.o) V.size));obtain⟨a9,n9,c9,b9,rfl⟩:=qbN ah;have H:=(ag.block _ (qai Y.o V.size)).trans aj.o.2;have e0:=qC w3 _ 0 _ _ _ H;have e1:=qC w3 _ 1 _ _ _ H;have f0:=qF w3 _ 0 _ _ H;have f1:=qF w3 _ 1 _ _ H;have ae:=qH (qA ah H);clear ag ah H))
 go_wp2_with fail;exact qR (v:=.agg #[.slice a9 n9 c9,.bool b9]) (qcC rfl _ _ (w.heap.size+1) _ _ _ rfl (qcP ae.o.2 a9 n9 c9 b9) (by first | exact underlying125 | exact underlying217) rfl 2 (by kernel_rfl) rfl) rfl ⟨_,rfl,HR.o.1.trans (((aa.setCell (by exact qae _) _).setCell (by exact qae _) _).mono (by omega)),qcO ae.o.1 ae.o.2 a9 n9 c9 b9⟩)
theorem qgo (x y:Int) (K:Nat) (hK:K<=137438953472) (v u:Value) (w:World) (hv:IntAt w v x) (hu:IntAt w u y) (hx:Fit x.natAbs K) (hy:Fit y.natAbs K) (h0:y≠0) :
  Calls prog 266 #[v,u] w fun e w'=>∃u,e=.returned u/\Below w.heap.size w w'/\IntAt w' u (x.tdiv y):=by
 obtain⟨m,rfl,hm⟩:=hv;obtain⟨o,rfl,ho⟩:=hu;have ht:=fun (W:World) (h:Below w.heap.size w W)=>(qbV .l) x.natAbs y.natAbs K hK m o W (hm.below h) (ho.below h) hx hy (by omega)
 have hs:=fun (W:World) (p:Value) (h:MagAt W p (x.natAbs / y.natAbs))=>(qb2 .l) (x.natAbs / y.natAbs) (decide (x<0) != decide (y<0)) p W h
 rw [qin] at hs;generalize decide (x<0)=b0 at *;generalize decide (y<0)=b1 at *;obtain⟨a0,bm,om,c0,n0,M,rfl,Im,ay⟩:=hm;obtain⟨a1,bo,oo,c1,n1,O,rfl,Io,az⟩:=ho;have HT:=qH ht;have HS:=qH hs;clear ht hs Im ay Io az hx hy hK;obtain⟨H,G⟩:=qY (((w.alloc (.cells #[.slice a0 n0 c0,.bool b0] 217)).alloc (.cells #[.slice a1 n1 c1,.bool b1] 217)).alloc (.cells #[.slice none 0 0,.bool false] 217));have aj:Below w.heap.size w H:=G▸((qB.alloc qN _).alloc (by simp only [qaa];omega) _).alloc (by simp only [qaa];omega) _;have ae:H.heap[w.heap.size]? = some (.cells #[.slice a0 n0 c0,.bool b0] 217 (0,0)):=by rw [G,qL _ _ _ (by simp only [qaa];omega),qL _ _ _ (by simp only [qaa];omega)];exact qM _ _ _ (by simp)
 have af:H.heap[w.heap.size+1]? = some (.cells #[.slice a1 n1 c1,.bool b1] 217 (0,0)):=by rw [G,qL _ _ _ (by simp only [qaa];omega)];exact qM _ _ _ (by simp)
 have hr:H.heap[w.heap.size+1+1]? = some (.cells #[.slice none 0 0,.bool false] 217 (0,0)):=by rw [G];exact qM _ _ _ (by simp)
 have l2:w.heap.size+1+1<H.heap.size:=(qG hr).1;have au:∀W,Below (w.heap.size+1+1) H W->W.cell? ⟨w.heap.size,0,none⟩=some (.slice a0 n0 c0):=fun W h=>(h.cell (p:=⟨w.heap.size,0,none⟩) (by show w.heap.size<_;omega)).trans (qC _ _ 0 _ _ _ ae)
 have ah:∀W,Below (w.heap.size+1+1) H W->W.cell? ⟨w.heap.size,1,none⟩=some (.bool b0):=fun W h=>(h.cell (p:=⟨w.heap.size,1,none⟩) (by show w.heap.size<_;omega)).trans (qC _ _ 1 _ _ _ ae)
 have av:∀W,Below (w.heap.size+1+1) H W->W.cell? ⟨w.heap.size+1,0,none⟩=some (.slice a1 n1 c1):=fun W h=>(h.cell (p:=⟨w.heap.size+1,0,none⟩) (by show w.heap.size+1<_;omega)).trans (qC _ _ 0 _ _ _ af)
 have ai:∀W,Below (w.heap.size+1+1) H W->W.cell? ⟨w.heap.size+1,1,none⟩=some (.bool b1):=fun W h=>(h.cell (p:=⟨w.heap.size+1,1,none⟩) (by show w.heap.size+1<_;omega)).trans (qC _ _ 1 _ _ _ af)
 have aA:Below (w.heap.size+1+1) H H:=Below.refl _ _;have V:=qH (qA aj hr);have Y:=qH l2;clear ae af hr aj;go_enter func266,ntmps266;go_wp2_with fail;rw [<-G];clear G;refine (HT.o _ V.o.1).mono ?_;rintro e w2 ⟨q,r,rfl,I,hq,_⟩;have Z:Below (w.heap.size+1+1) H w2:=I.mono (qap Y.o);have aB:=ah w2 Z;have aC:=ai w2 Z;have U:=(I.block _ Y.o).trans V.o.2;have H2:=qH (qA hq (qA U (V.o.1.trans (I.mono V.o.1.size))));have ax:Hu (w.heap.size+1+1<w2.heap.size):=qH (qai Y.o I.size);clear I hq U Z au ah av ai;go_wp2_with fail;refine (HS.o _ _ H2.o.1).mono ?_;rintro e w3 ⟨u3,rfl,aa,ag⟩;have F:=(aa.block _ ax.o).trans H2.o.2.1;have J:Below w.heap.size w w3:=H2.o.2.2.trans (aa.mono H2.o.2.2.size);obtain⟨a9,n9,c9,b9,rfl⟩:=qbN ag;have ak:=qcU (cs':=#[.slice a9 n9 c9,.bool b9]) ag F qeR;have V:=qH (qA F (qA J (qS J (show w.heap.size<=w.heap.size+1+1 by omega) #[.slice a9 n9 c9,.bool b9])));have HV:=qH ak;clear F J ak aa ag
 go_wp2_with (with_reducible refine sR_ rfl 217 _ _ rfl (w.heap.size+1+1) #[.slice a9 n9 c9,.bool b9] V.o.1 2 ?_)
 exact qR (v:=.agg #[.slice a9 n9 c9,.bool b9]) (rA_ rfl (w.heap.size+1+1) (qT _ _ _ _ _ _ V.o.1) underlying217 2) rfl ⟨_,rfl,V.o.2.2,HV.o⟩
theorem qc6 (V:Pk) (x y:Int) (K:Nat) (hK:K<=274877906944) (v u:Value) (w:World) (hv:IntAt w v x) (hu:IntAt w u y) (hx:Fit x.natAbs K) (hy:Fit y.natAbs K) :
  Calls prog (Pk.of V 108 154) #[v,u] w fun e w'=>∃u,e=.returned u/\Below w.heap.size w w'/\IntAt w' u (x+y):=by
 obtain⟨m,rfl,hm⟩:=hv;obtain⟨o,rfl,ho⟩:=hu
 by_cases ax:decide (x<0)=decide (y<0)
 ·have ht:=fun (W:World) (h:Below w.heap.size w W)=>(qjh V) x.natAbs y.natAbs K hK m o W (hm.below h) (ho.below h) hx hy
  have hs:=fun (W:World) (p:Value) (h:MagAt W p (x.natAbs+y.natAbs))=>(qb2 V) (x.natAbs+y.natAbs) (decide (x<0)) p W h
  rw [qkJ ax] at hs;rw [<-ax];generalize decide (x<0)=b0 at *;obtain⟨b1,Z⟩:=qY b0;obtain⟨a0,bm,om,c0,n0,M,rfl,Im,az⟩:=hm;obtain⟨a1,bo,oo,c1,n1,O,rfl,Io,aA⟩:=ho;have HT:=qH ht;have HS:=qH hs;clear ht hs Im az Io aA hx hy hK ax;rw [show (.agg #[.slice a1 n1 c1,.bool b0]:Value)=.agg #[.slice a1 n1 c1,.bool b1] by rw [Z]];have aK:(b0 == b1)=true:=by rw [Z];exact beq_self_eq_true b0
  clear Z;obtain⟨F,G⟩:=qY (((w.alloc (.cells #[.slice a0 n0 c0,.bool b0] (Pk.of V 125 217))).alloc (.cells #[.slice a1 n1 c1,.bool b1] (Pk.of V 125 217))).alloc (.cells #[.slice none 0 0,.bool false] (Pk.of V 125 217)));have Z:Below w.heap.size w F:=G▸((qB.alloc qN _).alloc (by simp only [qaa];omega) _).alloc (by simp only [qaa];omega) _;have ai:F.heap[w.heap.size]? = some (.cells #[.slice a0 n0 c0,.bool b0] (Pk.of V 125 217) (0,0)):=by rw [G,qL _ _ _ (by simp only [qaa];omega),qL _ _ _ (by simp only [qaa];omega)];exact qM _ _ _ (by simp)
  have aj:F.heap[w.heap.size+1]? = some (.cells #[.slice a1 n1 c1,.bool b1] (Pk.of V 125 217) (0,0)):=by rw [G,qL _ _ _ (by simp only [qaa];omega)];exact qM _ _ _ (by simp)
  have hr:F.heap[w.heap.size+1+1]? = some (.cells #[.slice none 0 0,.bool false] (Pk.of V 125 217) (0,0)):=by rw [G];exact qM _ _ _ (by simp)
  have l2:w.heap.size+1+1<F.heap.size:=(qG hr).1;have aD:∀W,Below (w.heap.size+1+1) F W->W.cell? ⟨w.heap.size,0,none⟩=some (.slice a0 n0 c0):=fun W h=>(h.cell (p:=⟨w.heap.size,0,none⟩) (by show w.heap.size<_;omega)).trans (qC _ _ 0 _ _ _ ai)
  have aF:∀W,Below (w.heap.size+1+1) F W->W.cell? ⟨w.heap.size,1,none⟩=some (.bool b0):=fun W h=>(h.cell (p:=⟨w.heap.size,1,none⟩) (by show w.heap.size<_;omega)).trans (qC _ _ 1 _ _ _ ai)
  have aG:∀W,Below (w.heap.size+1+1) F W->W.cell? ⟨w.heap.size+1,0,none⟩=some (.slice a1 n1 c1):=fun W h=>(h.cell (p:=⟨w.heap.size+1,0,none⟩) (by show w.heap.size+1<_;omega)).trans (qC _ _ 0 _ _ _ aj)
  have aH:∀W,Below (w.heap.size+1+1) F W->W.cell? ⟨w.heap.size+1,1,none⟩=some (.bool b1):=fun W h=>(h.cell (p:=⟨w.heap.size+1,1,none⟩) (by show w.heap.size+1<_;omega)).trans (qC _ _ 1 _ _ _ aj)
  have Y:Below (w.heap.size+1+1) F F:=Below.refl _ _;have HR:=qH (qA Z hr);have I:=qH l2;clear ai aj hr Z;cases V <;> dsimp only [Pk.of] at * <;> (
  first | go_enter func108,ntmps108 | go_enter func154,ntmps154
  go_wp2_with fail;rw [<-G];clear G;have J:Below (w.heap.size+1+1) F F.drew:=Y.drew
  go_region_held3 (fun W=>Below (w.heap.size+1+1) F W) (first | with_reducible exact Y | with_reducible exact J | with_reducible exact aa | with_reducible exact U | ((iterate 2 refine Below.setCell ?_ (by exact qae _) _);exact aa)) (first | ((first | go_at_call 184 | go_at_call 213);refine (HT.o _ (HR.o.1.trans (J.mono (by omega)))).mono ?_;rintro e w2 ⟨p2,rfl,af,av⟩;have U:Below (w.heap.size+1+1) F w2:=J.trans (af.mono (qap (qai I.o Y.size)));have au:=qH (qA av ((af.block _ (qai I.o Y.size)).trans HR.o.2));clear af av) | ((first | go_at_call 123 | go_at_call 161);refine (HS.o _ _ au.o.1).mono ?_;rintro e w3 ⟨p3,rfl,ag,ah⟩;have aa:Below (w.heap.size+1+1) F w3:=U.trans (ag.mono (qak (qap I.o) U.size));obtain⟨a9,n9,c9,b9,rfl⟩:=qbN ah;have H:=(ag.block _ (qai I.o U.size)).trans au.o.2;have e0:=qC w3 _ 0 _ _ _ H;have e1:=qC w3 _ 1 _ _ _ H;have f0:=qF w3 _ 0 _ _ H;have f1:=qF w3 _ 1 _ _ H;have ae:=qH (qA ah H);clear ag ah H))
  go_wp2_with fail;exact qR (v:=.agg #[.slice a9 n9 c9,.bool b9]) (qcC rfl _ _ (w.heap.size+1+1) _ _ _ rfl (qcP ae.o.2 a9 n9 c9 b9) (by first | exact underlying125 | exact underlying217) rfl 2 (by kernel_rfl) rfl) rfl ⟨_,rfl,HR.o.1.trans (((aa.setCell (by exact qae _) _).setCell (by exact qae _) _).mono (by omega)),qcO ae.o.1 ae.o.2 a9 n9 c9 b9⟩)
 ·have hc:=fun (W:World) (h:Below w.heap.size w W)=>(qcJ V) x.natAbs y.natAbs K hK m o W (hm.below h) (ho.below h) hx hy
  have aJ:(decide (x<0) == decide (y<0))=false:=beq_eq_false_iff_ne.2 ax
  by_cases aB:x.natAbs<y.natAbs
  ·have ht:=fun (W:World) (h:Below w.heap.size w W)=>(qfL V) y.natAbs x.natAbs K hK o m W (ho.below h) (hm.below h) hy (qap aB)
   have hs:=fun (W:World) (p:Value) (h:MagAt W p (y.natAbs-x.natAbs))=>(qb2 V) (y.natAbs-x.natAbs) (decide (y<0)) p W h
   rw [qgp (fun e=>ax e.symm) (qap aB),Int.add_comm] at hs;rw [show cmp3 (x.natAbs:Int) (y.natAbs:Int) = -1 by unfold cmp3;rw [if_pos (by omega)]] at hc;generalize decide (x<0)=b0 at *;generalize decide (y<0)=b1 at *;obtain⟨a0,bm,om,c0,n0,M,rfl,Im,az⟩:=hm;obtain⟨a1,bo,oo,c1,n1,O,rfl,Io,aA⟩:=ho;have HT:=qH ht;have HS:=qH hs;have HC:=qH hc;clear ht hs hc Im az Io aA hx hy hK ax aB;obtain⟨F,G⟩:=qY (((w.alloc (.cells #[.slice a0 n0 c0,.bool b0] (Pk.of V 125 217))).alloc (.cells #[.slice a1 n1 c1,.bool b1] (Pk.of V 125 217))).alloc (.cells #[.slice none 0 0,.bool false] (Pk.of V 125 217)));have Z:Below w.heap.size w F:=G▸((qB.alloc qN _).alloc (by simp only [qaa];omega) _).alloc (by simp only [qaa];omega) _;have ai:F.heap[w.heap.size]? = some (.cells #[.slice a0 n0 c0,.bool b0] (Pk.of V 125 217) (0,0)):=by rw [G,qL _ _ _ (by simp only [qaa];omega),qL _ _ _ (by simp only [qaa];omega)];exact qM _ _ _ (by simp)
   have aj:F.heap[w.heap.size+1]? = some (.cells #[.slice a1 n1 c1,.bool b1] (Pk.of V 125 217) (0,0)):=by rw [G,qL _ _ _ (by simp only [qaa];omega)];exact qM _ _ _ (by simp)
   have hr:F.heap[w.heap.size+1+1]? = some (.cells #[.slice none 0 0,.bool false] (Pk.of V 125 217) (0,0)):=by rw [G];exact qM _ _ _ (by simp)
   have l2:w.heap.size+1+1<F.heap.size:=(qG hr).1;have aD:∀W,Below (w.heap.size+1+1) F W->W.cell? ⟨w.heap.size,0,none⟩=some (.slice a0 n0 c0):=fun W h=>(h.cell (p:=⟨w.heap.size,0,none⟩) (by show w.heap.size<_;omega)).trans (qC _ _ 0 _ _ _ ai)
   have aF:∀W,Below (w.heap.size+1+1) F W->W.cell? ⟨w.heap.size,1,none⟩=some (.bool b0):=fun W h=>(h.cell (p:=⟨w.heap.size,1,none⟩) (by show w.heap.size<_;omega)).trans (qC _ _ 1 _ _ _ ai)
   have aG:∀W,Below (w.heap.size+1+1) F W->W.cell? ⟨w.heap.size+1,0,none⟩=some (.slice a1 n1 c1):=fun W h=>(h.cell (p:=⟨w.heap.size+1,0,none⟩) (by show w.heap.size+1<_;omega)).trans (qC _ _ 0 _ _ _ aj)
   have aH:∀W,Below (w.heap.size+1+1) F W->W.cell? ⟨w.heap.size+1,1,none⟩=some (.bool b1):=fun W h=>(h.cell (p:=⟨w.heap.size+1,1,none⟩) (by show w.heap.size+1<_;omega)).trans (qC _ _ 1 _ _ _ aj)
   have Y:Below (w.heap.size+1+1) F F:=Below.refl _ _;have HR:=qH (qA Z hr);have I:=qH l2;clear ai aj hr Z;cases V <;> dsimp only [Pk.of] at * <;> (
   first | go_enter func108,ntmps108 | go_enter func154,ntmps154
   go_wp2_with fail;rw [<-G];clear G;refine (HC.o _ HR.o.1).mono ?_;rintro e w5 ⟨rfl,ay⟩;have ak:Below (w.heap.size+1+1) F w5:=ay.mono (qap I.o);have H5:=qH ((ay.block _ I.o).trans HR.o.2);clear ay;go_wp2_with fail;have J:Below (w.heap.size+1+1) F w5.drew:=ak.drew
   go_region_held3 (fun W=>Below (w.heap.size+1+1) F W) (first | with_reducible exact ak | with_reducible exact J | with_reducible exact aa | with_reducible exact U | ((iterate 2 refine Below.setCell ?_ (by exact qae _) _);exact aa)) (first | ((first | go_at_call 185 | go_at_call 215);refine (HT.o _ (HR.o.1.trans (J.mono (by omega)))).mono ?_;rintro e w2 ⟨p2,rfl,af,av⟩;have U:Below (w.heap.size+1+1) F w2:=J.trans (af.mono (qap (qai I.o ak.size)));have au:=qH (qA av ((af.block _ (qai I.o ak.size)).trans H5.o));clear af av) | ((first | go_at_call 123 | go_at_call 161);refine (HS.o _ _ au.o.1).mono ?_;rintro e w3 ⟨p3,rfl,ag,ah⟩;have aa:Below (w.heap.size+1+1) F w3:=U.trans (ag.mono (qak (qap I.o) U.size));obtain⟨a9,n9,c9,b9,rfl⟩:=qbN ah;have H:=(ag.block _ (qai I.o U.size)).trans au.o.2;have e0:=qC w3 _ 0 _ _ _ H;have e1:=qC w3 _ 1 _ _ _ H;have f0:=qF w3 _ 0 _ _ H;have f1:=qF w3 _ 1 _ _ H;have ae:=qH (qA ah H);clear ag ah H))
   go_wp2_with fail;exact qR (v:=.agg #[.slice a9 n9 c9,.bool b9]) (qcC rfl _ _ (w.heap.size+1+1) _ _ _ rfl (qcP ae.o.2 a9 n9 c9 b9) (by first | exact underlying125 | exact underlying217) rfl 2 (by kernel_rfl) rfl) rfl ⟨_,rfl,HR.o.1.trans (((aa.setCell (by exact qae _) _).setCell (by exact qae _) _).mono (by omega)),qcO ae.o.1 ae.o.2 a9 n9 c9 b9⟩)
  ·have ht:=fun (W:World) (h:Below w.heap.size w W)=>(qfL V) x.natAbs y.natAbs K hK m o W (hm.below h) (ho.below h) hx (by omega)
   have hs:=fun (W:World) (p:Value) (h:MagAt W p (x.natAbs-y.natAbs))=>(qb2 V) (x.natAbs-y.natAbs) (decide (x<0)) p W h
   rw [qgp ax (by omega)] at hs;obtain⟨cr,aC⟩:=qX (cmp3 (x.natAbs:Int) (y.natAbs:Int));have aI:¬cr<0:=by rw [<-aC];unfold cmp3;rw [if_neg (by omega)];split <;> omega
   rw [aC] at hc;generalize decide (x<0)=b0 at *;generalize decide (y<0)=b1 at *;obtain⟨a0,bm,om,c0,n0,M,rfl,Im,az⟩:=hm;obtain⟨a1,bo,oo,c1,n1,O,rfl,Io,aA⟩:=ho;have HT:=qH ht;have HS:=qH hs;have HC:=qH hc;clear ht hs hc Im az Io aA hx hy hK ax aB aC;obtain⟨F,G⟩:=qY (((w.alloc (.cells #[.slice a0 n0 c0,.bool b0] (Pk.of V 125 217))).alloc (.cells #[.slice a1 n1 c1,.bool b1] (Pk.of V 125 217))).alloc (.cells #[.slice none 0 0,.bool false] (Pk.of V 125 217)));have Z:Below w.heap.size w F:=G▸((qB.alloc qN _).alloc (by simp only [qaa];omega) _).alloc (by simp only [qaa];omega) _;have ai:F.heap[w.heap.size]? = some (.cells #[.slice a0 n0 c0,.bool b0] (Pk.of V 125 217) (0,0)):=by rw [G,qL _ _ _ (by simp only [qaa];omega),qL _ _ _ (by simp only [qaa];omega)];exact qM _ _ _ (by simp)
   have aj:F.heap[w.heap.size+1]? = some (.cells #[.slice a1 n1 c1,.bool b1] (Pk.of V 125 217) (0,0)):=by rw [G,qL _ _ _ (by simp only [qaa];omega)];exact qM _ _ _ (by simp)
   have hr:F.heap[w.heap.size+1+1]? = some (.cells #[.slice none 0 0,.bool false] (Pk.of V 125 217) (0,0)):=by rw [G];exact qM _ _ _ (by simp)
   have l2:w.heap.size+1+1<F.heap.size:=(qG hr).1;have aD:∀W,Below (w.heap.size+1+1) F W->W.cell? ⟨w.heap.size,0,none⟩=some (.slice a0 n0 c0):=fun W h=>(h.cell (p:=⟨w.heap.size,0,none⟩) (by show w.heap.size<_;omega)).trans (qC _ _ 0 _ _ _ ai)
   have aF:∀W,Below (w.heap.size+1+1) F W->W.cell? ⟨w.heap.size,1,none⟩=some (.bool b0):=fun W h=>(h.cell (p:=⟨w.heap.size,1,none⟩) (by show w.heap.size<_;omega)).trans (qC _ _ 1 _ _ _ ai)
   have aG:∀W,Below (w.heap.size+1+1) F W->W.cell? ⟨w.heap.size+1,0,none⟩=some (.slice a1 n1 c1):=fun W h=>(h.cell (p:=⟨w.heap.size+1,0,none⟩) (by show w.heap.size+1<_;omega)).trans (qC _ _ 0 _ _ _ aj)
   have aH:∀W,Below (w.heap.size+1+1) F W->W.cell? ⟨w.heap.size+1,1,none⟩=some (.bool b1):=fun W h=>(h.cell (p:=⟨w.heap.size+1,1,none⟩) (by show w.heap.size+1<_;omega)).trans (qC _ _ 1 _ _ _ aj)
   have Y:Below (w.heap.size+1+1) F F:=Below.refl _ _;have HR:=qH (qA Z hr);have I:=qH l2;clear ai aj hr Z;cases V <;> dsimp only [Pk.of] at * <;> (
   first | go_enter func108,ntmps108 | go_enter func154,ntmps154
   go_wp2_with fail;rw [<-G];clear G;refine (HC.o _ HR.o.1).mono ?_;rintro e w5 ⟨rfl,ay⟩;have ak:Below (w.heap.size+1+1) F w5:=ay.mono (qap I.o);have H5:=qH ((ay.block _ I.o).trans HR.o.2);clear ay;go_wp2_with fail;have J:Below (w.heap.size+1+1) F w5.drew:=ak.drew
   go_region_held3 (fun W=>Below (w.heap.size+1+1) F W) (first | with_reducible exact ak | with_reducible exact J | with_reducible exact aa | with_reducible exact U | ((iterate 2 refine Below.setCell ?_ (by exact qae _) _);exact aa)) (first | ((first | go_at_call 185 | go_at_call 215);refine (HT.o _ (HR.o.1.trans (J.mono (by omega)))).mono ?_;rintro e w2 ⟨p2,rfl,af,av⟩;have U:Below (w.heap.size+1+1) F w2:=J.trans (af.mono (qap (qai I.o ak.size)));have au:=qH (qA av ((af.block _ (qai I.o ak.size)).trans H5.o));clear af av) | ((first | go_at_call 123 | go_at_call 161);refine (HS.o _ _ au.o.1).mono ?_;rintro e w3 ⟨p3,rfl,ag,ah⟩;have aa:Below (w.heap.size+1+1) F w3:=U.trans (ag.mono (qak (qap I.o) U.size));obtain⟨a9,n9,c9,b9,rfl⟩:=qbN ah;have H:=(ag.block _ (qai I.o U.size)).trans au.o.2;have e0:=qC w3 _ 0 _ _ _ H;have e1:=qC w3 _ 1 _ _ _ H;have f0:=qF w3 _ 0 _ _ H;have f1:=qF w3 _ 1 _ _ H;have ae:=qH (qA ah H);clear ag ah H))
   go_wp2_with fail;exact qR (v:=.agg #[.slice a9 n9 c9,.bool b9]) (qcC rfl _ _ (w.heap.size+1+1) _ _ _ rfl (qcP ae.o.2 a9 n9 c9 b9) (by first | exact underlying125 | exact underlying217) rfl 2 (by kernel_rfl) rfl) rfl ⟨_,rfl,HR.o.1.trans (((aa.setCell (by exact qae _) _).setCell (by exact qae _) _).mono (by omega)),qcO ae.o.1 ae.o.2 a9 n9 c9 b9⟩)
def qcb (z:Int):ByteArray:=⟨(itxt z).toArray⟩
theorem qjk {z:Int} (h:z<0):qcb z=⟨#[45]⟩++num z.natAbs:=by
 apply ByteArray.ext;rw [ByteArray.data_append];unfold qcb itxt num;rw [if_pos h];simp
theorem qjl {z:Int} (h:¬z<0):qcb z=num z.natAbs:=by
 unfold qcb itxt num;rw [if_neg h]
theorem ql6 {x K:Nat} (h:Fit x K) (F:0<K):(num x).size<=9*K:=by
 rw [qdD];refine qck _ _ (by omega) ?_;rw [<-pow9];exact h
theorem qgr (U:Pk) (z:Int) (K:Nat) (aa:0<K) (hK:K<=137438953472) (v:Value) (w:World) (hv:IntAt w v z) (Y:Fit z.natAbs K) (hT:HasT w) :
  Calls prog (Pk.of U 167 222) #[v] w fun e w'=>e=.returned (.string (qcb z))/\Below w.heap.size w w':=by
 obtain⟨m,rfl,hm⟩:=hv;have V:=fun (W:World) (h:Below w.heap.size w W)=>(qd8 U) z.natAbs K (by omega) m W (hm.below h) Y (hT.below h)
 have hn:=ql6 Y aa;have H:Hu (∀cs,Below w.heap.size w (w.alloc (.cells cs (Pk.of U 125 217)))):=qH fun cs=>qB.alloc qN _
 by_cases I:z<0
 ·rw [qjk I,qV I];generalize num z.natAbs=t at *;have O:∀W,(Op.stringOp .add ⟨#[45]⟩ t).run prog W=.ok (.string (⟨#[45]⟩++t)) W:=fun W=>run_string_add_sum W _ _ (by have:(⟨#[45]⟩:ByteArray).size=1:=rfl;omega)
  obtain⟨T,J⟩:=qX ((⟨#[45]⟩:ByteArray)++t);rw [J] at O ⊢;have HD:=qH V;obtain⟨am,bm,om,cm,n,M,rfl,Im,G⟩:=hm;clear V J Im G hn I Y hT;cases U <;> dsimp only [Pk.of] at * <;> (
  first | go_enter func167,ntmps167 | go_enter func222,ntmps222
  go_wp2_with fail;refine (HD.o _ (H.o _)).mono ?_;rintro e w1 ⟨rfl,F⟩;have Z:=qH ((H.o _).trans (F.mono (H.o _).size));clear F;go_wp2;go_ret;exact⟨rfl,Z.o⟩)
 ·rw [qjl I,qU I];generalize num z.natAbs=t at *;have HD:=qH V;obtain⟨am,bm,om,cm,n,M,rfl,Im,G⟩:=hm;clear V Im G hn I Y hT;cases U <;> dsimp only [Pk.of] at * <;> (
  first | go_enter func167,ntmps167 | go_enter func222,ntmps222
  go_wp2_with fail;refine (HD.o _ (H.o _)).mono ?_;rintro e w1 ⟨rfl,F⟩;have Z:=qH ((H.o _).trans (F.mono (H.o _).size));clear F;go_wp2;go_ret;exact⟨rfl,Z.o⟩)
theorem qgq (z:Int) (v:Value) (w:World) (V:IntAt w v z) :
  Calls prog 110 #[v] w fun e w'=>e=.returned (.int .i64 (cmp3 z 0))/\Below w.heap.size w w':=by
 obtain⟨m,rfl,J⟩:=V;have F:=fun (W:World) (h:Below w.heap.size w W)=>(qcq .f) z.natAbs m W (J.below h)
 have G:Hu (∀cs,Below w.heap.size w (w.alloc (.cells cs 125))):=qH fun cs=>qB.alloc qN _
 obtain⟨am,bm,Y,cm,n,M,rfl,U,I⟩:=J;clear U I;rcases Int.lt_trichotomy z 0 with h | h | h
 ·rw [qV h,show cmp3 z 0 = -1 by unfold cmp3;rw [if_pos h]];rw [qU (show ¬z.natAbs=0 by omega)] at F;have H:=qH F;clear F h;go_enter func110,ntmps110;go_wp2_with fail;refine (H.o _ (G.o _)).mono ?_;rintro e O ⟨rfl,rfl⟩;go_wp2;go_ret;exact⟨rfl,G.o _⟩
 ·subst h;rw [qU (by omega:¬(0:Int)<0),show cmp3 0 0=0 from rfl];rw [qV (show (0:Int).natAbs=0 from rfl)] at F;have H:=qH F;clear F;go_enter func110,ntmps110;go_wp2_with fail;refine (H.o _ (G.o _)).mono ?_;rintro e O ⟨rfl,rfl⟩;go_wp2;go_ret;exact⟨rfl,G.o _⟩
 ·rw [qU (by omega:¬z<0),show cmp3 z 0=1 by unfold cmp3;rw [if_neg (by omega),if_neg (by omega)]];rw [qU (show ¬z.natAbs=0 by omega)] at F;have H:=qH F;clear F h;go_enter func110,ntmps110;go_wp2_with fail;refine (H.o _ (G.o _)).mono ?_;rintro e O ⟨rfl,rfl⟩;go_wp2;go_ret;exact⟨rfl,G.o _⟩
theorem qeh (x y K J:Nat) (hK:K<=137438953472) (hJ:J<=137438953472) (ag:0<x) (ah:0<y) (vm vo:Value) (w:World) (hm:MagAt w vm x) (ho:MagAt w vo y) (hx:Fit x K) (Z:Fit y J) :
  Calls prog 158 #[vm,vo] w fun e w'=>∃v,e=.returned v/\Below w.heap.size w w'/\MagAt w' v (x.lcm y):=by
 have af:0<x.gcd y:=Nat.gcd_pos_of_pos_left _ ag;have F:K<=max K J/\J<=max K J/\max K J<=137438953472:=by omega
 have I:=(qcD .l) x y (max K J) F.2.2 vm vo w hm ho (hx.mono F.1) (Z.mono F.2.1);have H:=fun (W:World) (g:Value) (hg:MagAt W g (x.gcd y)) (h:Below w.heap.size w W)=>(qbV .l) y (x.gcd y) (max K J) F.2.2 vo g W (ho.below h) hg (Z.mono F.2.1) ((Z.le (Nat.gcd_le_right _ ah)).mono F.2.1) af
 have G:=fun (W:World) (d:Value) (hd:MagAt W d (y / x.gcd y)) (h:Below w.heap.size w W)=>(qb9 .l) x (y / x.gcd y) K J (by omega) vm d W (hm.below h) hd hx (Z.le (qaM _ _))
 rw [<-Nat.mul_div_assoc _ (qaR x y)] at G;have HG:=qH I;have HD:=qH H;have HT:=qH G;obtain⟨am,bm,om,cm,n,M,rfl,Im,aa⟩:=hm;obtain⟨ao,bo,oo,co,no,O,rfl,Io,ae⟩:=ho;clear I H G Im aa Io ae hx Z;go_enter func158,ntmps158;go_wp2_with fail;refine HG.o.mono ?_;rintro e w1 ⟨g,rfl,U,hg⟩;have H1:=qH (qA U hg);clear U hg;go_wp2_with fail;refine (HD.o _ _ H1.o.2 H1.o.1).mono ?_;rintro e w2 ⟨q,r,rfl,V,hq,_⟩;have H2:=qH (qA (H1.o.1.trans (V.mono H1.o.1.size)) hq);clear V hq;go_wp2_with fail;refine (HT.o _ _ H2.o.2 H2.o.1).mono ?_;rintro e w3 ⟨v,rfl,Y,hv⟩;have H3:=qH (qA (H2.o.1.trans (Y.mono H2.o.1.size)) hv);clear Y hv;go_wp2;go_ret;exact⟨_,rfl,H3.o.1,H3.o.2⟩
structure FOk (n d:List UInt8):Prop where
 vn:Valid n
 vd:Valid d
 pos:0<ival d
 cop:(ival n).natAbs.gcd (ival d).natAbs=1
def RatAt (W:World) (v:Value) (z:Int) (d:Nat):Prop:=∃m o,v=.agg #[m,.bool (decide (z<0)),o]/\MagAt W m z.natAbs/\MagAt W o d
theorem RatAt.below {W W':World} {v:Value} {z:Int} {d:Nat} (h:RatAt W v z d) (F:Below W.heap.size W W'):RatAt W' v z d:=by
 obtain⟨m,o,G,H,I⟩:=h;exact⟨m,o,G,H.below F,I.below F⟩
theorem qbM {B:Nat} {a W:World} {o:Obj} (h:Below B a W) (hB:B<=a.heap.size):Below B a (W.alloc o):=h.alloc (qak hB h.size) o
theorem bjoin {B:Nat} {a W W':World} (h:Below B a W) (k:Below W.heap.size W W') (hB:B=a.heap.size:=by rfl):Below B a W':=h.trans (k.mono (by rw [hB];exact h.size))
theorem zkeep {W W':World} (h:Below W.heap.size W W'):∀(g:Nat) (o:Obj),W.heap[g]? = some o->W'.heap[g]? = some o:=fun g _ hg=>(h.block g (qG hg).1).trans hg
theorem qgw {W:World} {g:Nat} {t:TypeId} (h:W.heap[g]? = some (.cells #[.slice none 0 0,.bool false] t (0,0))) (a:Option Addr) (n c:Nat) (b:Bool) :
  ((W.setCell ⟨g,0,none⟩ (.slice a n c)).setCell ⟨g,1,none⟩ (.bool b)).heap[g]? = some (.cells #[.slice a n c,.bool b] t (0,0)) /\
  (∀k,k≠g->((W.setCell ⟨g,0,none⟩ (.slice a n c)).setCell ⟨g,1,none⟩ (.bool b)).heap[k]? = W.heap[k]?) /\
  (∀m F z,IntAt W (.agg #[m,.bool F]) z->IntAt ((W.setCell ⟨g,0,none⟩ (.slice a n c)).setCell ⟨g,1,none⟩ (.bool b)) (.agg #[m,.bool F]) z) :=
 ⟨qcP h a n c b,fun _k G=>(qW _ _ _ _ G).trans (qW _ _ _ _ G),fun _ _ _ H=>qcO H h a n c b⟩
theorem zdrew {W:World} {g:Nat} {o:Option Obj} (h:W.heap[g]? = o):W.drew.heap[g]? = o:=h
theorem qeB:∀x∈(#[.slice none 0 0,.bool false,.slice none 0 0]:Array Value).toList,∀d,x≠.int .u32 d:=by
 intro x F d;rcases qay.1 F with rfl | F
 ·intro h;cases h
 ·rcases qay.1 F with rfl | F
  ·intro h;cases h
  ·rw [qao.1 F];intro h;cases h
def Two (F W:World) (G H:Nat) (v3:Option Addr×Nat×Nat×Bool) (v4:Option Addr×Nat×Nat×Bool) (z3 z4:Int):Prop :=
 W.heap[G]? = some (.cells #[.slice v3.1 v3.2.1 v3.2.2.1,.bool v3.2.2.2] 125 (0,0))/\W.heap[H]? = some (.cells #[.slice v4.1 v4.2.1 v4.2.2.1,.bool v4.2.2.2] 125 (0,0)) /\
  IntAt W (.agg #[.slice v3.1 v3.2.1 v3.2.2.1,.bool v3.2.2.2]) z3/\IntAt W (.agg #[.slice v4.1 v4.2.1 v4.2.2.1,.bool v4.2.2.2]) z4/\Below F.heap.size F W
section
variable {W2 W:World} {a3:Option Addr} {n3 c3:Nat} {b3:Bool} {a4:Option Addr} {n4 c4:Nat} {b4:Bool} {z3 z4:Int}
theorem two_aa (h:IntAt W (.agg #[.slice a3 n3 c3,.bool b3]) z3/\IntAt W (.agg #[.slice a4 n4 c4,.bool b4]) z4) (F:Below W2.heap.size W2 W) :
  Two W2 ((W.alloc (.cells #[.slice a3 n3 c3,.bool b3] 125)).alloc (.cells #[.slice a4 n4 c4,.bool b4] 125)) W.heap.size (W.heap.size+1) (a3,n3,c3,b3) (a4,n4,c4,b4) z3 z4 :=
 have k:=qbM (qbM (Below.refl W.heap.size W) qN) qN
 ⟨(qL _ _ _ (by simp only [qaa];omega)).trans (qM _ _ _ rfl),qM _ _ _ (by simp only [qaa]),h.1.below k,h.2.below k,qbM (qbM F qN) qN⟩
theorem two_bb (h:IntAt W (.agg #[.slice a3 n3 c3,.bool b3]) z3/\IntAt W (.agg #[.slice a4 n4 c4,.bool b4]) z4) (F:Below W2.heap.size W2 W) :
  Two W2 ((W.alloc (.cells #[.slice a4 n4 c4,.bool b4] 125)).alloc (.cells #[.slice a3 n3 c3,.bool b3] 125)) (W.heap.size+1) W.heap.size (a3,n3,c3,b3) (a4,n4,c4,b4) z3 z4 :=
 have k:=qbM (qbM (Below.refl W.heap.size W) qN) qN
 ⟨qM _ _ _ (by simp only [qaa]),(qL _ _ _ (by simp only [qaa];omega)).trans (qM _ _ _ rfl),h.1.below k,h.2.below k,qbM (qbM F qN) qN⟩
theorem two_pa {g:Nat} (h:IntAt W (.agg #[.slice a3 n3 c3,.bool b3]) z3/\IntAt W (.agg #[.slice a4 n4 c4,.bool b4]) z4) (G:Below W2.heap.size W2 W) (hg:W2.heap.size<=g) (F:W.heap[g]? = some (.cells #[.slice none 0 0,.bool false] 125 (0,0))) :
  Two W2 (((W.setCell ⟨g,0,none⟩ (.slice a3 n3 c3)).setCell ⟨g,1,none⟩ (.bool b3)).alloc (.cells #[.slice a4 n4 c4,.bool b4] 125)) g W.heap.size (a3,n3,c3,b3) (a4,n4,c4,b4) z3 z4:=by
 obtain⟨p1,p2,p3⟩:=qgw F a3 n3 c3 b3;have lt:=(qG F).1;have k:∀V:World,Below V.heap.size V (V.alloc (.cells #[.slice a4 n4 c4,.bool b4] 125)):=fun V=>qbM qB qN
 exact⟨(qL _ _ _ (by simp only [qbt];exact lt)).trans p1,qM _ _ _ (by simp only [qbt]),(p3 _ _ _ h.1).below (k _),(p3 _ _ _ h.2).below (k _),qbM ((G.setCell (by exact hg) _).setCell (by exact hg) _) qN⟩
theorem two_pb {g:Nat} (h:IntAt W (.agg #[.slice a3 n3 c3,.bool b3]) z3/\IntAt W (.agg #[.slice a4 n4 c4,.bool b4]) z4) (G:Below W2.heap.size W2 W) (hg:W2.heap.size<=g) (F:W.heap[g]? = some (.cells #[.slice none 0 0,.bool false] 125 (0,0))) :
  Two W2 (((W.setCell ⟨g,0,none⟩ (.slice a4 n4 c4)).setCell ⟨g,1,none⟩ (.bool b4)).alloc (.cells #[.slice a3 n3 c3,.bool b3] 125)) W.heap.size g (a3,n3,c3,b3) (a4,n4,c4,b4) z3 z4:=by
 obtain⟨p1,p2,p3⟩:=qgw F a4 n4 c4 b4;have lt:=(qG F).1;have k:∀V:World,Below V.heap.size V (V.alloc (.cells #[.slice a3 n3 c3,.bool b3] 125)):=fun V=>qbM qB qN
 exact⟨qM _ _ _ (by simp only [qbt]),(qL _ _ _ (by simp only [qbt];exact lt)).trans p1,(p3 _ _ _ h.1).below (k _),(p3 _ _ _ h.2).below (k _),qbM ((G.setCell (by exact hg) _).setCell (by exact hg) _) qN⟩
theorem two_pp {g F:Nat} (h:IntAt W (.agg #[.slice a3 n3 c3,.bool b3]) z3/\IntAt W (.agg #[.slice a4 n4 c4,.bool b4]) z4) (I:Below W2.heap.size W2 W) (hg:W2.heap.size<=g) (G:W2.heap.size<=F) (hne:g≠F) (J:W.heap[g]? = some (.cells #[.slice none 0 0,.bool false] 125 (0,0))) (H:W.heap[F]? = some (.cells #[.slice none 0 0,.bool false] 125 (0,0))) :
  Two W2 ((((W.setCell ⟨g,0,none⟩ (.slice a3 n3 c3)).setCell ⟨g,1,none⟩ (.bool b3)).setCell ⟨F,0,none⟩ (.slice a4 n4 c4)).setCell ⟨F,1,none⟩ (.bool b4)) g F (a3,n3,c3,b3) (a4,n4,c4,b4) z3 z4:=by
 obtain⟨p1,p2,p3⟩:=qgw J a3 n3 c3 b3;obtain⟨q1,q2,q3⟩:=qgw ((p2 F (Ne.symm hne)).trans H) a4 n4 c4 b4;exact⟨(q2 g hne).trans p1,q1,q3 _ _ _ (p3 _ _ _ h.1),q3 _ _ _ (p3 _ _ _ h.2),(((I.setCell (by exact hg) _).setCell (by exact hg) _).setCell (by exact G) _).setCell (by exact G) _⟩
end
def FReadsAs (w:World) (n d:List UInt8) (e:Ending) (w':World):Prop:=∃v F,e=.returned (.tuple #[v,.bool F])/\(F=true/\FOk n d/\RatAt w' v (ival n) (ival d).natAbs\/F=false/\¬FOk n d/\v=.agg #[.slice none 0 0,.bool false,.slice none 0 0])/\Below w.heap.size w w'
theorem qdM (n d:ByteArray) (w:World) :
  Calls prog 91 #[.agg #[.string n,.string d]] w fun e w'=>FReadsAs w n.data.toList d.data.toList e w':=by
 have aL:=fun W=>qfF n W
 have aX:=fun W=>qfF d W
 obtain⟨W1,aj⟩:=qY ((w.alloc (.cells #[.string n,.string d] 27)).alloc (.cells #[.slice none 0 0,.bool false,.slice none 0 0] 127));have U:Below w.heap.size w W1:=aj▸(qB.alloc qN _).alloc (by simp only [qaa];omega) _;have bA:W1.heap[w.heap.size]? = some (.cells #[.string n,.string d] 27 (0,0)):=by rw [aj,qL _ _ _ (by simp only [qaa];omega)];exact qM _ _ _ rfl
 have aS:W1.heap[w.heap.size+1]? = some (.cells #[.slice none 0 0,.bool false,.slice none 0 0] 127 (0,0)):=by rw [aj];exact qM _ _ _ (by simp)
 have l1:w.heap.size+1<W1.heap.size:=(qG aS).1;have bD:=qH aL;have bE:=qH aX;have HR:=qH (qA U (qA bA (qA aS l1)));clear aL aX U bA aS l1;have ae:Hu (∀W,Below W1.heap.size W1 W->W.heap[w.heap.size]? = some (.cells #[.string n,.string d] 27 (0,0))/\W.heap[w.heap.size+1]? = some (.cells #[.slice none 0 0,.bool false,.slice none 0 0] 127 (0,0))):=qH fun W h=>⟨(h.block _ (by have:=HR.o.2.2.2;omega)).trans HR.o.2.1,(h.block _ HR.o.2.2.2).trans HR.o.2.2.1⟩
 go_enter func91,ntmps91;go_wp2_with fail;rw [<-aj];clear aj;refine (bD.o _).mono ?_;rintro e w1 ⟨c1,rfl,bN,U⟩;rcases bN with ⟨rfl,aC⟩ | ⟨rfl,aC⟩
 ·have d1:=qC w1 _ 1 _ _ _ (ae.o w1 U).1;have H1:=qH (qA U aC);clear U aC;go_wp2_with fail;refine (bE.o _).mono ?_;rintro e I ⟨c2,rfl,bO,aV⟩;have V:Below W1.heap.size W1 I:=H1.o.1.trans (aV.mono H1.o.1.size);clear aV;rcases bO with ⟨rfl,ay⟩ | ⟨rfl,ay⟩
  ·have aB:Below I.heap.size I I:=Below.refl _ _;have bB:Below I.heap.size I I.drew:=aB.drew;have aY:I.drew.heap.size=I.heap.size:=rfl;have O:=ae.o I V;have l0:w.heap.size<I.heap.size:=(qG O.1).1;have C0:∀W,Below I.heap.size I W->W.cell? ⟨w.heap.size,0,none⟩=some (.string n):=fun W h=>(h.cell (p:=⟨w.heap.size,0,none⟩) l0).trans (qC _ _ 0 _ _ _ O.1)
   have C1:∀W,Below I.heap.size I W->W.cell? ⟨w.heap.size,1,none⟩=some (.string d):=fun W h=>(h.cell (p:=⟨w.heap.size,1,none⟩) l0).trans (qC _ _ 1 _ _ _ O.1)
   have bv:=fun W=>(qb7 .f) n H1.o.2 W
   have bz:=fun W=>(qb7 .f) d ay W
   have bJ:=qH bv;have bK:=qH bz;have H2:=qH (qA V (qA ay O));clear bv bz V ay O;go_wp2_with fail;have F:∀W:World,W.drew.heap.size=W.heap.size:=fun _=>rfl
   go_cut [4,5] (fun x4 x5 W=>∃(g3 g4:Nat) (a3:Option Addr) (n3 c3:Nat) (b3:Bool) (a4:Option Addr) (n4 c4:Nat) (b4:Bool),x4=.pointer (some ⟨g3,0,none⟩)/\x5=.pointer (some ⟨g4,0,none⟩)/\Two I W g3 g4 (a3,n3,c3,b3) (a4,n4,c4,b4) (ival n.data.toList) (ival d.data.toList))
   case first =>
    go_region_held3 (fun W=>Below I.heap.size I W) (first | with_reducible exact aB | with_reducible exact bB | with_reducible exact H | with_reducible exact G | ((repeat (first | refine Below.setCell ?_ (by first | exact qae _ | exact G.size | exact H.size | exact qam qN | exact qam G.size | exact qam H.size) _ | refine qbM ?_ qN | refine Below.drew ?_));first | exact H | exact G | exact aB)) (first | (go_at_call_of 120 (Value.string n);refine (bJ.o _).mono ?_;rintro e w3 ⟨p3,rfl,ak,aQ⟩;have G:Below I.heap.size I w3:=bjoin (by ((repeat (first | refine Below.setCell ?_ (by first | exact qae _ | exact G.size | exact H.size | exact qam qN | exact qam G.size | exact qam H.size) _ | refine qbM ?_ qN | refine Below.drew ?_));first | exact aB)) ak;obtain⟨a3,n3,c3,b3,rfl⟩:=qbN aQ;have aJ:=qH aQ;obtain⟨k3,bR⟩:=bcell ak;have Z3:=qH (zkeep ak);have s3:_<=_:=ak.size;(try simp only [qaa,aY,F] at s3);(try have q3:I.heap.size<w3.heap.size:=by omega);(try have r3:I.heap.size+1<w3.heap.size:=by omega);clear ak aQ) | (go_at_call_of 120 (Value.string d);refine (bK.o _).mono ?_;rintro e w4 ⟨p4,rfl,Y,aR⟩;have H:Below I.heap.size I w4:=bjoin (by ((repeat (first | refine Below.setCell ?_ (by first | exact qae _ | exact G.size | exact H.size | exact qam qN | exact qam G.size | exact qam H.size) _ | refine qbM ?_ qN | refine Below.drew ?_));first | exact G)) Y;obtain⟨a4,n4,c4,b4,rfl⟩:=qbN aR;have ai:=qH (qA (show IntAt w4 _ _ from (by first | exact aJ.o.below Y | exact (aJ.o.below (qbM qB qN)).below Y | exact (aJ.o.below (qbM (qbM qB qN) qN)).below Y)) aR);obtain⟨k4,bS⟩:=bcell Y;have Z4:=qH (zkeep Y);have s4:_<=_:=Y.size;(try simp only [qaa] at s4);(try have q4:I.heap.size<w4.heap.size:=by omega);(try have r4:I.heap.size+1<w4.heap.size:=by omega);(try have t4:w3.heap.size<w4.heap.size:=by omega);(try have u4:w3.heap.size+1<w4.heap.size:=by omega);clear Y aR))
    all_goals go_wp2_with fail
    all_goals go_meet
    all_goals refine⟨_,_,a3,n3,c3,b3,a4,n4,c4,b4,rfl,rfl,?_⟩
    all_goals first
     | with_reducible exact two_aa ai.o H
     | with_reducible exact two_bb ai.o H
     | (with_reducible refine two_pa ai.o H ?_ ?_;(first | exact qae _ | exact G.size | exact H.size | exact qa6 _ | exact qam G.size);(refine Z4.o _ _ ?_;((try with_reducible refine zdrew ?_);first | (refine qM _ _ _ ?_;((try simp only) <;> omega)) | (refine Z3.o _ _ ?_;((try with_reducible refine zdrew ?_);first | (refine qM _ _ _ ?_;((try simp only) <;> omega)) | (refine (qL _ _ _ ?_).trans ?_;((try simp only [qaa,F]);omega);(refine qM _ _ _ ?_;((try simp only [qaa,F]) <;> omega))))) | (refine (qL _ _ _ ?_).trans ?_;((try simp only [qaa,F]);omega);(first | (refine qM _ _ _ ?_;((try simp only [qaa,F]) <;> omega)) | (refine Z3.o _ _ ?_;((try with_reducible refine zdrew ?_);first | (refine qM _ _ _ ?_;((try simp only [qaa,F]) <;> omega)) | (refine (qL _ _ _ ?_).trans ?_;((try simp only [qaa,F]);omega);(refine qM _ _ _ ?_;((try simp only [qaa,F]) <;> omega))))))) | (refine (qL _ _ _ ?_).trans ?_;((try simp only [qaa,F]);omega);refine (qL _ _ _ ?_).trans ?_;((try simp only [qaa,F]);omega);(refine Z3.o _ _ ?_;((try with_reducible refine zdrew ?_);first | (refine qM _ _ _ ?_;((try simp only [qaa,F]) <;> omega)) | (refine (qL _ _ _ ?_).trans ?_;((try simp only [qaa,F]);omega);(refine qM _ _ _ ?_;((try simp only [qaa,F]) <;> omega)))))))))
     | (with_reducible refine two_pb ai.o H ?_ ?_;(first | exact qae _ | exact G.size | exact H.size | exact qa6 _ | exact qam G.size);(refine Z4.o _ _ ?_;((try with_reducible refine zdrew ?_);first | (refine qM _ _ _ ?_;((try simp only) <;> omega)) | (refine Z3.o _ _ ?_;((try with_reducible refine zdrew ?_);first | (refine qM _ _ _ ?_;((try simp only) <;> omega)) | (refine (qL _ _ _ ?_).trans ?_;((try simp only [qaa,F]);omega);(refine qM _ _ _ ?_;((try simp only [qaa,F]) <;> omega))))) | (refine (qL _ _ _ ?_).trans ?_;((try simp only [qaa,F]);omega);(first | (refine qM _ _ _ ?_;((try simp only [qaa,F]) <;> omega)) | (refine Z3.o _ _ ?_;((try with_reducible refine zdrew ?_);first | (refine qM _ _ _ ?_;((try simp only [qaa,F]) <;> omega)) | (refine (qL _ _ _ ?_).trans ?_;((try simp only [qaa,F]);omega);(refine qM _ _ _ ?_;((try simp only [qaa,F]) <;> omega))))))) | (refine (qL _ _ _ ?_).trans ?_;((try simp only [qaa,F]);omega);refine (qL _ _ _ ?_).trans ?_;((try simp only [qaa,F]);omega);(refine Z3.o _ _ ?_;((try with_reducible refine zdrew ?_);first | (refine qM _ _ _ ?_;((try simp only [qaa,F]) <;> omega)) | (refine (qL _ _ _ ?_).trans ?_;((try simp only [qaa,F]);omega);(refine qM _ _ _ ?_;((try simp only [qaa,F]) <;> omega)))))))))
     | (with_reducible refine two_pp ai.o H ?_ ?_ ?_ ?_ ?_;(first | exact qae _ | exact G.size | exact H.size | exact qa6 _ | exact qam G.size);(first | exact qae _ | exact G.size | exact H.size | exact qa6 _ | exact qam G.size);omega;(refine Z4.o _ _ ?_;((try with_reducible refine zdrew ?_);first | (refine qM _ _ _ ?_;((try simp only [qaa]) <;> omega)) | (refine Z3.o _ _ ?_;((try with_reducible refine zdrew ?_);first | (refine qM _ _ _ ?_;((try simp only [qaa]) <;> omega)) | (refine (qL _ _ _ ?_).trans ?_;((try simp only [qaa]);omega);(refine qM _ _ _ ?_;((try simp only) <;> omega))))) | (refine (qL _ _ _ ?_).trans ?_;((try simp only [qaa]);omega);(first | (refine qM _ _ _ ?_;((try simp only) <;> omega)) | (refine Z3.o _ _ ?_;((try with_reducible refine zdrew ?_);first | (refine qM _ _ _ ?_;((try simp only) <;> omega)) | (refine (qL _ _ _ ?_).trans ?_;((try simp only [qaa,F]);omega);(refine qM _ _ _ ?_;((try simp only [qaa,F]) <;> omega))))))) | (refine (qL _ _ _ ?_).trans ?_;((try simp only [qaa,F]);omega);refine (qL _ _ _ ?_).trans ?_;((try simp only [qaa,F]);omega);(refine Z3.o _ _ ?_;((try with_reducible refine zdrew ?_);first | (refine qM _ _ _ ?_;((try simp only [qaa,F]) <;> omega)) | (refine (qL _ _ _ ?_).trans ?_;((try simp only [qaa,F]);omega);(refine qM _ _ _ ?_;((try simp only [qaa,F]) <;> omega))))))));(refine Z4.o _ _ ?_;((try with_reducible refine zdrew ?_);first | (refine qM _ _ _ ?_;((try simp only [qaa]) <;> omega)) | (refine Z3.o _ _ ?_;((try with_reducible refine zdrew ?_);first | (refine qM _ _ _ ?_;((try simp only [qaa]) <;> omega)) | (refine (qL _ _ _ ?_).trans ?_;((try simp only [qaa]);omega);(refine qM _ _ _ ?_;((try simp only) <;> omega))))) | (refine (qL _ _ _ ?_).trans ?_;((try simp only [qaa]);omega);(first | (refine qM _ _ _ ?_;((try simp only) <;> omega)) | (refine Z3.o _ _ ?_;((try with_reducible refine zdrew ?_);first | (refine qM _ _ _ ?_;((try simp only) <;> omega)) | (refine (qL _ _ _ ?_).trans ?_;((try simp only [qaa,F]);omega);(refine qM _ _ _ ?_;((try simp only [qaa,F]) <;> omega))))))) | (refine (qL _ _ _ ?_).trans ?_;((try simp only [qaa,F]);omega);refine (qL _ _ _ ?_).trans ?_;((try simp only [qaa,F]);omega);(refine Z3.o _ _ ?_;((try with_reducible refine zdrew ?_);first | (refine qM _ _ _ ?_;((try simp only [qaa,F]) <;> omega)) | (refine (qL _ _ _ ?_).trans ?_;((try simp only [qaa,F]);omega);(refine qM _ _ _ ?_;((try simp only [qaa,F]) <;> omega)))))))))
   case rest =>
    obtain⟨g3,g4,a3,n3,c3,b3,a4,n4,c4,b4,rfl,rfl,h3,h4,au,ah,hb⟩:=hcut;dsimp only at h3 h4 au ah;have az:=qC wc _ 0 _ _ _ h3;have aU:=qC wc _ 1 _ _ _ h3;have aA:=qC wc _ 0 _ _ _ h4;have bL:=qC wc _ 1 _ _ _ h4;have aH:=qgq _ _ wc ah;have HS:=qH aH;have HH:=qH (qA h3 (qA h4 (qA au (qA ah hb))));have ax:wc.heap[w.heap.size+1]? = some (.cells #[.slice none 0 0,.bool false,.slice none 0 0] 127 (0,0)):=(hb.block _ (qG H2.o.2.2.2).1).trans H2.o.2.2.2;have H5:=qH (qA ax (HR.o.1.trans ((H2.o.1.trans (hb.mono H2.o.1.size)).mono HR.o.1.size)));clear h3 h4 au ah hb aH ax C0 C1;go_wp2_with fail;refine HS.o.mono ?_;rintro e w5 ⟨rfl,Z⟩;have bQ:=qH Z;have H6:=qH (qA ((Z.block _ (qG H5.o.1).1).trans H5.o.1) (H5.o.2.trans (Z.mono H5.o.2.size)));have au:=HH.o.2.2.1.below Z;have ah:=HH.o.2.2.2.1.below Z;have h3:=(Z.block _ (qG HH.o.1).1).trans HH.o.1;have h4:=(Z.block _ (qG HH.o.2.1).1).trans HH.o.2.1;clear Z az aU aA bL
    by_cases aG:0<ival d.data.toList
    ·rw [show cmp3 (ival d.data.toList) 0=1 by unfold cmp3;rw [if_neg (by omega),if_neg (by omega)]];have az:=qC w5 _ 0 _ _ _ h3;have aA:=qC w5 _ 0 _ _ _ h4;obtain⟨m3,av,aN⟩:=au;obtain⟨m4,aP,aO⟩:=ah;have bq:m3=.slice a3 n3 c3:=by simp only [qa1,qa2,qaU] at av;exact av.1.symm
     have bu:m4=.slice a4 n4 c4:=by simp only [qa1,qa2,qaU] at aP;exact aP.1.symm
     have aD:b3=decide (ival n.data.toList<0):=by simp only [qa1,qa2,qaU,Value.bool.injEq] at av;exact av.2.1
     subst bq bu;have bM:=H1.o.2.fit;have aZ:=H2.o.2.1.fit;have bf:=(qcD .f) (ival n.data.toList).natAbs (ival d.data.toList).natAbs 67 (by decide) _ _ w5 aN aO bM aZ;have bG:=qH bf;have HG:=qH (qA aN (qA aO (qA h3 (qA h4 aD))));clear bf aN aO h3 h4 av aP aD;go_wp2_with fail;refine bG.o.mono ?_;rintro e w7 ⟨vg,rfl,aW,bC⟩;have bn:Fit 1 67:=Fit.mono (show Fit 1 1 from (by show 1<1000000000 ^ 1;decide)) (by decide);have bi:Fit ((ival n.data.toList).natAbs.gcd (ival d.data.toList).natAbs) 67:=aZ.le (Nat.gcd_le_right _ (by omega));have aM:=(qcJ .f) ((ival n.data.toList).natAbs.gcd (ival d.data.toList).natAbs) 1 67 (by decide) vg (.slice (some ⟨w7.heap.size,0,none⟩) 1 1) (w7.alloc (.cells #[.int .u32 (1:Int)] 201)) (bC.below (qB.alloc qN _)) (qfu w7 _ (by decide) (by decide)) bi bn;obtain⟨cr,af⟩:=qX (cmp3 (((ival n.data.toList).natAbs.gcd (ival d.data.toList).natAbs:Nat):Int) ((1:Nat):Int));have aF:cr=0↔(ival n.data.toList).natAbs.gcd (ival d.data.toList).natAbs=1:=by
      rw [<-af];unfold cmp3
      constructor
      ·intro h;split at h
       ·omega
       ·split at h
        ·omega
        ·omega
      ·intro h;rw [if_neg (by omega),if_pos (by omega)]
     rw [af] at aM;have bF:=qH aM;have aI:=qH aF;have aT:=qH aW;obtain⟨ag,bg,og,cg,ng,Mg,rfl,_,_⟩:=bC;clear aM af aF aW bn bi az aA;go_wp2_with fail;refine bF.o.mono ?_;rintro e w8 ⟨rfl,aK⟩;have J:Below w5.heap.size w5 w8:=aT.o.trans (((qB.alloc qN _:Below w7.heap.size w7 (w7.alloc (.cells #[.int .u32 (1:Int)] 201))).trans (aK.mono (by simp only [qaa];omega))).mono aT.o.size);have H8:=qH (qA ((J.block _ (qG H6.o.1).1).trans H6.o.1) (H6.o.2.trans (J.mono H6.o.2.size)))
     by_cases aa:(ival n.data.toList).natAbs.gcd (ival d.data.toList).natAbs=1
     ·have af:cr=0:=aI.o.2 aa;have HY:Hu (FOk n.data.toList d.data.toList):=qH ⟨H1.o.2,H2.o.2.1,aG,aa⟩;have h3:=(J.block _ (qG HG.o.2.2.1).1).trans HG.o.2.2.1;have h4:=(J.block _ (qG HG.o.2.2.2.1).1).trans HG.o.2.2.2.1;have az:=qC w8 _ 0 _ _ _ h3;have aU:=qC w8 _ 1 _ _ _ h3;have aA:=qC w8 _ 0 _ _ _ h4;have bH:=qH (qdo (cs':=#[.slice a3 n3 c3,.bool b3,.slice a4 n4 c4]) (HG.o.1.below J) H8.o.1 qeB);have bI:=qH (qdo (cs':=#[.slice a3 n3 c3,.bool b3,.slice a4 n4 c4]) (HG.o.2.1.below J) H8.o.1 qeB);subst af;clear h3 h4 aK J aa
      go_wp2_with (with_reducible refine sR_ rfl 127 _ _ rfl (w.heap.size+1) #[.slice a3 n3 c3,.bool b3,.slice a4 n4 c4] H8.o.1 3 ?_)
      exact qR (v:=.tuple #[.agg #[.slice a3 n3 c3,.bool b3,.slice a4 n4 c4],.bool true]) (rB_ rfl (w.heap.size+1) (qT _ _ _ _ _ _ H8.o.1) underlying127 3) rfl ⟨_,_,rfl,qav ⟨rfl,HY.o,_,_,by rw [HG.o.2.2.2.2],bH.o,bI.o⟩,qS H8.o.2 (by omega) _⟩
     ·have HN:Hu (¬FOk n.data.toList d.data.toList):=qH (fun h=>aa h.cop);have af:((cr:Int) == 0)=false:=by rw [beq_eq_false_iff_ne];exact fun h=>aa (aI.o.1 h)
      have bP:¬cr=0:=fun h=>aa (aI.o.1 h)
      clear aK J aa
      go_wp2_with (with_reducible refine sR_ rfl 127 _ _ rfl (w.heap.size+1) #[.slice none 0 0,.bool false,.slice none 0 0] H8.o.1 3 ?_)
      exact qR (v:=.tuple #[.agg #[.slice none 0 0,.bool false,.slice none 0 0],.bool false]) (rB_ rfl (w.heap.size+1) (qT _ _ _ _ _ _ H8.o.1) underlying127 3) rfl ⟨_,_,rfl,qaj ⟨rfl,HN.o,rfl⟩,qS H8.o.2 (by omega) _⟩
    ·have HN:Hu (¬FOk n.data.toList d.data.toList):=qH (fun h=>aG h.pos);have aL:cmp3 (ival d.data.toList) 0<1:=by unfold cmp3;split <;> (try split) <;> omega
     generalize cmp3 (ival d.data.toList) 0=cr at *
     go_wp2_with (with_reducible refine sR_ rfl 127 _ _ rfl (w.heap.size+1) #[.slice none 0 0,.bool false,.slice none 0 0] H6.o.1 3 ?_)
     exact qR (v:=.tuple #[.agg #[.slice none 0 0,.bool false,.slice none 0 0],.bool false]) (rB_ rfl (w.heap.size+1) (qT _ _ _ _ _ _ H6.o.1) underlying127 3) rfl ⟨_,_,rfl,qaj ⟨rfl,HN.o,rfl⟩,qS H6.o.2 (by omega) _⟩
  ·have HX:=qH (qA ((ae.o I V).2) (HR.o.1.trans (V.mono HR.o.1.size)));have HN:Hu (¬FOk n.data.toList d.data.toList):=qH (fun h=>ay h.vd)
   go_wp2_with (with_reducible refine sR_ rfl 127 _ _ rfl (w.heap.size+1) #[.slice none 0 0,.bool false,.slice none 0 0] HX.o.1 3 ?_)
   exact qR (v:=.tuple #[.agg #[.slice none 0 0,.bool false,.slice none 0 0],.bool false]) (rB_ rfl (w.heap.size+1) (qT _ _ _ _ _ _ HX.o.1) underlying127 3) rfl ⟨_,_,rfl,qaj ⟨rfl,HN.o,rfl⟩,qS HX.o.2 (by omega) _⟩
 ·have HX:=qH (qA ((ae.o w1 U).2) (HR.o.1.trans (U.mono HR.o.1.size)));have HN:Hu (¬FOk n.data.toList d.data.toList):=qH (fun h=>aC h.vn)
  go_wp2_with (with_reducible refine sR_ rfl 127 _ _ rfl (w.heap.size+1) #[.slice none 0 0,.bool false,.slice none 0 0] HX.o.1 3 ?_)
  exact qR (v:=.tuple #[.agg #[.slice none 0 0,.bool false,.slice none 0 0],.bool false]) (rB_ rfl (w.heap.size+1) (qT _ _ _ _ _ _ HX.o.1) underlying127 3) rfl ⟨_,_,rfl,qaj ⟨rfl,HN.o,rfl⟩,qS HX.o.2 (by omega) _⟩
def RatV (W:World) (v:Value) (q:Rat):Prop:=RatAt W v q.num q.den
theorem RatV.below {W W':World} {v:Value} {q:Rat} (h:RatV W v q) (F:Below W.heap.size W W'):RatV W' v q:=RatAt.below h F
theorem qcV {W:World} {v:Value} {z:Int} {d:Nat} (h:RatAt W v z d):∃(a:Option Addr) (n c:Nat) (b:Bool) (F:Option Addr) (e f:Nat),v=.agg #[.slice a n c,.bool b,.slice F e f]:=by
 obtain⟨m,o,rfl,⟨am,bm,G,cm,n,M,rfl,_,_⟩,⟨ao,bo,H,co,no,O,rfl,_,_⟩⟩:=h;exact⟨am,n,cm,_,ao,no,co,rfl⟩
def RFit (q:Rat) (K:Nat):Prop:=Fit q.num.natAbs K/\Fit q.den K
theorem row_set3 {W:World} {g:Nat} {t:TypeId} (h:W.heap[g]? = some (.cells #[.slice none 0 0,.bool false,.slice none 0 0] t (0,0))) (a:Option Addr) (n c:Nat) (b:Bool) (d:Option Addr) (e f:Nat) :
  (((W.setCell ⟨g,0,none⟩ (.slice a n c)).setCell ⟨g,1,none⟩ (.bool b)).setCell ⟨g,2,none⟩ (.slice d e f)).heap[g]? = some (.cells #[.slice a n c,.bool b,.slice d e f] t (0,0)) :=
 heap_setCell_same _ g 2 _ t _ (heap_setCell_same _ g 1 _ t _ (heap_setCell_same _ g 0 _ t _ h))
theorem rat_set3 {W:World} {v:Value} {q:Rat} {g:Nat} {t:TypeId} (J:RatV W v q) (h:W.heap[g]? = some (.cells #[.slice none 0 0,.bool false,.slice none 0 0] t (0,0))) (a:Option Addr) (n c:Nat) (b:Bool) (d:Option Addr) (e f:Nat) :
  RatV (((W.setCell ⟨g,0,none⟩ (.slice a n c)).setCell ⟨g,1,none⟩ (.bool b)).setCell ⟨g,2,none⟩ (.slice d e f)) v q:=by
 obtain⟨m,o,G,H,I⟩:=J;have F:W.grownBy (((W.setCell ⟨g,0,none⟩ (.slice a n c)).setCell ⟨g,1,none⟩ (.bool b)).setCell ⟨g,2,none⟩ (.slice d e f)) (some g):=qbR (qbR (qbO W g 0 _) (qbO _ g 1 _)) (qbO _ g 2 _);exact⟨m,o,G,qch H F h qeB,qch I F h qeB⟩
theorem rmul_any (p q:Rat) (K:Nat) (hK:K<=68719476736) (v u:Value) (w:World) (hv:RatV w v p) (hu:RatV w u q) (hp:RFit p K) (hq:RFit q K) :
  Calls prog 188 #[v,u] w fun e w'=>∃r,e=.returned r/\Below w.heap.size w w'/\RatV w' r (p*q):=by
 obtain⟨mx,mX,rfl,hx,hX⟩:=hv;obtain⟨my,mY,rfl,hy,hY⟩:=hu;obtain⟨x,aT⟩:=qX p.num.natAbs;obtain⟨y,aU⟩:=qX q.num.natAbs;obtain⟨X,aL⟩:=qX p.den;obtain⟨Y,aN⟩:=qX q.den;have ax:=mul_low p.reduced q.reduced (qbc p.den_nz) (qbc q.den_nz);have aK:0<X:=aL▸qbc p.den_nz;have aM:0<Y:=aN▸qbc q.den_nz;obtain⟨fx,fX⟩:=hp;obtain⟨fy,fY⟩:=hq;rw [aT] at hx fx;rw [aU] at hy fy;rw [aL] at hX fX;rw [aN] at hY fY;rw [aT,aU,aL,aN] at ax;have bf:0<x.gcd Y:=qa5 _ aM;have bg:0<y.gcd X:=qa5 _ aK;have fg:Fit (x.gcd Y) K:=fY.le (Nat.gcd_le_right _ aM);have fh:Fit (y.gcd X) K:=fX.le (Nat.gcd_le_right _ aK);have aW:∀(W:World) (m o:Value),IntAt W m (if (decide (p.num<0) != decide (q.num<0))=true then -((x / x.gcd Y*(y / y.gcd X):Nat):Int) else ((x / x.gcd Y*(y / y.gcd X):Nat):Int))->MagAt W o (X / y.gcd X*(Y / x.gcd Y))->∃a n c b d e f,m=.agg #[.slice a n c,.bool b]/\o=.slice d e f/\RatV W (.agg #[.slice a n c,.bool b,.slice d e f]) (p*q):=by
  intro W m o hm ho;obtain⟨zz,bv⟩:=qX (if (decide (p.num<0) != decide (q.num<0))=true then -((x / x.gcd Y*(y / y.gcd X):Nat):Int) else ((x / x.gcd Y*(y / y.gcd X):Nat):Int));have bR:zz.natAbs=x / x.gcd Y*(y / y.gcd X):=by rw [<-bv];split <;> omega
  have bP:X / y.gcd X*(Y / x.gcd Y)≠0:=by
   have h1:=Nat.div_pos (qbD aK (qaR y X)) bg;have h2:=Nat.div_pos (qbD aM (qaR x Y)) bf;exact qbf (qbL h1 h2)
  have hq:=rat_mul (p:=p) (q:=q) (z:=zz) (d:=X / y.gcd X*(Y / x.gcd Y)) bP (by rw [bR];exact ax.1) (by
   have h2:=ax.2;have e1:((x / x.gcd Y*(y / y.gcd X):Nat):Int)*(X*Y:Nat)=((x*y:Nat):Int)*(X / y.gcd X*(Y / x.gcd Y):Nat):=by rw [<-Int.natCast_mul,<-Int.natCast_mul,h2]
   have e2:p.num*q.num=if (decide (p.num<0) != decide (q.num<0))=true then -((x*y:Nat):Int) else ((x*y:Nat):Int):=by
    rw [<-aT,<-aU];exact (qio p.num q.num).symm
   rw [aL,aN,e2,<-bv];split
   ·rw [qbx,qbx,e1]
   ·exact e1)
  rw [bv] at hm;obtain⟨a,n,c,b,rfl⟩:=qbN hm;obtain⟨m',bi,bO⟩:=hm;obtain⟨ao,bo,oo,co,no,O,rfl,Io,hO⟩:=ho;refine⟨a,n,c,b,ao,no,co,rfl,rfl,m',.slice ao no co,?_,?_,?_⟩
  ·simp only [qa1,qa2,qaU] at bi;rw [hq.1,<-bi.1,<-bi.2.1]
  ·rw [hq.1];exact bO
  ·rw [hq.2];exact⟨ao,bo,oo,co,no,O,rfl,Io,hO⟩
 have bz:=qH aW;generalize decide (p.num<0)=b0 at *;generalize decide (q.num<0)=b1 at *;have HX:=qH (qA hx (qA hX (qA hy hY)));have HF:=qH (qA fx (qA fX (qA fy fY)));have HP:=qH (qA aK (qA aM (qA bf (qA bg (qA fg fh)))));have HK:=qH hK;obtain⟨a0,_,_,c0,n0,_,rfl,_,_⟩:=hx;obtain⟨d0,_,_,f0,e0,_,rfl,_,_⟩:=hX;obtain⟨a1,_,_,c1,n1,_,rfl,_,_⟩:=hy;obtain⟨d1,_,_,f1,e1,_,rfl,_,_⟩:=hY;clear ax aW aK aM bf bg fg fh fx fX fy fY hK aT aU aL aN;obtain⟨I,aF⟩:=qY (((w.alloc (.cells #[.slice a0 n0 c0,.bool b0,.slice d0 e0 f0] 127)).alloc (.cells #[.slice a1 n1 c1,.bool b1,.slice d1 e1 f1] 127)).alloc (.cells #[.slice none 0 0,.bool false,.slice none 0 0] 127));have bG:Below w.heap.size w I:=aF▸qbM (qbM (qbM qB qN) qN) qN;have aR:I.heap[w.heap.size]? = some (.cells #[.slice a0 n0 c0,.bool b0,.slice d0 e0 f0] 127 (0,0)):=by rw [aF,qL _ _ _ (by simp only [qaa];omega),qL _ _ _ (by simp only [qaa];omega)];exact qM _ _ _ (by simp)
 have aS:I.heap[w.heap.size+1]? = some (.cells #[.slice a1 n1 c1,.bool b1,.slice d1 e1 f1] 127 (0,0)):=by rw [aF,qL _ _ _ (by simp only [qaa];omega)];exact qM _ _ _ (by simp)
 have bq:I.heap[w.heap.size+1+1]? = some (.cells #[.slice none 0 0,.bool false,.slice none 0 0] 127 (0,0)):=by rw [aF];exact qM _ _ _ (by simp)
 have l2:w.heap.size+1+1<I.heap.size:=(qG bq).1;have ay:∀W,Below (w.heap.size+1+1) I W->W.cell? ⟨w.heap.size,0,none⟩=some (.slice a0 n0 c0):=fun W h=>(h.cell (p:=⟨w.heap.size,0,none⟩) (by show w.heap.size<_;omega)).trans (qC _ _ 0 _ _ _ aR)
 have az:∀W,Below (w.heap.size+1+1) I W->W.cell? ⟨w.heap.size,1,none⟩=some (.bool b0):=fun W h=>(h.cell (p:=⟨w.heap.size,1,none⟩) (by show w.heap.size<_;omega)).trans (qC _ _ 1 _ _ _ aR)
 have aA:∀W,Below (w.heap.size+1+1) I W->W.cell? ⟨w.heap.size,2,none⟩=some (.slice d0 e0 f0):=fun W h=>(h.cell (p:=⟨w.heap.size,2,none⟩) (by show w.heap.size<_;omega)).trans (qC _ _ 2 _ _ _ aR)
 have aB:∀W,Below (w.heap.size+1+1) I W->W.cell? ⟨w.heap.size+1,0,none⟩=some (.slice a1 n1 c1):=fun W h=>(h.cell (p:=⟨w.heap.size+1,0,none⟩) (by show w.heap.size+1<_;omega)).trans (qC _ _ 0 _ _ _ aS)
 have aC:∀W,Below (w.heap.size+1+1) I W->W.cell? ⟨w.heap.size+1,1,none⟩=some (.bool b1):=fun W h=>(h.cell (p:=⟨w.heap.size+1,1,none⟩) (by show w.heap.size+1<_;omega)).trans (qC _ _ 1 _ _ _ aS)
 have aD:∀W,Below (w.heap.size+1+1) I W->W.cell? ⟨w.heap.size+1,2,none⟩=some (.slice d1 e1 f1):=fun W h=>(h.cell (p:=⟨w.heap.size+1,2,none⟩) (by show w.heap.size+1<_;omega)).trans (qC _ _ 2 _ _ _ aS)
 have HR:=qH (qA bG bq);have aj:=qH l2;clear aR aS bq bG;go_enter func188,ntmps188;go_wp2_with fail;rw [<-aF];clear aF;refine ((qcD .f) x Y K (by have:=HK.o;omega) _ _ I (HX.o.1.below HR.o.1) (HX.o.2.2.2.below HR.o.1) HF.o.1 HF.o.2.2.2).mono ?_;rintro e w2 ⟨vg,rfl,F,hv⟩;have Mw2_g:=qH hv;have H:Hu (Below w.heap.size w w2/\Below (w.heap.size+1+1) I w2):=qH ⟨HR.o.1.trans (F.mono HR.o.1.size),F.mono (qap aj.o)⟩;have bB:=qH ((F.block _ (qG HR.o.2).1).trans HR.o.2);obtain⟨sg,_,_,ug,tg,_,rfl,_,_⟩:=hv;clear F;have aa:=ay w2 H.o.2;have ae:=az w2 H.o.2;have af:=aA w2 H.o.2;have ag:=aB w2 H.o.2;have ah:=aC w2 H.o.2;have ai:=aD w2 H.o.2;go_wp2_with fail;refine ((qcD .f) y X K (by have:=HK.o;omega) _ _ w2 (HX.o.2.2.1.below H.o.1) (HX.o.2.1.below H.o.1) HF.o.2.2.1 HF.o.2.1).mono ?_;rintro e w3 ⟨vh,rfl,F,hv⟩;have Mw3_g:=qH (Mw2_g.o.below F);have Mw3_h:=qH hv;have J:Hu (Below w.heap.size w w3/\Below (w.heap.size+1+1) I w3):=qH ⟨H.o.1.trans (F.mono H.o.1.size),(H.o.2).trans (F.mono (qak (qap aj.o) (H.o.2).size))⟩;have bC:=qH ((F.block _ (qG bB.o).1).trans bB.o);obtain⟨sh,_,_,uh,th,_,rfl,_,_⟩:=hv;clear F aa;have aa:=ay w3 J.o.2;clear ae;have ae:=az w3 J.o.2;clear af;have af:=aA w3 J.o.2;clear ag;have ag:=aB w3 J.o.2;clear ah;have ah:=aC w3 J.o.2;clear ai;have ai:=aD w3 J.o.2;go_wp2_with fail;refine ((qbV .f) x (x.gcd Y) K (by have:=HK.o;omega) _ _ w3 (HX.o.1.below J.o.1) Mw3_g.o HF.o.1 HP.o.2.2.2.2.1 HP.o.2.2.1).mono ?_;rintro e w4 ⟨va,_,rfl,F,hv,_⟩;have Mw4_g:=qH (Mw3_g.o.below F);have Mw4_h:=qH (Mw3_h.o.below F);have Mw4_a:=qH hv;have U:Hu (Below w.heap.size w w4/\Below (w.heap.size+1+1) I w4):=qH ⟨J.o.1.trans (F.mono J.o.1.size),(J.o.2).trans (F.mono (qak (qap aj.o) (J.o.2).size))⟩;have bD:=qH ((F.block _ (qG bC.o).1).trans bC.o);obtain⟨sa,_,_,ua,ta,_,rfl,_,_⟩:=hv;clear F aa;have aa:=ay w4 U.o.2;clear ae;have ae:=az w4 U.o.2;clear af;have af:=aA w4 U.o.2;clear ag;have ag:=aB w4 U.o.2;clear ah;have ah:=aC w4 U.o.2;clear ai;have ai:=aD w4 U.o.2;go_wp2_with fail;refine ((qbV .f) X (y.gcd X) K (by have:=HK.o;omega) _ _ w4 (HX.o.2.1.below U.o.1) Mw4_h.o HF.o.2.1 HP.o.2.2.2.2.2 HP.o.2.2.2.1).mono ?_;rintro e w5 ⟨vb,_,rfl,F,hv,_⟩;have Mw5_g:=qH (Mw4_g.o.below F);have Mw5_h:=qH (Mw4_h.o.below F);have Mw5_a:=qH (Mw4_a.o.below F);have Mw5_b:=qH hv;have V:Hu (Below w.heap.size w w5/\Below (w.heap.size+1+1) I w5):=qH ⟨U.o.1.trans (F.mono U.o.1.size),(U.o.2).trans (F.mono (qak (qap aj.o) (U.o.2).size))⟩;have bE:=qH ((F.block _ (qG bD.o).1).trans bD.o);obtain⟨sb,_,_,ub,tb,_,rfl,_,_⟩:=hv;clear F aa;have aa:=ay w5 V.o.2;clear ae;have ae:=az w5 V.o.2;clear af;have af:=aA w5 V.o.2;clear ag;have ag:=aB w5 V.o.2;clear ah;have ah:=aC w5 V.o.2;clear ai;have ai:=aD w5 V.o.2;go_wp2_with fail;refine ((qbV .f) y (y.gcd X) K (by have:=HK.o;omega) _ _ w5 (HX.o.2.2.1.below V.o.1) Mw5_h.o HF.o.2.2.1 HP.o.2.2.2.2.2 HP.o.2.2.2.1).mono ?_;rintro e w6 ⟨vc,_,rfl,F,hv,_⟩;have Mw6_g:=qH (Mw5_g.o.below F);have Mw6_h:=qH (Mw5_h.o.below F);have Mw6_a:=qH (Mw5_a.o.below F);have Mw6_b:=qH (Mw5_b.o.below F);have Mw6_c:=qH hv;have Z:Hu (Below w.heap.size w w6/\Below (w.heap.size+1+1) I w6):=qH ⟨V.o.1.trans (F.mono V.o.1.size),(V.o.2).trans (F.mono (qak (qap aj.o) (V.o.2).size))⟩;have bF:=qH ((F.block _ (qG bE.o).1).trans bE.o);obtain⟨sc,_,_,uc,tc,_,rfl,_,_⟩:=hv;clear F aa;have aa:=ay w6 Z.o.2;clear ae;have ae:=az w6 Z.o.2;clear af;have af:=aA w6 Z.o.2;clear ag;have ag:=aB w6 Z.o.2;clear ah;have ah:=aC w6 Z.o.2;clear ai;have ai:=aD w6 Z.o.2;go_wp2_with fail;refine ((qbV .f) Y (x.gcd Y) K (by have:=HK.o;omega) _ _ w6 (HX.o.2.2.2.below Z.o.1) Mw6_g.o HF.o.2.2.2 HP.o.2.2.2.2.1 HP.o.2.2.1).mono ?_;rintro e w7 ⟨vd,_,rfl,F,hv,_⟩;have Mw7_g:=qH (Mw6_g.o.below F);have Mw7_h:=qH (Mw6_h.o.below F);have Mw7_a:=qH (Mw6_a.o.below F);have Mw7_b:=qH (Mw6_b.o.below F);have Mw7_c:=qH (Mw6_c.o.below F);have Mw7_d:=qH hv;have au:Hu (Below w.heap.size w w7/\Below (w.heap.size+1+1) I w7):=qH ⟨Z.o.1.trans (F.mono Z.o.1.size),(Z.o.2).trans (F.mono (qak (qap aj.o) (Z.o.2).size))⟩;have bN:=qH ((F.block _ (qG bF.o).1).trans bF.o);obtain⟨sd,_,_,ud,td,_,rfl,_,_⟩:=hv;clear F aa;have aa:=ay w7 au.o.2;clear ae;have ae:=az w7 au.o.2;clear af;have af:=aA w7 au.o.2;clear ag;have ag:=aB w7 au.o.2;clear ah;have ah:=aC w7 au.o.2;clear ai;have ai:=aD w7 au.o.2;have bL:=qH (fun (W:World) (h:Below w7.heap.size w7 W)=>(qb9 .f) (x / x.gcd Y) (y / y.gcd X) K K (by have:=HK.o;omega) (.slice sa ta ua) (.slice sc tc uc) W (Mw7_a.o.below h) (Mw7_c.o.below h) (HF.o.1.le (qaM _ _)) (HF.o.2.2.1.le (qaM _ _)));have bM:=qH (fun (W:World) (h:Below w7.heap.size w7 W)=>(qb9 .f) (X / y.gcd X) (Y / x.gcd Y) K K (by have:=HK.o;omega) (.slice sb tb ub) (.slice sd td ud) W (Mw7_b.o.below h) (Mw7_d.o.below h) (HF.o.2.1.le (qaM _ _)) (HF.o.2.2.2.le (qaM _ _)));have HS:=qH (fun (W:World) (m:Value) (h:MagAt W m (x / x.gcd Y*(y / y.gcd X)))=>(qb2 .f) (x / x.gcd Y*(y / y.gcd X)) (b0 != b1) m W h);have bu:Below (w.heap.size+1+1) I w7:=au.o.2;have aX:Below (w.heap.size+1+1) I w7.drew:=bu.drew;have bJ:w.heap.size+1+1<w7.heap.size:=qai aj.o bu.size;have bA:=qH bJ;clear bJ;go_wp2_with fail
 go_region_held3 (fun W=>Below (w.heap.size+1+1) I W) (first | with_reducible exact bu | with_reducible exact aX | with_reducible exact aH | with_reducible exact aZ | with_reducible exact aY | ((iterate 3 refine Below.setCell ?_ (by exact qae _) _);exact aH)) (first | (go_at_call_of 183 (Value.slice sa ta ua);refine (bL.o _ (qB.drew)).mono ?_;rintro e w8 ⟨p8,rfl,aP,bI⟩;have aY:Below (w.heap.size+1+1) I w8:=aX.trans (aP.mono (qap bA.o));have aJ:=qH (qA bI (qA ((aP.block _ bA.o).trans bN.o) (((Below.refl w7.heap.size w7).drew).trans aP)));clear aP bI) | (go_at_call 123;refine (HS.o _ _ aJ.o.1).mono ?_;rintro e w9 ⟨p9,rfl,aQ,bn⟩;have aZ:Below (w.heap.size+1+1) I w9:=aY.trans (aQ.mono (qak (qap aj.o) aY.size));obtain⟨a9,n9,c9,b9,rfl⟩:=qbN bn;have aO:=qH (qA bn (qA ((aQ.block _ (qG aJ.o.2.1).1).trans aJ.o.2.1) (aJ.o.2.2.trans (aQ.mono aJ.o.2.2.size))));clear aQ bn) | (go_at_call_of 183 (Value.slice sb tb ub);refine (bM.o _ aO.o.2.2).mono ?_;rintro e ak ⟨bS,rfl,av,aV⟩;have aH:Below (w.heap.size+1+1) I ak:=aZ.trans (av.mono (qak (qap aj.o) aZ.size));obtain⟨a8,n8,c8,b8,d8,e8,f8,aG,bQ,bK⟩:=bz.o ak _ _ (aO.o.1.below av) aV;have G:=(av.block _ (qG aO.o.2.1).1).trans aO.o.2.1;subst bQ;have e0:=qC ak _ 0 _ _ _ G;have e1:=qC ak _ 1 _ _ _ G;have e2:=qC ak _ 2 _ _ _ G;have f0:=qF ak _ 0 _ _ G;have f1:=qF ak _ 1 _ _ G;have f2:=qF ak _ 2 _ _ G;have bH:a8=a9/\n8=n9/\c8=c9/\b8=b9:=(by simp only [qa1,qa2,qaU,qby,Value.bool.injEq] at aG;exact⟨aG.1.1.symm,aG.1.2.1.symm,aG.1.2.2.symm,aG.2.1.symm⟩);obtain⟨rfl,rfl,rfl,rfl⟩:=bH;have aI:=qH (qA bK G);clear av aV aG bK G))
 go_wp2_with fail;exact qR (v:=.agg #[.slice a8 n8 c8,.bool b8,.slice d8 e8 f8]) (rA_ rfl (w.heap.size+1+1) (row_set3 aI.o.2 a8 n8 c8 b8 d8 e8 f8) underlying127 3) rfl ⟨_,rfl,HR.o.1.trans ((((aH.setCell (by exact qae _) _).setCell (by exact qae _) _).setCell (by exact qae _) _).mono (by omega)),rat_set3 aI.o.1 aI.o.2 _ _ _ _ _ _ _⟩
def One (F W:World) (g:Nat) (v:Option Addr×Nat×Nat×Bool) (z:Int):Prop :=
 W.heap[g]? = some (.cells #[.slice v.1 v.2.1 v.2.2.1,.bool v.2.2.2] 125 (0,0))/\IntAt W (.agg #[.slice v.1 v.2.1 v.2.2.1,.bool v.2.2.2]) z/\Below F.heap.size F W
theorem qfC {W:World} {v:Value} {q:Rat} {g:Nat} {t:TypeId} {cs':Array Value} (I:RatV W v q) (h:W.heap[g]? = some (.cells #[.slice none 0 0,.bool false,.slice none 0 0] t (0,0))):RatV (W.setRow g cs') v q:=by
 obtain⟨m,o,F,G,H⟩:=I;exact⟨m,o,F,qdo G h qeB,qdo H h qeB⟩
theorem one_a {F W:World} {a:Option Addr} {n c:Nat} {b:Bool} {z:Int} (h:IntAt W (.agg #[.slice a n c,.bool b]) z) (G:Below F.heap.size F W) :
  One F (W.alloc (.cells #[.slice a n c,.bool b] 125)) W.heap.size (a,n,c,b) z :=
 ⟨qM _ _ _ rfl,h.below (qbM qB qN),qbM G qN⟩
theorem one_p {F W:World} {g:Nat} {a:Option Addr} {n c:Nat} {b:Bool} {z:Int} (h:IntAt W (.agg #[.slice a n c,.bool b]) z) (G:Below F.heap.size F W) (hg:F.heap.size<=g) (H:W.heap[g]? = some (.cells #[.slice none 0 0,.bool false] 125 (0,0))) :
  One F ((W.setCell ⟨g,0,none⟩ (.slice a n c)).setCell ⟨g,1,none⟩ (.bool b)) g (a,n,c,b) z:=by
 obtain⟨p1,p2,p3⟩:=qgw H a n c b;exact⟨p1,p3 _ _ _ h,(G.setCell (by exact hg) _).setCell (by exact hg) _⟩
theorem radd_any (p q:Rat) (K:Nat) (hK:K<=34359738368) (v u:Value) (w:World) (I:RatV w v p) (hu:RatV w u q) (hp:RFit p K) (hq:RFit q K) :
  Calls prog 165 #[v,u] w fun e w'=>∃r,e=.returned r/\Below w.heap.size w w'/\RatV w' r (p+q):=by
 obtain⟨mx,mX,rfl,hx,hX⟩:=I;obtain⟨my,mY,rfl,hy,hY⟩:=hu;obtain⟨x,bf⟩:=qX p.num;obtain⟨y,bg⟩:=qX q.num;obtain⟨X,aJ⟩:=qX p.den;obtain⟨Y,aK⟩:=qX q.den;have ai:=add_low p.reduced q.reduced (qbc p.den_nz);have aU:0<X:=aJ▸qbc p.den_nz;have aV:0<Y:=aK▸qbc q.den_nz;obtain⟨fx,fX⟩:=hp;obtain⟨fy,fY⟩:=hq;rw [bf] at hx fx ⊢;rw [bg] at hy fy ⊢;rw [aJ] at hX fX;rw [aK] at hY fY;rw [bf,bg,aJ,aK] at ai;have aM:0<X.gcd Y:=Nat.gcd_pos_of_pos_left _ aU;have fg:Fit (X.gcd Y) K:=fY.le (Nat.gcd_le_right _ aV);obtain⟨l,hl⟩:=qX (Y / X.gcd Y);obtain⟨r,hr⟩:=qX (X / X.gcd Y);have fl:Fit l K:=hl▸fY.le (qaM _ _);have fr:Fit r K:=hr▸fX.le (qaM _ _);have aj:0<r:=hr▸Nat.div_pos (qbD aU (qbI X Y)) aM;obtain⟨S,hS⟩:=qX (x*l+y*r:Int);have ag:=ai S (by rw [hl,hr];exact hS.symm);rw [hr] at ag;have g1:Fit (x*l).natAbs (K+K):=by rw [qaD,qaq];exact fx.mul fl
 have g2:Fit (y*r).natAbs (K+K):=by rw [qaD,qaq];exact fy.mul fr
 have fS:Fit S.natAbs (K+K+1):=by rw [<-hS];exact (Fit.add g1 g2).le (Int.natAbs_add_le _ _)
 have aW:0<S.natAbs.gcd (X.gcd Y):=qa5 _ aM;have fh:Fit (S.natAbs.gcd (X.gcd Y)) K:=fg.le (Nat.gcd_le_right _ aM);obtain⟨h,hh⟩:=qX (S.natAbs.gcd (X.gcd Y));rw [hh] at ag aW fh;have bM:h∣Y:=hh▸Nat.dvd_trans (qaR _ _) (qaR _ _);have bn:∀(W:World) (m o:Value),IntAt W m (if decide (S<0)=true then -((S.natAbs / h:Nat):Int) else ((S.natAbs / h:Nat):Int))->MagAt W o (r*(Y / h))->∃a n c b d e f,m=.agg #[.slice a n c,.bool b]/\o=.slice d e f/\RatV W (.agg #[.slice a n c,.bool b,.slice d e f]) (p+q):=by
  intro W m o hm ho;have dm:(if decide (S<0)=true then -((S.natAbs / h:Nat):Int) else ((S.natAbs / h:Nat):Int))=S.tdiv (h:Int):=by
   have:=qin S (h:Int);rw [qU (by omega:¬(h:Int)<0),Bool.bne_false,qaq] at this;exact this
  rw [dm] at hm;have dn:(S.tdiv (h:Int)).natAbs=S.natAbs / h:=by rw [Int.natAbs_tdiv,qaq];rfl
  have dh:r*(Y / h)≠0:=qbf (qbL aj (Nat.div_pos (qbD aV bM) aW));have hq:=rat_add (p:=p) (q:=q) (z:=S.tdiv (h:Int)) (d:=r*(Y / h)) dh (by rw [dn];exact ag.1) (by
   rw [bf,bg,aJ,aK];exact ag.2)
  obtain⟨a,n,c,b,rfl⟩:=qbN hm;obtain⟨m',bq,df⟩:=hm;obtain⟨ao,bo,oo,co,no,O,rfl,Io,hO⟩:=ho;refine⟨a,n,c,b,ao,no,co,rfl,rfl,m',.slice ao no co,?_,?_,?_⟩
  ·simp only [qa1,qa2,qaU] at bq;rw [hq.1,<-bq.1,<-bq.2.1]
  ·rw [hq.1];exact df
  ·rw [hq.2];exact⟨ao,bo,oo,co,no,O,rfl,Io,hO⟩
 have bA:=qH bn;have bN:∀W a n c,MagAt W (.slice a n c) x.natAbs->IntAt W (.agg #[.slice a n c,.bool (decide (x<0))]) x:=fun W a n c h=>⟨_,rfl,h⟩
 have bO:∀W a n c,MagAt W (.slice a n c) y.natAbs->IntAt W (.agg #[.slice a n c,.bool (decide (y<0))]) y:=fun W a n c h=>⟨_,rfl,h⟩
 generalize decide (x<0)=b0 at *;generalize decide (y<0)=b1 at *;have HX:=qH (qA hx (qA hX (qA hy hY)));have HF:=qH (qA fx (qA fX (qA fy fY)));have af:=qH (qA fl (qA fr (qA g1 (qA g2 (qA fS fh)))));have HP:=qH (qA aU (qA aV (qA aM (qA aW fg))));have HE:=qH (qA hl (qA hr (qA hS hh)));have HK:=qH hK;have bX:=qH bN;have bY:=qH bO;obtain⟨a0,_,_,c0,n0,_,rfl,_,_⟩:=hx;obtain⟨d0,_,_,f0,e0,_,rfl,_,_⟩:=hX;obtain⟨a1,_,_,c1,n1,_,rfl,_,_⟩:=hy;obtain⟨d1,_,_,f1,e1,_,rfl,_,_⟩:=hY;clear ag ai bn aU aV aM aW fg fh fx fX fy fY hK bf bg aJ aK hl hr hS hh fl fr fS g1 g2 aj bM bN bO;obtain⟨W1,aA⟩:=qY (((w.alloc (.cells #[.slice a0 n0 c0,.bool b0,.slice d0 e0 f0] 127)).alloc (.cells #[.slice a1 n1 c1,.bool b1,.slice d1 e1 f1] 127)).alloc (.cells #[.slice none 0 0,.bool false,.slice none 0 0] 127));have bK:Below w.heap.size w W1:=aA▸qbM (qbM (qbM qB qN) qN) qN;have aj:W1.heap[w.heap.size]? = some (.cells #[.slice a0 n0 c0,.bool b0,.slice d0 e0 f0] 127 (0,0)):=by rw [aA,qL _ _ _ (by simp only [qaa];omega),qL _ _ _ (by simp only [qaa];omega)];exact qM _ _ _ (by simp)
 have aZ:W1.heap[w.heap.size+1]? = some (.cells #[.slice a1 n1 c1,.bool b1,.slice d1 e1 f1] 127 (0,0)):=by rw [aA,qL _ _ _ (by simp only [qaa];omega)];exact qM _ _ _ (by simp)
 have bz:W1.heap[w.heap.size+1+1]? = some (.cells #[.slice none 0 0,.bool false,.slice none 0 0] 127 (0,0)):=by rw [aA];exact qM _ _ _ (by simp)
 have l2:w.heap.size+1+1<W1.heap.size:=(qG bz).1;have au:∀W,Below (w.heap.size+1+1) W1 W->W.cell? ⟨w.heap.size,0,none⟩=some (.slice a0 n0 c0):=fun W h=>(h.cell (p:=⟨w.heap.size,0,none⟩) (by show w.heap.size<_;omega)).trans (qC _ _ 0 _ _ _ aj)
 have av:∀W,Below (w.heap.size+1+1) W1 W->W.cell? ⟨w.heap.size,1,none⟩=some (.bool b0):=fun W h=>(h.cell (p:=⟨w.heap.size,1,none⟩) (by show w.heap.size<_;omega)).trans (qC _ _ 1 _ _ _ aj)
 have aD:∀W,Below (w.heap.size+1+1) W1 W->W.cell? ⟨w.heap.size,2,none⟩=some (.slice d0 e0 f0):=fun W h=>(h.cell (p:=⟨w.heap.size,2,none⟩) (by show w.heap.size<_;omega)).trans (qC _ _ 2 _ _ _ aj)
 have ax:∀W,Below (w.heap.size+1+1) W1 W->W.cell? ⟨w.heap.size+1,0,none⟩=some (.slice a1 n1 c1):=fun W h=>(h.cell (p:=⟨w.heap.size+1,0,none⟩) (by show w.heap.size+1<_;omega)).trans (qC _ _ 0 _ _ _ aZ)
 have ay:∀W,Below (w.heap.size+1+1) W1 W->W.cell? ⟨w.heap.size+1,1,none⟩=some (.bool b1):=fun W h=>(h.cell (p:=⟨w.heap.size+1,1,none⟩) (by show w.heap.size+1<_;omega)).trans (qC _ _ 1 _ _ _ aZ)
 have aF:∀W,Below (w.heap.size+1+1) W1 W->W.cell? ⟨w.heap.size+1,2,none⟩=some (.slice d1 e1 f1):=fun W h=>(h.cell (p:=⟨w.heap.size+1,2,none⟩) (by show w.heap.size+1<_;omega)).trans (qC _ _ 2 _ _ _ aZ)
 have HR:=qH (qA bK bz);have az:=qH l2;clear aj aZ bz bK;go_enter func165,ntmps165;go_wp2_with fail;rw [<-aA];clear aA;refine ((qcD .f) X Y K (by have:=HK.o;omega) _ _ W1 (HX.o.2.1.below HR.o.1) (HX.o.2.2.2.below HR.o.1) HF.o.2.1 HF.o.2.2.2).mono ?_;rintro e w2 ⟨vg,rfl,F,I⟩;have Mw2_g:=qH I;have aa:Hu (Below w.heap.size w w2/\Below (w.heap.size+1+1) W1 w2):=qH ⟨HR.o.1.trans (F.mono HR.o.1.size),F.mono (qap az.o)⟩;have bH:=qH ((F.block _ (qG HR.o.2).1).trans HR.o.2);obtain⟨sg,_,_,ug,tg,_,rfl,_,_⟩:=I;clear F;have aO:=au w2 aa.o.2;have aP:=av w2 aa.o.2;have aQ:=aD w2 aa.o.2;have aR:=ax w2 aa.o.2;have aS:=ay w2 aa.o.2;have ak:=aF w2 aa.o.2;go_wp2_with fail;refine ((qbV .f) Y (X.gcd Y) K (by have:=HK.o;omega) _ _ w2 (HX.o.2.2.2.below aa.o.1) Mw2_g.o HF.o.2.2.2 HP.o.2.2.2.2 HP.o.2.2.1).mono ?_;rintro e w3 ⟨vl,_,rfl,F,I,_⟩;rw [HE.o.1] at I;have Mw3_g:=qH (Mw2_g.o.below F);have Mw3_l:=qH I;have ae:Hu (Below w.heap.size w w3/\Below (w.heap.size+1+1) W1 w3):=qH ⟨aa.o.1.trans (F.mono aa.o.1.size),(aa.o.2).trans (F.mono (qak (qap az.o) (aa.o.2).size))⟩;have bI:=qH ((F.block _ (qG bH.o).1).trans bH.o);obtain⟨sl,_,_,ul,tl,_,rfl,_,_⟩:=I;clear F aO;have aO:=au w3 ae.o.2;clear aP;have aP:=av w3 ae.o.2;clear aQ;have aQ:=aD w3 ae.o.2;clear aR;have aR:=ax w3 ae.o.2;clear aS;have aS:=ay w3 ae.o.2;clear ak;have ak:=aF w3 ae.o.2;go_wp2_with fail;refine ((qbV .f) X (X.gcd Y) K (by have:=HK.o;omega) _ _ w3 (HX.o.2.1.below ae.o.1) Mw3_g.o HF.o.2.1 HP.o.2.2.2.2 HP.o.2.2.1).mono ?_;rintro e H ⟨vr,_,rfl,F,I,_⟩;rw [HE.o.2.1] at I;have Mw4_g:=qH (Mw3_g.o.below F);have Mw4_l:=qH (Mw3_l.o.below F);have Mw4_r:=qH I;have G:Hu (Below w.heap.size w H/\Below (w.heap.size+1+1) W1 H):=qH ⟨ae.o.1.trans (F.mono ae.o.1.size),(ae.o.2).trans (F.mono (qak (qap az.o) (ae.o.2).size))⟩;have bJ:=qH ((F.block _ (qG bI.o).1).trans bI.o);obtain⟨sr,_,_,ur,tr,_,rfl,_,_⟩:=I;clear F aO;have aO:=au H G.o.2;clear aP;have aP:=av H G.o.2;clear aQ;have aQ:=aD H G.o.2;clear aR;have aR:=ax H G.o.2;clear aS;have aS:=ay H G.o.2;clear ak;have ak:=aF H G.o.2;have aC:Below H.heap.size H H:=Below.refl _ _;have bQ:Below H.heap.size H H.drew:=aC.drew;have cZ:∀W:World,W.drew.heap.size=W.heap.size:=fun _=>rfl
 have aN:w.heap.size+1+1<H.heap.size:=qai az.o G.o.2.size;have bT:∀W,Below H.heap.size H W->W.cell? ⟨w.heap.size,0,none⟩=some (.slice a0 n0 c0):=fun W h=>au W (G.o.2.trans (h.mono (qap aN)))
 have bU:∀W,Below H.heap.size H W->W.cell? ⟨w.heap.size,1,none⟩=some (.bool b0):=fun W h=>av W (G.o.2.trans (h.mono (qap aN)))
 have bV:∀W,Below H.heap.size H W->W.cell? ⟨w.heap.size+1,0,none⟩=some (.slice a1 n1 c1):=fun W h=>ax W (G.o.2.trans (h.mono (qap aN)))
 have bW:∀W,Below H.heap.size H W->W.cell? ⟨w.heap.size+1,1,none⟩=some (.bool b1):=fun W h=>ay W (G.o.2.trans (h.mono (qap aN)))
 have HC:=qH (qA au (qA av (qA aD (qA ax (qA ay aF)))));clear au av aD ax ay aF aO aP aQ aR aS ak;go_upto_region 4 with fail
 go_cut [10] (fun x10 W=>∃(g7:Nat) (a7:Option Addr) (n7 c7:Nat) (b7:Bool),x10=.pointer (some ⟨g7,0,none⟩)/\One H W g7 (a7,n7,c7,b7) S)
 case first =>
  go_region_held3 (fun W=>Below H.heap.size H W) (first | with_reducible exact aC | with_reducible exact bQ | with_reducible exact U | with_reducible exact Z | with_reducible exact J | ((repeat (first | refine Below.setCell ?_ (by first | exact qae _ | exact U.size | exact Z.size | exact J.size | exact qam qN) _ | refine qbM ?_ qN | refine Below.drew ?_));first | exact U | exact Z | exact J | exact aC)) (first | (go_at_call_of 107 (Value.slice sl tl ul);refine ((qci .f) x l K K (by have:=HK.o;omega) _ _ _ (bX.o _ _ _ _ (HX.o.1.below (G.o.1.trans (Below.mono (by ((repeat (first | refine Below.setCell ?_ (by first | exact qae _ | exact U.size | exact Z.size | exact J.size | exact qam qN) _ | refine qbM ?_ qN | refine Below.drew ?_));first | exact aC)) G.o.1.size)))) (Mw4_l.o.below (by ((repeat (first | refine Below.setCell ?_ (by first | exact qae _ | exact U.size | exact Z.size | exact J.size | exact qam qN) _ | refine qbM ?_ qN | refine Below.drew ?_));first | exact aC))) HF.o.1 af.o.1).mono ?_;rintro e w5 ⟨p5,rfl,aL,bu⟩;have J:Below H.heap.size H w5:=bjoin (by ((repeat (first | refine Below.setCell ?_ (by first | exact qae _ | exact U.size | exact Z.size | exact J.size | exact qam qN) _ | refine qbM ?_ qN | refine Below.drew ?_));first | exact aC)) aL;obtain⟨a5,n5,c5,b5,rfl⟩:=qbN bu;obtain⟨k5,dz⟩:=bcell aL;have Z5:=qH (zkeep aL);have s5:_<=_:=aL.size;(try simp only [qaa,cZ] at s5);have I5:=qH bu;(try have q5:H.heap.size<w5.heap.size:=by omega);clear aL bu) | (go_at_call_of 107 (Value.slice sr tr ur);refine ((qci .f) y r K K (by have:=HK.o;omega) _ _ _ (bY.o _ _ _ _ (HX.o.2.2.1.below (G.o.1.trans (Below.mono (by ((repeat (first | refine Below.setCell ?_ (by first | exact qae _ | exact U.size | exact Z.size | exact J.size | exact qam qN) _ | refine qbM ?_ qN | refine Below.drew ?_));first | exact J)) G.o.1.size)))) (Mw4_r.o.below (by ((repeat (first | refine Below.setCell ?_ (by first | exact qae _ | exact U.size | exact Z.size | exact J.size | exact qam qN) _ | refine qbM ?_ qN | refine Below.drew ?_));first | exact J))) HF.o.2.2.1 af.o.2.1).mono ?_;rintro e w6 ⟨p6,rfl,ah,bv⟩;have Z:Below H.heap.size H w6:=bjoin (by ((repeat (first | refine Below.setCell ?_ (by first | exact qae _ | exact U.size | exact Z.size | exact J.size | exact qam qN) _ | refine qbM ?_ qN | refine Below.drew ?_));first | exact J)) ah;obtain⟨a6,n6,c6,b6,rfl⟩:=qbN bv;obtain⟨k6,dA⟩:=bcell ah;have Z6:=qH (zkeep ah);have s6:_<=_:=ah.size;(try simp only [qaa] at s6);have J6:Hu (IntAt w6 _ _):=qH (by first | exact I5.o.below ah | exact (I5.o.below (qbM qB qN)).below ah);have I6:=qH bv;(try have q6:H.heap.size<w6.heap.size:=by omega);(try have r6:w5.heap.size<w6.heap.size:=by omega);clear ah bv) | (go_at_call 108;refine ((qc6 .f) (x*(l:Int)) (y*(r:Int)) (K+K) (by have:=HK.o;omega) _ _ _ (by first | exact J6.o | exact J6.o.below (qbM qB qN)) (by first | exact I6.o | exact I6.o.below (qbM qB qN)) af.o.2.2.1 af.o.2.2.2.1).mono ?_;rintro e w7 ⟨p7,rfl,V,aY⟩;rw [HE.o.2.2.1] at aY;have U:Below H.heap.size H w7:=bjoin (by ((repeat (first | refine Below.setCell ?_ (by first | exact qae _ | exact U.size | exact Z.size | exact J.size | exact qam qN) _ | refine qbM ?_ qN | refine Below.drew ?_));first | exact Z)) V;obtain⟨a7,n7,c7,b7,rfl⟩:=qbN aY;obtain⟨k7,dB⟩:=bcell V;have Z7:=qH (zkeep V);have s7:_<=_:=V.size;(try simp only [qaa] at s7);have I7:=qH aY;(try have q7:H.heap.size<w7.heap.size:=by omega);(try have r7:w5.heap.size<w7.heap.size:=by omega);(try have t7:w6.heap.size<w7.heap.size:=by omega);clear V aY))
  all_goals go_wp2_with fail
  all_goals go_meet
  all_goals refine⟨_,a7,n7,c7,b7,rfl,?_⟩
  all_goals first
   | with_reducible exact one_a I7.o U
   | (with_reducible refine one_p I7.o U ?_ ?_;(first | exact qae _ | exact J.size | exact Z.size | exact U.size);(refine Z7.o _ _ ?_;first | (refine qM _ _ _ ?_;((try simp only) <;> omega)) | (refine Z6.o _ _ ?_;first | (refine qM _ _ _ ?_;((try simp only) <;> omega)) | (refine Z5.o _ _ ?_;(try with_reducible refine zdrew ?_);(refine qM _ _ _ ?_;((try simp only) <;> omega))))))
 case rest =>
  obtain⟨g7,a7,n7,c7,b7,rfl,h7,i7,V⟩:=hcut;dsimp only at h7 i7;obtain⟨m7,aX,bL⟩:=i7;have e7:m7=.slice a7 n7 c7/\b7=decide (S<0):=by
   simp only [qa1,qa2,qaU,Value.bool.injEq] at aX;exact⟨aX.1.symm,aX.2.1⟩
  obtain⟨rfl,bi⟩:=e7;have aI:=qH (qA bL (qA h7 (qA V bi)));have HB:=qH (qA (G.o.1.trans (V.mono G.o.1.size)) (qA (G.o.2.trans (V.mono (qap aN))) ((V.block _ (qG bJ.o).1).trans bJ.o)));have Mg:=qH (Mw4_g.o.below V);have Mr:=qH (Mw4_r.o.below V);have q0:=qC wc _ 0 _ _ _ h7;clear aX bL h7 V bi bT bU bV bW;go_wp2_with fail;refine ((qcD .f) S.natAbs (X.gcd Y) (K+K+1) (by have:=HK.o;omega) _ _ wc aI.o.1 Mg.o af.o.2.2.2.2.1 (HP.o.2.2.2.2.mono (by omega))).mono ?_;rintro e w8 ⟨vh,rfl,F,I⟩;rw [HE.o.2.2.2] at I;have bB:=qH I;have cu:=qH (aI.o.1.below F);have cK:=qH (Mr.o.below F);have H8:=qH (qA (HB.o.1.trans (F.mono HB.o.1.size)) (qA (HB.o.2.1.trans (F.mono (qak (qap az.o) HB.o.2.1.size))) (qA ((F.block _ (qG HB.o.2.2).1).trans HB.o.2.2) ((F.block _ (qG aI.o.2.1).1).trans aI.o.2.1))));have q0:=qC w8 _ 0 _ _ _ H8.o.2.2.2;obtain⟨sh,_,_,uh,th,_,rfl,_,_⟩:=I;clear F;go_wp2_with fail;refine ((qbV .f) S.natAbs h (K+K+1) (by have:=HK.o;omega) _ _ w8 cu.o bB.o af.o.2.2.2.2.1 (af.o.2.2.2.2.2.mono (by omega)) HP.o.2.2.2.1).mono ?_;rintro e w9 ⟨vn,_,rfl,F,I,_⟩;have cz:=qH (bB.o.below F);have cB:=qH I;have cO:=qH (cK.o.below F);have H9:=qH (qA (H8.o.1.trans (F.mono H8.o.1.size)) (qA (H8.o.2.1.trans (F.mono (qak (qap az.o) H8.o.2.1.size))) (qA ((F.block _ (qG H8.o.2.2.1).1).trans H8.o.2.2.1) ((F.block _ (qG H8.o.2.2.2).1).trans H8.o.2.2.2))));have ak:=HC.o.2.2.2.2.2 w9 H9.o.2.1;have q1:=qC w9 _ 1 _ _ _ H9.o.2.2.2;obtain⟨sn,_,_,un,tn,_,rfl,_,_⟩:=I;clear F q0;go_wp2_with fail;refine ((qbV .f) Y h K (by have:=HK.o;omega) _ _ w9 (HX.o.2.2.2.below H9.o.1) cz.o HF.o.2.2.2 af.o.2.2.2.2.2 HP.o.2.2.2.1).mono ?_;rintro e bS ⟨vt,_,rfl,F,I,_⟩;have bF:=qH I;have bC:=qH (cB.o.below F);have bD:=qH (cO.o.below F);have aG:=qH (qA (H9.o.1.trans (F.mono H9.o.1.size)) (qA ((F.block _ (qG H9.o.2.2.1).1).trans H9.o.2.2.1) ((F.block _ (qG H9.o.2.2.2).1).trans H9.o.2.2.2)));have q1:=qC bS _ 1 _ _ _ aG.o.2.2;obtain⟨st,_,_,ut,tt,_,rfl,_,_⟩:=I;clear F ak;go_wp2_with fail;refine ((qb2 .f) (S.natAbs / h) b7 _ bS bC.o).mono ?_;rintro e dw ⟨dC,rfl,F,I⟩;rw [aI.o.2.2.2] at I;have bZ:=qH I;have bG:=qH (bF.o.below F);have bE:=qH (bD.o.below F);have aT:=qH (qA (aG.o.1.trans (F.mono aG.o.1.size)) ((F.block _ (qG aG.o.2.1).1).trans aG.o.2.1));obtain⟨a9,n9,c9,b9,rfl⟩:=qbN I;clear F I q1;go_wp2_with fail;refine ((qb9 .f) r (Y / h) K K (by have:=HK.o;omega) _ _ dw bE.o bG.o af.o.2.1 (HF.o.2.2.2.le (qaM _ _))).mono ?_;rintro e dx ⟨dD,rfl,F,I⟩;obtain⟨a8,n8,c8,b8,d8,e8,f8,aB,di,bR⟩:=bA.o dx _ _ (bZ.o.below F) I;have bP:a8=a9/\n8=n9/\c8=c9/\b8=b9:=by
   simp only [qa1,qa2,qaU,qby,Value.bool.injEq] at aB;exact⟨aB.1.1.symm,aB.1.2.1.symm,aB.1.2.2.symm,aB.2.1.symm⟩
  obtain⟨rfl,rfl,rfl,rfl⟩:=bP;subst di;have aH:=qH (qA ((F.block _ (qG aT.o.2).1).trans aT.o.2) (qA (aT.o.1.trans (F.mono aT.o.1.size)) bR));clear F I aB bR
  go_wp2_with (with_reducible refine sR_ rfl 127 _ _ rfl (w.heap.size+1+1) #[.slice a8 n8 c8,.bool b8,.slice d8 e8 f8] aH.o.1 3 ?_)
  exact qR (v:=.agg #[.slice a8 n8 c8,.bool b8,.slice d8 e8 f8]) (rA_ rfl (w.heap.size+1+1) (qT _ _ _ _ _ _ aH.o.1) underlying127 3) rfl ⟨_,rfl,qS aH.o.2.1 (by omega) _,qfC aH.o.2.2 aH.o.1⟩
def fval (n d:List UInt8):Rat:=mkRat (ival n) (ival d).natAbs
theorem FOk.val {n d:List UInt8} (h:FOk n d):(fval n d).num=ival n/\(fval n d).den=(ival d).natAbs:=by
 have F:(ival d).natAbs≠0:=by have:=h.pos;omega
 exact qiC F h.cop F rfl rfl
theorem FOk.fit {n d:List UInt8} (h:FOk n d):RFit (fval n d) 67:=by
 unfold RFit;rw [h.val.1,h.val.2];exact⟨h.vn.fit,h.vd.fit⟩
theorem FOk.at {n d:List UInt8} (h:FOk n d) {W:World} {v:Value} (F:RatAt W v (ival n) (ival d).natAbs):RatV W v (fval n d):=by
 unfold RatV;rw [h.val.1,h.val.2];exact F
theorem qdt {W:World} {v:Value} {F:Bool} {n d:List UInt8} (h:F=true/\FOk n d/\RatAt W v (ival n) (ival d).natAbs\/F=false/\¬FOk n d/\v=.agg #[.slice none 0 0,.bool false,.slice none 0 0]):∃(a:Option Addr) (x c:Nat) (b:Bool) (G:Option Addr) (e f:Nat),v=.agg #[.slice a x c,.bool b,.slice G e f]:=by
 rcases h with ⟨_,_,h⟩ | ⟨_,_,h⟩
 ·exact qcV h
 ·exact⟨_,_,_,_,_,_,_,h⟩
theorem qep (n d:ByteArray) (w:World) :
  Calls prog 80 #[.agg #[.string n,.string d]] w fun e w'=>qeT w (FOk n.data.toList d.data.toList) 20 e w':=by
 have V:=qH (fun W=>qdM n d W);have J:Hu (∀cs,Below w.heap.size w (w.alloc (.cells cs 27))):=qH fun cs=>qB.alloc qN _
 go_enter func80,ntmps80;go_wp2_with fail;refine (V.o _).mono ?_;rintro e Y ⟨v,ok,rfl,H,U⟩;obtain⟨a,x,c,b,d',e',f',rfl⟩:=qdt H;have F:Below w.heap.size w Y:=(J.o _).trans (U.mono (J.o _).size);have O:=qH (qbM (o:=.cells #[.slice a x c,.bool b,.slice d' e' f'] 127) F qN);clear U F;rcases H with ⟨rfl,G,_⟩ | ⟨rfl,G,_⟩
 ·have I:=qH G;clear G;go_wp2;go_ret;exact⟨0,rfl,qav ⟨rfl,I.o⟩,O.o⟩
 ·have I:=qH G;clear G;go_wp2;go_ret;exact⟨20,rfl,qaj ⟨rfl,I.o⟩,O.o⟩
def Short (q:Rat):Prop:=(num q.num.natAbs).size<=600/\(num q.den).size<=600
def fstr (q:Rat):Value:=.agg #[.string (qcb q.num),.string (num q.den)]
def qhr (w:World) (q:Rat) (e:Ending) (w':World):Prop:=(Short q/\e=.returned (.tuple #[fstr q,.int .i64 0])\/¬Short q/\e=.returned (.tuple #[.agg #[.string ⟨#[]⟩,.string ⟨#[]⟩],.int .i64 6]))/\Below w.heap.size w w'
theorem qfD (q:Rat) (K:Nat) (aC:0<K) (hK:K<=34359738368) (v:Value) (w:World) (hv:RatV w v q) (hq:RFit q K) (hT:HasT w) :
  Calls prog 93 #[v] w fun e w'=>qhr w q e w':=by
 obtain⟨m,o,rfl,hm,ho⟩:=hv;have hi:∀W,Below w.heap.size w W->IntAt W (.agg #[m,.bool (decide (q.num<0))]) q.num:=fun W h=>⟨m,rfl,hm.below h⟩
 have l1:=qH (fun (W:World) (h:Below w.heap.size w W)=>(qdi .f) q.num.natAbs K (by omega) m W (hm.below h) hq.1 (hT.below h));have l2:=qH (fun (W:World) (h:Below w.heap.size w W)=>(qdi .f) q.den K (by omega) o W (ho.below h) hq.2 (hT.below h));have t1:=qH (fun (W:World) (h:Below w.heap.size w W)=>(qgr .f) q.num K aC (by omega) _ W (hi W h) hq.1 (hT.below h));have t2:=qH (fun (W:World) (h:Below w.heap.size w W)=>(qd8 .f) q.den K (by omega) o W (ho.below h) hq.2 (hT.below h));generalize decide (q.num<0)=b0 at *;obtain⟨a0,_,_,c0,n0,_,rfl,_,_⟩:=hm;obtain⟨d0,_,_,f0,e0,_,rfl,_,_⟩:=ho;clear hi hT hq hK;obtain⟨L1,af⟩:∃L,(num q.num.natAbs).size=L:=⟨_,rfl⟩;obtain⟨L2,ag⟩:∃L,(num q.den).size=L:=⟨_,rfl⟩;have aA:Short q↔L1<=600/\L2<=600:=by unfold Short;rw [af,ag]
 rw [af] at l1;rw [ag] at l2;have aa:=qH aA;obtain⟨W1,I⟩:=qY ((w.alloc (.cells #[.slice a0 n0 c0,.bool b0,.slice d0 e0 f0] 127)).alloc (.cells #[.string ⟨#[]⟩,.string ⟨#[]⟩] 27));have av:Below w.heap.size w W1:=I▸qbM (qbM qB qN) qN;have ax:W1.heap[w.heap.size]? = some (.cells #[.slice a0 n0 c0,.bool b0,.slice d0 e0 f0] 127 (0,0)):=by rw [I,qL _ _ _ (by simp only [qaa];omega)];exact qM _ _ _ rfl
 have ay:W1.heap[w.heap.size+1]? = some (.cells #[.string ⟨#[]⟩,.string ⟨#[]⟩] 27 (0,0)):=by rw [I];exact qM _ _ _ (by simp)
 have HR:=qH (qA av (qA ax ay));clear aA af ag av ax ay;go_enter func93,ntmps93;go_wp2_with fail;rw [<-I];clear I;refine (l1.o W1 HR.o.1).mono ?_;rintro e w2 ⟨rfl,V⟩;have G:=qH (qA (HR.o.1.trans (V.mono HR.o.1.size)) (qA ((V.block _ (qG HR.o.2.1).1).trans HR.o.2.1) ((V.block _ (qG HR.o.2.2).1).trans HR.o.2.2)));clear V
 by_cases h1:(600:Int)<L1
 ·have HN:Hu (¬Short q):=qH (fun h=>by have:=aa.o.1 h;omega)
  go_wp2_with (with_reducible refine sR_ rfl 27 _ _ rfl (w.heap.size+1) #[.string ⟨#[]⟩,.string ⟨#[]⟩] G.o.2.2 2 ?_)
  exact qR (v:=.tuple #[.agg #[.string ⟨#[]⟩,.string ⟨#[]⟩],.int .i64 6]) (rB_ rfl (w.heap.size+1) (qT _ _ _ _ _ _ G.o.2.2) underlying27 2) rfl ⟨qaj ⟨HN.o,rfl⟩,qS G.o.1 (by omega) _⟩
 ·have k2:=qC w2 _ 2 _ _ _ G.o.2.1;go_wp2_with fail;refine (l2.o w2 G.o.1).mono ?_;rintro e O ⟨rfl,Y⟩;have H:=qH (qA (G.o.1.trans (Y.mono G.o.1.size)) (qA ((Y.block _ (qG G.o.2.1).1).trans G.o.2.1) ((Y.block _ (qG G.o.2.2).1).trans G.o.2.2)));clear Y k2
  by_cases h2:(600:Int)<L2
  ·have HN:Hu (¬Short q):=qH (fun h=>by have:=aa.o.1 h;omega)
   go_wp2_with (with_reducible refine sR_ rfl 27 _ _ rfl (w.heap.size+1) #[.string ⟨#[]⟩,.string ⟨#[]⟩] H.o.2.2 2 ?_)
   exact qR (v:=.tuple #[.agg #[.string ⟨#[]⟩,.string ⟨#[]⟩],.int .i64 6]) (rB_ rfl (w.heap.size+1) (qT _ _ _ _ _ _ H.o.2.2) underlying27 2) rfl ⟨qaj ⟨HN.o,rfl⟩,qS H.o.1 (by omega) _⟩
  ·have HY:Hu (Short q):=qH (aa.o.2 (by omega));have az:w.heap.size+1<O.heap.size:=(qG H.o.2.2).1;have C0:∀W,Below (w.heap.size+1) O W->W.cell? ⟨w.heap.size,0,none⟩=some (.slice a0 n0 c0):=fun W h=>(h.cell (p:=⟨w.heap.size,0,none⟩) (by show w.heap.size<_;omega)).trans (qC _ _ 0 _ _ _ H.o.2.1)
   have C1:∀W,Below (w.heap.size+1) O W->W.cell? ⟨w.heap.size,1,none⟩=some (.bool b0):=fun W h=>(h.cell (p:=⟨w.heap.size,1,none⟩) (by show w.heap.size<_;omega)).trans (qC _ _ 1 _ _ _ H.o.2.1)
   have C2:∀W,Below (w.heap.size+1) O W->W.cell? ⟨w.heap.size,2,none⟩=some (.slice d0 e0 f0):=fun W h=>(h.cell (p:=⟨w.heap.size,2,none⟩) (by show w.heap.size<_;omega)).trans (qC _ _ 2 _ _ _ H.o.2.1)
   have aB:Below (w.heap.size+1) O O:=Below.refl _ _;have J:Below (w.heap.size+1) O O.drew:=aB.drew;have ae:=qH az;obtain⟨T1,ah⟩:∃T,qcb q.num=T:=⟨_,rfl⟩;obtain⟨T2,ai⟩:∃T,num q.den=T:=⟨_,rfl⟩;rw [ah] at t1;rw [ai] at t2;have au:=qH (qA ah ai);clear az ah ai;go_wp2_with fail
   go_region_held3 (fun W=>Below (w.heap.size+1) O W) (first | with_reducible exact aB | with_reducible exact J | with_reducible exact Z | with_reducible exact U | ((iterate 2 refine Below.setCell ?_ (by exact qae _) _);exact Z)) (first | (go_at_call 167;refine (t1.o _ (H.o.1.trans (J.mono (by omega)))).mono ?_;rintro e w4 ⟨rfl,aj⟩;have U:Below (w.heap.size+1) O w4:=J.trans (aj.mono (qap ae.o));have R4:=qH ((aj.block _ ae.o).trans H.o.2.2);clear aj) | (go_at_call 168;refine (t2.o _ (H.o.1.trans (U.mono (by omega)))).mono ?_;rintro e w5 ⟨rfl,ak⟩;have Z:Below (w.heap.size+1) O w5:=U.trans (ak.mono (qak (qap ae.o) U.size));have F:=(ak.block _ (qG R4.o).1).trans R4.o;have e0:=qC w5 _ 0 _ _ _ F;have e1:=qC w5 _ 1 _ _ _ F;have f0:=qF w5 _ 0 _ _ F;have f1:=qF w5 _ 1 _ _ F;have R5:=qH F;clear ak F))
   go_wp2_with fail;refine qR (v:=.tuple #[.agg #[.string T1,.string T2],.int .i64 0]) (rB_ rfl (w.heap.size+1) (heap_setCell_same _ _ 1 _ 27 _ (heap_setCell_same _ _ 0 _ 27 _ R5.o)) underlying27 2) rfl ⟨qav ⟨HY.o,?_⟩,H.o.1.trans (((Z.setCell (by exact qae _) _).setCell (by exact qae _) _).mono (by omega))⟩;unfold fstr;rw [show qcb q.num=T1 from au.o.1,au.o.2]
theorem qkQ (p q:Rat) (K:Nat) (hK:K<=34359738368) (v u:Value) (w:World) (hv:RatV w v p) (hu:RatV w u q) (hp:RFit p K) (hq:RFit q K) :
  Calls prog 60 #[v,u] w fun e w'=>e=.returned (.int .i64 (cmp3 (p.num*(q.den:Int) + -(q.num*(p.den:Int))) 0))/\Below w.heap.size w w':=by
 obtain⟨mx,mX,rfl,hx,hX⟩:=hv;obtain⟨my,mY,rfl,hy,hY⟩:=hu;obtain⟨x,aj⟩:=qX p.num;obtain⟨y,ak⟩:=qX q.num;obtain⟨X,V⟩:=qX p.den;obtain⟨Y,Z⟩:=qX q.den;obtain⟨fx,fX⟩:=hp;obtain⟨fy,fY⟩:=hq;rw [aj] at hx fx;rw [ak] at hy fy;rw [V] at hX fX;rw [Z] at hY fY;rw [aj,ak,V,Z];have g1:Fit (x*Y).natAbs (K+K):=by rw [qaD,qaq];exact fx.mul fY
 have g2:Fit (y*X).natAbs (K+K):=by rw [qaD,qaq];exact fy.mul fX
 have g3:Fit (-(y*(X:Int))).natAbs (K+K):=by rw [qbu];exact g2
 obtain⟨R0,U⟩:∃R,cmp3 (x*(Y:Int) + -(y*(X:Int))) 0=R:=⟨_,rfl⟩;rw [U];have aD:∀W a n c,MagAt W (.slice a n c) x.natAbs->IntAt W (.agg #[.slice a n c,.bool (decide (x<0))]) x:=fun W a n c h=>⟨_,rfl,h⟩
 have aF:∀W a n c,MagAt W (.slice a n c) y.natAbs->IntAt W (.agg #[.slice a n c,.bool (decide (y<0))]) y:=fun W a n c h=>⟨_,rfl,h⟩
 generalize decide (x<0)=b0 at *;generalize decide (y<0)=b1 at *;have HX:=qH (qA hx (qA hX (qA hy hY)));have HF:=qH (qA fx (qA fX (qA fy fY)));have HG:=qH (qA g1 (qA g2 g3));have HK:=qH hK;have aJ:=qH U;have aH:=qH aD;have aI:=qH aF;obtain⟨a0,_,_,c0,n0,_,rfl,_,_⟩:=hx;obtain⟨d0,_,_,f0,e0,_,rfl,_,_⟩:=hX;obtain⟨a1,_,_,c1,n1,_,rfl,_,_⟩:=hy;obtain⟨d1,_,_,f1,e1,_,rfl,_,_⟩:=hY;clear g1 g2 g3 fx fX fy fY hK aj ak V Z aD aF U;obtain⟨F,H⟩:=qY ((w.alloc (.cells #[.slice a0 n0 c0,.bool b0,.slice d0 e0 f0] 127)).alloc (.cells #[.slice a1 n1 c1,.bool b1,.slice d1 e1 f1] 127));have az:Below w.heap.size w F:=H▸qbM (qbM qB qN) qN;have O:F.heap[w.heap.size]? = some (.cells #[.slice a0 n0 c0,.bool b0,.slice d0 e0 f0] 127 (0,0)):=by rw [H,qL _ _ _ (by simp only [qaa];omega)];exact qM _ _ _ (by simp)
 have I:F.heap[w.heap.size+1]? = some (.cells #[.slice a1 n1 c1,.bool b1,.slice d1 e1 f1] 127 (0,0)):=by rw [H];exact qM _ _ _ (by simp)
 have l2:w.heap.size+1<F.heap.size:=(qG I).1;have aK:∀W,Below F.heap.size F W->W.cell? ⟨w.heap.size,0,none⟩=some (.slice a0 n0 c0):=fun W h=>(h.cell (p:=⟨w.heap.size,0,none⟩) (by show w.heap.size<_;omega)).trans (qC _ _ 0 _ _ _ O)
 have aL:∀W,Below F.heap.size F W->W.cell? ⟨w.heap.size,1,none⟩=some (.bool b0):=fun W h=>(h.cell (p:=⟨w.heap.size,1,none⟩) (by show w.heap.size<_;omega)).trans (qC _ _ 1 _ _ _ O)
 have aM:∀W,Below F.heap.size F W->W.cell? ⟨w.heap.size,2,none⟩=some (.slice d0 e0 f0):=fun W h=>(h.cell (p:=⟨w.heap.size,2,none⟩) (by show w.heap.size<_;omega)).trans (qC _ _ 2 _ _ _ O)
 have aN:∀W,Below F.heap.size F W->W.cell? ⟨w.heap.size+1,0,none⟩=some (.slice a1 n1 c1):=fun W h=>(h.cell (p:=⟨w.heap.size+1,0,none⟩) (by show w.heap.size+1<_;omega)).trans (qC _ _ 0 _ _ _ I)
 have aO:∀W,Below F.heap.size F W->W.cell? ⟨w.heap.size+1,1,none⟩=some (.bool b1):=fun W h=>(h.cell (p:=⟨w.heap.size+1,1,none⟩) (by show w.heap.size+1<_;omega)).trans (qC _ _ 1 _ _ _ I)
 have aP:∀W,Below F.heap.size F W->W.cell? ⟨w.heap.size+1,2,none⟩=some (.slice d1 e1 f1):=fun W h=>(h.cell (p:=⟨w.heap.size+1,2,none⟩) (by show w.heap.size+1<_;omega)).trans (qC _ _ 2 _ _ _ I)
 have HR:=qH az;clear O I az l2;have aG:Below F.heap.size F F:=Below.refl _ _;have G:Below F.heap.size F F.drew:=aG.drew;have HW:Hu (∀W,Below F.heap.size F W->Below w.heap.size w W):=qH fun W h=>HR.o.trans (h.mono HR.o.size)
 go_enter func60,ntmps60;go_wp2_with fail;rw [<-H];clear H
 go_region_held3 (fun W=>Below F.heap.size F W) (first | with_reducible exact aG | with_reducible exact G | with_reducible exact ay | with_reducible exact ax | with_reducible exact av | with_reducible exact au | with_reducible exact J) (first | (go_at_call_of 107 (Value.agg #[Value.slice a0 n0 c0,Value.bool b0]);refine ((qci .f) x Y K K (by have:=HK.o;omega) _ _ _ (aH.o _ _ _ _ (HX.o.1.below (HW.o _ G))) (HX.o.2.2.2.below (HW.o _ G)) HF.o.1 HF.o.2.2.2).mono ?_;rintro e w2 ⟨p2,rfl,aA,af⟩;have J:Below F.heap.size F w2:=G.trans aA;obtain⟨a2,n2,c2,b2,rfl⟩:=qbN af;have I2:=qH af;clear aA af) | (go_at_call_of 107 (Value.agg #[Value.slice a1 n1 c1,Value.bool b1]);refine ((qci .f) y X K K (by have:=HK.o;omega) _ _ _ (aI.o _ _ _ _ (HX.o.2.2.1.below (HW.o _ J))) (HX.o.2.1.below (HW.o _ J)) HF.o.2.2.1 HF.o.2.1).mono ?_;rintro e w3 ⟨p3,rfl,aa,ag⟩;have au:Below F.heap.size F w3:=bjoin J aa;obtain⟨a3,n3,c3,b3,rfl⟩:=qbN ag;have I3:=qH ag;have J3:=qH (I2.o.below aa);clear aa ag) | (go_at_call 109;refine ((qdy .f) _ _ _ I3.o).mono ?_;rintro e w4 ⟨p4,rfl,ae,ah⟩;have av:Below F.heap.size F w4:=bjoin au ae;obtain⟨a4,n4,c4,b4,rfl⟩:=qbN ah;have I4:=qH ah;have J4:=qH (J3.o.below ae);clear ae ah) | (go_at_call 108;refine ((qc6 .f) _ _ (K+K) (by have:=HK.o;omega) _ _ _ J4.o I4.o HG.o.1 HG.o.2.2).mono ?_;rintro e w5 ⟨p5,rfl,aB,ai⟩;have ax:Below F.heap.size F w5:=bjoin av aB;obtain⟨a5,n5,c5,b5,rfl⟩:=qbN ai;have I5:=qH ai;clear aB ai) | (go_at_call 110;refine (qgq _ _ _ I5.o).mono ?_;rw [aJ.o];rintro e w6 ⟨rfl,aC⟩;have ay:Below F.heap.size F w6:=bjoin ax aC;clear aC))
 go_wp2;go_ret;exact⟨rfl,HW.o _ ay⟩
def FCmps (w:World) (n d m c:List UInt8) (e:Ending) (w':World):Prop :=
 ((FOk n d/\FOk m c)/\e=.returned (.tuple #[.int .i64 (cmp3 ((fval n d).num*((fval m c).den:Int) + -((fval m c).num*((fval n d).den:Int))) 0),.int .i64 0]) \/
  ¬(FOk n d/\FOk m c)/\e=.returned (.tuple #[.int .i64 0,.int .i64 20]))/\Below w.heap.size w w'
def FApplies (w:World) (G:Rat->Rat->Rat) (n d m c:List UInt8) (e:Ending) (w':World):Prop :=
 (∃v F,e=.returned (.tuple #[v,.int .i64 F])/\((FOk n d/\FOk m c)/\F=0/\RatV w' v (G (fval n d) (fval m c))\/¬(FOk n d/\FOk m c)/\F=20/\v=.agg #[.slice none 0 0,.bool false,.slice none 0 0]))/\Below w.heap.size w w'
def FDoes (w:World) (F:Rat->Rat->Rat) (n d m c:List UInt8) (e:Ending) (w':World):Prop :=
 ((FOk n d/\FOk m c)/\(Short (F (fval n d) (fval m c))/\e=.returned (.tuple #[fstr (F (fval n d) (fval m c)),.int .i64 0])\/¬Short (F (fval n d) (fval m c))/\e=.returned (.tuple #[.agg #[.string ⟨#[]⟩,.string ⟨#[]⟩],.int .i64 6])) \/
  ¬(FOk n d/\FOk m c)/\e=.returned (.tuple #[.agg #[.string ⟨#[]⟩,.string ⟨#[]⟩],.int .i64 20]))/\Below w.heap.size w w'
theorem qko (n d m c:ByteArray) (w:World) :
  Calls prog 59 #[.agg #[.string n,.string d],.agg #[.string m,.string c],.func (.func 60) #[] #[]] w fun e w'=>FCmps w n.data.toList d.data.toList m.data.toList c.data.toList e w':=by
 obtain⟨W1,V⟩:=qY ((w.alloc (.cells #[.string n,.string d] 27)).alloc (.cells #[.string m,.string c] 27));have F:Below w.heap.size w W1:=V▸qbM (qbM qB qN) qN;have ax:W1.heap[w.heap.size]? = some (.cells #[.string n,.string d] 27 (0,0)):=by rw [V,qL _ _ _ (by simp only [qaa];omega)];exact qM _ _ _ rfl
 have ay:W1.heap[w.heap.size+1]? = some (.cells #[.string m,.string c] 27 (0,0)):=by rw [V];exact qM _ _ _ (by simp)
 have az:True:=trivial;have HR:=qH (qA F (qA ax (qA ay az)));clear F ax ay az;go_enter func59,ntmps59;go_wp2_with fail;rw [<-V];clear V;refine (qdM n d W1).mono ?_;rintro e w1 ⟨v1,ok1,rfl,aa,F⟩;obtain⟨a0,n0,c0,b0,d0,e0,f0,rfl⟩:=qdt aa;have aB:=qH aa;have k1:=qC w1 _ 0 _ _ _ ((F.block _ (qG HR.o.2.2.1).1).trans HR.o.2.2.1);have k2:=qC w1 _ 1 _ _ _ ((F.block _ (qG HR.o.2.2.1).1).trans HR.o.2.2.1);have q1:w.heap.size+1<w1.heap.size:=qai (qG HR.o.2.2.1).1 F.size;have ak:=qH F;clear F aa;go_wp2_with fail;obtain⟨V1,af⟩:=qY (w1.alloc (.cells #[.slice a0 n0 c0,.bool b0,.slice d0 e0 f0] 127));rw [<-af];have O:V1.heap[w1.heap.size]? = some (.cells #[.slice a0 n0 c0,.bool b0,.slice d0 e0 f0] 127 (0,0)):=by rw [af];exact qM _ _ _ rfl
 have Z:Below w1.heap.size w1 V1:=af▸qbM qB qN;clear af k1 k2;refine (qdM m c V1).mono ?_;rintro e w2 ⟨v2,aF,rfl,ae,ai⟩;obtain⟨a1,n1,c1,b1,d1,e1,f1,rfl⟩:=qdt ae;have aC:=qH ae;have J:=(ai.block _ (qG O).1).trans O;have Y:Below w1.heap.size w1 w2:=Z.trans (ai.mono Z.size);have au:=qH Y;have aj:Below w.heap.size w w2:=HR.o.1.trans ((ak.o.trans (Y.mono ak.o.size)).mono HR.o.1.size);obtain⟨V2,ag⟩:=qY (w2.alloc (.cells #[.slice a1 n1 c1,.bool b1,.slice d1 e1 f1] 127));have U:Below w2.heap.size w2 V2:=ag▸qbM qB qN;have r8:=(U.block _ (qG J).1).trans J;have r9:V2.heap[w2.heap.size]? = some (.cells #[.slice a1 n1 c1,.bool b1,.slice d1 e1 f1] 127 (0,0)):=by rw [ag];exact qM _ _ _ rfl
 have H:=qH (qA r8 (qA r9 (qA (aj.trans (U.mono aj.size)) U)));have x0:=qC w2 _ 0 _ _ _ J;have x1:=qC w2 _ 1 _ _ _ J;have x2:=qC w2 _ 2 _ _ _ J;have aD:=(qG J).1;have ah:=qH ag;clear O Z ai ae J Y aj U r8 r9 ag;have HO:=qH (fun (h1:FOk n.data.toList d.data.toList) (h2:FOk m.data.toList c.data.toList) (hv:RatV V2 (.agg #[.slice a0 n0 c0,.bool b0,.slice d0 e0 f0]) (fval n.data.toList d.data.toList)) (hu:RatV V2 (.agg #[.slice a1 n1 c1,.bool b1,.slice d1 e1 f1]) (fval m.data.toList c.data.toList))=>qkQ _ _ 67 (by decide) _ _ V2 hv hu h1.fit h2.fit);rcases aB.o with ⟨rfl,G,O⟩ | ⟨rfl,G,_⟩
 ·rcases aC.o with ⟨rfl,I,aA⟩ | ⟨rfl,I,_⟩
  ·have hc:=HO.o G I ((G.at O).below (au.o.trans (H.o.2.2.2.mono au.o.size))) ((I.at aA).below H.o.2.2.2);have HC:=qH (qA hc (qA G I));clear G I O aA hc;have x3:=qC V2 _ 0 _ _ _ H.o.1;go_wp2_with fail;rw [<-ah.o];refine HC.o.1.mono ?_;rintro e w9 ⟨rfl,av⟩;have H9:=qH (H.o.2.2.1.trans (av.mono H.o.2.2.1.size));clear av;go_wp2_with fail
   go_ret2
   exact⟨qav ⟨HC.o.2,rfl⟩,H9.o⟩
  ·have HN:=qH (show ¬(FOk n.data.toList d.data.toList/\FOk m.data.toList c.data.toList) from fun h=>I h.2);clear G I O;go_wp2_with fail
   go_ret2
   exact⟨qaj ⟨HN.o,rfl⟩,ah.o▸H.o.2.2.1⟩
 ·have HN:=qH (show ¬(FOk n.data.toList d.data.toList/\FOk m.data.toList c.data.toList) from fun h=>G h.1);clear G;go_wp2_with fail
  go_ret2
  exact⟨qaj ⟨HN.o,rfl⟩,ah.o▸H.o.2.2.1⟩
theorem qkp (n d m c:ByteArray) (w:World) :
  Calls prog 187 #[.agg #[.string n,.string d],.agg #[.string m,.string c],.func (.func 188) #[] #[]] w fun e w'=>FApplies w (· * ·) n.data.toList d.data.toList m.data.toList c.data.toList e w':=by
 obtain⟨W1,Z⟩:=qY (((w.alloc (.cells #[.string n,.string d] 27)).alloc (.cells #[.string m,.string c] 27)).alloc (.cells #[.slice none 0 0,.bool false,.slice none 0 0] 127));have H:Below w.heap.size w W1:=Z▸qbM (qbM (qbM qB qN) qN) qN;have aD:W1.heap[w.heap.size]? = some (.cells #[.string n,.string d] 27 (0,0)):=by rw [Z,qL _ _ _ (by simp only [qaa];omega),qL _ _ _ (by simp only [qaa];omega)];exact qM _ _ _ rfl
 have aF:W1.heap[w.heap.size+1]? = some (.cells #[.string m,.string c] 27 (0,0)):=by rw [Z,qL _ _ _ (by simp only [qaa];omega)];exact qM _ _ _ (by simp)
 have aG:W1.heap[w.heap.size+1+1]? = some (.cells #[.slice none 0 0,.bool false,.slice none 0 0] 127 (0,0)):=by rw [Z];exact qM _ _ _ (by simp)
 have HR:=qH (qA H (qA aD (qA aF aG)));clear H aD aF aG;go_enter func187,ntmps187;go_wp2_with fail;rw [<-Z];clear Z;refine (qdM n d W1).mono ?_;rintro e w1 ⟨v1,ok1,rfl,ag,H⟩;obtain⟨a0,n0,c0,b0,d0,e0,f0,rfl⟩:=qdt ag;have aI:=qH ag;have k1:=qC w1 _ 0 _ _ _ ((H.block _ (qG HR.o.2.2.1).1).trans HR.o.2.2.1);have k2:=qC w1 _ 1 _ _ _ ((H.block _ (qG HR.o.2.2.1).1).trans HR.o.2.2.1);have q1:w.heap.size+1<w1.heap.size:=qai (qG HR.o.2.2.1).1 H.size;have au:=qH H;clear H ag;go_wp2_with fail;obtain⟨V1,aj⟩:=qY (w1.alloc (.cells #[.slice a0 n0 c0,.bool b0,.slice d0 e0 f0] 127));rw [<-aj];have U:V1.heap[w1.heap.size]? = some (.cells #[.slice a0 n0 c0,.bool b0,.slice d0 e0 f0] 127 (0,0)):=by rw [aj];exact qM _ _ _ rfl
 have af:Below w1.heap.size w1 V1:=aj▸qbM qB qN;clear aj k1 k2;refine (qdM m c V1).mono ?_;rintro e w2 ⟨v2,aL,rfl,ah,ay⟩;obtain⟨a1,n1,c1,b1,d1,e1,f1,rfl⟩:=qdt ah;have aJ:=qH ah;have O:=(ay.block _ (qG U).1).trans U;have ae:Below w1.heap.size w1 w2:=af.trans (ay.mono af.size);have av:=qH ae;have aA:Below w.heap.size w w2:=HR.o.1.trans ((au.o.trans (ae.mono au.o.size)).mono HR.o.1.size);obtain⟨V2,ak⟩:=qY (w2.alloc (.cells #[.slice a1 n1 c1,.bool b1,.slice d1 e1 f1] 127));have V:Below w2.heap.size w2 V2:=ak▸qbM qB qN;have r8:=(V.block _ (qG O).1).trans O;have r9:V2.heap[w2.heap.size]? = some (.cells #[.slice a1 n1 c1,.bool b1,.slice d1 e1 f1] 127 (0,0)):=by rw [ak];exact qM _ _ _ rfl
 have F:=qH (qA r8 (qA r9 (qA (aA.trans (V.mono aA.size)) V)));have x0:=qC w2 _ 0 _ _ _ O;have x1:=qC w2 _ 1 _ _ _ O;have x2:=qC w2 _ 2 _ _ _ O;have aK:=(qG O).1;have aa:=qH ak;clear U af ay ah O ae aA V r8 r9 ak;have HO:=qH (fun (h1:FOk n.data.toList d.data.toList) (h2:FOk m.data.toList c.data.toList) (hv:RatV V2 (.agg #[.slice a0 n0 c0,.bool b0,.slice d0 e0 f0]) (fval n.data.toList d.data.toList)) (hu:RatV V2 (.agg #[.slice a1 n1 c1,.bool b1,.slice d1 e1 f1]) (fval m.data.toList c.data.toList))=>rmul_any _ _ 67 (by decide) _ _ V2 hv hu h1.fit h2.fit);have Y:Hu (V2.heap[w.heap.size+1+1]? = some (.cells #[.slice none 0 0,.bool false,.slice none 0 0] 127 (0,0))):=qH (by
  have h1:=(au.o.block _ (qG HR.o.2.2.2).1).trans HR.o.2.2.2;have h2:=(av.o.block _ (qG h1).1).trans h1;exact (F.o.2.2.2.block _ (qG h2).1).trans h2)
 rcases aI.o with ⟨rfl,I,U⟩ | ⟨rfl,I,_⟩
 ·rcases aJ.o with ⟨rfl,J,aH⟩ | ⟨rfl,J,_⟩
  ·have hc:=HO.o I J ((I.at U).below (av.o.trans (F.o.2.2.2.mono av.o.size))) ((J.at aH).below F.o.2.2.2);have HC:=qH (qA hc (qA I J));clear I J U aH hc;go_wp2_with fail;rw [<-aa.o];refine HC.o.1.mono ?_;rintro e w9 ⟨v9,rfl,az,aC⟩;obtain⟨a7,n7,c7,b7,d7,e7,f7,rfl⟩:=qcV aC;have aB:=(az.block _ (qG Y.o).1).trans Y.o;have H9:=qH (qA aB (qA (F.o.2.2.1.trans (az.mono F.o.2.2.1.size)) (qfC (cs':=#[.slice a7 n7 c7,.bool b7,.slice d7 e7 f7]) aC aB)));clear az aC aB
   go_wp2_with (with_reducible refine sR_ rfl 127 _ _ rfl (w.heap.size+1+1) #[.slice a7 n7 c7,.bool b7,.slice d7 e7 f7] H9.o.1 3 ?_)
   exact qR (v:=.tuple #[.agg #[.slice a7 n7 c7,.bool b7,.slice d7 e7 f7],.int .i64 0]) (rB_ rfl (w.heap.size+1+1) (qT _ _ _ _ _ _ H9.o.1) underlying127 3) rfl ⟨⟨_,_,rfl,qav ⟨HC.o.2,rfl,H9.o.2.2⟩⟩,qS H9.o.2.1 (by omega) _⟩
  ·have HN:=qH (show ¬(FOk n.data.toList d.data.toList/\FOk m.data.toList c.data.toList) from fun h=>J h.2);clear I J U;have ai:((w2.alloc (.cells #[.slice a1 n1 c1,.bool b1,.slice d1 e1 f1] 127)).alloc (.cells #[.slice none 0 0,.bool false,.slice none 0 0] 127)).heap[w.heap.size+1+1]? = some (.cells #[.slice none 0 0,.bool false,.slice none 0 0] 127 (0,0)):=by
    rw [<-aa.o];exact (qL _ _ _ (qG Y.o).1).trans Y.o
   have G:=qH ai;have ax:=qH (show Below w.heap.size w ((w2.alloc (.cells #[.slice a1 n1 c1,.bool b1,.slice d1 e1 f1] 127)).alloc (.cells #[.slice none 0 0,.bool false,.slice none 0 0] 127)) from aa.o▸(F.o.2.2.1.alloc F.o.2.2.1.size _));clear ai
   go_wp2_with (with_reducible refine sR_ rfl 127 _ _ rfl (w.heap.size+1+1) #[.slice none 0 0,.bool false,.slice none 0 0] G.o 3 ?_)
   exact qR (v:=.tuple #[.agg #[.slice none 0 0,.bool false,.slice none 0 0],.int .i64 20]) (rB_ rfl (w.heap.size+1+1) (qT _ _ _ _ _ _ G.o) underlying127 3) rfl ⟨⟨_,_,rfl,qaj ⟨HN.o,rfl,rfl⟩⟩,qS ax.o (by omega) _⟩
 ·have HN:=qH (show ¬(FOk n.data.toList d.data.toList/\FOk m.data.toList c.data.toList) from fun h=>I h.1);clear I;have ai:((w2.alloc (.cells #[.slice a1 n1 c1,.bool b1,.slice d1 e1 f1] 127)).alloc (.cells #[.slice none 0 0,.bool false,.slice none 0 0] 127)).heap[w.heap.size+1+1]? = some (.cells #[.slice none 0 0,.bool false,.slice none 0 0] 127 (0,0)):=by
   rw [<-aa.o];exact (qL _ _ _ (qG Y.o).1).trans Y.o
  have G:=qH ai;have ax:=qH (show Below w.heap.size w ((w2.alloc (.cells #[.slice a1 n1 c1,.bool b1,.slice d1 e1 f1] 127)).alloc (.cells #[.slice none 0 0,.bool false,.slice none 0 0] 127)) from aa.o▸(F.o.2.2.1.alloc F.o.2.2.1.size _));clear ai
  go_wp2_with (with_reducible refine sR_ rfl 127 _ _ rfl (w.heap.size+1+1) #[.slice none 0 0,.bool false,.slice none 0 0] G.o 3 ?_)
  exact qR (v:=.tuple #[.agg #[.slice none 0 0,.bool false,.slice none 0 0],.int .i64 20]) (rB_ rfl (w.heap.size+1+1) (qT _ _ _ _ _ _ G.o) underlying127 3) rfl ⟨⟨_,_,rfl,qaj ⟨HN.o,rfl,rfl⟩⟩,qS ax.o (by omega) _⟩
theorem RFit.mul {p q:Rat} {K:Nat} (F:RFit p K) (G:RFit q K):RFit (p*q) (K+K):=by
 have H:Fit (p.num*q.num).natAbs (K+K):=by rw [qaD];exact F.1.mul G.1
 have I:Fit (p.den*q.den) (K+K):=F.2.mul G.2;rw [Rat.mul_def'];have hne:=qbF p.den_nz q.den_nz
 constructor
 ·rw [Rat.num_mkRat,if_neg hne];refine H.le ?_;rw [Int.natAbs_ediv_of_dvd (Int.ofNat_dvd_left.2 (qaR _ _))];exact qaM _ _
 ·rw [Rat.den_mkRat,if_neg hne];exact I.le (qaM _ _)
theorem fcmp_any (n d m c:ByteArray) (w:World) :
  Calls prog 25 #[.agg #[.string n,.string d],.agg #[.string m,.string c]] w fun e w'=>FCmps w n.data.toList d.data.toList m.data.toList c.data.toList e w':=by
 have O:=qH (fun W=>qko n d m c W);have I:Hu (Below w.heap.size w ((w.alloc (.cells #[.string n,.string d] 27)).alloc (.cells #[.string m,.string c] 27))):=qH (qbM (qbM qB qN) qN);go_enter func25,ntmps25;go_wp2_with fail;refine (O.o _).mono ?_;rintro e U ⟨h,J⟩;have H:=qH (I.o.trans (J.mono I.o.size));clear J;rcases h with ⟨F,rfl⟩ | ⟨F,rfl⟩
 ·have G:=qH F;clear F;go_wp2_with fail
  go_ret2
  exact⟨qav ⟨G.o,rfl⟩,H.o⟩
 ·have G:=qH F;clear F;go_wp2_with fail
  go_ret2
  exact⟨qaj ⟨G.o,rfl⟩,H.o⟩
theorem qi7 (a:Option Addr) (x c:Nat) (b:Bool) (d:Option Addr) (F f:Nat) (w:World) :
  Calls prog 186 #[.agg #[.slice a x c,.bool b,.slice d F f],.int .i64 20] w fun e w'=>e=.returned (.tuple #[.agg #[.string ⟨#[]⟩,.string ⟨#[]⟩],.int .i64 20])/\Below w.heap.size w w':=by
 have G:∀cs,Hu (Below w.heap.size w ((w.alloc (.cells #[.slice a x c,.bool b,.slice d F f] 127)).alloc (.cells cs 27))):=fun cs=>qH (qbM (qbM qB qN) qN)
 go_enter func186,ntmps186;go_wp2_with fail;exact qR (v:=.tuple #[.agg #[.string ⟨#[]⟩,.string ⟨#[]⟩],.int .i64 20]) (rB_ rfl (w.heap.size+1) (qM _ _ _ (by simp)) underlying27 2) rfl ⟨rfl,(G _).o⟩
theorem qks (q:Rat) (K:Nat) (aa:0<K) (hK:K<=34359738368) (v:Value) (w:World) (hv:RatV w v q) (hq:RFit q K) (hT:HasT w) :
  Calls prog 186 #[v,.int .i64 0] w fun e w'=>qhr w q e w':=by
 obtain⟨a,x,c,b,d,e0,f,rfl⟩:=qcV hv;obtain⟨W1,F⟩:=qY ((w.alloc (.cells #[.slice a x c,.bool b,.slice d e0 f] 127)).alloc (.cells #[.string ⟨#[]⟩,.string ⟨#[]⟩] 27));have G:Below w.heap.size w W1:=F▸qbM (qbM qB qN) qN;have U:W1.heap[w.heap.size+1]? = some (.cells #[.string ⟨#[]⟩,.string ⟨#[]⟩] 27 (0,0)):=by rw [F];exact qM _ _ _ (by simp)
 have HW:=qH (qfD q K aa hK _ W1 (hv.below G) hq (hT.below G));have Y:=qH (qA G U);clear hv hq hT G U hK;go_enter func186,ntmps186;go_wp2_with fail;rw [<-F];clear F;refine HW.o.mono ?_;rintro e w2 ⟨h,hb⟩;have J:=qH (qA ((hb.block _ (qG Y.o.2).1).trans Y.o.2) (Y.o.1.trans (hb.mono Y.o.1.size)));clear hb;rcases h with ⟨V,rfl⟩ | ⟨V,rfl⟩
 ·unfold fstr;have Z:=qH V;obtain⟨T1,H⟩:∃T,qcb q.num=T:=⟨_,rfl⟩;obtain⟨T2,I⟩:∃T,num q.den=T:=⟨_,rfl⟩;rw [H,I];have O:=qH (qA H I);clear H I V
  go_wp2_with (with_reducible refine sR_ rfl 27 _ _ rfl (w.heap.size+1) #[.string T1,.string T2] J.o.1 2 ?_)
  refine qR (v:=.tuple #[.agg #[.string T1,.string T2],.int .i64 0]) (rB_ rfl (w.heap.size+1) (qT _ _ _ _ _ _ J.o.1) underlying27 2) rfl ⟨qav ⟨Z.o,?_⟩,qS J.o.2 (by omega) _⟩;unfold fstr;rw [O.o.1,O.o.2]
 ·have Z:=qH V;clear V
  go_wp2_with (with_reducible refine sR_ rfl 27 _ _ rfl (w.heap.size+1) #[.string ⟨#[]⟩,.string ⟨#[]⟩] J.o.1 2 ?_)
  exact qR (v:=.tuple #[.agg #[.string ⟨#[]⟩,.string ⟨#[]⟩],.int .i64 6]) (rB_ rfl (w.heap.size+1) (qT _ _ _ _ _ _ J.o.1) underlying27 2) rfl ⟨qaj ⟨Z.o,rfl⟩,qS J.o.2 (by omega) _⟩
theorem fmul_any (n d m c:ByteArray) (w:World) (hT:HasT w) :
  Calls prog 114 #[.agg #[.string n,.string d],.agg #[.string m,.string c]] w fun e w'=>FDoes w (· * ·) n.data.toList d.data.toList m.data.toList c.data.toList e w':=by
 have HT:=qH hT;have HA:=qH (fun W=>qkp n d m c W);obtain⟨W1,I⟩:=qY (((w.alloc (.cells #[.string n,.string d] 27)).alloc (.cells #[.string m,.string c] 27)).alloc (.cells #[.string ⟨#[]⟩,.string ⟨#[]⟩] 27));have aa:Below w.heap.size w W1:=I▸qbM (qbM (qbM qB qN) qN) qN;have ae:W1.heap[w.heap.size+1+1]? = some (.cells #[.string ⟨#[]⟩,.string ⟨#[]⟩] 27 (0,0)):=by rw [I];exact qM _ _ _ (by simp)
 have HR:=qH (qA aa ae);clear aa ae hT;go_enter func114,ntmps114;go_wp2_with fail;rw [<-I];clear I;refine (HA.o W1).mono ?_;rintro e w2 ⟨⟨v,er,rfl,h⟩,F⟩;have H:=qH (qA ((F.block _ (qG HR.o.2).1).trans HR.o.2) (HR.o.1.trans (F.mono HR.o.1.size)));clear F;rcases h with ⟨Y,rfl,hv⟩ | ⟨Y,rfl,rfl⟩
 ·have J:=qks _ (67+67) (by decide) (by decide) v w2 hv (Y.1.fit.mul Y.2.fit) (HT.o.below H.o.2);have HF:=qH Y;have O:=qH J;obtain⟨a7,n7,c7,b7,d7,e7,f7,rfl⟩:=qcV hv;clear Y J hv;go_wp2_with fail;refine O.o.mono ?_;rintro e w3 ⟨h,F⟩;have G:=qH (qA ((F.block _ (qG H.o.1).1).trans H.o.1) (H.o.2.trans (F.mono H.o.2.size)));clear F;rcases h with ⟨hs,rfl⟩ | ⟨hs,rfl⟩
  ·unfold fstr;have HS:=qH hs;obtain⟨q,hq⟩:=qX (((· * ·):Rat->Rat->Rat) (fval n.data.toList d.data.toList) (fval m.data.toList c.data.toList));obtain⟨T1,U⟩:∃T,qcb (((· * ·):Rat->Rat->Rat) (fval n.data.toList d.data.toList) (fval m.data.toList c.data.toList)).num=T:=⟨_,rfl⟩;obtain⟨T2,V⟩:∃T,num (((· * ·):Rat->Rat->Rat) (fval n.data.toList d.data.toList) (fval m.data.toList c.data.toList)).den=T:=⟨_,rfl⟩;rw [U,V];have Z:=qH (qA U V);clear U V hs hq
   go_wp2_with (with_reducible refine sR_ rfl 27 _ _ rfl (w.heap.size+1+1) #[.string T1,.string T2] G.o.1 2 ?_)
   refine qR (v:=.tuple #[.agg #[.string T1,.string T2],.int .i64 0]) (rB_ rfl (w.heap.size+1+1) (qT _ _ _ _ _ _ G.o.1) underlying27 2) rfl ⟨qav ⟨HF.o,qav ⟨HS.o,?_⟩⟩,qS G.o.2 (by omega) _⟩;unfold fstr;rw [Z.o.1,Z.o.2]
  ·have HS:=qH hs;clear hs
   go_wp2_with (with_reducible refine sR_ rfl 27 _ _ rfl (w.heap.size+1+1) #[.string ⟨#[]⟩,.string ⟨#[]⟩] G.o.1 2 ?_)
   exact qR (v:=.tuple #[.agg #[.string ⟨#[]⟩,.string ⟨#[]⟩],.int .i64 6]) (rB_ rfl (w.heap.size+1+1) (qT _ _ _ _ _ _ G.o.1) underlying27 2) rfl ⟨qav ⟨HF.o,qaj ⟨HS.o,rfl⟩⟩,qS G.o.2 (by omega) _⟩
 ·have HF:=qH Y;have O:=qH (fun W=>qi7 none 0 0 false none 0 0 W);clear Y;go_wp2_with fail;refine (O.o _).mono ?_;rintro e w3 ⟨rfl,F⟩;have G:=qH (qA ((F.block _ (qG H.o.1).1).trans H.o.1) (H.o.2.trans (F.mono H.o.2.size)));clear F
  go_wp2_with (with_reducible refine sR_ rfl 27 _ _ rfl (w.heap.size+1+1) #[.string ⟨#[]⟩,.string ⟨#[]⟩] G.o.1 2 ?_)
  exact qR (v:=.tuple #[.agg #[.string ⟨#[]⟩,.string ⟨#[]⟩],.int .i64 20]) (rB_ rfl (w.heap.size+1+1) (qT _ _ _ _ _ _ G.o.1) underlying27 2) rfl ⟨qaj ⟨HF.o,rfl⟩,qS G.o.2 (by omega) _⟩
theorem qmr (n d:Int) (hd:d≠0):(Rat.divInt n d).num=(if (decide (n<0) != decide (d<0))=true then -((n.natAbs / n.natAbs.gcd d.natAbs:Nat):Int) else ((n.natAbs / n.natAbs.gcd d.natAbs:Nat):Int))/\(Rat.divInt n d).den=d.natAbs / n.natAbs.gcd d.natAbs:=by
 have hg:0<n.natAbs.gcd d.natAbs:=qa5 _ (by omega);obtain⟨z,J⟩:=qX (if (decide (n<0) != decide (d<0))=true then -((n.natAbs / n.natAbs.gcd d.natAbs:Nat):Int) else ((n.natAbs / n.natAbs.gcd d.natAbs:Nat):Int));rw [J];have O:z.natAbs=n.natAbs / n.natAbs.gcd d.natAbs:=by
  rw [<-J];generalize n.natAbs / n.natAbs.gcd d.natAbs=A;split <;> omega
 have h0:d.natAbs / n.natAbs.gcd d.natAbs≠0:=qbf (Nat.div_pos (qbD (by omega) (qaR _ _)) hg);have hc:z.natAbs.Coprime (d.natAbs / n.natAbs.gcd d.natAbs):=by rw [O];exact Nat.coprime_div_gcd_div_gcd hg
 have hx:n.natAbs / n.natAbs.gcd d.natAbs*d.natAbs=n.natAbs*(d.natAbs / n.natAbs.gcd d.natAbs):=by
  obtain⟨a,U⟩:=qbI n.natAbs d.natAbs;obtain⟨b,V⟩:=qaR n.natAbs d.natAbs;have Y:n.natAbs / n.natAbs.gcd d.natAbs=a:=by (conv=>lhs;lhs;rw [U]);exact qaO _ hg
  have Z:d.natAbs / n.natAbs.gcd d.natAbs=b:=by (conv=>lhs;lhs;rw [V]);exact qaO _ hg
  rw [Y,Z];generalize n.natAbs.gcd d.natAbs=g at *;rw [U,V];simp only [qbr,qaC]
 have e:=qiC (z:=z) (N:=if d<0 then -n else n) (D:=d.natAbs) h0 hc (by omega) (by
  have F:((n.natAbs / n.natAbs.gcd d.natAbs:Nat):Int)*(d.natAbs:Int)=(n.natAbs:Int)*((d.natAbs / n.natAbs.gcd d.natAbs:Nat):Int):=by exact_mod_cast hx
  generalize ((d.natAbs / n.natAbs.gcd d.natAbs:Nat):Int)=B at *;rw [<-J];generalize ((n.natAbs / n.natAbs.gcd d.natAbs:Nat):Int)=A at *
  by_cases H:n<0
  ·have I:(n.natAbs:Int) = -n:=by omega
   rw [I] at F
   by_cases G:d<0
   ·rw [qV H,qV G,if_neg (by decide),if_pos G];exact F
   ·rw [qV H,qU G,if_pos (by decide),if_neg G,qbx,F,qbx,Int.neg_neg]
  ·have I:(n.natAbs:Int)=n:=by omega
   rw [I] at F
   by_cases G:d<0
   ·rw [qU H,qV G,if_pos (by decide),if_pos G,qbx,F,qbx]
   ·rw [qU H,qU G,if_neg (by decide),if_neg G];exact F) (q:=Rat.divInt n d) (by
  by_cases G:d<0
  ·rw [if_pos G,<-Rat.divInt_ofNat,<-Rat.neg_divInt_neg]
   congr 1;omega
  ·rw [if_neg G,<-Rat.divInt_ofNat]
   congr 1;omega)
 exact e
theorem qhb (n d:Int) (aC:d≠0) (K:Nat) (az:0<K) (hK:K<=34359738368) (v u:Value) (w:World) (Z:IntAt w v n) (hu:IntAt w u d) (fn:Fit n.natAbs K) (fd:Fit d.natAbs K) (hT:HasT w) :
  Calls prog 160 #[v,u] w fun e w'=>qhr w (Rat.divInt n d) e w':=by
 obtain⟨mn,rfl,hn⟩:=Z;obtain⟨md,rfl,hd⟩:=hu;obtain⟨aa,ae⟩:=qmr n d aC;obtain⟨q,hq⟩:=qX (Rat.divInt n d);rw [hq] at aa ae ⊢;have av:0<n.natAbs.gcd d.natAbs:=qa5 _ (by omega);have fg:Fit (n.natAbs.gcd d.natAbs) K:=fd.le (Nat.gcd_le_right _ (by omega));obtain⟨g,hg⟩:=qX (n.natAbs.gcd d.natAbs);obtain⟨x,hx⟩:=qX n.natAbs;obtain⟨y,hy⟩:=qX d.natAbs;rw [hg] at aa ae av fg;rw [hx] at aa hn fn hg;rw [hy] at ae hd fd hg;obtain⟨a,ha⟩:=qX (x / g);obtain⟨b,F⟩:=qX (y / g);rw [ha] at aa;rw [F] at ae;have fa:Fit a K:=ha▸fn.le (qaM _ _);have fb:Fit b K:=F▸fd.le (qaM _ _);have aD:q.num.natAbs=a:=by rw [aa];split <;> omega
 have aA:Short q↔(num a).size<=600/\(num b).size<=600:=by unfold Short;rw [aD,ae]
 have HQ:=qH (qA aa (qA ae aA));generalize decide (n<0)=b0 at *;generalize decide (d<0)=b1 at *;have HF:=qH (qA fn (qA fd (qA fg (qA fa fb))));have HE:=qH (qA hg (qA ha (qA F av)));have HK:=qH (qA az hK);have HX:=qH (qA hn hd);have HT:=qH hT;obtain⟨a0,_,_,c0,n0,_,rfl,_,_⟩:=hn;obtain⟨a1,_,_,c1,n1,_,rfl,_,_⟩:=hd;obtain⟨W1,af⟩:=qY (((w.alloc (.cells #[.slice a0 n0 c0,.bool b0] 217)).alloc (.cells #[.slice a1 n1 c1,.bool b1] 217)).alloc (.cells #[.string ⟨#[]⟩,.string ⟨#[]⟩] 27));have aB:Below w.heap.size w W1:=af▸qbM (qbM (qbM qB qN) qN) qN;have aF:W1.heap[w.heap.size]? = some (.cells #[.slice a0 n0 c0,.bool b0] 217 (0,0)):=by rw [af,qL _ _ _ (by simp only [qaa];omega),qL _ _ _ (by simp only [qaa];omega)];exact qM _ _ _ rfl
 have aG:W1.heap[w.heap.size+1]? = some (.cells #[.slice a1 n1 c1,.bool b1] 217 (0,0)):=by rw [af,qL _ _ _ (by simp only [qaa];omega)];exact qM _ _ _ (by simp)
 have aH:W1.heap[w.heap.size+1+1]? = some (.cells #[.string ⟨#[]⟩,.string ⟨#[]⟩] 27 (0,0)):=by rw [af];exact qM _ _ _ (by simp)
 have I:=qH (qA aB (qA aF (qA aG aH)));have HN:=qH hq;clear hq aa ae aA aD fn fd fg fa fb hg ha F av az hK hT aB aF aG aH hx hy aC;go_enter func160,ntmps160;go_wp2_with fail;rw [<-af];clear af
 ·refine ((qcD .l) x y K (by have:=HK.o;omega) _ _ W1 (HX.o.1.below I.o.1) (HX.o.2.below I.o.1) HF.o.1 HF.o.2.1).mono ?_;rintro e w2 ⟨vg,rfl,F,Z⟩;rw [HE.o.1] at Z;have Mw2_g:=qH Z;have J:=qH (qA (I.o.1.trans (F.mono I.o.1.size)) (qA ((F.block _ (qG I.o.2.1).1).trans I.o.2.1) (qA ((F.block _ (qG I.o.2.2.1).1).trans I.o.2.2.1) ((F.block _ (qG I.o.2.2.2).1).trans I.o.2.2.2))));have aN:=qC w2 _ 0 _ _ _ J.o.2.1;obtain⟨sg,_,_,ug,tg,_,rfl,_,_⟩:=Z;clear F;go_wp2_with fail;refine ((qbV .l) x g K (by have:=HK.o;omega) _ _ w2 (HX.o.1.below J.o.1) Mw2_g.o HF.o.1 HF.o.2.2.1 HE.o.2.2.2).mono ?_;rintro e w3 ⟨va,_,rfl,F,Z,_⟩;rw [HE.o.2.1] at Z;have Mw3_a:=qH Z;have O:=qH (qA (J.o.1.trans (F.mono J.o.1.size)) (qA ((F.block _ (qG J.o.2.1).1).trans J.o.2.1) (qA ((F.block _ (qG J.o.2.2.1).1).trans J.o.2.2.1) ((F.block _ (qG J.o.2.2.2).1).trans J.o.2.2.2))));have Mw3_g:=qH (Mw2_g.o.below F);have aP:=qC w3 _ 0 _ _ _ O.o.2.2.1;obtain⟨sa,_,_,ua,ta,_,rfl,_,_⟩:=Z;clear F aN;go_wp2_with fail;refine ((qbV .l) y g K (by have:=HK.o;omega) _ _ w3 (HX.o.2.below O.o.1) Mw3_g.o HF.o.2.1 HF.o.2.2.1 HE.o.2.2.2).mono ?_;rintro e w4 ⟨vb,_,rfl,F,Z,_⟩;rw [HE.o.2.2.1] at Z;have Mw4_b:=qH Z;have U:=qH (qA (O.o.1.trans (F.mono O.o.1.size)) (qA ((F.block _ (qG O.o.2.1).1).trans O.o.2.1) (qA ((F.block _ (qG O.o.2.2.1).1).trans O.o.2.2.1) ((F.block _ (qG O.o.2.2.2).1).trans O.o.2.2.2))));have Mw4_a:=qH (Mw3_a.o.below F);obtain⟨sb,_,_,ub,tb,_,rfl,_,_⟩:=Z;clear F aP;obtain⟨L1,ai⟩:∃L,(num a).size=L:=⟨_,rfl⟩;obtain⟨L2,aj⟩:∃L,(num b).size=L:=⟨_,rfl⟩;have HL:=qH (show Short q↔L1<=600/\L2<=600 by rw [<-ai,<-aj];exact HQ.o.2.2);have l1:=(qdi .l) a K (by have:=HK.o;omega) _ w4 Mw4_a.o HF.o.2.2.2.1 (HT.o.below U.o.1);rw [ai] at l1;have aI:=qH l1;have aM:=qH aj;clear l1 ai aj;go_wp2_with fail;refine aI.o.mono ?_;rintro e w5 ⟨rfl,F⟩;have H:=qH (qA (U.o.1.trans (F.mono U.o.1.size)) (qA ((F.block _ (qG U.o.2.1).1).trans U.o.2.1) (qA ((F.block _ (qG U.o.2.2.1).1).trans U.o.2.2.1) ((F.block _ (qG U.o.2.2.2).1).trans U.o.2.2.2))));have Mw5_a:=qH (Mw4_a.o.below F);have Mw5_b:=qH (Mw4_b.o.below F);clear F
  by_cases h1:(600:Int)<L1
  ·have ag:Hu (¬Short q):=qH (fun h=>by have:=HL.o.1 h;omega)
   go_wp2_with (with_reducible refine sR_ rfl 27 _ _ rfl (w.heap.size+1+1) #[.string ⟨#[]⟩,.string ⟨#[]⟩] H.o.2.2.2 2 ?_)
   exact qR (v:=.tuple #[.agg #[.string ⟨#[]⟩,.string ⟨#[]⟩],.int .i64 6]) (rB_ rfl (w.heap.size+1+1) (qT _ _ _ _ _ _ H.o.2.2.2) underlying27 2) rfl ⟨qaj ⟨ag.o,rfl⟩,qS H.o.1 (by omega) _⟩
  ·have l2:=(qdi .l) b K (by have:=HK.o;omega) _ w5 Mw5_b.o HF.o.2.2.2.2 (HT.o.below H.o.1);rw [aM.o] at l2;have aJ:=qH l2;clear l2;go_wp2_with fail;refine aJ.o.mono ?_;rintro e w6 ⟨rfl,F⟩;have G:=qH (qA (H.o.1.trans (F.mono H.o.1.size)) (qA ((F.block _ (qG H.o.2.1).1).trans H.o.2.1) (qA ((F.block _ (qG H.o.2.2.1).1).trans H.o.2.2.1) ((F.block _ (qG H.o.2.2.2).1).trans H.o.2.2.2))));have Mw6_a:=qH (Mw5_a.o.below F);have Mw6_b:=qH (Mw5_b.o.below F);clear F
   by_cases h2:(600:Int)<L2
   ·have ag:Hu (¬Short q):=qH (fun h=>by have:=HL.o.1 h;omega)
    go_wp2_with (with_reducible refine sR_ rfl 27 _ _ rfl (w.heap.size+1+1) #[.string ⟨#[]⟩,.string ⟨#[]⟩] G.o.2.2.2 2 ?_)
    exact qR (v:=.tuple #[.agg #[.string ⟨#[]⟩,.string ⟨#[]⟩],.int .i64 6]) (rB_ rfl (w.heap.size+1+1) (qT _ _ _ _ _ _ G.o.2.2.2) underlying27 2) rfl ⟨qaj ⟨ag.o,rfl⟩,qS G.o.1 (by omega) _⟩
   ·have HY:Hu (Short q):=qH (HL.o.2 (by omega));have aO:=qC w6 _ 1 _ _ _ G.o.2.1;have aQ:=qC w6 _ 1 _ _ _ G.o.2.2.1;go_wp2_with fail;refine ((qb2 .l) a (b0 != b1) _ w6 Mw6_a.o).mono ?_;rintro e w7 ⟨v7,rfl,F,Z⟩;rw [<-HQ.o.1] at Z;have I7:=qH Z;have V:=qH (qA (G.o.1.trans (F.mono G.o.1.size)) (qA ((F.block _ (qG G.o.2.1).1).trans G.o.2.1) (qA ((F.block _ (qG G.o.2.2.1).1).trans G.o.2.2.1) ((F.block _ (qG G.o.2.2.2).1).trans G.o.2.2.2))));have Mw7_b:=qH (Mw6_b.o.below F);obtain⟨a9,n9,c9,b9,rfl⟩:=qbN Z;have fq:Fit q.num.natAbs K:=by
     have h:=HQ.o.1;rw [h];split <;> (first | (rw [qbu,qaq];exact HF.o.2.2.2.1) | (rw [qaq];exact HF.o.2.2.2.1))
    have t7:=(qgr .l) q.num K HK.o.1 (by have:=HK.o;omega) _ w7 I7.o fq (HT.o.below V.o.1);obtain⟨T1,ak⟩:∃T,qcb q.num=T:=⟨_,rfl⟩;rw [ak] at t7;have aK:=qH t7;have ax:=qH ak;clear F aO aQ Z t7 ak fq;go_wp2_with fail;refine aK.o.mono ?_;rintro e w8 ⟨rfl,F⟩;have Y:=qH (qA (V.o.1.trans (F.mono V.o.1.size)) (qA ((F.block _ (qG V.o.2.1).1).trans V.o.2.1) (qA ((F.block _ (qG V.o.2.2.1).1).trans V.o.2.2.1) ((F.block _ (qG V.o.2.2.2).1).trans V.o.2.2.2))));have Mw8_b:=qH (Mw7_b.o.below F);have t8:=(qd8 .l) b K (by have:=HK.o;omega) _ w8 Mw8_b.o HF.o.2.2.2.2 (HT.o.below Y.o.1);obtain⟨T2,au⟩:∃T,num b=T:=⟨_,rfl⟩;rw [au] at t8;have aL:=qH t8;have ay:=qH au;clear F t8 au;go_wp2_with fail;refine aL.o.mono ?_;rintro e w9 ⟨rfl,F⟩;have ah:=qH (qA (Y.o.1.trans (F.mono Y.o.1.size)) (qA ((F.block _ (qG Y.o.2.1).1).trans Y.o.2.1) (qA ((F.block _ (qG Y.o.2.2.1).1).trans Y.o.2.2.1) ((F.block _ (qG Y.o.2.2.2).1).trans Y.o.2.2.2))));clear F
    go_wp2_with (with_reducible refine sR_ rfl 27 _ _ rfl (w.heap.size+1+1) #[.string T1,.string T2] ah.o.2.2.2 2 ?_)
    refine qR (v:=.tuple #[.agg #[.string T1,.string T2],.int .i64 0]) (rB_ rfl (w.heap.size+1+1) (qT _ _ _ _ _ _ ah.o.2.2.2) underlying27 2) rfl ⟨qav ⟨HY.o,?_⟩,qS ah.o.1 (by omega) _⟩;unfold fstr;rw [show qcb q.num=T1 from ax.o,HQ.o.2.1,ay.o]
structure VCells (W:World) (ao:Option Addr) (b off:Nat) (vs:List Value):Prop where
 addr:0<vs.length->ao=some ⟨b,off,none⟩
 cell:∀k,k<vs.length->W.cell? ⟨b,off+k,none⟩=some (vs.getD k undef)
theorem VCells.below {W W':World} {G:Option Addr} {b F:Nat} {I:List Value} (h:VCells W G b F I) (J:Below W.heap.size W W'):VCells W' G b F I :=
 ⟨h.addr,fun k H=>(J.cell (qac W _ (h.cell k H))).trans (h.cell k H)⟩
def qdg (W:World) (G:List Value) (F:List Nat):Prop:=G.length=F.length/\∀k,k<F.length->MagAt W (G.getD k undef) (F.getD k 0)
theorem qdg.below {W W':World} {F:List Value} {G:List Nat} (h:qdg W F G) (H:Below W.heap.size W W'):qdg W' F G:=⟨h.1,fun k I=>(h.2 k I).below H⟩
def lcms (F:List Nat):Nat:=F.foldl Nat.lcm 1
theorem qfc (F:List Nat) (k:Nat) (h:k<F.length):lcms (F.take (k+1))=(lcms (F.take k)).lcm (F.getD k 0):=by
 unfold lcms;rw [List.take_add_one,qad h,List.foldl_append,qab,qad h];rfl
theorem qfb (F:List Nat) (h:∀k,k<F.length->0<F.getD k 0):∀k,k<=F.length->0<lcms (F.take k)
 | 0,_=>by simp [lcms]
 | k+1,hk=>by rw [qfc F k (by omega)];exact Nat.lcm_pos (qfb F h k (by omega)) (h k (by omega))
theorem qfa (F:List Nat) (J:Nat) (h:∀k,k<F.length->0<F.getD k 0/\Fit (F.getD k 0) J):∀k,k<=F.length->Fit (lcms (F.take k)) (k*J+1)
 | 0,_=>by show 1<1000000000 ^ (0*J+1);rw [Nat.zero_mul];decide
 | k+1,G=>by
  rw [qfc F k (by omega)];have H:=(qfa F J h k (by omega)).mul (h k (by omega)).2;have I:=qfb F (fun k G=>(h k G).1) k (by omega);have O:=(h k (by omega)).1;refine (H.le (qbD (qbL I O) (Nat.lcm_dvd_mul _ _))).mono ?_;rw [qaE];omega
theorem qhC (F:List Nat):∀m k,k<m->m<=F.length->F.getD k 0∣lcms (F.take m)
 | 0,_,h,_=>absurd h (by omega)
 | m+1,k,G,hm=>by
  rw [qfc F m (by omega)]
  by_cases e:k=m
  ·subst e;exact Nat.dvd_lcm_right _ _
  ·exact Nat.dvd_trans (qhC F m k (by omega) (by omega)) (Nat.dvd_lcm_left _ _)
theorem qgW (ao:Option Addr) (b aj n c:Nat) (vs:List Value) (G:List Nat) (J:Nat) (w:World) (hn:G.length=n) (F:VCells w ao b aj vs) (hm:qdg w vs G) (hx:∀k,k<n->0<G.getD k 0/\Fit (G.getD k 0) J) (hb:n*J+1<=137438953472) (hJ:J<=137438953472) (au:n<=1048576) :
  Calls prog 210 #[.slice ao n c] w fun e w'=>∃v,e=.returned v/\Below w.heap.size w w'/\MagAt w' v (lcms G):=by
 have af:vs.length=n:=hm.1.trans hn;have H:=qH (qA F (qA hm (qA hn af)));have HX:=qH (qA hx (qA hb hJ));clear F hm hn af hx hb hJ;go_enter func210,ntmps210;go_wp2
 go_loopw [3,9] (fun x3 x9 W=>∃k:Nat,k<=n/\x9=.int .i64 k/\Hu (MagAt W x3 (lcms (G.take k)))/\Hu (Below w.heap.size w W)) (fun _ x9 _=>n-(intOf x9).toNat)
 case atStart=>exact⟨0,qan _,rfl,qH (qfu w _ (by decide) (by decide)),qH (qbM qB qN)⟩
 case round =>
  obtain⟨k,hk,rfl,hM,hB⟩:=hrel
  by_cases ai:k<n
  ·have ak:(k:Int)<n:=by omega
   have ag:=H.o.1.addr (by have:=H.o.2.2.2;omega);subst ag;have hc:=(H.o.1.below hB.o).cell k (by have:=H.o.2.2.2;omega);have U:=((H.o.2.1.below hB.o).2 k (by have:=H.o.2.2.1;omega));obtain⟨vk,ae⟩:=qX (vs.getD k undef);rw [ae] at hc U;have V:∀j,j<G.length->0<G.getD j 0/\Fit (G.getD j 0) J:=fun j hj=>HX.o.1 j (by have:=H.o.2.2.1;omega)
   have ah:k*J<=n*J:=qaP _ hk;have O:=qeh (lcms (G.take k)) (G.getD k 0) (k*J+1) J (by have:=HX.o.2.1;omega) HX.o.2.2 (qfb G (fun j hj=>(V j hj).1) k (by have:=H.o.2.2.1;omega)) (V k (by have:=H.o.2.2.1;omega)).1 _ vk wr hM.o U (qfa G J V k (by have:=H.o.2.2.1;omega)) (V k (by have:=H.o.2.2.1;omega)).2;rw [<-qfc G k (by have:=H.o.2.2.1;omega)] at O;have HM:=qH O;have HV:=qH U;obtain⟨sa,_,_,sc,sn,_,rfl,_,_⟩:=U;obtain⟨ua,_,_,uc,un,_,rfl,_,_⟩:=hM.o;clear O ah ae;go_wp2_with fail;refine HM.o.mono ?_;rintro e w2 ⟨v2,rfl,Z,aa⟩;have H2:=qH (qA (hB.o.trans (Z.mono hB.o.size)) aa);clear Z aa;go_wp2;go_roundw
   case rel=>exact⟨k+1,ai,by go_num,qH H2.o.2,qH H2.o.1⟩
   case measure=>simp [intOf];omega
  ·obtain rfl:k=n:=by omega
   have I:=hM.o;rw [qal (by have:=H.o.2.2.1;omega)] at I;have Y:=qH I;clear I;go_wp2;go_ret;exact⟨_,rfl,hB.o,Y.o⟩
theorem FOk.dpos {n d:List UInt8} (h:FOk n d):0<(ival d).natAbs:=by have:=h.pos;omega
theorem qeZ (a:Option Addr) (n c:Nat) (b:Bool) (w:World):(Instr.field 217 (.agg #[.slice a n c,.bool b]) 0).run prog w=.ok (.slice a n c) w:=by kernel_rfl
theorem qmU (n d:ByteArray) (hf:FOk n.data.toList d.data.toList) (pb:Nat) (a2:Option Addr) (n2 c2:Nat) (Bv K:Nat) (hK:K<=68719476736) (ai:67<=K) (w:World) (I:w.heap[pb]? = some (.cells #[.slice a2 n2 c2] 213 (0,0))) (hm:MagAt w (.slice a2 n2 c2) Bv) (hB:Fit Bv K) :
  Calls prog 211 #[.agg #[.string n,.string d],.pointer (some ⟨pb,0,none⟩)] w fun e w'=>∃v,e=.returned v/\Below w.heap.size w w'/\IntAt w' v (ival n.data.toList*((Bv / (ival d.data.toList).natAbs:Nat):Int)):=by
 obtain⟨F,H⟩:=qY ((w.alloc (.cells #[.string n,.string d] 27)).alloc (.cells #[.slice none 0 0,.bool false] 217));have J:Below w.heap.size w F:=H▸qbM (qbM qB qN) qN;have G:F.heap[w.heap.size]? = some (.cells #[.string n,.string d] 27 (0,0)):=by rw [H,qL _ _ _ (by simp only [qaa];omega)];exact qM _ _ _ rfl
 have ay:F.heap[w.heap.size+1]? = some (.cells #[.slice none 0 0,.bool false] 217 (0,0)):=by rw [H];exact qM _ _ _ (by simp)
 have ag:=(J.block _ (qG I).1).trans I;have C0:∀W,Below F.heap.size F W->W.cell? ⟨pb,0,none⟩=some (.slice a2 n2 c2):=fun W h=>(h.cell (p:=⟨pb,0,none⟩) (qG ag).1).trans (qC _ _ 0 _ _ _ ag)
 have C1:∀W,Below F.heap.size F W->W.cell? ⟨w.heap.size,1,none⟩=some (.string d):=fun W h=>(h.cell (p:=⟨w.heap.size,1,none⟩) (qG G).1).trans (qC _ _ 1 _ _ _ G)
 have C2:∀W,Below F.heap.size F W->W.cell? ⟨w.heap.size,0,none⟩=some (.string n):=fun W h=>(h.cell (p:=⟨w.heap.size,0,none⟩) (qG G).1).trans (qC _ _ 0 _ _ _ G)
 have aA:=qH (fun W=>(qb7 .l) d hf.vd W);have aB:=qH (fun W=>(qb7 .l) n hf.vn W);have HR:=qH (qA J (qA ay (hm.below J)));have O:=qH (qA hf (qA hB (qA hK ai)));have aF:=qeZ;have az:Below F.heap.size F F:=Below.refl _ _;have U:Below F.heap.size F F.drew:=az.drew;have HC:=qH (qA C2 G);clear J G ay ag hm hf hB I C2;go_enter func211,ntmps211;go_wp2_with fail;rw [<-H];clear H
 go_cut [4] (fun x4 W=>∃(a4:Option Addr) (n4 c4:Nat),x4=.slice a4 n4 c4/\Hu (MagAt W (.slice a4 n4 c4) (Bv / (ival d.data.toList).natAbs))/\Hu (Below F.heap.size F W))
 case first =>
  go_region_held3 (fun W=>Below F.heap.size F W) (first | with_reducible exact az | with_reducible exact U | with_reducible exact ah | with_reducible exact V) (first | (go_at_call 148;refine (aA.o _).mono ?_;rintro e w2 ⟨p2,rfl,aj,aD⟩;have V:Below F.heap.size F w2:=U.trans aj;obtain⟨m2,rfl,av⟩:=aD;have G2:=qH av;obtain⟨s2,_,_,u2,t2,_,rfl,_,_⟩:=av;clear aj) | (go_at_call 159;refine ((qbV .l) Bv (ival d.data.toList).natAbs K (by have:=O.o.2.2.1;omega) _ _ _ (HR.o.2.2.below V) G2.o O.o.2.1 (O.o.1.vd.fit.mono O.o.2.2.2) O.o.1.dpos).mono ?_;rintro e w3 ⟨q3,r3,rfl,ak,ax,_⟩;have ah:Below F.heap.size F w3:=bjoin V ak;have G3:=qH ax;obtain⟨s3,_,_,u3,t3,_,rfl,_,_⟩:=ax;clear ak))
  all_goals go_wp2_with fail
  all_goals go_meet
  all_goals exact⟨_,_,_,rfl,G3,qH ah⟩
 case rest =>
  obtain⟨a4,n4,c4,rfl,aC,Y⟩:=hcut;have k0:=HC.o.1 wc Y.o;clear C0 C1;go_wp2_with fail;refine (aB.o _).mono ?_;rintro e w5 ⟨p5,rfl,Z,aa⟩;have I5:=qH aa;have G5:=qH (aC.o.below Z);have H5:=qH (Y.o.trans (Z.mono Y.o.size));obtain⟨a6,n6,c6,b6,rfl⟩:=qbN aa;clear Z aa k0;go_wp2_with fail;refine ((qci .l) (ival n.data.toList) (Bv / (ival d.data.toList).natAbs) 67 K (by have:=O.o.2.2.1;omega) _ _ w5 I5.o G5.o O.o.1.vn.fit (O.o.2.1.le (qaM _ _))).mono ?_;rintro e w6 ⟨p6,rfl,au,ae⟩;obtain⟨a9,n9,c9,b9,rfl⟩:=qbN ae;have h6:=H5.o.trans (au.mono H5.o.size);have af:=(h6.block _ (qG HR.o.2.1).1).trans HR.o.2.1;have H6:=qH (qA af (qA (HR.o.1.trans (h6.mono HR.o.1.size)) (qcU (cs':=#[.slice a9 n9 c9,.bool b9]) ae af qeR)));clear au ae h6 af
  go_wp2_with (with_reducible refine sR_ rfl 217 _ _ rfl (w.heap.size+1) #[.slice a9 n9 c9,.bool b9] H6.o.1 2 ?_)
  exact qR (v:=.agg #[.slice a9 n9 c9,.bool b9]) (rA_ rfl (w.heap.size+1) (qT _ _ _ _ _ _ H6.o.1) underlying217 2) rfl ⟨_,rfl,qS H6.o.2.1 (by omega) _,H6.o.2.2⟩
abbrev zs0:Value:=.slice none 0 0
def PRow (W:World) (g n:Nat) (F:List Value):Prop :=
 W.heap[g]? = some (.cells (F++List.replicate (n-F.length) zs0).toArray 213 (0,0))/\(∀v∈F,∀d,v≠.int .u32 d)/\F.length<=n
theorem qjd {W:World} {v:Value} {x:Nat} (h:MagAt W v x):∀d,v≠.int .u32 d:=by
 obtain⟨_,_,_,_,_,_,rfl,_,_⟩:=h;intro d e;cases e
theorem PRow.below {W W':World} {g n:Nat} {F:List Value} (h:PRow W g n F) (G:Below W.heap.size W W'):PRow W' g n F :=
 ⟨(G.block _ (qG h.1).1).trans h.1,h.2⟩
theorem PRow.made (W:World) (n:Nat):PRow (W.alloc (.cells (madeCells #[zs0] n) 213)) W.heap.size n []:=by
 refine⟨?_,(fun _ F=>absurd F (by simp)),qan _⟩;rw [qM _ _ _ rfl,qbw,List.length_nil,Nat.sub_zero,<-toList_madeCells_one,Array.toArray_toList]
theorem PRow.nope {W:World} {g n:Nat} {G:List Value} (h:PRow W g n G):∀x∈(G++List.replicate (n-G.length) zs0).toArray.toList,∀d,x≠.int .u32 d:=by
 intro x F d;rcases qaG.1 (show x∈G++List.replicate (n-G.length) zs0 from F) with F | F
 ·exact h.2.1 x F d
 ·rw [(List.mem_replicate.1 F).2];intro e;cases e
theorem PRow.at {W:World} {g n:Nat} {F:List Value} (h:PRow W g n F) (G:F.length<n):W.cell? ⟨g,F.length,none⟩=some zs0/\W.frozen? ⟨g,F.length,none⟩=false:=by
 refine⟨(qC _ _ _ _ _ _ h.1).trans ?_,qF _ _ _ _ _ h.1⟩;rw [qaz,qar qN,qaK,qbq,if_pos (by omega)]
theorem PRow.set {W:World} {g n:Nat} {F:List Value} (h:PRow W g n F) (J:F.length<n) (v:Value) (I:∀d,v≠.int .u32 d):PRow (W.setCell ⟨g,F.length,none⟩ v) g n (F++[v]):=by
 refine⟨?_,fun x G d=>?_,by rw [qaf,qaB];omega⟩
 ·rw [heap_setCell_same _ g F.length _ _ v h.1]
  congr 3
  obtain⟨m,H⟩:∃m,n-F.length=m+1:=⟨n-F.length-1,by omega⟩;rw [qaH,H,qbn,qa4 _ _ qN,qaK,qbh,qaf,qaB,show n-(F.length+1)=m by omega,qaA];rfl
 ·rcases qaG.1 G with G | G
  ·exact h.2.1 x G d
  ·rw [qao.1 G];exact I d
theorem PRow.cells {W:World} {g n:Nat} {F:List Value} (h:PRow W g n F) (_hn:F.length=n):VCells W (some ⟨g,0,none⟩) g 0 F:=by
 refine⟨fun _=>rfl,fun k G=>?_⟩;rw [qaL,qC _ _ _ _ _ _ h.1,qaz,qax G,qab,qad G];rfl
theorem qdg.keep {W W':World} {g:Nat} {cs:Array Value} {t:TypeId} {I:Nat×Nat} {G:List Value} {H:List Nat} (h:qdg W G H) (J:W.grownBy W' (some g)) (hg:W.heap[g]? = some (.cells cs t I)) (hne:∀x∈cs.toList,∀d,x≠.int .u32 d):qdg W' G H :=
 ⟨h.1,fun k F=>qch (h.2 k F) J hg hne⟩
theorem qdg.snoc {W:World} {H:List Value} {G:List Nat} {v:Value} {x:Nat} (h:qdg W H G) (J:MagAt W v x):qdg W (H++[v]) (G++[x]):=by
 refine⟨by rw [qaf,qaf,h.1];rfl,fun k I=>?_⟩;rw [qaf,qaB] at I
 by_cases F:k<G.length
 ·rw [qab,qab,qax (by rw [h.1];exact F),qax F,<-qab,<-qab];exact h.2 k F
 ·obtain rfl:k=G.length:=by omega
  rw [qab,qab,qar (by rw [h.1];exact qae _),qar qN,h.1,qaK];exact J
def iflat (F:List (Value×Bool)):List Value:=F.flatMap fun p=>[p.1,.bool p.2]
theorem qdP (F:List (Value×Bool)):(iflat F).length=F.length*2:=by
 induction F with
 | nil=>rfl
 | cons p F ih=>rw [iflat,List.flatMap_cons,qaf,<-iflat,ih,qbH];simp;omega
theorem qe6 (a b:List (Value×Bool)):iflat (a++b)=iflat a++iflat b:=by unfold iflat;rw [List.flatMap_append]
def IRow (W:World) (g n:Nat) (F:List (Value×Bool)):Prop :=
 W.heap[g]? = some (.cells (iflat (F++List.replicate (n-F.length) (zs0,false))).toArray 217 (0,0))/\(∀p∈F,∀d,p.1≠.int .u32 d)/\F.length<=n
theorem IRow.below {W W':World} {g n:Nat} {F:List (Value×Bool)} (h:IRow W g n F) (G:Below W.heap.size W W'):IRow W' g n F :=
 ⟨(G.block _ (qG h.1).1).trans h.1,h.2⟩
theorem qlG {G:List (Value×Bool)} (h:∀p∈G,∀d,p.1≠.int .u32 d):∀x∈iflat G,∀d,x≠.int .u32 d:=by
 intro x F d;unfold iflat at F;obtain⟨p,H,F⟩:=List.mem_flatMap.1 F;rcases qay.1 F with rfl | F
 ·exact h p H d
 ·rw [qao.1 F];intro e;cases e
theorem IRow.nope {W:World} {g n:Nat} {G:List (Value×Bool)} (h:IRow W g n G):∀x∈(iflat (G++List.replicate (n-G.length) (zs0,false))).toArray.toList,∀d,x≠.int .u32 d:=by
 refine qlG fun p F d=>?_
 rcases qaG.1 F with F | F
 ·exact h.2.1 p F d
 ·rw [(List.mem_replicate.1 F).2];intro e;cases e
theorem qe7 (F:List (Value×Bool)):∀(k:Nat) (p:Value×Bool),F[k]? = some p->(iflat F)[k*2]? = some p.1/\(iflat F)[k*2+1]? = some (.bool p.2):=by
 induction F with
 | nil=>intro k p h;cases h
 | cons q F ih =>
  intro k p h;have e:iflat (q :: F)=q.1 :: .bool q.2 :: iflat F:=rfl;rw [e];cases k with
  | zero =>
   have:q=p:=qag h;subst this;exact⟨rfl,rfl⟩
  | succ k =>
   have G:=ih k p h;rw [show (k+1)*2=k*2+1+1 by omega];exact G
theorem IRow.at {W:World} {g n:Nat} {F:List (Value×Bool)} (h:IRow W g n F) (J:F.length<n):(W.cell? ⟨g,F.length*2,none⟩=some zs0/\W.cell? ⟨g,F.length*2+1,none⟩=some (.bool false))/\∀j,W.frozen? ⟨g,j,none⟩=false:=by
 have G:(F++List.replicate (n-F.length) (zs0,false))[F.length]? = some (zs0,false):=by
  rw [qar qN,qaK,qbq,if_pos (by omega)]
 obtain⟨H,I⟩:=qe7 _ _ _ G;exact⟨⟨(qC _ _ _ _ _ _ h.1).trans ((qaz ..).trans H),(qC _ _ _ _ _ _ h.1).trans ((qaz ..).trans I)⟩,fun j=>qF _ _ _ _ _ h.1⟩
theorem IRow.set {W:World} {g n:Nat} {F:List (Value×Bool)} (h:IRow W g n F) (U:F.length<n) (v:Value) (b:Bool) (O:∀d,v≠.int .u32 d) :
  IRow ((W.setCell ⟨g,F.length*2,none⟩ v).setCell ⟨g,F.length*2+1,none⟩ (.bool b)) g n (F++[(v,b)]):=by
 refine⟨?_,fun x G d=>?_,by rw [qaf,qaB];omega⟩
 ·rw [heap_setCell_same _ g (F.length*2+1) _ _ _ (heap_setCell_same _ g (F.length*2) _ _ v h.1)]
  congr 3
  obtain⟨m,J⟩:∃m,n-F.length=m+1:=⟨n-F.length-1,by omega⟩;have H:iflat (F++List.replicate (m+1) (zs0,false))=iflat F++(zs0 :: .bool false :: iflat (List.replicate m (zs0,false))):=by
   rw [qe6,qbn];rfl
  have I:iflat (F++[(v,b)]++List.replicate m (zs0,false))=iflat F++(v :: .bool b :: iflat (List.replicate m (zs0,false))):=by
   rw [qe6,qe6,qaA];rfl
  rw [qaH,qaH,J,qaf,qaB,show n-(F.length+1)=m by omega,H,I];rw [qa4 _ _ (by rw [qdP];exact qae _),qdP,qaK,qbh,qa4 _ _ (by rw [qdP];omega),qdP,show F.length*2+1-F.length*2=1 by omega]
  rfl
 ·rcases qaG.1 G with G | G
  ·exact h.2.1 x G d
  ·rw [qao.1 G];exact O d
theorem qlH (n:Nat):∀i,i<n*2->(iflat (List.replicate n (zs0,false)))[i]? = some (if i % 2=0 then zs0 else .bool false):=by
 intro i F;have h:=qe7 (List.replicate n (zs0,false)) (i / 2) (zs0,false) (by rw [qbq,if_pos (by omega)])
 by_cases e:i % 2=0
 ·rw [if_pos e];have:=h.1
  rwa [show i / 2*2=i by omega] at this
 ·rw [if_neg e];have:=h.2
  rwa [show i / 2*2+1=i by omega] at this
theorem ql1 (n:Nat):madeCells #[zs0,.bool false] (n*2)=(iflat (List.replicate n (zs0,false))).toArray:=by
 apply Array.ext';apply List.ext_getElem?;intro i;rw [Array.getElem?_toList]
 show _=(iflat (List.replicate n (zs0,false)))[i]?
 by_cases F:i<n*2
 ·rw [qlH n i F];have G:(madeCells #[zs0,.bool false] (n*2))[i]? = some ((#[zs0,.bool false]:Array Value)[i % 2]!):=by simp [madeCells,F]
  rw [G]
  congr 1
  rcases (show i % 2=0\/i % 2=1 by omega) with e | e
  ·rw [if_pos e,e];rfl
  ·rw [if_neg (by omega),e];rfl
 ·rw [Array.getElem?_eq_none (by rw [size_madeCells];omega),qa8 (by rw [qdP,qbm];omega)]
theorem IRow.made (W:World) (n:Nat):IRow (W.alloc (.cells (madeCells #[zs0,.bool false] (n*2)) 217)) W.heap.size n []:=by
 refine⟨?_,(fun _ F=>absurd F (by simp)),qan _⟩;rw [qM _ _ _ rfl,qbw,List.length_nil,Nat.sub_zero,ql1]
theorem infoI:(Tryz.prog.info? 217).map (fun i=>(i.zero,i.size,i.bytes))=some (some (.agg #[zs0,.bool false]),2,32):=by kernel_rfl
theorem qgn (n:Nat) (J:n<=1048576) (w:World):(Instr.makeSlice 212 (.int .i64 (n:Int)) (.int .i64 (n:Int))).run prog w=.ok (.slice (some ⟨w.heap.size,0,none⟩) n n) (w.alloc (.cells (madeCells #[zs0,.bool false] (n*2)) 217)):=by
 obtain⟨i,I,F,G,H⟩:=info_parts infoI;have h:=run_make (P:=prog) w 212 217 i _ underlying212 I F .i64 .i64 (n:Int) (n:Int) (by omega) (Int.le_refl _) (by rw [H];omega) (by omega);rw [h,G,Int.toNat_natCast];rfl
