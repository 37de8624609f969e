import Derived.Deep.RegionHeld3
import Derived.Test.YtjalhnlhcdfncaaGreatDoorBu10
import Derived.Test.YtjalhnlhcdfncaaGreatDoorBu6
set_option maxRecDepth 100000
set_option maxHeartbeats 0
namespace Go.Proofs.YtjalhnlhcdfncaaGreatDoor
open Go.RowKit Go.Proofs.Tryz
theorem qdd {W:World} {m:Value} {b:Bool} {z:Int} {g:Nat} {cs cs':Array Value} {t:TypeId} {E:Nat×Nat} (h:IntAt W (.agg #[m,.bool b]) z) (hg:W.heap[g]? = some (.cells cs t E)) (hne:∀x∈cs.toList,∀d,x≠.int .u32 d):IntAt (W.setRow g cs') (.agg #[m,.bool b]) z:=by
 obtain⟨m',F,G⟩:=h;exact⟨m',F,qcY G hg hne⟩
theorem qbZ {W:World} {v:Value} {z:Int} (h:IntAt W v z):∃(a:Option Addr) (n c:Nat) (b:Bool),v=.agg #[.slice a n c,.bool b]:=by
 obtain⟨m,rfl,am,bm,G,cm,n,M,rfl,F,E⟩:=h;exact⟨am,n,cm,_,rfl⟩
theorem qb0 (W:World) (g k:Nat) (v:Value):W.grownBy (W.setCell ⟨g,k,none⟩ v) (some g) :=
 ⟨rfl,rfl,rfl,by simp [World.setCell],fun i _ hr=>qW _ _ _ _ (fun e=>hr (by rw [e]))⟩
theorem qc9 {W:World} {g:Nat} {t:TypeId} (h:W.heap[g]? = some (.cells #[.slice none 0 0,.bool false] t (0,0))) (a:Option Addr) (n c:Nat) (b:Bool) :
  ((W.setCell ⟨g,0,none⟩ (.slice a n c)).setCell ⟨g,1,none⟩ (.bool b)).heap[g]? = some (.cells #[.slice a n c,.bool b] t (0,0)) :=
 heap_setCell_same _ g 1 _ t _ (heap_setCell_same _ g 0 _ t _ h)
theorem qc8 {W:World} {m:Value} {E:Bool} {z:Int} {g:Nat} {t:TypeId} (H:IntAt W (.agg #[m,.bool E]) z) (h:W.heap[g]? = some (.cells #[.slice none 0 0,.bool false] t (0,0))) (a:Option Addr) (n c:Nat) (b:Bool) :
  IntAt ((W.setCell ⟨g,0,none⟩ (.slice a n c)).setCell ⟨g,1,none⟩ (.bool b)) (.agg #[m,.bool E]) z:=by
 obtain⟨m',F,G⟩:=H;refine⟨m',F,?_⟩;refine qcq (qcq G (qb0 W g 0 _) h qfa) (qb0 _ g 1 _) (heap_setCell_same W g 0 _ t _ h) ?_;intro x hx d;rcases qav.1 (show x∈[Value.slice a n c,Value.bool false] from hx) with rfl | hx
 ·intro h;cases h
 ·rw [qan.1 hx];intro h;cases h
theorem qiN (x y:Int):(if (decide (x<0) != decide (y<0))=true then -((x.natAbs*y.natAbs:Nat):Int) else ((x.natAbs*y.natAbs:Nat):Int))=x*y:=by
 rw [<-qaK]
 by_cases hx:x<0
 ·by_cases hy:y<0
  ·rw [qV hx,qV hy,if_neg (by decide)];have:=Int.mul_pos_of_neg_of_neg hx hy;omega
  ·rw [qV hx,qU hy,if_pos (by decide)];have:=Int.mul_nonpos_of_nonpos_of_nonneg (Int.le_of_lt hx) (Int.not_lt.1 hy);omega
 ·by_cases hy:y<0
  ·rw [qU hx,qV hy,if_pos (by decide)];have:=Int.mul_nonpos_of_nonneg_of_nonpos (Int.not_lt.1 hx) (Int.le_of_lt hy);omega
  ·rw [qU hx,qU hy,if_neg (by decide)];have:=Int.mul_nonneg (Int.not_lt.1 hx) (Int.not_lt.1 hy);omega
theorem qjR (x:Int) (y:Nat):(if decide (x<0)=true then -((x.natAbs*y:Nat):Int) else ((x.natAbs*y:Nat):Int))=x*(y:Int):=by
 by_cases hx:x<0
 ·rw [qV hx,if_pos rfl,Int.natCast_mul,<-qbI];congr 1;omega
 ·rw [qU hx,if_neg (by decide),Int.natCast_mul];congr 1;omega
theorem qdR (U:Pk) (z:Int) (v:Value) (w:World) (hv:IntAt w v z) :
  Calls prog (Pk.of U 109 156) #[v] w fun e w'=>∃u,e=.returned u/\Below w.heap.size w w'/\IntAt w' u (-z):=by
 obtain⟨m,rfl,hm⟩:=hv;have hs:=fun (W:World) (h:Below w.heap.size w W)=>(qcf U) z.natAbs (!decide (z<0)) m W (hm.below h)
 have hz:(if (!decide (z<0))=true then -(z.natAbs:Int) else (z.natAbs:Int)) = -z:=by
  by_cases h:z<0
  ·rw [qV h,if_neg (by decide)];omega
  ·rw [qU h,if_pos (by decide)];omega
 rw [hz] at hs;have HS:=qH hs;generalize decide (z<0)=b at *;obtain⟨am,bm,om,cm,n,M,rfl,Im,Z⟩:=hm;clear hs hz Im Z;obtain⟨W1,G⟩:=qY ((w.alloc (.cells #[.slice am n cm,.bool b] (Pk.of U 125 217))).alloc (.cells #[.slice none 0 0,.bool false] (Pk.of U 125 217)));have H:Below w.heap.size w W1:=G▸(qB.alloc qN _).alloc (by simp) _;have J:W1.heap[w.heap.size+1]? = some (.cells #[.slice none 0 0,.bool false] (Pk.of U 125 217) (0,0)):=by rw [G];exact qM _ _ _ (by simp)
 cases U <;> dsimp only [Pk.of] at * <;> (
 first | go_enter func109,ntmps109 | go_enter func156,ntmps156
 go_wp2_with fail;rw [<-G];refine (HS.o _ H).mono ?_;rintro e w2 ⟨u,rfl,I,O⟩;have E:=(I.block (w.heap.size+1) (qG J).1).trans J;have F:Below w.heap.size w w2:=H.trans (I.mono H.size);clear G H J;obtain⟨a9,n9,c9,b9,rfl⟩:=qbZ O;have V:=qdd (cs':=#[.slice a9 n9 c9,.bool b9]) O E qfa;have Y:=qH (qA E (qA F (qS F (show w.heap.size<=w.heap.size+1 by omega) #[.slice a9 n9 c9,.bool b9])));have HV:=qH V;clear E F V I O
 go_wp2_with ((with_reducible refine wpList_store_row rfl _ _ _ rfl (w.heap.size+1) #[.slice a9 n9 c9,.bool b9] ?_ ?_ _ _ Y.o.1 2 ?_ ?_ ?_ ?_ ?_);(next=>rfl);(next=>rfl);(next=>kernel_rfl);(next=>rfl);(next=>rfl);(next=>rfl))
 exact qR (v:=.agg #[.slice a9 n9 c9,.bool b9]) (qcX rfl _ _ (w.heap.size+1) _ _ _ rfl (qT _ _ _ _ _ _ Y.o.1) (by first | exact underlying125 | exact underlying217) rfl 2 (by kernel_rfl) rfl) rfl ⟨_,rfl,Y.o.2.2,HV.o⟩)
theorem qcJ (x y:Int) (K J:Nat) (hK:K+J<=274877906944) (v u:Value) (w:World) (hv:IntAt w v x) (hu:IntAt w u y) (hx:Fit x.natAbs K) (hy:Fit y.natAbs J) :
  Calls prog 153 #[v,u] w fun e w'=>∃u,e=.returned u/\Below w.heap.size w w'/\IntAt w' u (x*y):=by
 obtain⟨m,rfl,hm⟩:=hv;obtain⟨o,rfl,ho⟩:=hu;have ht:=fun (W:World) (h:Below w.heap.size w W)=>(qcn .l) x.natAbs y.natAbs K J hK m o W (hm.below h) (ho.below h) hx hy
 have hs:=fun (W:World) (p:Value) (h:MagAt W p (x.natAbs*y.natAbs))=>(qcf .l) (x.natAbs*y.natAbs) (decide (x<0) != decide (y<0)) p W h
 rw [qiN] at hs;generalize decide (x<0)=b0 at *;generalize decide (y<0)=b1 at *;obtain⟨a0,bm,om,c0,n0,M,rfl,Im,av⟩:=hm;obtain⟨a1,bo,oo,c1,n1,O,rfl,Io,ax⟩:=ho;have HT:=qH ht;have HS:=qH hs;clear ht hs Im av Io ax hx hy hK;obtain⟨F,G⟩:=qY (((w.alloc (.cells #[.slice a0 n0 c0,.bool b0] 217)).alloc (.cells #[.slice a1 n1 c1,.bool b1] 217)).alloc (.cells #[.slice none 0 0,.bool false] 217));have ak:Below w.heap.size w F:=G▸((qB.alloc qN _).alloc (by simp only [qab];omega) _).alloc (by simp only [qab];omega) _;have af:F.heap[w.heap.size]? = some (.cells #[.slice a0 n0 c0,.bool b0] 217 (0,0)):=by rw [G,qL _ _ _ (by simp only [qab];omega),qL _ _ _ (by simp only [qab];omega)];exact qM _ _ _ rfl
 have ag:F.heap[w.heap.size+1]? = some (.cells #[.slice a1 n1 c1,.bool b1] 217 (0,0)):=by rw [G,qL _ _ _ (by simp only [qab];omega)];exact qM _ _ _ (by simp)
 have ah:F.heap[w.heap.size+1+1]? = some (.cells #[.slice none 0 0,.bool false] 217 (0,0)):=by rw [G];exact qM _ _ _ (by simp)
 have l2:w.heap.size+1+1<F.heap.size:=(qG ah).1;have C0:∀W,Below (w.heap.size+1+1) F W->W.cell? ⟨w.heap.size,0,none⟩=some (.slice a0 n0 c0):=fun W h=>(h.cell (p:=⟨w.heap.size,0,none⟩) (by show w.heap.size<_;omega)).trans (qC _ _ 0 _ _ _ af)
 have C1:∀W,Below (w.heap.size+1+1) F W->W.cell? ⟨w.heap.size,1,none⟩=some (.bool b0):=fun W h=>(h.cell (p:=⟨w.heap.size,1,none⟩) (by show w.heap.size<_;omega)).trans (qC _ _ 1 _ _ _ af)
 have D0:∀W,Below (w.heap.size+1+1) F W->W.cell? ⟨w.heap.size+1,0,none⟩=some (.slice a1 n1 c1):=fun W h=>(h.cell (p:=⟨w.heap.size+1,0,none⟩) (by show w.heap.size+1<_;omega)).trans (qC _ _ 0 _ _ _ ag)
 have D1:∀W,Below (w.heap.size+1+1) F W->W.cell? ⟨w.heap.size+1,1,none⟩=some (.bool b1):=fun W h=>(h.cell (p:=⟨w.heap.size+1,1,none⟩) (by show w.heap.size+1<_;omega)).trans (qC _ _ 1 _ _ _ ag)
 have ai:Below (w.heap.size+1+1) F F:=Below.refl _ _;have E:Below (w.heap.size+1+1) F F.drew:=qB.drew;have HR:=qH (qA ak ah);clear af ag ah ak;go_enter func153,ntmps153;go_wp2_with fail;rw [<-G];clear G;have U:=qH l2
 go_region_held3 (fun W=>Below (w.heap.size+1+1) F W) (first | with_reducible exact ai | with_reducible exact E | with_reducible exact V | with_reducible exact I | ((iterate 2 refine Below.setCell ?_ (by exact qae _) _);exact V)) (first | (go_at_call 157;refine (HT.o _ (HR.o.1.trans (E.mono (by omega)))).mono ?_;rintro e w2 ⟨p2,rfl,Z,au⟩;have I:Below (w.heap.size+1+1) F w2:=E.trans (Z.mono (qaq U.o));have aj:=qH (qA au ((Z.block _ U.o).trans HR.o.2));clear Z au) | (go_at_call 161;refine (HS.o _ _ aj.o.1).mono ?_;rintro e w3 ⟨p3,rfl,aa,ae⟩;have V:Below (w.heap.size+1+1) F w3:=I.trans (aa.mono (qal (qaq U.o) I.size));obtain⟨a9,n9,c9,b9,rfl⟩:=qbZ ae;have H:=(aa.block _ (qak U.o I.size)).trans aj.o.2;have e0:=qC w3 _ 0 _ _ _ H;have e1:=qC w3 _ 1 _ _ _ H;have f0:=qF w3 _ 0 _ _ H;have f1:=qF w3 _ 1 _ _ H;have Y:=qH (qA ae H);clear aa ae H))
 go_wp2_with fail;exact qR (v:=.agg #[.slice a9 n9 c9,.bool b9]) (rA_ rfl (w.heap.size+1+1) (qc9 Y.o.2 a9 n9 c9 b9) underlying217 2) rfl ⟨_,rfl,HR.o.1.trans (((V.setCell (by exact qae _) _).setCell (by exact qae _) _).mono (by omega)),qc8 Y.o.1 Y.o.2 a9 n9 c9 b9⟩
theorem qiM (x y:Int):(if (decide (x<0) != decide (y<0))=true then -((x.natAbs / y.natAbs:Nat):Int) else ((x.natAbs / y.natAbs:Nat):Int))=x.tdiv y:=by
 obtain⟨a,rfl | rfl⟩:=Int.eq_nat_or_neg x
 ·obtain⟨b,rfl | rfl⟩:=Int.eq_nat_or_neg y
  ·rw [qU (by omega),qU (by omega),if_neg (by decide)];rfl
  ·rw [qU (by omega:¬(a:Int)<0),qbv,Int.tdiv_neg]
   by_cases E:b=0
   ·subst E;simp
   ·rw [qV (by omega),if_pos (by decide)];rfl
 ·obtain⟨b,rfl | rfl⟩:=Int.eq_nat_or_neg y
  ·rw [qU (by omega:¬(b:Int)<0),qbv,Int.neg_tdiv]
   by_cases F:a=0
   ·subst F;simp
   ·rw [qV (by omega),if_pos (by decide)];rfl
  ·rw [qbv,qbv,Int.tdiv_neg,Int.neg_tdiv,Int.neg_neg]
   by_cases F:a=0
   ·subst F
    by_cases E:b=0
    ·subst E;simp
    ·simp
   ·by_cases E:b=0
    ·subst E;simp
    ·rw [qV (by omega),qV (by omega),if_neg (by decide)];rfl
theorem qln {x y:Int} (h:decide (x<0)=decide (y<0)):(if decide (x<0)=true then -((x.natAbs+y.natAbs:Nat):Int) else ((x.natAbs+y.natAbs:Nat):Int))=x+y:=by
 by_cases hx:x<0
 ·rw [qV hx] at h ⊢;have hy:=of_decide_eq_true h.symm;rw [if_pos rfl];omega
 ·rw [qU hx] at h ⊢;have hy:=of_decide_eq_false h.symm;rw [if_neg (by decide)];omega
theorem qgL {x y:Int} (h:¬decide (x<0)=decide (y<0)) (E:y.natAbs<=x.natAbs):(if decide (x<0)=true then -((x.natAbs-y.natAbs:Nat):Int) else ((x.natAbs-y.natAbs:Nat):Int))=x+y:=by
 by_cases hx:x<0
 ·have hy:¬y<0:=fun hy=>h (by rw [qV hx,qV hy])
  rw [qV hx,if_pos rfl];omega
 ·have hy:y<0:=by
   by_cases hy:y<0
   ·exact hy
   ·exact absurd (by rw [qU hx,qU hy]) h
  rw [qU hx,if_neg (by decide)];omega
theorem qcz (Y:Pk) (x:Int) (y K J:Nat) (hK:K+J<=274877906944) (v o:Value) (w:World) (hv:IntAt w v x) (ho:MagAt w o y) (hx:Fit x.natAbs K) (hy:Fit y J) :
  Calls prog (Pk.of Y 107 155) #[v,o] w fun e w'=>∃u,e=.returned u/\Below w.heap.size w w'/\IntAt w' u (x*(y:Int)):=by
 obtain⟨m,rfl,hm⟩:=hv;have ht:=fun (W:World) (h:Below w.heap.size w W)=>(qcn Y) x.natAbs y K J hK m o W (hm.below h) (ho.below h) hx hy
 have hs:=fun (W:World) (p:Value) (h:MagAt W p (x.natAbs*y))=>(qcf Y) (x.natAbs*y) (decide (x<0)) p W h
 rw [qjR] at hs;generalize decide (x<0)=b0 at *;obtain⟨a0,bm,om,c0,n0,M,rfl,Im,au⟩:=hm;obtain⟨a1,bo,oo,c1,n1,O,rfl,Io,av⟩:=ho;have HT:=qH ht;have HS:=qH hs;clear ht hs Im au Io av hx hy hK;obtain⟨F,H⟩:=qY ((w.alloc (.cells #[.slice a0 n0 c0,.bool b0] (Pk.of Y 125 217))).alloc (.cells #[.slice none 0 0,.bool false] (Pk.of Y 125 217)));have aj:Below w.heap.size w F:=H▸(qB.alloc qN _).alloc (by simp only [qab];omega) _;have ah:F.heap[w.heap.size]? = some (.cells #[.slice a0 n0 c0,.bool b0] (Pk.of Y 125 217) (0,0)):=by rw [H,qL _ _ _ (by simp only [qab];omega)];exact qM _ _ _ (by simp)
 have hr:F.heap[w.heap.size+1]? = some (.cells #[.slice none 0 0,.bool false] (Pk.of Y 125 217) (0,0)):=by rw [H];exact qM _ _ _ (by simp)
 have l2:w.heap.size+1<F.heap.size:=(qG hr).1;have ax:∀W,Below (w.heap.size+1) F W->W.cell? ⟨w.heap.size,0,none⟩=some (.slice a0 n0 c0):=fun W h=>(h.cell (p:=⟨w.heap.size,0,none⟩) (by show w.heap.size<_;omega)).trans (qC _ _ 0 _ _ _ ah)
 have ay:∀W,Below (w.heap.size+1) F W->W.cell? ⟨w.heap.size,1,none⟩=some (.bool b0):=fun W h=>(h.cell (p:=⟨w.heap.size,1,none⟩) (by show w.heap.size<_;omega)).trans (qC _ _ 1 _ _ _ ah)
 have E:Below (w.heap.size+1) F F:=Below.refl _ _;have HR:=qH (qA aj hr);have V:=qH l2;clear ah hr aj;cases Y <;> dsimp only [Pk.of] at * <;> (
 first | go_enter func107,ntmps107 | go_enter func155,ntmps155
 go_wp2_with fail;rw [<-H];clear H;have I:Below (w.heap.size+1) F F.drew:=E.drew
 go_region_held3 (fun W=>Below (w.heap.size+1) F W) (first | with_reducible exact E | with_reducible exact I | with_reducible exact Z | with_reducible exact U | ((iterate 2 refine Below.setCell ?_ (by exact qae _) _);exact Z)) (first | ((first | go_at_call 183 | go_at_call 157);refine (HT.o _ (HR.o.1.trans (I.mono (by omega)))).mono ?_;rintro e w2 ⟨p2,rfl,ae,ak⟩;have U:Below (w.heap.size+1) F w2:=I.trans (ae.mono (qaq (qak V.o E.size)));have ai:=qH (qA ak ((ae.block _ (qak V.o E.size)).trans HR.o.2));clear ae ak) | ((first | go_at_call 123 | go_at_call 161);refine (HS.o _ _ ai.o.1).mono ?_;rintro e w3 ⟨p3,rfl,af,ag⟩;have Z:Below (w.heap.size+1) F w3:=U.trans (af.mono (qal (qaq V.o) U.size));obtain⟨a9,n9,c9,b9,rfl⟩:=qbZ ag;have G:=(af.block _ (qak V.o U.size)).trans ai.o.2;have e0:=qC w3 _ 0 _ _ _ G;have e1:=qC w3 _ 1 _ _ _ G;have f0:=qF w3 _ 0 _ _ G;have f1:=qF w3 _ 1 _ _ G;have aa:=qH (qA ag G);clear af ag G))
 go_wp2_with fail;exact qR (v:=.agg #[.slice a9 n9 c9,.bool b9]) (qcX rfl _ _ (w.heap.size+1) _ _ _ rfl (qc9 aa.o.2 a9 n9 c9 b9) (by first | exact underlying125 | exact underlying217) rfl 2 (by kernel_rfl) rfl) rfl ⟨_,rfl,HR.o.1.trans (((Z.setCell (by exact qae _) _).setCell (by exact qae _) _).mono (by omega)),qc8 aa.o.1 aa.o.2 a9 n9 c9 b9⟩)
theorem qgK (x y:Int) (K:Nat) (hK:K<=137438953472) (v u:Value) (w:World) (hv:IntAt w v x) (hu:IntAt w u y) (hx:Fit x.natAbs K) (hy:Fit y.natAbs K) (h0:y≠0) :
  Calls prog 266 #[v,u] w fun e w'=>∃u,e=.returned u/\Below w.heap.size w w'/\IntAt w' u (x.tdiv y):=by
 obtain⟨m,rfl,hm⟩:=hv;obtain⟨o,rfl,ho⟩:=hu;have ht:=fun (W:World) (h:Below w.heap.size w W)=>(qb5 .l) x.natAbs y.natAbs K hK m o W (hm.below h) (ho.below h) hx hy (by omega)
 have hs:=fun (W:World) (p:Value) (h:MagAt W p (x.natAbs / y.natAbs))=>(qcf .l) (x.natAbs / y.natAbs) (decide (x<0) != decide (y<0)) p W h
 rw [qiM] at hs;generalize decide (x<0)=b0 at *;generalize decide (y<0)=b1 at *;obtain⟨a0,bm,om,c0,n0,M,rfl,Im,ax⟩:=hm;obtain⟨a1,bo,oo,c1,n1,O,rfl,Io,ay⟩:=ho;have HT:=qH ht;have HS:=qH hs;clear ht hs Im ax Io ay hx hy hK;obtain⟨G,F⟩:=qY (((w.alloc (.cells #[.slice a0 n0 c0,.bool b0] 217)).alloc (.cells #[.slice a1 n1 c1,.bool b1] 217)).alloc (.cells #[.slice none 0 0,.bool false] 217));have ai:Below w.heap.size w G:=F▸((qB.alloc qN _).alloc (by simp only [qab];omega) _).alloc (by simp only [qab];omega) _;have aa:G.heap[w.heap.size]? = some (.cells #[.slice a0 n0 c0,.bool b0] 217 (0,0)):=by rw [F,qL _ _ _ (by simp only [qab];omega),qL _ _ _ (by simp only [qab];omega)];exact qM _ _ _ (by simp)
 have ae:G.heap[w.heap.size+1]? = some (.cells #[.slice a1 n1 c1,.bool b1] 217 (0,0)):=by rw [F,qL _ _ _ (by simp only [qab];omega)];exact qM _ _ _ (by simp)
 have hr:G.heap[w.heap.size+1+1]? = some (.cells #[.slice none 0 0,.bool false] 217 (0,0)):=by rw [F];exact qM _ _ _ (by simp)
 have l2:w.heap.size+1+1<G.heap.size:=(qG hr).1;have ak:∀W,Below (w.heap.size+1+1) G W->W.cell? ⟨w.heap.size,0,none⟩=some (.slice a0 n0 c0):=fun W h=>(h.cell (p:=⟨w.heap.size,0,none⟩) (by show w.heap.size<_;omega)).trans (qC _ _ 0 _ _ _ aa)
 have ag:∀W,Below (w.heap.size+1+1) G W->W.cell? ⟨w.heap.size,1,none⟩=some (.bool b0):=fun W h=>(h.cell (p:=⟨w.heap.size,1,none⟩) (by show w.heap.size<_;omega)).trans (qC _ _ 1 _ _ _ aa)
 have au:∀W,Below (w.heap.size+1+1) G W->W.cell? ⟨w.heap.size+1,0,none⟩=some (.slice a1 n1 c1):=fun W h=>(h.cell (p:=⟨w.heap.size+1,0,none⟩) (by show w.heap.size+1<_;omega)).trans (qC _ _ 0 _ _ _ ae)
 have ah:∀W,Below (w.heap.size+1+1) G W->W.cell? ⟨w.heap.size+1,1,none⟩=some (.bool b1):=fun W h=>(h.cell (p:=⟨w.heap.size+1,1,none⟩) (by show w.heap.size+1<_;omega)).trans (qC _ _ 1 _ _ _ ae)
 have az:Below (w.heap.size+1+1) G G:=Below.refl _ _;have U:=qH (qA ai hr);have V:=qH l2;clear aa ae hr ai;go_enter func266,ntmps266;go_wp2_with fail;rw [<-F];clear F;refine (HT.o _ U.o.1).mono ?_;rintro e w2 ⟨q,r,rfl,H,hq,_⟩;have Y:Below (w.heap.size+1+1) G w2:=H.mono (qaq V.o);have aA:=ag w2 Y;have aB:=ah w2 Y;have J:=(H.block _ V.o).trans U.o.2;have H2:=qH (qA hq (qA J (U.o.1.trans (H.mono U.o.1.size))));have av:Hu (w.heap.size+1+1<w2.heap.size):=qH (qak V.o H.size);clear H hq J Y ak ag au ah;go_wp2_with fail;refine (HS.o _ _ H2.o.1).mono ?_;rintro e w3 ⟨u3,rfl,Z,af⟩;have E:=(Z.block _ av.o).trans H2.o.2.1;have I:Below w.heap.size w w3:=H2.o.2.2.trans (Z.mono H2.o.2.2.size);obtain⟨a9,n9,c9,b9,rfl⟩:=qbZ af;have aj:=qdd (cs':=#[.slice a9 n9 c9,.bool b9]) af E qfa;have U:=qH (qA E (qA I (qS I (show w.heap.size<=w.heap.size+1+1 by omega) #[.slice a9 n9 c9,.bool b9])));have HV:=qH aj;clear E I aj Z af
 go_wp2_with (with_reducible refine sR_ rfl 217 _ _ rfl (w.heap.size+1+1) #[.slice a9 n9 c9,.bool b9] U.o.1 2 ?_)
 exact qR (v:=.agg #[.slice a9 n9 c9,.bool b9]) (rA_ rfl (w.heap.size+1+1) (qT _ _ _ _ _ _ U.o.1) underlying217 2) rfl ⟨_,rfl,U.o.2.2,HV.o⟩
theorem qdq (U:Pk) (x y:Int) (K:Nat) (hK:K<=274877906944) (v u:Value) (w:World) (hv:IntAt w v x) (hu:IntAt w u y) (hx:Fit x.natAbs K) (hy:Fit y.natAbs K) :
  Calls prog (Pk.of U 108 154) #[v,u] w fun e w'=>∃u,e=.returned u/\Below w.heap.size w w'/\IntAt w' u (x+y):=by
 obtain⟨m,rfl,hm⟩:=hv;obtain⟨o,rfl,ho⟩:=hu
 by_cases av:decide (x<0)=decide (y<0)
 ·have ht:=fun (W:World) (h:Below w.heap.size w W)=>(qjQ U) x.natAbs y.natAbs K hK m o W (hm.below h) (ho.below h) hx hy
  have hs:=fun (W:World) (p:Value) (h:MagAt W p (x.natAbs+y.natAbs))=>(qcf U) (x.natAbs+y.natAbs) (decide (x<0)) p W h
  rw [qln av] at hs;rw [<-av];generalize decide (x<0)=b0 at *;obtain⟨b1,Y⟩:=qY b0;obtain⟨a0,bm,om,c0,n0,M,rfl,Im,ay⟩:=hm;obtain⟨a1,bo,oo,c1,n1,O,rfl,Io,az⟩:=ho;have HT:=qH ht;have HS:=qH hs;clear ht hs Im ay Io az hx hy hK av;rw [show (.agg #[.slice a1 n1 c1,.bool b0]:Value)=.agg #[.slice a1 n1 c1,.bool b1] by rw [Y]];have aJ:(b0 == b1)=true:=by rw [Y];exact beq_self_eq_true b0
  clear Y;obtain⟨E,F⟩:=qY (((w.alloc (.cells #[.slice a0 n0 c0,.bool b0] (Pk.of U 125 217))).alloc (.cells #[.slice a1 n1 c1,.bool b1] (Pk.of U 125 217))).alloc (.cells #[.slice none 0 0,.bool false] (Pk.of U 125 217)));have Y:Below w.heap.size w E:=F▸((qB.alloc qN _).alloc (by simp only [qab];omega) _).alloc (by simp only [qab];omega) _;have ah:E.heap[w.heap.size]? = some (.cells #[.slice a0 n0 c0,.bool b0] (Pk.of U 125 217) (0,0)):=by rw [F,qL _ _ _ (by simp only [qab];omega),qL _ _ _ (by simp only [qab];omega)];exact qM _ _ _ (by simp)
  have ai:E.heap[w.heap.size+1]? = some (.cells #[.slice a1 n1 c1,.bool b1] (Pk.of U 125 217) (0,0)):=by rw [F,qL _ _ _ (by simp only [qab];omega)];exact qM _ _ _ (by simp)
  have hr:E.heap[w.heap.size+1+1]? = some (.cells #[.slice none 0 0,.bool false] (Pk.of U 125 217) (0,0)):=by rw [F];exact qM _ _ _ (by simp)
  have l2:w.heap.size+1+1<E.heap.size:=(qG hr).1;have aC:∀W,Below (w.heap.size+1+1) E W->W.cell? ⟨w.heap.size,0,none⟩=some (.slice a0 n0 c0):=fun W h=>(h.cell (p:=⟨w.heap.size,0,none⟩) (by show w.heap.size<_;omega)).trans (qC _ _ 0 _ _ _ ah)
  have aD:∀W,Below (w.heap.size+1+1) E W->W.cell? ⟨w.heap.size,1,none⟩=some (.bool b0):=fun W h=>(h.cell (p:=⟨w.heap.size,1,none⟩) (by show w.heap.size<_;omega)).trans (qC _ _ 1 _ _ _ ah)
  have aF:∀W,Below (w.heap.size+1+1) E W->W.cell? ⟨w.heap.size+1,0,none⟩=some (.slice a1 n1 c1):=fun W h=>(h.cell (p:=⟨w.heap.size+1,0,none⟩) (by show w.heap.size+1<_;omega)).trans (qC _ _ 0 _ _ _ ai)
  have aG:∀W,Below (w.heap.size+1+1) E W->W.cell? ⟨w.heap.size+1,1,none⟩=some (.bool b1):=fun W h=>(h.cell (p:=⟨w.heap.size+1,1,none⟩) (by show w.heap.size+1<_;omega)).trans (qC _ _ 1 _ _ _ ai)
  have V:Below (w.heap.size+1+1) E E:=Below.refl _ _;have HR:=qH (qA Y hr);have H:=qH l2;clear ah ai hr Y;cases U <;> dsimp only [Pk.of] at * <;> (
  first | go_enter func108,ntmps108 | go_enter func154,ntmps154
  go_wp2_with fail;rw [<-F];clear F;have I:Below (w.heap.size+1+1) E E.drew:=V.drew
  go_region_held3 (fun W=>Below (w.heap.size+1+1) E W) (first | with_reducible exact V | with_reducible exact I | with_reducible exact Z | with_reducible exact J | ((iterate 2 refine Below.setCell ?_ (by exact qae _) _);exact Z)) (first | ((first | go_at_call 184 | go_at_call 213);refine (HT.o _ (HR.o.1.trans (I.mono (by omega)))).mono ?_;rintro e w2 ⟨p2,rfl,ae,au⟩;have J:Below (w.heap.size+1+1) E w2:=I.trans (ae.mono (qaq (qak H.o V.size)));have ak:=qH (qA au ((ae.block _ (qak H.o V.size)).trans HR.o.2));clear ae au) | ((first | go_at_call 123 | go_at_call 161);refine (HS.o _ _ ak.o.1).mono ?_;rintro e w3 ⟨p3,rfl,af,ag⟩;have Z:Below (w.heap.size+1+1) E w3:=J.trans (af.mono (qal (qaq H.o) J.size));obtain⟨a9,n9,c9,b9,rfl⟩:=qbZ ag;have G:=(af.block _ (qak H.o J.size)).trans ak.o.2;have e0:=qC w3 _ 0 _ _ _ G;have e1:=qC w3 _ 1 _ _ _ G;have f0:=qF w3 _ 0 _ _ G;have f1:=qF w3 _ 1 _ _ G;have aa:=qH (qA ag G);clear af ag G))
  go_wp2_with fail;exact qR (v:=.agg #[.slice a9 n9 c9,.bool b9]) (qcX rfl _ _ (w.heap.size+1+1) _ _ _ rfl (qc9 aa.o.2 a9 n9 c9 b9) (by first | exact underlying125 | exact underlying217) rfl 2 (by kernel_rfl) rfl) rfl ⟨_,rfl,HR.o.1.trans (((Z.setCell (by exact qae _) _).setCell (by exact qae _) _).mono (by omega)),qc8 aa.o.1 aa.o.2 a9 n9 c9 b9⟩)
 ·have hc:=fun (W:World) (h:Below w.heap.size w W)=>(qc6 U) x.natAbs y.natAbs K hK m o W (hm.below h) (ho.below h) hx hy
  have aI:(decide (x<0) == decide (y<0))=false:=beq_eq_false_iff_ne.2 av
  by_cases aA:x.natAbs<y.natAbs
  ·have ht:=fun (W:World) (h:Below w.heap.size w W)=>(qf7 U) y.natAbs x.natAbs K hK o m W (ho.below h) (hm.below h) hy (qaq aA)
   have hs:=fun (W:World) (p:Value) (h:MagAt W p (y.natAbs-x.natAbs))=>(qcf U) (y.natAbs-x.natAbs) (decide (y<0)) p W h
   rw [qgL (fun e=>av e.symm) (qaq aA),Int.add_comm] at hs;rw [show cmp3 (x.natAbs:Int) (y.natAbs:Int) = -1 by unfold cmp3;rw [if_pos (by omega)]] at hc;generalize decide (x<0)=b0 at *;generalize decide (y<0)=b1 at *;obtain⟨a0,bm,om,c0,n0,M,rfl,Im,ay⟩:=hm;obtain⟨a1,bo,oo,c1,n1,O,rfl,Io,az⟩:=ho;have HT:=qH ht;have HS:=qH hs;have HC:=qH hc;clear ht hs hc Im ay Io az hx hy hK av aA;obtain⟨E,F⟩:=qY (((w.alloc (.cells #[.slice a0 n0 c0,.bool b0] (Pk.of U 125 217))).alloc (.cells #[.slice a1 n1 c1,.bool b1] (Pk.of U 125 217))).alloc (.cells #[.slice none 0 0,.bool false] (Pk.of U 125 217)));have Y:Below w.heap.size w E:=F▸((qB.alloc qN _).alloc (by simp only [qab];omega) _).alloc (by simp only [qab];omega) _;have ah:E.heap[w.heap.size]? = some (.cells #[.slice a0 n0 c0,.bool b0] (Pk.of U 125 217) (0,0)):=by rw [F,qL _ _ _ (by simp only [qab];omega),qL _ _ _ (by simp only [qab];omega)];exact qM _ _ _ (by simp)
   have ai:E.heap[w.heap.size+1]? = some (.cells #[.slice a1 n1 c1,.bool b1] (Pk.of U 125 217) (0,0)):=by rw [F,qL _ _ _ (by simp only [qab];omega)];exact qM _ _ _ (by simp)
   have hr:E.heap[w.heap.size+1+1]? = some (.cells #[.slice none 0 0,.bool false] (Pk.of U 125 217) (0,0)):=by rw [F];exact qM _ _ _ (by simp)
   have l2:w.heap.size+1+1<E.heap.size:=(qG hr).1;have aC:∀W,Below (w.heap.size+1+1) E W->W.cell? ⟨w.heap.size,0,none⟩=some (.slice a0 n0 c0):=fun W h=>(h.cell (p:=⟨w.heap.size,0,none⟩) (by show w.heap.size<_;omega)).trans (qC _ _ 0 _ _ _ ah)
   have aD:∀W,Below (w.heap.size+1+1) E W->W.cell? ⟨w.heap.size,1,none⟩=some (.bool b0):=fun W h=>(h.cell (p:=⟨w.heap.size,1,none⟩) (by show w.heap.size<_;omega)).trans (qC _ _ 1 _ _ _ ah)
   have aF:∀W,Below (w.heap.size+1+1) E W->W.cell? ⟨w.heap.size+1,0,none⟩=some (.slice a1 n1 c1):=fun W h=>(h.cell (p:=⟨w.heap.size+1,0,none⟩) (by show w.heap.size+1<_;omega)).trans (qC _ _ 0 _ _ _ ai)
   have aG:∀W,Below (w.heap.size+1+1) E W->W.cell? ⟨w.heap.size+1,1,none⟩=some (.bool b1):=fun W h=>(h.cell (p:=⟨w.heap.size+1,1,none⟩) (by show w.heap.size+1<_;omega)).trans (qC _ _ 1 _ _ _ ai)
   have V:Below (w.heap.size+1+1) E E:=Below.refl _ _;have HR:=qH (qA Y hr);have H:=qH l2;clear ah ai hr Y;cases U <;> dsimp only [Pk.of] at * <;> (
   first | go_enter func108,ntmps108 | go_enter func154,ntmps154
   go_wp2_with fail;rw [<-F];clear F;refine (HC.o _ HR.o.1).mono ?_;rintro e w5 ⟨rfl,ax⟩;have aj:Below (w.heap.size+1+1) E w5:=ax.mono (qaq H.o);have H5:=qH ((ax.block _ H.o).trans HR.o.2);clear ax;go_wp2_with fail;have I:Below (w.heap.size+1+1) E w5.drew:=aj.drew
   go_region_held3 (fun W=>Below (w.heap.size+1+1) E W) (first | with_reducible exact aj | with_reducible exact I | with_reducible exact Z | with_reducible exact J | ((iterate 2 refine Below.setCell ?_ (by exact qae _) _);exact Z)) (first | ((first | go_at_call 185 | go_at_call 215);refine (HT.o _ (HR.o.1.trans (I.mono (by omega)))).mono ?_;rintro e w2 ⟨p2,rfl,ae,au⟩;have J:Below (w.heap.size+1+1) E w2:=I.trans (ae.mono (qaq (qak H.o aj.size)));have ak:=qH (qA au ((ae.block _ (qak H.o aj.size)).trans H5.o));clear ae au) | ((first | go_at_call 123 | go_at_call 161);refine (HS.o _ _ ak.o.1).mono ?_;rintro e w3 ⟨p3,rfl,af,ag⟩;have Z:Below (w.heap.size+1+1) E w3:=J.trans (af.mono (qal (qaq H.o) J.size));obtain⟨a9,n9,c9,b9,rfl⟩:=qbZ ag;have G:=(af.block _ (qak H.o J.size)).trans ak.o.2;have e0:=qC w3 _ 0 _ _ _ G;have e1:=qC w3 _ 1 _ _ _ G;have f0:=qF w3 _ 0 _ _ G;have f1:=qF w3 _ 1 _ _ G;have aa:=qH (qA ag G);clear af ag G))
   go_wp2_with fail;exact qR (v:=.agg #[.slice a9 n9 c9,.bool b9]) (qcX rfl _ _ (w.heap.size+1+1) _ _ _ rfl (qc9 aa.o.2 a9 n9 c9 b9) (by first | exact underlying125 | exact underlying217) rfl 2 (by kernel_rfl) rfl) rfl ⟨_,rfl,HR.o.1.trans (((Z.setCell (by exact qae _) _).setCell (by exact qae _) _).mono (by omega)),qc8 aa.o.1 aa.o.2 a9 n9 c9 b9⟩)
  ·have ht:=fun (W:World) (h:Below w.heap.size w W)=>(qf7 U) x.natAbs y.natAbs K hK m o W (hm.below h) (ho.below h) hx (by omega)
   have hs:=fun (W:World) (p:Value) (h:MagAt W p (x.natAbs-y.natAbs))=>(qcf U) (x.natAbs-y.natAbs) (decide (x<0)) p W h
   rw [qgL av (by omega)] at hs;obtain⟨cr,aB⟩:=qX (cmp3 (x.natAbs:Int) (y.natAbs:Int));have aH:¬cr<0:=by rw [<-aB];unfold cmp3;rw [if_neg (by omega)];split <;> omega
   rw [aB] at hc;generalize decide (x<0)=b0 at *;generalize decide (y<0)=b1 at *;obtain⟨a0,bm,om,c0,n0,M,rfl,Im,ay⟩:=hm;obtain⟨a1,bo,oo,c1,n1,O,rfl,Io,az⟩:=ho;have HT:=qH ht;have HS:=qH hs;have HC:=qH hc;clear ht hs hc Im ay Io az hx hy hK av aA aB;obtain⟨E,F⟩:=qY (((w.alloc (.cells #[.slice a0 n0 c0,.bool b0] (Pk.of U 125 217))).alloc (.cells #[.slice a1 n1 c1,.bool b1] (Pk.of U 125 217))).alloc (.cells #[.slice none 0 0,.bool false] (Pk.of U 125 217)));have Y:Below w.heap.size w E:=F▸((qB.alloc qN _).alloc (by simp only [qab];omega) _).alloc (by simp only [qab];omega) _;have ah:E.heap[w.heap.size]? = some (.cells #[.slice a0 n0 c0,.bool b0] (Pk.of U 125 217) (0,0)):=by rw [F,qL _ _ _ (by simp only [qab];omega),qL _ _ _ (by simp only [qab];omega)];exact qM _ _ _ (by simp)
   have ai:E.heap[w.heap.size+1]? = some (.cells #[.slice a1 n1 c1,.bool b1] (Pk.of U 125 217) (0,0)):=by rw [F,qL _ _ _ (by simp only [qab];omega)];exact qM _ _ _ (by simp)
   have hr:E.heap[w.heap.size+1+1]? = some (.cells #[.slice none 0 0,.bool false] (Pk.of U 125 217) (0,0)):=by rw [F];exact qM _ _ _ (by simp)
   have l2:w.heap.size+1+1<E.heap.size:=(qG hr).1;have aC:∀W,Below (w.heap.size+1+1) E W->W.cell? ⟨w.heap.size,0,none⟩=some (.slice a0 n0 c0):=fun W h=>(h.cell (p:=⟨w.heap.size,0,none⟩) (by show w.heap.size<_;omega)).trans (qC _ _ 0 _ _ _ ah)
   have aD:∀W,Below (w.heap.size+1+1) E W->W.cell? ⟨w.heap.size,1,none⟩=some (.bool b0):=fun W h=>(h.cell (p:=⟨w.heap.size,1,none⟩) (by show w.heap.size<_;omega)).trans (qC _ _ 1 _ _ _ ah)
   have aF:∀W,Below (w.heap.size+1+1) E W->W.cell? ⟨w.heap.size+1,0,none⟩=some (.slice a1 n1 c1):=fun W h=>(h.cell (p:=⟨w.heap.size+1,0,none⟩) (by show w.heap.size+1<_;omega)).trans (qC _ _ 0 _ _ _ ai)
   have aG:∀W,Below (w.heap.size+1+1) E W->W.cell? ⟨w.heap.size+1,1,none⟩=some (.bool b1):=fun W h=>(h.cell (p:=⟨w.heap.size+1,1,none⟩) (by show w.heap.size+1<_;omega)).trans (qC _ _ 1 _ _ _ ai)
   have V:Below (w.heap.size+1+1) E E:=Below.refl _ _;have HR:=qH (qA Y hr);have H:=qH l2;clear ah ai hr Y;cases U <;> dsimp only [Pk.of] at * <;> (
   first | go_enter func108,ntmps108 | go_enter func154,ntmps154
   go_wp2_with fail;rw [<-F];clear F;refine (HC.o _ HR.o.1).mono ?_;rintro e w5 ⟨rfl,ax⟩;have aj:Below (w.heap.size+1+1) E w5:=ax.mono (qaq H.o);have H5:=qH ((ax.block _ H.o).trans HR.o.2);clear ax;go_wp2_with fail;have I:Below (w.heap.size+1+1) E w5.drew:=aj.drew
   go_region_held3 (fun W=>Below (w.heap.size+1+1) E W) (first | with_reducible exact aj | with_reducible exact I | with_reducible exact Z | with_reducible exact J | ((iterate 2 refine Below.setCell ?_ (by exact qae _) _);exact Z)) (first | ((first | go_at_call 185 | go_at_call 215);refine (HT.o _ (HR.o.1.trans (I.mono (by omega)))).mono ?_;rintro e w2 ⟨p2,rfl,ae,au⟩;have J:Below (w.heap.size+1+1) E w2:=I.trans (ae.mono (qaq (qak H.o aj.size)));have ak:=qH (qA au ((ae.block _ (qak H.o aj.size)).trans H5.o));clear ae au) | ((first | go_at_call 123 | go_at_call 161);refine (HS.o _ _ ak.o.1).mono ?_;rintro e w3 ⟨p3,rfl,af,ag⟩;have Z:Below (w.heap.size+1+1) E w3:=J.trans (af.mono (qal (qaq H.o) J.size));obtain⟨a9,n9,c9,b9,rfl⟩:=qbZ ag;have G:=(af.block _ (qak H.o J.size)).trans ak.o.2;have e0:=qC w3 _ 0 _ _ _ G;have e1:=qC w3 _ 1 _ _ _ G;have f0:=qF w3 _ 0 _ _ G;have f1:=qF w3 _ 1 _ _ G;have aa:=qH (qA ag G);clear af ag G))
   go_wp2_with fail;exact qR (v:=.agg #[.slice a9 n9 c9,.bool b9]) (qcX rfl _ _ (w.heap.size+1+1) _ _ _ rfl (qc9 aa.o.2 a9 n9 c9 b9) (by first | exact underlying125 | exact underlying217) rfl 2 (by kernel_rfl) rfl) rfl ⟨_,rfl,HR.o.1.trans (((Z.setCell (by exact qae _) _).setCell (by exact qae _) _).mono (by omega)),qc8 aa.o.1 aa.o.2 a9 n9 c9 b9⟩)
def qcb (z:Int):ByteArray:=⟨(itxt z).toArray⟩
theorem qe7 {z:Int} (h:z<0):qcb z=⟨#[45]⟩++num z.natAbs:=by
 apply ByteArray.ext;rw [ByteArray.data_append];unfold qcb itxt num;rw [if_pos h];simp
theorem qek {z:Int} (h:¬z<0):qcb z=num z.natAbs:=by
 unfold qcb itxt num;rw [if_neg h]
theorem qm1 {x K:Nat} (h:Fit x K) (E:0<K):(num x).size<=9*K:=by
 rw [qdG];refine qcw _ _ (by omega) ?_;rw [<-pow9];exact h
theorem qgN (O:Pk) (z:Int) (K:Nat) (aa:0<K) (hK:K<=137438953472) (v:Value) (w:World) (hv:IntAt w v z) (V:Fit z.natAbs K) (hT:HasT w) :
  Calls prog (Pk.of O 167 222) #[v] w fun e w'=>e=.returned (.string (qcb z))/\Below w.heap.size w w':=by
 obtain⟨m,rfl,hm⟩:=hv;have U:=fun (W:World) (h:Below w.heap.size w W)=>(qej O) z.natAbs K (by omega) m W (hm.below h) V (hT.below h)
 have hn:=qm1 V aa;have G:Hu (∀cs,Below w.heap.size w (w.alloc (.cells cs (Pk.of O 125 217)))):=qH fun cs=>qB.alloc qN _
 by_cases H:z<0
 ·rw [qe7 H,qV H];generalize num z.natAbs=t at *;have J:∀W,(Op.stringOp .add ⟨#[45]⟩ t).run prog W=.ok (.string (⟨#[45]⟩++t)) W:=fun W=>run_string_add_sum W _ _ (by have:(⟨#[45]⟩:ByteArray).size=1:=rfl;omega)
  obtain⟨T,I⟩:=qX ((⟨#[45]⟩:ByteArray)++t);rw [I] at J ⊢;have Z:=qH U;obtain⟨am,bm,om,cm,n,M,rfl,Im,F⟩:=hm;clear U I Im F hn H V hT;cases O <;> dsimp only [Pk.of] at * <;> (
  first | go_enter func167,ntmps167 | go_enter func222,ntmps222
  go_wp2_with fail;refine (Z.o _ (G.o _)).mono ?_;rintro e w1 ⟨rfl,E⟩;have Y:=qH ((G.o _).trans (E.mono (G.o _).size));clear E;go_wp2;go_ret;exact⟨rfl,Y.o⟩)
 ·rw [qek H,qU H];generalize num z.natAbs=t at *;have Z:=qH U;obtain⟨am,bm,om,cm,n,M,rfl,Im,F⟩:=hm;clear U Im F hn H V hT;cases O <;> dsimp only [Pk.of] at * <;> (
  first | go_enter func167,ntmps167 | go_enter func222,ntmps222
  go_wp2_with fail;refine (Z.o _ (G.o _)).mono ?_;rintro e w1 ⟨rfl,E⟩;have Y:=qH ((G.o _).trans (E.mono (G.o _).size));clear E;go_wp2;go_ret;exact⟨rfl,Y.o⟩)
theorem qgM (z:Int) (v:Value) (w:World) (U:IntAt w v z) :
  Calls prog 110 #[v] w fun e V=>e=.returned (.int .i64 (cmp3 z 0))/\Below w.heap.size w V:=by
 obtain⟨m,rfl,I⟩:=U;have E:=fun (W:World) (h:Below w.heap.size w W)=>(qcK .f) z.natAbs m W (I.below h)
 have F:Hu (∀cs,Below w.heap.size w (w.alloc (.cells cs 125))):=qH fun cs=>qB.alloc qN _
 obtain⟨am,bm,Y,cm,n,M,rfl,O,H⟩:=I;clear O H;rcases Int.lt_trichotomy z 0 with h | h | h
 ·rw [qV h,show cmp3 z 0 = -1 by unfold cmp3;rw [if_pos h]];rw [qU (show ¬z.natAbs=0 by omega)] at E;have G:=qH E;clear E h;go_enter func110,ntmps110;go_wp2_with fail;refine (G.o _ (F.o _)).mono ?_;rintro e J ⟨rfl,rfl⟩;go_wp2;go_ret;exact⟨rfl,F.o _⟩
 ·subst h;rw [qU (by omega:¬(0:Int)<0),show cmp3 0 0=0 from rfl];rw [qV (show (0:Int).natAbs=0 from rfl)] at E;have G:=qH E;clear E;go_enter func110,ntmps110;go_wp2_with fail;refine (G.o _ (F.o _)).mono ?_;rintro e J ⟨rfl,rfl⟩;go_wp2;go_ret;exact⟨rfl,F.o _⟩
 ·rw [qU (by omega:¬z<0),show cmp3 z 0=1 by unfold cmp3;rw [if_neg (by omega),if_neg (by omega)]];rw [qU (show ¬z.natAbs=0 by omega)] at E;have G:=qH E;clear E h;go_enter func110,ntmps110;go_wp2_with fail;refine (G.o _ (F.o _)).mono ?_;rintro e J ⟨rfl,rfl⟩;go_wp2;go_ret;exact⟨rfl,F.o _⟩
theorem qew (x y K J:Nat) (hK:K<=137438953472) (hJ:J<=137438953472) (ag:0<x) (ah:0<y) (vm vo:Value) (w:World) (hm:MagAt w vm x) (ho:MagAt w vo y) (hx:Fit x K) (hy:Fit y J) :
  Calls prog 158 #[vm,vo] w fun e w'=>∃v,e=.returned v/\Below w.heap.size w w'/\MagAt w' v (x.lcm y):=by
 have af:0<x.gcd y:=Nat.gcd_pos_of_pos_left _ ag;have E:K<=max K J/\J<=max K J/\max K J<=137438953472:=by omega
 have H:=(qcZ .l) x y (max K J) E.2.2 vm vo w hm ho (hx.mono E.1) (hy.mono E.2.1);have G:=fun (W:World) (g:Value) (hg:MagAt W g (x.gcd y)) (h:Below w.heap.size w W)=>(qb5 .l) y (x.gcd y) (max K J) E.2.2 vo g W (ho.below h) hg (hy.mono E.2.1) ((hy.le (Nat.gcd_le_right _ ah)).mono E.2.1) af
 have F:=fun (W:World) (d:Value) (hd:MagAt W d (y / x.gcd y)) (h:Below w.heap.size w W)=>(qcn .l) x (y / x.gcd y) K J (by omega) vm d W (hm.below h) hd hx (hy.le (qaV _ _))
 rw [<-Nat.mul_div_assoc _ (qaZ x y)] at F;have HG:=qH H;have HD:=qH G;have HT:=qH F;obtain⟨am,bm,om,cm,n,M,rfl,Im,aa⟩:=hm;obtain⟨ao,bo,oo,co,no,O,rfl,Io,ae⟩:=ho;clear H G F Im aa Io ae hx hy;go_enter func158,ntmps158;go_wp2_with fail;refine HG.o.mono ?_;rintro e w1 ⟨g,rfl,I,hg⟩;have Y:=qH (qA I hg);clear I hg;go_wp2_with fail;refine (HD.o _ _ Y.o.2 Y.o.1).mono ?_;rintro e w2 ⟨q,r,rfl,U,hq,_⟩;have Z:=qH (qA (Y.o.1.trans (U.mono Y.o.1.size)) hq);clear U hq;go_wp2_with fail;refine (HT.o _ _ Z.o.2 Z.o.1).mono ?_;rintro e w3 ⟨v,rfl,V,hv⟩;have H3:=qH (qA (Z.o.1.trans (V.mono Z.o.1.size)) hv);clear V hv;go_wp2;go_ret;exact⟨_,rfl,H3.o.1,H3.o.2⟩
structure FOk (n d:List UInt8):Prop where
 vn:Valid n
 vd:Valid d
 pos:0<ival d
 cop:(ival n).natAbs.gcd (ival d).natAbs=1
def RatAt (W:World) (v:Value) (z:Int) (d:Nat):Prop:=∃m o,v=.agg #[m,.bool (decide (z<0)),o]/\MagAt W m z.natAbs/\MagAt W o d
theorem RatAt.below {W W':World} {v:Value} {z:Int} {d:Nat} (h:RatAt W v z d) (E:Below W.heap.size W W'):RatAt W' v z d:=by
 obtain⟨m,o,F,G,H⟩:=h;exact⟨m,o,F,G.below E,H.below E⟩
theorem qbY {B:Nat} {a W:World} {o:Obj} (h:Below B a W) (hB:B<=a.heap.size):Below B a (W.alloc o):=h.alloc (qal hB h.size) o
theorem bjoin {B:Nat} {a W W':World} (h:Below B a W) (k:Below W.heap.size W W') (hB:B=a.heap.size:=by rfl):Below B a W':=h.trans (k.mono (by rw [hB];exact h.size))
theorem zkeep {W W':World} (h:Below W.heap.size W W'):∀(g:Nat) (o:Obj),W.heap[g]? = some o->W'.heap[g]? = some o:=fun g _ hg=>(h.block g (qG hg).1).trans hg
theorem qgR {W:World} {g:Nat} {t:TypeId} (h:W.heap[g]? = some (.cells #[.slice none 0 0,.bool false] t (0,0))) (a:Option Addr) (n c:Nat) (b:Bool) :
  ((W.setCell ⟨g,0,none⟩ (.slice a n c)).setCell ⟨g,1,none⟩ (.bool b)).heap[g]? = some (.cells #[.slice a n c,.bool b] t (0,0)) /\
  (∀k,k≠g->((W.setCell ⟨g,0,none⟩ (.slice a n c)).setCell ⟨g,1,none⟩ (.bool b)).heap[k]? = W.heap[k]?) /\
  (∀m E z,IntAt W (.agg #[m,.bool E]) z->IntAt ((W.setCell ⟨g,0,none⟩ (.slice a n c)).setCell ⟨g,1,none⟩ (.bool b)) (.agg #[m,.bool E]) z) :=
 ⟨qc9 h a n c b,fun _k F=>(qW _ _ _ _ F).trans (qW _ _ _ _ F),fun _ _ _ G=>qc8 G h a n c b⟩
theorem zdrew {W:World} {g:Nat} {o:Option Obj} (h:W.heap[g]? = o):W.drew.heap[g]? = o:=h
theorem qeU:∀x∈(#[.slice none 0 0,.bool false,.slice none 0 0]:Array Value).toList,∀d,x≠.int .u32 d:=by
 intro x hx d;rcases qav.1 hx with rfl | hx
 ·intro h;cases h
 ·rcases qav.1 hx with rfl | hx
  ·intro h;cases h
  ·rw [qan.1 hx];intro h;cases h
def Two (E W:World) (F G:Nat) (v3:Option Addr×Nat×Nat×Bool) (v4:Option Addr×Nat×Nat×Bool) (z3 z4:Int):Prop :=
 W.heap[F]? = some (.cells #[.slice v3.1 v3.2.1 v3.2.2.1,.bool v3.2.2.2] 125 (0,0))/\W.heap[G]? = some (.cells #[.slice v4.1 v4.2.1 v4.2.2.1,.bool v4.2.2.2] 125 (0,0)) /\
  IntAt W (.agg #[.slice v3.1 v3.2.1 v3.2.2.1,.bool v3.2.2.2]) z3/\IntAt W (.agg #[.slice v4.1 v4.2.1 v4.2.2.1,.bool v4.2.2.2]) z4/\Below E.heap.size E W
section
variable {W2 W:World} {a3:Option Addr} {n3 c3:Nat} {b3:Bool} {a4:Option Addr} {n4 c4:Nat} {b4:Bool} {z3 z4:Int}
theorem two_aa (h:IntAt W (.agg #[.slice a3 n3 c3,.bool b3]) z3/\IntAt W (.agg #[.slice a4 n4 c4,.bool b4]) z4) (E:Below W2.heap.size W2 W) :
  Two W2 ((W.alloc (.cells #[.slice a3 n3 c3,.bool b3] 125)).alloc (.cells #[.slice a4 n4 c4,.bool b4] 125)) W.heap.size (W.heap.size+1) (a3,n3,c3,b3) (a4,n4,c4,b4) z3 z4 :=
 have k:=qbY (qbY (Below.refl W.heap.size W) qN) qN
 ⟨(qL _ _ _ (by simp only [qab];omega)).trans (qM _ _ _ rfl),qM _ _ _ (by simp only [qab]),h.1.below k,h.2.below k,qbY (qbY E qN) qN⟩
theorem two_bb (h:IntAt W (.agg #[.slice a3 n3 c3,.bool b3]) z3/\IntAt W (.agg #[.slice a4 n4 c4,.bool b4]) z4) (E:Below W2.heap.size W2 W) :
  Two W2 ((W.alloc (.cells #[.slice a4 n4 c4,.bool b4] 125)).alloc (.cells #[.slice a3 n3 c3,.bool b3] 125)) (W.heap.size+1) W.heap.size (a3,n3,c3,b3) (a4,n4,c4,b4) z3 z4 :=
 have k:=qbY (qbY (Below.refl W.heap.size W) qN) qN
 ⟨qM _ _ _ (by simp only [qab]),(qL _ _ _ (by simp only [qab];omega)).trans (qM _ _ _ rfl),h.1.below k,h.2.below k,qbY (qbY E qN) qN⟩
theorem two_pa {g:Nat} (h:IntAt W (.agg #[.slice a3 n3 c3,.bool b3]) z3/\IntAt W (.agg #[.slice a4 n4 c4,.bool b4]) z4) (F:Below W2.heap.size W2 W) (hg:W2.heap.size<=g) (E:W.heap[g]? = some (.cells #[.slice none 0 0,.bool false] 125 (0,0))) :
  Two W2 (((W.setCell ⟨g,0,none⟩ (.slice a3 n3 c3)).setCell ⟨g,1,none⟩ (.bool b3)).alloc (.cells #[.slice a4 n4 c4,.bool b4] 125)) g W.heap.size (a3,n3,c3,b3) (a4,n4,c4,b4) z3 z4:=by
 obtain⟨p1,p2,p3⟩:=qgR E a3 n3 c3 b3;have lt:=(qG E).1;have k:∀V:World,Below V.heap.size V (V.alloc (.cells #[.slice a4 n4 c4,.bool b4] 125)):=fun V=>qbY qB qN
 exact⟨(qL _ _ _ (by simp only [qbC];exact lt)).trans p1,qM _ _ _ (by simp only [qbC]),(p3 _ _ _ h.1).below (k _),(p3 _ _ _ h.2).below (k _),qbY ((F.setCell (by exact hg) _).setCell (by exact hg) _) qN⟩
theorem two_pb {g:Nat} (h:IntAt W (.agg #[.slice a3 n3 c3,.bool b3]) z3/\IntAt W (.agg #[.slice a4 n4 c4,.bool b4]) z4) (F:Below W2.heap.size W2 W) (hg:W2.heap.size<=g) (E:W.heap[g]? = some (.cells #[.slice none 0 0,.bool false] 125 (0,0))) :
  Two W2 (((W.setCell ⟨g,0,none⟩ (.slice a4 n4 c4)).setCell ⟨g,1,none⟩ (.bool b4)).alloc (.cells #[.slice a3 n3 c3,.bool b3] 125)) W.heap.size g (a3,n3,c3,b3) (a4,n4,c4,b4) z3 z4:=by
 obtain⟨p1,p2,p3⟩:=qgR E a4 n4 c4 b4;have lt:=(qG E).1;have k:∀V:World,Below V.heap.size V (V.alloc (.cells #[.slice a3 n3 c3,.bool b3] 125)):=fun V=>qbY qB qN
 exact⟨qM _ _ _ (by simp only [qbC]),(qL _ _ _ (by simp only [qbC];exact lt)).trans p1,(p3 _ _ _ h.1).below (k _),(p3 _ _ _ h.2).below (k _),qbY ((F.setCell (by exact hg) _).setCell (by exact hg) _) qN⟩
theorem two_pp {g E:Nat} (h:IntAt W (.agg #[.slice a3 n3 c3,.bool b3]) z3/\IntAt W (.agg #[.slice a4 n4 c4,.bool b4]) z4) (H:Below W2.heap.size W2 W) (hg:W2.heap.size<=g) (F:W2.heap.size<=E) (hne:g≠E) (I:W.heap[g]? = some (.cells #[.slice none 0 0,.bool false] 125 (0,0))) (G:W.heap[E]? = some (.cells #[.slice none 0 0,.bool false] 125 (0,0))) :
  Two W2 ((((W.setCell ⟨g,0,none⟩ (.slice a3 n3 c3)).setCell ⟨g,1,none⟩ (.bool b3)).setCell ⟨E,0,none⟩ (.slice a4 n4 c4)).setCell ⟨E,1,none⟩ (.bool b4)) g E (a3,n3,c3,b3) (a4,n4,c4,b4) z3 z4:=by
 obtain⟨p1,p2,p3⟩:=qgR I a3 n3 c3 b3;obtain⟨q1,q2,q3⟩:=qgR ((p2 E (Ne.symm hne)).trans G) a4 n4 c4 b4;exact⟨(q2 g hne).trans p1,q1,q3 _ _ _ (p3 _ _ _ h.1),q3 _ _ _ (p3 _ _ _ h.2),(((H.setCell (by exact hg) _).setCell (by exact hg) _).setCell (by exact F) _).setCell (by exact F) _⟩
end
def FReadsAs (w:World) (n d:List UInt8) (e:Ending) (E:World):Prop:=∃v ok,e=.returned (.tuple #[v,.bool ok])/\(ok=true/\FOk n d/\RatAt E v (ival n) (ival d).natAbs\/ok=false/\¬FOk n d/\v=.agg #[.slice none 0 0,.bool false,.slice none 0 0])/\Below w.heap.size w E
theorem qd2 (n d:ByteArray) (w:World) :
  Calls prog 91 #[.agg #[.string n,.string d]] w fun e w'=>FReadsAs w n.data.toList d.data.toList e w':=by
 have aK:=fun W=>qfY n W
 have aW:=fun W=>qfY d W
 obtain⟨W1,ai⟩:=qY ((w.alloc (.cells #[.string n,.string d] 27)).alloc (.cells #[.slice none 0 0,.bool false,.slice none 0 0] 127));have O:Below w.heap.size w W1:=ai▸(qB.alloc qN _).alloc (by simp only [qab];omega) _;have bz:W1.heap[w.heap.size]? = some (.cells #[.string n,.string d] 27 (0,0)):=by rw [ai,qL _ _ _ (by simp only [qab];omega)];exact qM _ _ _ rfl
 have aR:W1.heap[w.heap.size+1]? = some (.cells #[.slice none 0 0,.bool false,.slice none 0 0] 127 (0,0)):=by rw [ai];exact qM _ _ _ (by simp)
 have l1:w.heap.size+1<W1.heap.size:=(qG aR).1;have bC:=qH aK;have bD:=qH aW;have HR:=qH (qA O (qA bz (qA aR l1)));clear aK aW O bz aR l1;have aa:Hu (∀W,Below W1.heap.size W1 W->W.heap[w.heap.size]? = some (.cells #[.string n,.string d] 27 (0,0))/\W.heap[w.heap.size+1]? = some (.cells #[.slice none 0 0,.bool false,.slice none 0 0] 127 (0,0))):=qH fun W h=>⟨(h.block _ (by have:=HR.o.2.2.2;omega)).trans HR.o.2.1,(h.block _ HR.o.2.2.2).trans HR.o.2.2.1⟩
 go_enter func91,ntmps91;go_wp2_with fail;rw [<-ai];clear ai;refine (bC.o _).mono ?_;rintro e w1 ⟨c1,rfl,bM,O⟩;rcases bM with ⟨rfl,aB⟩ | ⟨rfl,aB⟩
 ·have d1:=qC w1 _ 1 _ _ _ (aa.o w1 O).1;have H1:=qH (qA O aB);clear O aB;go_wp2_with fail;refine (bD.o _).mono ?_;rintro e H ⟨c2,rfl,bN,aU⟩;have U:Below W1.heap.size W1 H:=H1.o.1.trans (aU.mono H1.o.1.size);clear aU;rcases bN with ⟨rfl,ax⟩ | ⟨rfl,ax⟩
  ·have aA:Below H.heap.size H H:=Below.refl _ _;have bA:Below H.heap.size H H.drew:=aA.drew;have aX:H.drew.heap.size=H.heap.size:=rfl;have J:=aa.o H U;have l0:w.heap.size<H.heap.size:=(qG J.1).1;have C0:∀W,Below H.heap.size H W->W.cell? ⟨w.heap.size,0,none⟩=some (.string n):=fun W h=>(h.cell (p:=⟨w.heap.size,0,none⟩) l0).trans (qC _ _ 0 _ _ _ J.1)
   have C1:∀W,Below H.heap.size H W->W.cell? ⟨w.heap.size,1,none⟩=some (.string d):=fun W h=>(h.cell (p:=⟨w.heap.size,1,none⟩) l0).trans (qC _ _ 1 _ _ _ J.1)
   have bu:=fun W=>(qcl .f) n H1.o.2 W
   have bv:=fun W=>(qcl .f) d ax W
   have bI:=qH bu;have bJ:=qH bv;have H2:=qH (qA U (qA ax J));clear bu bv U ax J;go_wp2_with fail;have E:∀W:World,W.drew.heap.size=W.heap.size:=fun _=>rfl
   go_cut [4,5] (fun x4 x5 W=>∃(g3 g4:Nat) (a3:Option Addr) (n3 c3:Nat) (b3:Bool) (a4:Option Addr) (n4 c4:Nat) (b4:Bool),x4=.pointer (some ⟨g3,0,none⟩)/\x5=.pointer (some ⟨g4,0,none⟩)/\Two H W g3 g4 (a3,n3,c3,b3) (a4,n4,c4,b4) (ival n.data.toList) (ival d.data.toList))
   case first =>
    go_region_held3 (fun W=>Below H.heap.size H W) (first | with_reducible exact aA | with_reducible exact bA | with_reducible exact G | with_reducible exact F | ((repeat (first | refine Below.setCell ?_ (by first | exact qae _ | exact F.size | exact G.size | exact qap qN | exact qap F.size | exact qap G.size) _ | refine qbY ?_ qN | refine Below.drew ?_));first | exact G | exact F | exact aA)) (first | (go_at_call_of 120 (Value.string n);refine (bI.o _).mono ?_;rintro e w3 ⟨p3,rfl,aj,aP⟩;have F:Below H.heap.size H w3:=bjoin (by ((repeat (first | refine Below.setCell ?_ (by first | exact qae _ | exact F.size | exact G.size | exact qap qN | exact qap F.size | exact qap G.size) _ | refine qbY ?_ qN | refine Below.drew ?_));first | exact aA)) aj;obtain⟨a3,n3,c3,b3,rfl⟩:=qbZ aP;have aI:=qH aP;obtain⟨k3,bQ⟩:=bcell aj;have Z3:=qH (zkeep aj);have s3:_<=_:=aj.size;(try simp only [qab,aX,E] at s3);(try have q3:H.heap.size<w3.heap.size:=by omega);(try have r3:H.heap.size+1<w3.heap.size:=by omega);clear aj aP) | (go_at_call_of 120 (Value.string d);refine (bJ.o _).mono ?_;rintro e w4 ⟨p4,rfl,V,aQ⟩;have G:Below H.heap.size H w4:=bjoin (by ((repeat (first | refine Below.setCell ?_ (by first | exact qae _ | exact F.size | exact G.size | exact qap qN | exact qap F.size | exact qap G.size) _ | refine qbY ?_ qN | refine Below.drew ?_));first | exact F)) V;obtain⟨a4,n4,c4,b4,rfl⟩:=qbZ aQ;have ah:=qH (qA (show IntAt w4 _ _ from (by first | exact aI.o.below V | exact (aI.o.below (qbY qB qN)).below V | exact (aI.o.below (qbY (qbY qB qN) qN)).below V)) aQ);obtain⟨k4,bR⟩:=bcell V;have Z4:=qH (zkeep V);have s4:_<=_:=V.size;(try simp only [qab] at s4);(try have q4:H.heap.size<w4.heap.size:=by omega);(try have r4:H.heap.size+1<w4.heap.size:=by omega);(try have t4:w3.heap.size<w4.heap.size:=by omega);(try have u4:w3.heap.size+1<w4.heap.size:=by omega);clear V aQ))
    all_goals go_wp2_with fail
    all_goals go_meet
    all_goals refine⟨_,_,a3,n3,c3,b3,a4,n4,c4,b4,rfl,rfl,?_⟩
    all_goals first
     | with_reducible exact two_aa ah.o G
     | with_reducible exact two_bb ah.o G
     | (with_reducible refine two_pa ah.o G ?_ ?_;(first | exact qae _ | exact F.size | exact G.size | exact qbc _ | exact qap F.size);(refine Z4.o _ _ ?_;((try with_reducible refine zdrew ?_);first | (refine qM _ _ _ ?_;((try simp only) <;> omega)) | (refine Z3.o _ _ ?_;((try with_reducible refine zdrew ?_);first | (refine qM _ _ _ ?_;((try simp only) <;> omega)) | (refine (qL _ _ _ ?_).trans ?_;((try simp only [qab,E]);omega);(refine qM _ _ _ ?_;((try simp only [qab,E]) <;> omega))))) | (refine (qL _ _ _ ?_).trans ?_;((try simp only [qab,E]);omega);(first | (refine qM _ _ _ ?_;((try simp only [qab,E]) <;> omega)) | (refine Z3.o _ _ ?_;((try with_reducible refine zdrew ?_);first | (refine qM _ _ _ ?_;((try simp only [qab,E]) <;> omega)) | (refine (qL _ _ _ ?_).trans ?_;((try simp only [qab,E]);omega);(refine qM _ _ _ ?_;((try simp only [qab,E]) <;> omega))))))) | (refine (qL _ _ _ ?_).trans ?_;((try simp only [qab,E]);omega);refine (qL _ _ _ ?_).trans ?_;((try simp only [qab,E]);omega);(refine Z3.o _ _ ?_;((try with_reducible refine zdrew ?_);first | (refine qM _ _ _ ?_;((try simp only [qab,E]) <;> omega)) | (refine (qL _ _ _ ?_).trans ?_;((try simp only [qab,E]);omega);(refine qM _ _ _ ?_;((try simp only [qab,E]) <;> omega)))))))))
     | (with_reducible refine two_pb ah.o G ?_ ?_;(first | exact qae _ | exact F.size | exact G.size | exact qbc _ | exact qap F.size);(refine Z4.o _ _ ?_;((try with_reducible refine zdrew ?_);first | (refine qM _ _ _ ?_;((try simp only) <;> omega)) | (refine Z3.o _ _ ?_;((try with_reducible refine zdrew ?_);first | (refine qM _ _ _ ?_;((try simp only) <;> omega)) | (refine (qL _ _ _ ?_).trans ?_;((try simp only [qab,E]);omega);(refine qM _ _ _ ?_;((try simp only [qab,E]) <;> omega))))) | (refine (qL _ _ _ ?_).trans ?_;((try simp only [qab,E]);omega);(first | (refine qM _ _ _ ?_;((try simp only [qab,E]) <;> omega)) | (refine Z3.o _ _ ?_;((try with_reducible refine zdrew ?_);first | (refine qM _ _ _ ?_;((try simp only [qab,E]) <;> omega)) | (refine (qL _ _ _ ?_).trans ?_;((try simp only [qab,E]);omega);(refine qM _ _ _ ?_;((try simp only [qab,E]) <;> omega))))))) | (refine (qL _ _ _ ?_).trans ?_;((try simp only [qab,E]);omega);refine (qL _ _ _ ?_).trans ?_;((try simp only [qab,E]);omega);(refine Z3.o _ _ ?_;((try with_reducible refine zdrew ?_);first | (refine qM _ _ _ ?_;((try simp only [qab,E]) <;> omega)) | (refine (qL _ _ _ ?_).trans ?_;((try simp only [qab,E]);omega);(refine qM _ _ _ ?_;((try simp only [qab,E]) <;> omega)))))))))
     | (with_reducible refine two_pp ah.o G ?_ ?_ ?_ ?_ ?_;(first | exact qae _ | exact F.size | exact G.size | exact qbc _ | exact qap F.size);(first | exact qae _ | exact F.size | exact G.size | exact qbc _ | exact qap F.size);omega;(refine Z4.o _ _ ?_;((try with_reducible refine zdrew ?_);first | (refine qM _ _ _ ?_;((try simp only [qab]) <;> omega)) | (refine Z3.o _ _ ?_;((try with_reducible refine zdrew ?_);first | (refine qM _ _ _ ?_;((try simp only [qab]) <;> omega)) | (refine (qL _ _ _ ?_).trans ?_;((try simp only [qab]);omega);(refine qM _ _ _ ?_;((try simp only) <;> omega))))) | (refine (qL _ _ _ ?_).trans ?_;((try simp only [qab]);omega);(first | (refine qM _ _ _ ?_;((try simp only) <;> omega)) | (refine Z3.o _ _ ?_;((try with_reducible refine zdrew ?_);first | (refine qM _ _ _ ?_;((try simp only) <;> omega)) | (refine (qL _ _ _ ?_).trans ?_;((try simp only [qab,E]);omega);(refine qM _ _ _ ?_;((try simp only [qab,E]) <;> omega))))))) | (refine (qL _ _ _ ?_).trans ?_;((try simp only [qab,E]);omega);refine (qL _ _ _ ?_).trans ?_;((try simp only [qab,E]);omega);(refine Z3.o _ _ ?_;((try with_reducible refine zdrew ?_);first | (refine qM _ _ _ ?_;((try simp only [qab,E]) <;> omega)) | (refine (qL _ _ _ ?_).trans ?_;((try simp only [qab,E]);omega);(refine qM _ _ _ ?_;((try simp only [qab,E]) <;> omega))))))));(refine Z4.o _ _ ?_;((try with_reducible refine zdrew ?_);first | (refine qM _ _ _ ?_;((try simp only [qab]) <;> omega)) | (refine Z3.o _ _ ?_;((try with_reducible refine zdrew ?_);first | (refine qM _ _ _ ?_;((try simp only [qab]) <;> omega)) | (refine (qL _ _ _ ?_).trans ?_;((try simp only [qab]);omega);(refine qM _ _ _ ?_;((try simp only) <;> omega))))) | (refine (qL _ _ _ ?_).trans ?_;((try simp only [qab]);omega);(first | (refine qM _ _ _ ?_;((try simp only) <;> omega)) | (refine Z3.o _ _ ?_;((try with_reducible refine zdrew ?_);first | (refine qM _ _ _ ?_;((try simp only) <;> omega)) | (refine (qL _ _ _ ?_).trans ?_;((try simp only [qab,E]);omega);(refine qM _ _ _ ?_;((try simp only [qab,E]) <;> omega))))))) | (refine (qL _ _ _ ?_).trans ?_;((try simp only [qab,E]);omega);refine (qL _ _ _ ?_).trans ?_;((try simp only [qab,E]);omega);(refine Z3.o _ _ ?_;((try with_reducible refine zdrew ?_);first | (refine qM _ _ _ ?_;((try simp only [qab,E]) <;> omega)) | (refine (qL _ _ _ ?_).trans ?_;((try simp only [qab,E]);omega);(refine qM _ _ _ ?_;((try simp only [qab,E]) <;> omega)))))))))
   case rest =>
    obtain⟨g3,g4,a3,n3,c3,b3,a4,n4,c4,b4,rfl,rfl,h3,h4,ak,af,hb⟩:=hcut;dsimp only at h3 h4 ak af;have ay:=qC wc _ 0 _ _ _ h3;have aT:=qC wc _ 1 _ _ _ h3;have az:=qC wc _ 0 _ _ _ h4;have bK:=qC wc _ 1 _ _ _ h4;have aG:=qgM _ _ wc af;have HS:=qH aG;have HH:=qH (qA h3 (qA h4 (qA ak (qA af hb))));have av:wc.heap[w.heap.size+1]? = some (.cells #[.slice none 0 0,.bool false,.slice none 0 0] 127 (0,0)):=(hb.block _ (qG H2.o.2.2.2).1).trans H2.o.2.2.2;have H5:=qH (qA av (HR.o.1.trans ((H2.o.1.trans (hb.mono H2.o.1.size)).mono HR.o.1.size)));clear h3 h4 ak af hb aG av C0 C1;go_wp2_with fail;refine HS.o.mono ?_;rintro e w5 ⟨rfl,Y⟩;have bP:=qH Y;have H6:=qH (qA ((Y.block _ (qG H5.o.1).1).trans H5.o.1) (H5.o.2.trans (Y.mono H5.o.2.size)));have ak:=HH.o.2.2.1.below Y;have af:=HH.o.2.2.2.1.below Y;have h3:=(Y.block _ (qG HH.o.1).1).trans HH.o.1;have h4:=(Y.block _ (qG HH.o.2.1).1).trans HH.o.2.1;clear Y ay aT az bK
    by_cases aF:0<ival d.data.toList
    ·rw [show cmp3 (ival d.data.toList) 0=1 by unfold cmp3;rw [if_neg (by omega),if_neg (by omega)]];have ay:=qC w5 _ 0 _ _ _ h3;have az:=qC w5 _ 0 _ _ _ h4;obtain⟨m3,au,aM⟩:=ak;obtain⟨m4,aO,aN⟩:=af;have bn:m3=.slice a3 n3 c3:=by simp only [qaY,qa5,qaW] at au;exact au.1.symm
     have bq:m4=.slice a4 n4 c4:=by simp only [qaY,qa5,qaW] at aO;exact aO.1.symm
     have aC:b3=decide (ival n.data.toList<0):=by simp only [qaY,qa5,qaW,qbF] at au;exact au.2.1
     subst bn bq;have bL:=H1.o.2.fit;have aY:=H2.o.2.1.fit;have aZ:=(qcZ .f) (ival n.data.toList).natAbs (ival d.data.toList).natAbs 67 (by decide) _ _ w5 aM aN bL aY;have bF:=qH aZ;have HG:=qH (qA aM (qA aN (qA h3 (qA h4 aC))));clear aZ aM aN h3 h4 au aO aC;go_wp2_with fail;refine bF.o.mono ?_;rintro e w7 ⟨vg,rfl,aV,bB⟩;have bi:Fit 1 67:=Fit.mono (show Fit 1 1 from (by show 1<1000000000 ^ 1;decide)) (by decide);have bf:Fit ((ival n.data.toList).natAbs.gcd (ival d.data.toList).natAbs) 67:=aY.le (Nat.gcd_le_right _ (by omega));have aL:=(qc6 .f) ((ival n.data.toList).natAbs.gcd (ival d.data.toList).natAbs) 1 67 (by decide) vg (.slice (some ⟨w7.heap.size,0,none⟩) 1 1) (w7.alloc (.cells #[.int .u32 (1:Int)] 201)) (bB.below (qB.alloc qN _)) (qfO w7 _ (by decide) (by decide)) bf bi;obtain⟨cr,ae⟩:=qX (cmp3 (((ival n.data.toList).natAbs.gcd (ival d.data.toList).natAbs:Nat):Int) ((1:Nat):Int));have aD:cr=0↔(ival n.data.toList).natAbs.gcd (ival d.data.toList).natAbs=1:=by
      rw [<-ae];unfold cmp3
      constructor
      ·intro h;split at h
       ·omega
       ·split at h
        ·omega
        ·omega
      ·intro h;rw [if_neg (by omega),if_pos (by omega)]
     rw [ae] at aL;have bE:=qH aL;have aH:=qH aD;have aS:=qH aV;obtain⟨ag,bg,og,cg,ng,Mg,rfl,_,_⟩:=bB;clear aL ae aD aV bi bf ay az;go_wp2_with fail;refine bE.o.mono ?_;rintro e w8 ⟨rfl,aJ⟩;have I:Below w5.heap.size w5 w8:=aS.o.trans (((qB.alloc qN _:Below w7.heap.size w7 (w7.alloc (.cells #[.int .u32 (1:Int)] 201))).trans (aJ.mono (by simp only [qab];omega))).mono aS.o.size);have H8:=qH (qA ((I.block _ (qG H6.o.1).1).trans H6.o.1) (H6.o.2.trans (I.mono H6.o.2.size)))
     by_cases Z:(ival n.data.toList).natAbs.gcd (ival d.data.toList).natAbs=1
     ·have ae:cr=0:=aH.o.2 Z;have HY:Hu (FOk n.data.toList d.data.toList):=qH ⟨H1.o.2,H2.o.2.1,aF,Z⟩;have h3:=(I.block _ (qG HG.o.2.2.1).1).trans HG.o.2.2.1;have h4:=(I.block _ (qG HG.o.2.2.2.1).1).trans HG.o.2.2.2.1;have ay:=qC w8 _ 0 _ _ _ h3;have aT:=qC w8 _ 1 _ _ _ h3;have az:=qC w8 _ 0 _ _ _ h4;have bG:=qH (qcY (cs':=#[.slice a3 n3 c3,.bool b3,.slice a4 n4 c4]) (HG.o.1.below I) H8.o.1 qeU);have bH:=qH (qcY (cs':=#[.slice a3 n3 c3,.bool b3,.slice a4 n4 c4]) (HG.o.2.1.below I) H8.o.1 qeU);subst ae;clear h3 h4 aJ I Z
      go_wp2_with (with_reducible refine sR_ rfl 127 _ _ rfl (w.heap.size+1) #[.slice a3 n3 c3,.bool b3,.slice a4 n4 c4] H8.o.1 3 ?_)
      exact qR (v:=.tuple #[.agg #[.slice a3 n3 c3,.bool b3,.slice a4 n4 c4],.bool true]) (rB_ rfl (w.heap.size+1) (qT _ _ _ _ _ _ H8.o.1) underlying127 3) rfl ⟨_,_,rfl,qax ⟨rfl,HY.o,_,_,by rw [HG.o.2.2.2.2],bG.o,bH.o⟩,qS H8.o.2 (by omega) _⟩
     ·have HN:Hu (¬FOk n.data.toList d.data.toList):=qH (fun h=>Z h.cop);have ae:((cr:Int) == 0)=false:=by rw [beq_eq_false_iff_ne];exact fun h=>Z (aH.o.1 h)
      have bO:¬cr=0:=fun h=>Z (aH.o.1 h)
      clear aJ I Z
      go_wp2_with (with_reducible refine sR_ rfl 127 _ _ rfl (w.heap.size+1) #[.slice none 0 0,.bool false,.slice none 0 0] H8.o.1 3 ?_)
      exact qR (v:=.tuple #[.agg #[.slice none 0 0,.bool false,.slice none 0 0],.bool false]) (rB_ rfl (w.heap.size+1) (qT _ _ _ _ _ _ H8.o.1) underlying127 3) rfl ⟨_,_,rfl,qam ⟨rfl,HN.o,rfl⟩,qS H8.o.2 (by omega) _⟩
    ·have HN:Hu (¬FOk n.data.toList d.data.toList):=qH (fun h=>aF h.pos);have aK:cmp3 (ival d.data.toList) 0<1:=by unfold cmp3;split <;> (try split) <;> omega
     generalize cmp3 (ival d.data.toList) 0=cr at *
     go_wp2_with (with_reducible refine sR_ rfl 127 _ _ rfl (w.heap.size+1) #[.slice none 0 0,.bool false,.slice none 0 0] H6.o.1 3 ?_)
     exact qR (v:=.tuple #[.agg #[.slice none 0 0,.bool false,.slice none 0 0],.bool false]) (rB_ rfl (w.heap.size+1) (qT _ _ _ _ _ _ H6.o.1) underlying127 3) rfl ⟨_,_,rfl,qam ⟨rfl,HN.o,rfl⟩,qS H6.o.2 (by omega) _⟩
  ·have HX:=qH (qA ((aa.o H U).2) (HR.o.1.trans (U.mono HR.o.1.size)));have HN:Hu (¬FOk n.data.toList d.data.toList):=qH (fun h=>ax h.vd)
   go_wp2_with (with_reducible refine sR_ rfl 127 _ _ rfl (w.heap.size+1) #[.slice none 0 0,.bool false,.slice none 0 0] HX.o.1 3 ?_)
   exact qR (v:=.tuple #[.agg #[.slice none 0 0,.bool false,.slice none 0 0],.bool false]) (rB_ rfl (w.heap.size+1) (qT _ _ _ _ _ _ HX.o.1) underlying127 3) rfl ⟨_,_,rfl,qam ⟨rfl,HN.o,rfl⟩,qS HX.o.2 (by omega) _⟩
 ·have HX:=qH (qA ((aa.o w1 O).2) (HR.o.1.trans (O.mono HR.o.1.size)));have HN:Hu (¬FOk n.data.toList d.data.toList):=qH (fun h=>aB h.vn)
  go_wp2_with (with_reducible refine sR_ rfl 127 _ _ rfl (w.heap.size+1) #[.slice none 0 0,.bool false,.slice none 0 0] HX.o.1 3 ?_)
  exact qR (v:=.tuple #[.agg #[.slice none 0 0,.bool false,.slice none 0 0],.bool false]) (rB_ rfl (w.heap.size+1) (qT _ _ _ _ _ _ HX.o.1) underlying127 3) rfl ⟨_,_,rfl,qam ⟨rfl,HN.o,rfl⟩,qS HX.o.2 (by omega) _⟩
def RatV (W:World) (v:Value) (q:Rat):Prop:=RatAt W v q.num q.den
theorem RatV.below {W W':World} {v:Value} {q:Rat} (h:RatV W v q) (E:Below W.heap.size W W'):RatV W' v q:=RatAt.below h E
theorem qdf {W:World} {v:Value} {z:Int} {d:Nat} (h:RatAt W v z d):∃(a:Option Addr) (n c:Nat) (b:Bool) (E:Option Addr) (e f:Nat),v=.agg #[.slice a n c,.bool b,.slice E e f]:=by
 obtain⟨m,o,rfl,⟨am,bm,F,cm,n,M,rfl,_,_⟩,⟨ao,bo,G,co,no,O,rfl,_,_⟩⟩:=h;exact⟨am,n,cm,_,ao,no,co,rfl⟩
def RFit (q:Rat) (K:Nat):Prop:=Fit q.num.natAbs K/\Fit q.den K
theorem row_set3 {W:World} {g:Nat} {t:TypeId} (h:W.heap[g]? = some (.cells #[.slice none 0 0,.bool false,.slice none 0 0] t (0,0))) (a:Option Addr) (n c:Nat) (b:Bool) (d:Option Addr) (e f:Nat) :
  (((W.setCell ⟨g,0,none⟩ (.slice a n c)).setCell ⟨g,1,none⟩ (.bool b)).setCell ⟨g,2,none⟩ (.slice d e f)).heap[g]? = some (.cells #[.slice a n c,.bool b,.slice d e f] t (0,0)) :=
 heap_setCell_same _ g 2 _ t _ (heap_setCell_same _ g 1 _ t _ (heap_setCell_same _ g 0 _ t _ h))
theorem rat_set3 {W:World} {v:Value} {q:Rat} {g:Nat} {t:TypeId} (I:RatV W v q) (h:W.heap[g]? = some (.cells #[.slice none 0 0,.bool false,.slice none 0 0] t (0,0))) (a:Option Addr) (n c:Nat) (b:Bool) (d:Option Addr) (e f:Nat) :
  RatV (((W.setCell ⟨g,0,none⟩ (.slice a n c)).setCell ⟨g,1,none⟩ (.bool b)).setCell ⟨g,2,none⟩ (.slice d e f)) v q:=by
 obtain⟨m,o,F,G,H⟩:=I;have E:W.grownBy (((W.setCell ⟨g,0,none⟩ (.slice a n c)).setCell ⟨g,1,none⟩ (.bool b)).setCell ⟨g,2,none⟩ (.slice d e f)) (some g):=qbX (qbX (qb0 W g 0 _) (qb0 _ g 1 _)) (qb0 _ g 2 _);exact⟨m,o,F,qcq G E h qeU,qcq H E h qeU⟩
theorem rmul_any (p q:Rat) (K:Nat) (hK:K<=68719476736) (v u:Value) (w:World) (hv:RatV w v p) (hu:RatV w u q) (hp:RFit p K) (hq:RFit q K) :
  Calls prog 188 #[v,u] w fun e w'=>∃r,e=.returned r/\Below w.heap.size w w'/\RatV w' r (p*q):=by
 obtain⟨mx,mX,rfl,hx,hX⟩:=hv;obtain⟨my,mY,rfl,hy,hY⟩:=hu;obtain⟨x,aS⟩:=qX p.num.natAbs;obtain⟨y,aT⟩:=qX q.num.natAbs;obtain⟨X,aK⟩:=qX p.den;obtain⟨Y,aM⟩:=qX q.den;have av:=mul_low p.reduced q.reduced (qbg p.den_nz) (qbg q.den_nz);have aJ:0<X:=aK▸qbg p.den_nz;have aL:0<Y:=aM▸qbg q.den_nz;obtain⟨fx,fX⟩:=hp;obtain⟨fy,fY⟩:=hq;rw [aS] at hx fx;rw [aT] at hy fy;rw [aK] at hX fX;rw [aM] at hY fY;rw [aS,aT,aK,aM] at av;have aZ:0<x.gcd Y:=qba _ aL;have bf:0<y.gcd X:=qba _ aJ;have fg:Fit (x.gcd Y) K:=fY.le (Nat.gcd_le_right _ aL);have fh:Fit (y.gcd X) K:=fX.le (Nat.gcd_le_right _ aJ);have aV:∀(W:World) (m o:Value),IntAt W m (if (decide (p.num<0) != decide (q.num<0))=true then -((x / x.gcd Y*(y / y.gcd X):Nat):Int) else ((x / x.gcd Y*(y / y.gcd X):Nat):Int))->MagAt W o (X / y.gcd X*(Y / x.gcd Y))->∃a n c b d e f,m=.agg #[.slice a n c,.bool b]/\o=.slice d e f/\RatV W (.agg #[.slice a n c,.bool b,.slice d e f]) (p*q):=by
  intro W m o hm ho;obtain⟨zz,bu⟩:=qX (if (decide (p.num<0) != decide (q.num<0))=true then -((x / x.gcd Y*(y / y.gcd X):Nat):Int) else ((x / x.gcd Y*(y / y.gcd X):Nat):Int));have bQ:zz.natAbs=x / x.gcd Y*(y / y.gcd X):=by rw [<-bu];split <;> omega
  have bO:X / y.gcd X*(Y / x.gcd Y)≠0:=by
   have h1:=Nat.div_pos (qbT aJ (qaZ y X)) bf;have h2:=Nat.div_pos (qbT aL (qaZ x Y)) aZ;exact qbo (qbW h1 h2)
  have hq:=rat_mul (p:=p) (q:=q) (z:=zz) (d:=X / y.gcd X*(Y / x.gcd Y)) bO (by rw [bQ];exact av.1) (by
   have h2:=av.2;have e1:((x / x.gcd Y*(y / y.gcd X):Nat):Int)*(X*Y:Nat)=((x*y:Nat):Int)*(X / y.gcd X*(Y / x.gcd Y):Nat):=by rw [<-Int.natCast_mul,<-Int.natCast_mul,h2]
   have e2:p.num*q.num=if (decide (p.num<0) != decide (q.num<0))=true then -((x*y:Nat):Int) else ((x*y:Nat):Int):=by
    rw [<-aS,<-aT];exact (qiN p.num q.num).symm
   rw [aK,aM,e2,<-bu];split
   ·rw [qbI,qbI,e1]
   ·exact e1)
  rw [bu] at hm;obtain⟨a,n,c,b,rfl⟩:=qbZ hm;obtain⟨m',bg,bN⟩:=hm;obtain⟨ao,bo,oo,co,no,O,rfl,Io,hO⟩:=ho;refine⟨a,n,c,b,ao,no,co,rfl,rfl,m',.slice ao no co,?_,?_,?_⟩
  ·simp only [qaY,qa5,qaW] at bg;rw [hq.1,<-bg.1,<-bg.2.1]
  ·rw [hq.1];exact bN
  ·rw [hq.2];exact⟨ao,bo,oo,co,no,O,rfl,Io,hO⟩
 have bv:=qH aV;generalize decide (p.num<0)=b0 at *;generalize decide (q.num<0)=b1 at *;have HX:=qH (qA hx (qA hX (qA hy hY)));have HF:=qH (qA fx (qA fX (qA fy fY)));have HP:=qH (qA aJ (qA aL (qA aZ (qA bf (qA fg fh)))));have HK:=qH hK;obtain⟨a0,_,_,c0,n0,_,rfl,_,_⟩:=hx;obtain⟨d0,_,_,f0,e0,_,rfl,_,_⟩:=hX;obtain⟨a1,_,_,c1,n1,_,rfl,_,_⟩:=hy;obtain⟨d1,_,_,f1,e1,_,rfl,_,_⟩:=hY;clear av aV aJ aL aZ bf fg fh fx fX fy fY hK aS aT aK aM;obtain⟨H,aD⟩:=qY (((w.alloc (.cells #[.slice a0 n0 c0,.bool b0,.slice d0 e0 f0] 127)).alloc (.cells #[.slice a1 n1 c1,.bool b1,.slice d1 e1 f1] 127)).alloc (.cells #[.slice none 0 0,.bool false,.slice none 0 0] 127));have bF:Below w.heap.size w H:=aD▸qbY (qbY (qbY qB qN) qN) qN;have aQ:H.heap[w.heap.size]? = some (.cells #[.slice a0 n0 c0,.bool b0,.slice d0 e0 f0] 127 (0,0)):=by rw [aD,qL _ _ _ (by simp only [qab];omega),qL _ _ _ (by simp only [qab];omega)];exact qM _ _ _ (by simp)
 have aR:H.heap[w.heap.size+1]? = some (.cells #[.slice a1 n1 c1,.bool b1,.slice d1 e1 f1] 127 (0,0)):=by rw [aD,qL _ _ _ (by simp only [qab];omega)];exact qM _ _ _ (by simp)
 have bn:H.heap[w.heap.size+1+1]? = some (.cells #[.slice none 0 0,.bool false,.slice none 0 0] 127 (0,0)):=by rw [aD];exact qM _ _ _ (by simp)
 have l2:w.heap.size+1+1<H.heap.size:=(qG bn).1;have ax:∀W,Below (w.heap.size+1+1) H W->W.cell? ⟨w.heap.size,0,none⟩=some (.slice a0 n0 c0):=fun W h=>(h.cell (p:=⟨w.heap.size,0,none⟩) (by show w.heap.size<_;omega)).trans (qC _ _ 0 _ _ _ aQ)
 have ay:∀W,Below (w.heap.size+1+1) H W->W.cell? ⟨w.heap.size,1,none⟩=some (.bool b0):=fun W h=>(h.cell (p:=⟨w.heap.size,1,none⟩) (by show w.heap.size<_;omega)).trans (qC _ _ 1 _ _ _ aQ)
 have az:∀W,Below (w.heap.size+1+1) H W->W.cell? ⟨w.heap.size,2,none⟩=some (.slice d0 e0 f0):=fun W h=>(h.cell (p:=⟨w.heap.size,2,none⟩) (by show w.heap.size<_;omega)).trans (qC _ _ 2 _ _ _ aQ)
 have aA:∀W,Below (w.heap.size+1+1) H W->W.cell? ⟨w.heap.size+1,0,none⟩=some (.slice a1 n1 c1):=fun W h=>(h.cell (p:=⟨w.heap.size+1,0,none⟩) (by show w.heap.size+1<_;omega)).trans (qC _ _ 0 _ _ _ aR)
 have aB:∀W,Below (w.heap.size+1+1) H W->W.cell? ⟨w.heap.size+1,1,none⟩=some (.bool b1):=fun W h=>(h.cell (p:=⟨w.heap.size+1,1,none⟩) (by show w.heap.size+1<_;omega)).trans (qC _ _ 1 _ _ _ aR)
 have aC:∀W,Below (w.heap.size+1+1) H W->W.cell? ⟨w.heap.size+1,2,none⟩=some (.slice d1 e1 f1):=fun W h=>(h.cell (p:=⟨w.heap.size+1,2,none⟩) (by show w.heap.size+1<_;omega)).trans (qC _ _ 2 _ _ _ aR)
 have HR:=qH (qA bF bn);have ai:=qH l2;clear aQ aR bn bF;go_enter func188,ntmps188;go_wp2_with fail;rw [<-aD];clear aD;refine ((qcZ .f) x Y K (by have:=HK.o;omega) _ _ H (HX.o.1.below HR.o.1) (HX.o.2.2.2.below HR.o.1) HF.o.1 HF.o.2.2.2).mono ?_;rintro e w2 ⟨vg,rfl,E,hv⟩;have Mw2_g:=qH hv;have G:Hu (Below w.heap.size w w2/\Below (w.heap.size+1+1) H w2):=qH ⟨HR.o.1.trans (E.mono HR.o.1.size),E.mono (qaq ai.o)⟩;have bA:=qH ((E.block _ (qG HR.o.2).1).trans HR.o.2);obtain⟨sg,_,_,ug,tg,_,rfl,_,_⟩:=hv;clear E;have Z:=ax w2 G.o.2;have aa:=ay w2 G.o.2;have ae:=az w2 G.o.2;have af:=aA w2 G.o.2;have ag:=aB w2 G.o.2;have ah:=aC w2 G.o.2;go_wp2_with fail;refine ((qcZ .f) y X K (by have:=HK.o;omega) _ _ w2 (HX.o.2.2.1.below G.o.1) (HX.o.2.1.below G.o.1) HF.o.2.2.1 HF.o.2.1).mono ?_;rintro e w3 ⟨vh,rfl,E,hv⟩;have Mw3_g:=qH (Mw2_g.o.below E);have Mw3_h:=qH hv;have I:Hu (Below w.heap.size w w3/\Below (w.heap.size+1+1) H w3):=qH ⟨G.o.1.trans (E.mono G.o.1.size),(G.o.2).trans (E.mono (qal (qaq ai.o) (G.o.2).size))⟩;have bB:=qH ((E.block _ (qG bA.o).1).trans bA.o);obtain⟨sh,_,_,uh,th,_,rfl,_,_⟩:=hv;clear E Z;have Z:=ax w3 I.o.2;clear aa;have aa:=ay w3 I.o.2;clear ae;have ae:=az w3 I.o.2;clear af;have af:=aA w3 I.o.2;clear ag;have ag:=aB w3 I.o.2;clear ah;have ah:=aC w3 I.o.2;go_wp2_with fail;refine ((qb5 .f) x (x.gcd Y) K (by have:=HK.o;omega) _ _ w3 (HX.o.1.below I.o.1) Mw3_g.o HF.o.1 HP.o.2.2.2.2.1 HP.o.2.2.1).mono ?_;rintro e w4 ⟨va,_,rfl,E,hv,_⟩;have Mw4_g:=qH (Mw3_g.o.below E);have Mw4_h:=qH (Mw3_h.o.below E);have Mw4_a:=qH hv;have J:Hu (Below w.heap.size w w4/\Below (w.heap.size+1+1) H w4):=qH ⟨I.o.1.trans (E.mono I.o.1.size),(I.o.2).trans (E.mono (qal (qaq ai.o) (I.o.2).size))⟩;have bC:=qH ((E.block _ (qG bB.o).1).trans bB.o);obtain⟨sa,_,_,ua,ta,_,rfl,_,_⟩:=hv;clear E Z;have Z:=ax w4 J.o.2;clear aa;have aa:=ay w4 J.o.2;clear ae;have ae:=az w4 J.o.2;clear af;have af:=aA w4 J.o.2;clear ag;have ag:=aB w4 J.o.2;clear ah;have ah:=aC w4 J.o.2;go_wp2_with fail;refine ((qb5 .f) X (y.gcd X) K (by have:=HK.o;omega) _ _ w4 (HX.o.2.1.below J.o.1) Mw4_h.o HF.o.2.1 HP.o.2.2.2.2.2 HP.o.2.2.2.1).mono ?_;rintro e w5 ⟨vb,_,rfl,E,hv,_⟩;have Mw5_g:=qH (Mw4_g.o.below E);have Mw5_h:=qH (Mw4_h.o.below E);have Mw5_a:=qH (Mw4_a.o.below E);have Mw5_b:=qH hv;have U:Hu (Below w.heap.size w w5/\Below (w.heap.size+1+1) H w5):=qH ⟨J.o.1.trans (E.mono J.o.1.size),(J.o.2).trans (E.mono (qal (qaq ai.o) (J.o.2).size))⟩;have bD:=qH ((E.block _ (qG bC.o).1).trans bC.o);obtain⟨sb,_,_,ub,tb,_,rfl,_,_⟩:=hv;clear E Z;have Z:=ax w5 U.o.2;clear aa;have aa:=ay w5 U.o.2;clear ae;have ae:=az w5 U.o.2;clear af;have af:=aA w5 U.o.2;clear ag;have ag:=aB w5 U.o.2;clear ah;have ah:=aC w5 U.o.2;go_wp2_with fail;refine ((qb5 .f) y (y.gcd X) K (by have:=HK.o;omega) _ _ w5 (HX.o.2.2.1.below U.o.1) Mw5_h.o HF.o.2.2.1 HP.o.2.2.2.2.2 HP.o.2.2.2.1).mono ?_;rintro e w6 ⟨vc,_,rfl,E,hv,_⟩;have Mw6_g:=qH (Mw5_g.o.below E);have Mw6_h:=qH (Mw5_h.o.below E);have Mw6_a:=qH (Mw5_a.o.below E);have Mw6_b:=qH (Mw5_b.o.below E);have Mw6_c:=qH hv;have V:Hu (Below w.heap.size w w6/\Below (w.heap.size+1+1) H w6):=qH ⟨U.o.1.trans (E.mono U.o.1.size),(U.o.2).trans (E.mono (qal (qaq ai.o) (U.o.2).size))⟩;have bE:=qH ((E.block _ (qG bD.o).1).trans bD.o);obtain⟨sc,_,_,uc,tc,_,rfl,_,_⟩:=hv;clear E Z;have Z:=ax w6 V.o.2;clear aa;have aa:=ay w6 V.o.2;clear ae;have ae:=az w6 V.o.2;clear af;have af:=aA w6 V.o.2;clear ag;have ag:=aB w6 V.o.2;clear ah;have ah:=aC w6 V.o.2;go_wp2_with fail;refine ((qb5 .f) Y (x.gcd Y) K (by have:=HK.o;omega) _ _ w6 (HX.o.2.2.2.below V.o.1) Mw6_g.o HF.o.2.2.2 HP.o.2.2.2.2.1 HP.o.2.2.1).mono ?_;rintro e w7 ⟨vd,_,rfl,E,hv,_⟩;have Mw7_g:=qH (Mw6_g.o.below E);have Mw7_h:=qH (Mw6_h.o.below E);have Mw7_a:=qH (Mw6_a.o.below E);have Mw7_b:=qH (Mw6_b.o.below E);have Mw7_c:=qH (Mw6_c.o.below E);have Mw7_d:=qH hv;have ak:Hu (Below w.heap.size w w7/\Below (w.heap.size+1+1) H w7):=qH ⟨V.o.1.trans (E.mono V.o.1.size),(V.o.2).trans (E.mono (qal (qaq ai.o) (V.o.2).size))⟩;have bM:=qH ((E.block _ (qG bE.o).1).trans bE.o);obtain⟨sd,_,_,ud,td,_,rfl,_,_⟩:=hv;clear E Z;have Z:=ax w7 ak.o.2;clear aa;have aa:=ay w7 ak.o.2;clear ae;have ae:=az w7 ak.o.2;clear af;have af:=aA w7 ak.o.2;clear ag;have ag:=aB w7 ak.o.2;clear ah;have ah:=aC w7 ak.o.2;have bK:=qH (fun (W:World) (h:Below w7.heap.size w7 W)=>(qcn .f) (x / x.gcd Y) (y / y.gcd X) K K (by have:=HK.o;omega) (.slice sa ta ua) (.slice sc tc uc) W (Mw7_a.o.below h) (Mw7_c.o.below h) (HF.o.1.le (qaV _ _)) (HF.o.2.2.1.le (qaV _ _)));have bL:=qH (fun (W:World) (h:Below w7.heap.size w7 W)=>(qcn .f) (X / y.gcd X) (Y / x.gcd Y) K K (by have:=HK.o;omega) (.slice sb tb ub) (.slice sd td ud) W (Mw7_b.o.below h) (Mw7_d.o.below h) (HF.o.2.1.le (qaV _ _)) (HF.o.2.2.2.le (qaV _ _)));have HS:=qH (fun (W:World) (m:Value) (h:MagAt W m (x / x.gcd Y*(y / y.gcd X)))=>(qcf .f) (x / x.gcd Y*(y / y.gcd X)) (b0 != b1) m W h);have bq:Below (w.heap.size+1+1) H w7:=ak.o.2;have aW:Below (w.heap.size+1+1) H w7.drew:=bq.drew;have bI:w.heap.size+1+1<w7.heap.size:=qak ai.o bq.size;have bz:=qH bI;clear bI;go_wp2_with fail
 go_region_held3 (fun W=>Below (w.heap.size+1+1) H W) (first | with_reducible exact bq | with_reducible exact aW | with_reducible exact aG | with_reducible exact aY | with_reducible exact aX | ((iterate 3 refine Below.setCell ?_ (by exact qae _) _);exact aG)) (first | (go_at_call_of 183 (Value.slice sa ta ua);refine (bK.o _ (qB.drew)).mono ?_;rintro e w8 ⟨p8,rfl,aO,bH⟩;have aX:Below (w.heap.size+1+1) H w8:=aW.trans (aO.mono (qaq bz.o));have aI:=qH (qA bH (qA ((aO.block _ bz.o).trans bM.o) (((Below.refl w7.heap.size w7).drew).trans aO)));clear aO bH) | (go_at_call 123;refine (HS.o _ _ aI.o.1).mono ?_;rintro e w9 ⟨p9,rfl,aP,bi⟩;have aY:Below (w.heap.size+1+1) H w9:=aX.trans (aP.mono (qal (qaq ai.o) aX.size));obtain⟨a9,n9,c9,b9,rfl⟩:=qbZ bi;have aN:=qH (qA bi (qA ((aP.block _ (qG aI.o.2.1).1).trans aI.o.2.1) (aI.o.2.2.trans (aP.mono aI.o.2.2.size))));clear aP bi) | (go_at_call_of 183 (Value.slice sb tb ub);refine (bL.o _ aN.o.2.2).mono ?_;rintro e aj ⟨bR,rfl,au,aU⟩;have aG:Below (w.heap.size+1+1) H aj:=aY.trans (au.mono (qal (qaq ai.o) aY.size));obtain⟨a8,n8,c8,b8,d8,e8,f8,aF,bP,bJ⟩:=bv.o aj _ _ (aN.o.1.below au) aU;have F:=(au.block _ (qG aN.o.2.1).1).trans aN.o.2.1;subst bP;have e0:=qC aj _ 0 _ _ _ F;have e1:=qC aj _ 1 _ _ _ F;have e2:=qC aj _ 2 _ _ _ F;have f0:=qF aj _ 0 _ _ F;have f1:=qF aj _ 1 _ _ F;have f2:=qF aj _ 2 _ _ F;have bG:a8=a9/\n8=n9/\c8=c9/\b8=b9:=(by simp only [qaY,qa5,qaW,qbS,qbF] at aF;exact⟨aF.1.1.symm,aF.1.2.1.symm,aF.1.2.2.symm,aF.2.1.symm⟩);obtain⟨rfl,rfl,rfl,rfl⟩:=bG;have aH:=qH (qA bJ F);clear au aU aF bJ F))
 go_wp2_with fail;exact qR (v:=.agg #[.slice a8 n8 c8,.bool b8,.slice d8 e8 f8]) (rA_ rfl (w.heap.size+1+1) (row_set3 aH.o.2 a8 n8 c8 b8 d8 e8 f8) underlying127 3) rfl ⟨_,rfl,HR.o.1.trans ((((aG.setCell (by exact qae _) _).setCell (by exact qae _) _).setCell (by exact qae _) _).mono (by omega)),rat_set3 aH.o.1 aH.o.2 _ _ _ _ _ _ _⟩
def One (E W:World) (g:Nat) (v:Option Addr×Nat×Nat×Bool) (z:Int):Prop :=
 W.heap[g]? = some (.cells #[.slice v.1 v.2.1 v.2.2.1,.bool v.2.2.2] 125 (0,0))/\IntAt W (.agg #[.slice v.1 v.2.1 v.2.2.1,.bool v.2.2.2]) z/\Below E.heap.size E W
theorem qfV {W:World} {v:Value} {q:Rat} {g:Nat} {t:TypeId} {cs':Array Value} (H:RatV W v q) (h:W.heap[g]? = some (.cells #[.slice none 0 0,.bool false,.slice none 0 0] t (0,0))):RatV (W.setRow g cs') v q:=by
 obtain⟨m,o,E,F,G⟩:=H;exact⟨m,o,E,qcY F h qeU,qcY G h qeU⟩
theorem one_a {E W:World} {a:Option Addr} {n c:Nat} {b:Bool} {z:Int} (h:IntAt W (.agg #[.slice a n c,.bool b]) z) (F:Below E.heap.size E W) :
  One E (W.alloc (.cells #[.slice a n c,.bool b] 125)) W.heap.size (a,n,c,b) z :=
 ⟨qM _ _ _ rfl,h.below (qbY qB qN),qbY F qN⟩
theorem one_p {E W:World} {g:Nat} {a:Option Addr} {n c:Nat} {b:Bool} {z:Int} (h:IntAt W (.agg #[.slice a n c,.bool b]) z) (F:Below E.heap.size E W) (hg:E.heap.size<=g) (G:W.heap[g]? = some (.cells #[.slice none 0 0,.bool false] 125 (0,0))) :
  One E ((W.setCell ⟨g,0,none⟩ (.slice a n c)).setCell ⟨g,1,none⟩ (.bool b)) g (a,n,c,b) z:=by
 obtain⟨p1,p2,p3⟩:=qgR G a n c b;exact⟨p1,p3 _ _ _ h,(F.setCell (by exact hg) _).setCell (by exact hg) _⟩
theorem radd_any (p q:Rat) (K:Nat) (hK:K<=34359738368) (v u:Value) (w:World) (H:RatV w v p) (hu:RatV w u q) (hp:RFit p K) (hq:RFit q K) :
  Calls prog 165 #[v,u] w fun e w'=>∃r,e=.returned r/\Below w.heap.size w w'/\RatV w' r (p+q):=by
 obtain⟨mx,mX,rfl,hx,hX⟩:=H;obtain⟨my,mY,rfl,hy,hY⟩:=hu;obtain⟨x,aZ⟩:=qX p.num;obtain⟨y,bf⟩:=qX q.num;obtain⟨X,aI⟩:=qX p.den;obtain⟨Y,aJ⟩:=qX q.den;have ah:=add_low p.reduced q.reduced (qbg p.den_nz);have aT:0<X:=aI▸qbg p.den_nz;have aU:0<Y:=aJ▸qbg q.den_nz;obtain⟨fx,fX⟩:=hp;obtain⟨fy,fY⟩:=hq;rw [aZ] at hx fx ⊢;rw [bf] at hy fy ⊢;rw [aI] at hX fX;rw [aJ] at hY fY;rw [aZ,bf,aI,aJ] at ah;have aL:0<X.gcd Y:=Nat.gcd_pos_of_pos_left _ aT;have fg:Fit (X.gcd Y) K:=fY.le (Nat.gcd_le_right _ aU);obtain⟨l,hl⟩:=qX (Y / X.gcd Y);obtain⟨r,hr⟩:=qX (X / X.gcd Y);have fl:Fit l K:=hl▸fY.le (qaV _ _);have fr:Fit r K:=hr▸fX.le (qaV _ _);have ai:0<r:=hr▸Nat.div_pos (qbT aT (qbN X Y)) aL;obtain⟨S,hS⟩:=qX (x*l+y*r:Int);have af:=ah S (by rw [hl,hr];exact hS.symm);rw [hr] at af;have g1:Fit (x*l).natAbs (K+K):=by rw [qaK,qar];exact fx.mul fl
 have g2:Fit (y*r).natAbs (K+K):=by rw [qaK,qar];exact fy.mul fr
 have fS:Fit S.natAbs (K+K+1):=by rw [<-hS];exact (Fit.add g1 g2).le (Int.natAbs_add_le _ _)
 have aV:0<S.natAbs.gcd (X.gcd Y):=qba _ aL;have fh:Fit (S.natAbs.gcd (X.gcd Y)) K:=fg.le (Nat.gcd_le_right _ aL);obtain⟨h,hh⟩:=qX (S.natAbs.gcd (X.gcd Y));rw [hh] at af aV fh;have bL:h∣Y:=hh▸Nat.dvd_trans (qaZ _ _) (qaZ _ _);have bi:∀(W:World) (m o:Value),IntAt W m (if decide (S<0)=true then -((S.natAbs / h:Nat):Int) else ((S.natAbs / h:Nat):Int))->MagAt W o (r*(Y / h))->∃a n c b d e f,m=.agg #[.slice a n c,.bool b]/\o=.slice d e f/\RatV W (.agg #[.slice a n c,.bool b,.slice d e f]) (p+q):=by
  intro W m o hm ho;have di:(if decide (S<0)=true then -((S.natAbs / h:Nat):Int) else ((S.natAbs / h:Nat):Int))=S.tdiv (h:Int):=by
   have:=qiM S (h:Int);rw [qU (by omega:¬(h:Int)<0),Bool.bne_false,qar] at this;exact this
  rw [di] at hm;have dm:(S.tdiv (h:Int)).natAbs=S.natAbs / h:=by rw [Int.natAbs_tdiv,qar];rfl
  have df:r*(Y / h)≠0:=qbo (qbW ai (Nat.div_pos (qbT aU bL) aV));have hq:=rat_add (p:=p) (q:=q) (z:=S.tdiv (h:Int)) (d:=r*(Y / h)) df (by rw [dm];exact af.1) (by
   rw [aZ,bf,aI,aJ];exact af.2)
  obtain⟨a,n,c,b,rfl⟩:=qbZ hm;obtain⟨m',bn,cZ⟩:=hm;obtain⟨ao,bo,oo,co,no,O,rfl,Io,hO⟩:=ho;refine⟨a,n,c,b,ao,no,co,rfl,rfl,m',.slice ao no co,?_,?_,?_⟩
  ·simp only [qaY,qa5,qaW] at bn;rw [hq.1,<-bn.1,<-bn.2.1]
  ·rw [hq.1];exact cZ
  ·rw [hq.2];exact⟨ao,bo,oo,co,no,O,rfl,Io,hO⟩
 have bz:=qH bi;have bM:∀W a n c,MagAt W (.slice a n c) x.natAbs->IntAt W (.agg #[.slice a n c,.bool (decide (x<0))]) x:=fun W a n c h=>⟨_,rfl,h⟩
 have bN:∀W a n c,MagAt W (.slice a n c) y.natAbs->IntAt W (.agg #[.slice a n c,.bool (decide (y<0))]) y:=fun W a n c h=>⟨_,rfl,h⟩
 generalize decide (x<0)=b0 at *;generalize decide (y<0)=b1 at *;have HX:=qH (qA hx (qA hX (qA hy hY)));have HF:=qH (qA fx (qA fX (qA fy fY)));have ae:=qH (qA fl (qA fr (qA g1 (qA g2 (qA fS fh)))));have HP:=qH (qA aT (qA aU (qA aL (qA aV fg))));have HE:=qH (qA hl (qA hr (qA hS hh)));have HK:=qH hK;have bW:=qH bM;have bX:=qH bN;obtain⟨a0,_,_,c0,n0,_,rfl,_,_⟩:=hx;obtain⟨d0,_,_,f0,e0,_,rfl,_,_⟩:=hX;obtain⟨a1,_,_,c1,n1,_,rfl,_,_⟩:=hy;obtain⟨d1,_,_,f1,e1,_,rfl,_,_⟩:=hY;clear af ah bi aT aU aL aV fg fh fx fX fy fY hK aZ bf aI aJ hl hr hS hh fl fr fS g1 g2 ai bL bM bN;obtain⟨W1,az⟩:=qY (((w.alloc (.cells #[.slice a0 n0 c0,.bool b0,.slice d0 e0 f0] 127)).alloc (.cells #[.slice a1 n1 c1,.bool b1,.slice d1 e1 f1] 127)).alloc (.cells #[.slice none 0 0,.bool false,.slice none 0 0] 127));have bJ:Below w.heap.size w W1:=az▸qbY (qbY (qbY qB qN) qN) qN;have ai:W1.heap[w.heap.size]? = some (.cells #[.slice a0 n0 c0,.bool b0,.slice d0 e0 f0] 127 (0,0)):=by rw [az,qL _ _ _ (by simp only [qab];omega),qL _ _ _ (by simp only [qab];omega)];exact qM _ _ _ (by simp)
 have aY:W1.heap[w.heap.size+1]? = some (.cells #[.slice a1 n1 c1,.bool b1,.slice d1 e1 f1] 127 (0,0)):=by rw [az,qL _ _ _ (by simp only [qab];omega)];exact qM _ _ _ (by simp)
 have bv:W1.heap[w.heap.size+1+1]? = some (.cells #[.slice none 0 0,.bool false,.slice none 0 0] 127 (0,0)):=by rw [az];exact qM _ _ _ (by simp)
 have l2:w.heap.size+1+1<W1.heap.size:=(qG bv).1;have ak:∀W,Below (w.heap.size+1+1) W1 W->W.cell? ⟨w.heap.size,0,none⟩=some (.slice a0 n0 c0):=fun W h=>(h.cell (p:=⟨w.heap.size,0,none⟩) (by show w.heap.size<_;omega)).trans (qC _ _ 0 _ _ _ ai)
 have au:∀W,Below (w.heap.size+1+1) W1 W->W.cell? ⟨w.heap.size,1,none⟩=some (.bool b0):=fun W h=>(h.cell (p:=⟨w.heap.size,1,none⟩) (by show w.heap.size<_;omega)).trans (qC _ _ 1 _ _ _ ai)
 have aC:∀W,Below (w.heap.size+1+1) W1 W->W.cell? ⟨w.heap.size,2,none⟩=some (.slice d0 e0 f0):=fun W h=>(h.cell (p:=⟨w.heap.size,2,none⟩) (by show w.heap.size<_;omega)).trans (qC _ _ 2 _ _ _ ai)
 have av:∀W,Below (w.heap.size+1+1) W1 W->W.cell? ⟨w.heap.size+1,0,none⟩=some (.slice a1 n1 c1):=fun W h=>(h.cell (p:=⟨w.heap.size+1,0,none⟩) (by show w.heap.size+1<_;omega)).trans (qC _ _ 0 _ _ _ aY)
 have ax:∀W,Below (w.heap.size+1+1) W1 W->W.cell? ⟨w.heap.size+1,1,none⟩=some (.bool b1):=fun W h=>(h.cell (p:=⟨w.heap.size+1,1,none⟩) (by show w.heap.size+1<_;omega)).trans (qC _ _ 1 _ _ _ aY)
 have aD:∀W,Below (w.heap.size+1+1) W1 W->W.cell? ⟨w.heap.size+1,2,none⟩=some (.slice d1 e1 f1):=fun W h=>(h.cell (p:=⟨w.heap.size+1,2,none⟩) (by show w.heap.size+1<_;omega)).trans (qC _ _ 2 _ _ _ aY)
 have HR:=qH (qA bJ bv);have ay:=qH l2;clear ai aY bv bJ;go_enter func165,ntmps165;go_wp2_with fail;rw [<-az];clear az;refine ((qcZ .f) X Y K (by have:=HK.o;omega) _ _ W1 (HX.o.2.1.below HR.o.1) (HX.o.2.2.2.below HR.o.1) HF.o.2.1 HF.o.2.2.2).mono ?_;rintro e w2 ⟨vg,rfl,E,H⟩;have Mw2_g:=qH H;have Z:Hu (Below w.heap.size w w2/\Below (w.heap.size+1+1) W1 w2):=qH ⟨HR.o.1.trans (E.mono HR.o.1.size),E.mono (qaq ay.o)⟩;have bG:=qH ((E.block _ (qG HR.o.2).1).trans HR.o.2);obtain⟨sg,_,_,ug,tg,_,rfl,_,_⟩:=H;clear E;have aN:=ak w2 Z.o.2;have aO:=au w2 Z.o.2;have aP:=aC w2 Z.o.2;have aQ:=av w2 Z.o.2;have aR:=ax w2 Z.o.2;have aj:=aD w2 Z.o.2;go_wp2_with fail;refine ((qb5 .f) Y (X.gcd Y) K (by have:=HK.o;omega) _ _ w2 (HX.o.2.2.2.below Z.o.1) Mw2_g.o HF.o.2.2.2 HP.o.2.2.2.2 HP.o.2.2.1).mono ?_;rintro e w3 ⟨vl,_,rfl,E,H,_⟩;rw [HE.o.1] at H;have Mw3_g:=qH (Mw2_g.o.below E);have Mw3_l:=qH H;have aa:Hu (Below w.heap.size w w3/\Below (w.heap.size+1+1) W1 w3):=qH ⟨Z.o.1.trans (E.mono Z.o.1.size),(Z.o.2).trans (E.mono (qal (qaq ay.o) (Z.o.2).size))⟩;have bH:=qH ((E.block _ (qG bG.o).1).trans bG.o);obtain⟨sl,_,_,ul,tl,_,rfl,_,_⟩:=H;clear E aN;have aN:=ak w3 aa.o.2;clear aO;have aO:=au w3 aa.o.2;clear aP;have aP:=aC w3 aa.o.2;clear aQ;have aQ:=av w3 aa.o.2;clear aR;have aR:=ax w3 aa.o.2;clear aj;have aj:=aD w3 aa.o.2;go_wp2_with fail;refine ((qb5 .f) X (X.gcd Y) K (by have:=HK.o;omega) _ _ w3 (HX.o.2.1.below aa.o.1) Mw3_g.o HF.o.2.1 HP.o.2.2.2.2 HP.o.2.2.1).mono ?_;rintro e G ⟨vr,_,rfl,E,H,_⟩;rw [HE.o.2.1] at H;have Mw4_g:=qH (Mw3_g.o.below E);have Mw4_l:=qH (Mw3_l.o.below E);have Mw4_r:=qH H;have F:Hu (Below w.heap.size w G/\Below (w.heap.size+1+1) W1 G):=qH ⟨aa.o.1.trans (E.mono aa.o.1.size),(aa.o.2).trans (E.mono (qal (qaq ay.o) (aa.o.2).size))⟩;have bI:=qH ((E.block _ (qG bH.o).1).trans bH.o);obtain⟨sr,_,_,ur,tr,_,rfl,_,_⟩:=H;clear E aN;have aN:=ak G F.o.2;clear aO;have aO:=au G F.o.2;clear aP;have aP:=aC G F.o.2;clear aQ;have aQ:=av G F.o.2;clear aR;have aR:=ax G F.o.2;clear aj;have aj:=aD G F.o.2;have aB:Below G.heap.size G G:=Below.refl _ _;have bP:Below G.heap.size G G.drew:=aB.drew;have cO:∀W:World,W.drew.heap.size=W.heap.size:=fun _=>rfl
 have aM:w.heap.size+1+1<G.heap.size:=qak ay.o F.o.2.size;have bS:∀W,Below G.heap.size G W->W.cell? ⟨w.heap.size,0,none⟩=some (.slice a0 n0 c0):=fun W h=>ak W (F.o.2.trans (h.mono (qaq aM)))
 have bT:∀W,Below G.heap.size G W->W.cell? ⟨w.heap.size,1,none⟩=some (.bool b0):=fun W h=>au W (F.o.2.trans (h.mono (qaq aM)))
 have bU:∀W,Below G.heap.size G W->W.cell? ⟨w.heap.size+1,0,none⟩=some (.slice a1 n1 c1):=fun W h=>av W (F.o.2.trans (h.mono (qaq aM)))
 have bV:∀W,Below G.heap.size G W->W.cell? ⟨w.heap.size+1,1,none⟩=some (.bool b1):=fun W h=>ax W (F.o.2.trans (h.mono (qaq aM)))
 have HC:=qH (qA ak (qA au (qA aC (qA av (qA ax aD)))));clear ak au aC av ax aD aN aO aP aQ aR aj;go_upto_region 4 with fail
 go_cut [10] (fun x10 W=>∃(g7:Nat) (a7:Option Addr) (n7 c7:Nat) (b7:Bool),x10=.pointer (some ⟨g7,0,none⟩)/\One G W g7 (a7,n7,c7,b7) S)
 case first =>
  go_region_held3 (fun W=>Below G.heap.size G W) (first | with_reducible exact aB | with_reducible exact bP | with_reducible exact J | with_reducible exact V | with_reducible exact I | ((repeat (first | refine Below.setCell ?_ (by first | exact qae _ | exact J.size | exact V.size | exact I.size | exact qap qN) _ | refine qbY ?_ qN | refine Below.drew ?_));first | exact J | exact V | exact I | exact aB)) (first | (go_at_call_of 107 (Value.slice sl tl ul);refine ((qcz .f) x l K K (by have:=HK.o;omega) _ _ _ (bW.o _ _ _ _ (HX.o.1.below (F.o.1.trans (Below.mono (by ((repeat (first | refine Below.setCell ?_ (by first | exact qae _ | exact J.size | exact V.size | exact I.size | exact qap qN) _ | refine qbY ?_ qN | refine Below.drew ?_));first | exact aB)) F.o.1.size)))) (Mw4_l.o.below (by ((repeat (first | refine Below.setCell ?_ (by first | exact qae _ | exact J.size | exact V.size | exact I.size | exact qap qN) _ | refine qbY ?_ qN | refine Below.drew ?_));first | exact aB))) HF.o.1 ae.o.1).mono ?_;rintro e w5 ⟨p5,rfl,aK,bq⟩;have I:Below G.heap.size G w5:=bjoin (by ((repeat (first | refine Below.setCell ?_ (by first | exact qae _ | exact J.size | exact V.size | exact I.size | exact qap qN) _ | refine qbY ?_ qN | refine Below.drew ?_));first | exact aB)) aK;obtain⟨a5,n5,c5,b5,rfl⟩:=qbZ bq;obtain⟨k5,dx⟩:=bcell aK;have Z5:=qH (zkeep aK);have s5:_<=_:=aK.size;(try simp only [qab,cO] at s5);have I5:=qH bq;(try have q5:G.heap.size<w5.heap.size:=by omega);clear aK bq) | (go_at_call_of 107 (Value.slice sr tr ur);refine ((qcz .f) y r K K (by have:=HK.o;omega) _ _ _ (bX.o _ _ _ _ (HX.o.2.2.1.below (F.o.1.trans (Below.mono (by ((repeat (first | refine Below.setCell ?_ (by first | exact qae _ | exact J.size | exact V.size | exact I.size | exact qap qN) _ | refine qbY ?_ qN | refine Below.drew ?_));first | exact I)) F.o.1.size)))) (Mw4_r.o.below (by ((repeat (first | refine Below.setCell ?_ (by first | exact qae _ | exact J.size | exact V.size | exact I.size | exact qap qN) _ | refine qbY ?_ qN | refine Below.drew ?_));first | exact I))) HF.o.2.2.1 ae.o.2.1).mono ?_;rintro e w6 ⟨p6,rfl,ag,bu⟩;have V:Below G.heap.size G w6:=bjoin (by ((repeat (first | refine Below.setCell ?_ (by first | exact qae _ | exact J.size | exact V.size | exact I.size | exact qap qN) _ | refine qbY ?_ qN | refine Below.drew ?_));first | exact I)) ag;obtain⟨a6,n6,c6,b6,rfl⟩:=qbZ bu;obtain⟨k6,dz⟩:=bcell ag;have Z6:=qH (zkeep ag);have s6:_<=_:=ag.size;(try simp only [qab] at s6);have J6:Hu (IntAt w6 _ _):=qH (by first | exact I5.o.below ag | exact (I5.o.below (qbY qB qN)).below ag);have I6:=qH bu;(try have q6:G.heap.size<w6.heap.size:=by omega);(try have r6:w5.heap.size<w6.heap.size:=by omega);clear ag bu) | (go_at_call 108;refine ((qdq .f) (x*(l:Int)) (y*(r:Int)) (K+K) (by have:=HK.o;omega) _ _ _ (by first | exact J6.o | exact J6.o.below (qbY qB qN)) (by first | exact I6.o | exact I6.o.below (qbY qB qN)) ae.o.2.2.1 ae.o.2.2.2.1).mono ?_;rintro e w7 ⟨p7,rfl,U,aX⟩;rw [HE.o.2.2.1] at aX;have J:Below G.heap.size G w7:=bjoin (by ((repeat (first | refine Below.setCell ?_ (by first | exact qae _ | exact J.size | exact V.size | exact I.size | exact qap qN) _ | refine qbY ?_ qN | refine Below.drew ?_));first | exact V)) U;obtain⟨a7,n7,c7,b7,rfl⟩:=qbZ aX;obtain⟨k7,dA⟩:=bcell U;have Z7:=qH (zkeep U);have s7:_<=_:=U.size;(try simp only [qab] at s7);have I7:=qH aX;(try have q7:G.heap.size<w7.heap.size:=by omega);(try have r7:w5.heap.size<w7.heap.size:=by omega);(try have t7:w6.heap.size<w7.heap.size:=by omega);clear U aX))
  all_goals go_wp2_with fail
  all_goals go_meet
  all_goals refine⟨_,a7,n7,c7,b7,rfl,?_⟩
  all_goals first
   | with_reducible exact one_a I7.o J
   | (with_reducible refine one_p I7.o J ?_ ?_;(first | exact qae _ | exact I.size | exact V.size | exact J.size);(refine Z7.o _ _ ?_;first | (refine qM _ _ _ ?_;((try simp only) <;> omega)) | (refine Z6.o _ _ ?_;first | (refine qM _ _ _ ?_;((try simp only) <;> omega)) | (refine Z5.o _ _ ?_;(try with_reducible refine zdrew ?_);(refine qM _ _ _ ?_;((try simp only) <;> omega))))))
 case rest =>
  obtain⟨g7,a7,n7,c7,b7,rfl,h7,i7,U⟩:=hcut;dsimp only at h7 i7;obtain⟨m7,aW,bK⟩:=i7;have e7:m7=.slice a7 n7 c7/\b7=decide (S<0):=by
   simp only [qaY,qa5,qaW,qbF] at aW;exact⟨aW.1.symm,aW.2.1⟩
  obtain⟨rfl,bg⟩:=e7;have aH:=qH (qA bK (qA h7 (qA U bg)));have HB:=qH (qA (F.o.1.trans (U.mono F.o.1.size)) (qA (F.o.2.trans (U.mono (qaq aM))) ((U.block _ (qG bI.o).1).trans bI.o)));have Mg:=qH (Mw4_g.o.below U);have Mr:=qH (Mw4_r.o.below U);have q0:=qC wc _ 0 _ _ _ h7;clear aW bK h7 U bg bS bT bU bV;go_wp2_with fail;refine ((qcZ .f) S.natAbs (X.gcd Y) (K+K+1) (by have:=HK.o;omega) _ _ wc aH.o.1 Mg.o ae.o.2.2.2.2.1 (HP.o.2.2.2.2.mono (by omega))).mono ?_;rintro e w8 ⟨vh,rfl,E,H⟩;rw [HE.o.2.2.2] at H;have bA:=qH H;have bZ:=qH (aH.o.1.below E);have cB:=qH (Mr.o.below E);have H8:=qH (qA (HB.o.1.trans (E.mono HB.o.1.size)) (qA (HB.o.2.1.trans (E.mono (qal (qaq ay.o) HB.o.2.1.size))) (qA ((E.block _ (qG HB.o.2.2).1).trans HB.o.2.2) ((E.block _ (qG aH.o.2.1).1).trans aH.o.2.1))));have q0:=qC w8 _ 0 _ _ _ H8.o.2.2.2;obtain⟨sh,_,_,uh,th,_,rfl,_,_⟩:=H;clear E;go_wp2_with fail;refine ((qb5 .f) S.natAbs h (K+K+1) (by have:=HK.o;omega) _ _ w8 bZ.o bA.o ae.o.2.2.2.2.1 (ae.o.2.2.2.2.2.mono (by omega)) HP.o.2.2.2.1).mono ?_;rintro e w9 ⟨vn,_,rfl,E,H,_⟩;have cu:=qH (bA.o.below E);have cz:=qH H;have cK:=qH (cB.o.below E);have H9:=qH (qA (H8.o.1.trans (E.mono H8.o.1.size)) (qA (H8.o.2.1.trans (E.mono (qal (qaq ay.o) H8.o.2.1.size))) (qA ((E.block _ (qG H8.o.2.2.1).1).trans H8.o.2.2.1) ((E.block _ (qG H8.o.2.2.2).1).trans H8.o.2.2.2))));have aj:=HC.o.2.2.2.2.2 w9 H9.o.2.1;have q1:=qC w9 _ 1 _ _ _ H9.o.2.2.2;obtain⟨sn,_,_,un,tn,_,rfl,_,_⟩:=H;clear E q0;go_wp2_with fail;refine ((qb5 .f) Y h K (by have:=HK.o;omega) _ _ w9 (HX.o.2.2.2.below H9.o.1) cu.o HF.o.2.2.2 ae.o.2.2.2.2.2 HP.o.2.2.2.1).mono ?_;rintro e bR ⟨vt,_,rfl,E,H,_⟩;have bE:=qH H;have bB:=qH (cz.o.below E);have bC:=qH (cK.o.below E);have aF:=qH (qA (H9.o.1.trans (E.mono H9.o.1.size)) (qA ((E.block _ (qG H9.o.2.2.1).1).trans H9.o.2.2.1) ((E.block _ (qG H9.o.2.2.2).1).trans H9.o.2.2.2)));have q1:=qC bR _ 1 _ _ _ aF.o.2.2;obtain⟨st,_,_,ut,tt,_,rfl,_,_⟩:=H;clear E aj;go_wp2_with fail;refine ((qcf .f) (S.natAbs / h) b7 _ bR bB.o).mono ?_;rintro e dn ⟨dB,rfl,E,H⟩;rw [aH.o.2.2.2] at H;have bY:=qH H;have bF:=qH (bE.o.below E);have bD:=qH (bC.o.below E);have aS:=qH (qA (aF.o.1.trans (E.mono aF.o.1.size)) ((E.block _ (qG aF.o.2.1).1).trans aF.o.2.1));obtain⟨a9,n9,c9,b9,rfl⟩:=qbZ H;clear E H q1;go_wp2_with fail;refine ((qcn .f) r (Y / h) K K (by have:=HK.o;omega) _ _ dn bD.o bF.o ae.o.2.1 (HF.o.2.2.2.le (qaV _ _))).mono ?_;rintro e dw ⟨dC,rfl,E,H⟩;obtain⟨a8,n8,c8,b8,d8,e8,f8,aA,dh,bQ⟩:=bz.o dw _ _ (bY.o.below E) H;have bO:a8=a9/\n8=n9/\c8=c9/\b8=b9:=by
   simp only [qaY,qa5,qaW,qbS,qbF] at aA;exact⟨aA.1.1.symm,aA.1.2.1.symm,aA.1.2.2.symm,aA.2.1.symm⟩
  obtain⟨rfl,rfl,rfl,rfl⟩:=bO;subst dh;have aG:=qH (qA ((E.block _ (qG aS.o.2).1).trans aS.o.2) (qA (aS.o.1.trans (E.mono aS.o.1.size)) bQ));clear E H aA bQ
  go_wp2_with (with_reducible refine sR_ rfl 127 _ _ rfl (w.heap.size+1+1) #[.slice a8 n8 c8,.bool b8,.slice d8 e8 f8] aG.o.1 3 ?_)
  exact qR (v:=.agg #[.slice a8 n8 c8,.bool b8,.slice d8 e8 f8]) (rA_ rfl (w.heap.size+1+1) (qT _ _ _ _ _ _ aG.o.1) underlying127 3) rfl ⟨_,rfl,qS aG.o.2.1 (by omega) _,qfV aG.o.2.2 aG.o.1⟩
def fval (n d:List UInt8):Rat:=mkRat (ival n) (ival d).natAbs
theorem FOk.val {n d:List UInt8} (h:FOk n d):(fval n d).num=ival n/\(fval n d).den=(ival d).natAbs:=by
 have E:(ival d).natAbs≠0:=by have:=h.pos;omega
 exact qi5 E h.cop E rfl rfl
theorem FOk.fit {n d:List UInt8} (h:FOk n d):RFit (fval n d) 67:=by
 unfold RFit;rw [h.val.1,h.val.2];exact⟨h.vn.fit,h.vd.fit⟩
theorem FOk.at {n d:List UInt8} (h:FOk n d) {W:World} {v:Value} (E:RatAt W v (ival n) (ival d).natAbs):RatV W v (fval n d):=by
 unfold RatV;rw [h.val.1,h.val.2];exact E
theorem qdN {W:World} {v:Value} {ok:Bool} {n d:List UInt8} (h:ok=true/\FOk n d/\RatAt W v (ival n) (ival d).natAbs\/ok=false/\¬FOk n d/\v=.agg #[.slice none 0 0,.bool false,.slice none 0 0]):∃(a:Option Addr) (x c:Nat) (b:Bool) (E:Option Addr) (e f:Nat),v=.agg #[.slice a x c,.bool b,.slice E e f]:=by
 rcases h with ⟨_,_,h⟩ | ⟨_,_,h⟩
 ·exact qdf h
 ·exact⟨_,_,_,_,_,_,_,h⟩
theorem qeF (n d:ByteArray) (w:World) :
  Calls prog 80 #[.agg #[.string n,.string d]] w fun e V=>qfb w (FOk n.data.toList d.data.toList) 20 e V:=by
 have U:=qH (fun W=>qd2 n d W);have I:Hu (∀cs,Below w.heap.size w (w.alloc (.cells cs 27))):=qH fun cs=>qB.alloc qN _
 go_enter func80,ntmps80;go_wp2_with fail;refine (U.o _).mono ?_;rintro e Y ⟨v,ok,rfl,G,O⟩;obtain⟨a,x,c,b,d',e',f',rfl⟩:=qdN G;have E:Below w.heap.size w Y:=(I.o _).trans (O.mono (I.o _).size);have J:=qH (qbY (o:=.cells #[.slice a x c,.bool b,.slice d' e' f'] 127) E qN);clear O E;rcases G with ⟨rfl,F,_⟩ | ⟨rfl,F,_⟩
 ·have H:=qH F;clear F;go_wp2;go_ret;exact⟨0,rfl,qax ⟨rfl,H.o⟩,J.o⟩
 ·have H:=qH F;clear F;go_wp2;go_ret;exact⟨20,rfl,qam ⟨rfl,H.o⟩,J.o⟩
def Short (q:Rat):Prop:=(num q.num.natAbs).size<=600/\(num q.den).size<=600
def fstr (q:Rat):Value:=.agg #[.string (qcb q.num),.string (num q.den)]
def qgp (w:World) (q:Rat) (e:Ending) (E:World):Prop:=(Short q/\e=.returned (.tuple #[fstr q,.int .i64 0])\/¬Short q/\e=.returned (.tuple #[.agg #[.string ⟨#[]⟩,.string ⟨#[]⟩],.int .i64 6]))/\Below w.heap.size w E
theorem qfW (q:Rat) (K:Nat) (aC:0<K) (hK:K<=34359738368) (v:Value) (w:World) (hv:RatV w v q) (hq:RFit q K) (hT:HasT w) :
  Calls prog 93 #[v] w fun e w'=>qgp w q e w':=by
 obtain⟨m,o,rfl,hm,ho⟩:=hv;have hi:∀W,Below w.heap.size w W->IntAt W (.agg #[m,.bool (decide (q.num<0))]) q.num:=fun W h=>⟨m,rfl,hm.below h⟩
 have l1:=qH (fun (W:World) (h:Below w.heap.size w W)=>(qdE .f) q.num.natAbs K (by omega) m W (hm.below h) hq.1 (hT.below h));have l2:=qH (fun (W:World) (h:Below w.heap.size w W)=>(qdE .f) q.den K (by omega) o W (ho.below h) hq.2 (hT.below h));have t1:=qH (fun (W:World) (h:Below w.heap.size w W)=>(qgN .f) q.num K aC (by omega) _ W (hi W h) hq.1 (hT.below h));have t2:=qH (fun (W:World) (h:Below w.heap.size w W)=>(qej .f) q.den K (by omega) o W (ho.below h) hq.2 (hT.below h));generalize decide (q.num<0)=b0 at *;obtain⟨a0,_,_,c0,n0,_,rfl,_,_⟩:=hm;obtain⟨d0,_,_,f0,e0,_,rfl,_,_⟩:=ho;clear hi hT hq hK;obtain⟨L1,af⟩:∃L,(num q.num.natAbs).size=L:=⟨_,rfl⟩;obtain⟨L2,ag⟩:∃L,(num q.den).size=L:=⟨_,rfl⟩;have aA:Short q↔L1<=600/\L2<=600:=by unfold Short;rw [af,ag]
 rw [af] at l1;rw [ag] at l2;have aa:=qH aA;obtain⟨W1,H⟩:=qY ((w.alloc (.cells #[.slice a0 n0 c0,.bool b0,.slice d0 e0 f0] 127)).alloc (.cells #[.string ⟨#[]⟩,.string ⟨#[]⟩] 27));have av:Below w.heap.size w W1:=H▸qbY (qbY qB qN) qN;have ax:W1.heap[w.heap.size]? = some (.cells #[.slice a0 n0 c0,.bool b0,.slice d0 e0 f0] 127 (0,0)):=by rw [H,qL _ _ _ (by simp only [qab];omega)];exact qM _ _ _ rfl
 have ay:W1.heap[w.heap.size+1]? = some (.cells #[.string ⟨#[]⟩,.string ⟨#[]⟩] 27 (0,0)):=by rw [H];exact qM _ _ _ (by simp)
 have Z:=qH (qA av (qA ax ay));clear aA af ag av ax ay;go_enter func93,ntmps93;go_wp2_with fail;rw [<-H];clear H;refine (l1.o W1 Z.o.1).mono ?_;rintro e w2 ⟨rfl,U⟩;have F:=qH (qA (Z.o.1.trans (U.mono Z.o.1.size)) (qA ((U.block _ (qG Z.o.2.1).1).trans Z.o.2.1) ((U.block _ (qG Z.o.2.2).1).trans Z.o.2.2)));clear U
 by_cases h1:(600:Int)<L1
 ·have HN:Hu (¬Short q):=qH (fun h=>by have:=aa.o.1 h;omega)
  go_wp2_with (with_reducible refine sR_ rfl 27 _ _ rfl (w.heap.size+1) #[.string ⟨#[]⟩,.string ⟨#[]⟩] F.o.2.2 2 ?_)
  exact qR (v:=.tuple #[.agg #[.string ⟨#[]⟩,.string ⟨#[]⟩],.int .i64 6]) (rB_ rfl (w.heap.size+1) (qT _ _ _ _ _ _ F.o.2.2) underlying27 2) rfl ⟨qam ⟨HN.o,rfl⟩,qS F.o.1 (by omega) _⟩
 ·have k2:=qC w2 _ 2 _ _ _ F.o.2.1;go_wp2_with fail;refine (l2.o w2 F.o.1).mono ?_;rintro e J ⟨rfl,V⟩;have G:=qH (qA (F.o.1.trans (V.mono F.o.1.size)) (qA ((V.block _ (qG F.o.2.1).1).trans F.o.2.1) ((V.block _ (qG F.o.2.2).1).trans F.o.2.2)));clear V k2
  by_cases h2:(600:Int)<L2
  ·have HN:Hu (¬Short q):=qH (fun h=>by have:=aa.o.1 h;omega)
   go_wp2_with (with_reducible refine sR_ rfl 27 _ _ rfl (w.heap.size+1) #[.string ⟨#[]⟩,.string ⟨#[]⟩] G.o.2.2 2 ?_)
   exact qR (v:=.tuple #[.agg #[.string ⟨#[]⟩,.string ⟨#[]⟩],.int .i64 6]) (rB_ rfl (w.heap.size+1) (qT _ _ _ _ _ _ G.o.2.2) underlying27 2) rfl ⟨qam ⟨HN.o,rfl⟩,qS G.o.1 (by omega) _⟩
  ·have HY:Hu (Short q):=qH (aa.o.2 (by omega));have az:w.heap.size+1<J.heap.size:=(qG G.o.2.2).1;have C0:∀W,Below (w.heap.size+1) J W->W.cell? ⟨w.heap.size,0,none⟩=some (.slice a0 n0 c0):=fun W h=>(h.cell (p:=⟨w.heap.size,0,none⟩) (by show w.heap.size<_;omega)).trans (qC _ _ 0 _ _ _ G.o.2.1)
   have C1:∀W,Below (w.heap.size+1) J W->W.cell? ⟨w.heap.size,1,none⟩=some (.bool b0):=fun W h=>(h.cell (p:=⟨w.heap.size,1,none⟩) (by show w.heap.size<_;omega)).trans (qC _ _ 1 _ _ _ G.o.2.1)
   have C2:∀W,Below (w.heap.size+1) J W->W.cell? ⟨w.heap.size,2,none⟩=some (.slice d0 e0 f0):=fun W h=>(h.cell (p:=⟨w.heap.size,2,none⟩) (by show w.heap.size<_;omega)).trans (qC _ _ 2 _ _ _ G.o.2.1)
   have aB:Below (w.heap.size+1) J J:=Below.refl _ _;have I:Below (w.heap.size+1) J J.drew:=aB.drew;have ae:=qH az;obtain⟨T1,ah⟩:∃T,qcb q.num=T:=⟨_,rfl⟩;obtain⟨T2,ai⟩:∃T,num q.den=T:=⟨_,rfl⟩;rw [ah] at t1;rw [ai] at t2;have au:=qH (qA ah ai);clear az ah ai;go_wp2_with fail
   go_region_held3 (fun W=>Below (w.heap.size+1) J W) (first | with_reducible exact aB | with_reducible exact I | with_reducible exact Y | with_reducible exact O | ((iterate 2 refine Below.setCell ?_ (by exact qae _) _);exact Y)) (first | (go_at_call 167;refine (t1.o _ (G.o.1.trans (I.mono (by omega)))).mono ?_;rintro e w4 ⟨rfl,aj⟩;have O:Below (w.heap.size+1) J w4:=I.trans (aj.mono (qaq ae.o));have R4:=qH ((aj.block _ ae.o).trans G.o.2.2);clear aj) | (go_at_call 168;refine (t2.o _ (G.o.1.trans (O.mono (by omega)))).mono ?_;rintro e w5 ⟨rfl,ak⟩;have Y:Below (w.heap.size+1) J w5:=O.trans (ak.mono (qal (qaq ae.o) O.size));have E:=(ak.block _ (qG R4.o).1).trans R4.o;have e0:=qC w5 _ 0 _ _ _ E;have e1:=qC w5 _ 1 _ _ _ E;have f0:=qF w5 _ 0 _ _ E;have f1:=qF w5 _ 1 _ _ E;have R5:=qH E;clear ak E))
   go_wp2_with fail;refine qR (v:=.tuple #[.agg #[.string T1,.string T2],.int .i64 0]) (rB_ rfl (w.heap.size+1) (heap_setCell_same _ _ 1 _ 27 _ (heap_setCell_same _ _ 0 _ 27 _ R5.o)) underlying27 2) rfl ⟨qax ⟨HY.o,?_⟩,G.o.1.trans (((Y.setCell (by exact qae _) _).setCell (by exact qae _) _).mono (by omega))⟩;unfold fstr;rw [show qcb q.num=T1 from au.o.1,au.o.2]
theorem qlx (p q:Rat) (K:Nat) (hK:K<=34359738368) (v u:Value) (w:World) (hv:RatV w v p) (hu:RatV w u q) (hp:RFit p K) (hq:RFit q K) :
  Calls prog 60 #[v,u] w fun e w'=>e=.returned (.int .i64 (cmp3 (p.num*(q.den:Int) + -(q.num*(p.den:Int))) 0))/\Below w.heap.size w w':=by
 obtain⟨mx,mX,rfl,hx,hX⟩:=hv;obtain⟨my,mY,rfl,hy,hY⟩:=hu;obtain⟨x,ai⟩:=qX p.num;obtain⟨y,aj⟩:=qX q.num;obtain⟨X,U⟩:=qX p.den;obtain⟨Y,V⟩:=qX q.den;obtain⟨fx,fX⟩:=hp;obtain⟨fy,fY⟩:=hq;rw [ai] at hx fx;rw [aj] at hy fy;rw [U] at hX fX;rw [V] at hY fY;rw [ai,aj,U,V];have g1:Fit (x*Y).natAbs (K+K):=by rw [qaK,qar];exact fx.mul fY
 have g2:Fit (y*X).natAbs (K+K):=by rw [qaK,qar];exact fy.mul fX
 have g3:Fit (-(y*(X:Int))).natAbs (K+K):=by rw [qbv];exact g2
 obtain⟨R0,O⟩:∃R,cmp3 (x*(Y:Int) + -(y*(X:Int))) 0=R:=⟨_,rfl⟩;rw [O];have aC:∀W a n c,MagAt W (.slice a n c) x.natAbs->IntAt W (.agg #[.slice a n c,.bool (decide (x<0))]) x:=fun W a n c h=>⟨_,rfl,h⟩
 have aD:∀W a n c,MagAt W (.slice a n c) y.natAbs->IntAt W (.agg #[.slice a n c,.bool (decide (y<0))]) y:=fun W a n c h=>⟨_,rfl,h⟩
 generalize decide (x<0)=b0 at *;generalize decide (y<0)=b1 at *;have HX:=qH (qA hx (qA hX (qA hy hY)));have HF:=qH (qA fx (qA fX (qA fy fY)));have HG:=qH (qA g1 (qA g2 g3));have HK:=qH hK;have aI:=qH O;have aG:=qH aC;have aH:=qH aD;obtain⟨a0,_,_,c0,n0,_,rfl,_,_⟩:=hx;obtain⟨d0,_,_,f0,e0,_,rfl,_,_⟩:=hX;obtain⟨a1,_,_,c1,n1,_,rfl,_,_⟩:=hy;obtain⟨d1,_,_,f1,e1,_,rfl,_,_⟩:=hY;clear g1 g2 g3 fx fX fy fY hK ai aj U V aC aD O;obtain⟨E,G⟩:=qY ((w.alloc (.cells #[.slice a0 n0 c0,.bool b0,.slice d0 e0 f0] 127)).alloc (.cells #[.slice a1 n1 c1,.bool b1,.slice d1 e1 f1] 127));have ay:Below w.heap.size w E:=G▸qbY (qbY qB qN) qN;have J:E.heap[w.heap.size]? = some (.cells #[.slice a0 n0 c0,.bool b0,.slice d0 e0 f0] 127 (0,0)):=by rw [G,qL _ _ _ (by simp only [qab];omega)];exact qM _ _ _ (by simp)
 have H:E.heap[w.heap.size+1]? = some (.cells #[.slice a1 n1 c1,.bool b1,.slice d1 e1 f1] 127 (0,0)):=by rw [G];exact qM _ _ _ (by simp)
 have l2:w.heap.size+1<E.heap.size:=(qG H).1;have aJ:∀W,Below E.heap.size E W->W.cell? ⟨w.heap.size,0,none⟩=some (.slice a0 n0 c0):=fun W h=>(h.cell (p:=⟨w.heap.size,0,none⟩) (by show w.heap.size<_;omega)).trans (qC _ _ 0 _ _ _ J)
 have aK:∀W,Below E.heap.size E W->W.cell? ⟨w.heap.size,1,none⟩=some (.bool b0):=fun W h=>(h.cell (p:=⟨w.heap.size,1,none⟩) (by show w.heap.size<_;omega)).trans (qC _ _ 1 _ _ _ J)
 have aL:∀W,Below E.heap.size E W->W.cell? ⟨w.heap.size,2,none⟩=some (.slice d0 e0 f0):=fun W h=>(h.cell (p:=⟨w.heap.size,2,none⟩) (by show w.heap.size<_;omega)).trans (qC _ _ 2 _ _ _ J)
 have aM:∀W,Below E.heap.size E W->W.cell? ⟨w.heap.size+1,0,none⟩=some (.slice a1 n1 c1):=fun W h=>(h.cell (p:=⟨w.heap.size+1,0,none⟩) (by show w.heap.size+1<_;omega)).trans (qC _ _ 0 _ _ _ H)
 have aN:∀W,Below E.heap.size E W->W.cell? ⟨w.heap.size+1,1,none⟩=some (.bool b1):=fun W h=>(h.cell (p:=⟨w.heap.size+1,1,none⟩) (by show w.heap.size+1<_;omega)).trans (qC _ _ 1 _ _ _ H)
 have aO:∀W,Below E.heap.size E W->W.cell? ⟨w.heap.size+1,2,none⟩=some (.slice d1 e1 f1):=fun W h=>(h.cell (p:=⟨w.heap.size+1,2,none⟩) (by show w.heap.size+1<_;omega)).trans (qC _ _ 2 _ _ _ H)
 have HR:=qH ay;clear J H ay l2;have aF:Below E.heap.size E E:=Below.refl _ _;have F:Below E.heap.size E E.drew:=aF.drew;have HW:Hu (∀W,Below E.heap.size E W->Below w.heap.size w W):=qH fun W h=>HR.o.trans (h.mono HR.o.size)
 go_enter func60,ntmps60;go_wp2_with fail;rw [<-G];clear G
 go_region_held3 (fun W=>Below E.heap.size E W) (first | with_reducible exact aF | with_reducible exact F | with_reducible exact ax | with_reducible exact av | with_reducible exact au | with_reducible exact ak | with_reducible exact I) (first | (go_at_call_of 107 (Value.agg #[Value.slice a0 n0 c0,Value.bool b0]);refine ((qcz .f) x Y K K (by have:=HK.o;omega) _ _ _ (aG.o _ _ _ _ (HX.o.1.below (HW.o _ F))) (HX.o.2.2.2.below (HW.o _ F)) HF.o.1 HF.o.2.2.2).mono ?_;rintro e w2 ⟨p2,rfl,az,ae⟩;have I:Below E.heap.size E w2:=F.trans az;obtain⟨a2,n2,c2,b2,rfl⟩:=qbZ ae;have I2:=qH ae;clear az ae) | (go_at_call_of 107 (Value.agg #[Value.slice a1 n1 c1,Value.bool b1]);refine ((qcz .f) y X K K (by have:=HK.o;omega) _ _ _ (aH.o _ _ _ _ (HX.o.2.2.1.below (HW.o _ I))) (HX.o.2.1.below (HW.o _ I)) HF.o.2.2.1 HF.o.2.1).mono ?_;rintro e w3 ⟨p3,rfl,Z,af⟩;have ak:Below E.heap.size E w3:=bjoin I Z;obtain⟨a3,n3,c3,b3,rfl⟩:=qbZ af;have I3:=qH af;have J3:=qH (I2.o.below Z);clear Z af) | (go_at_call 109;refine ((qdR .f) _ _ _ I3.o).mono ?_;rintro e w4 ⟨p4,rfl,aa,ag⟩;have au:Below E.heap.size E w4:=bjoin ak aa;obtain⟨a4,n4,c4,b4,rfl⟩:=qbZ ag;have I4:=qH ag;have J4:=qH (J3.o.below aa);clear aa ag) | (go_at_call 108;refine ((qdq .f) _ _ (K+K) (by have:=HK.o;omega) _ _ _ J4.o I4.o HG.o.1 HG.o.2.2).mono ?_;rintro e w5 ⟨p5,rfl,aA,ah⟩;have av:Below E.heap.size E w5:=bjoin au aA;obtain⟨a5,n5,c5,b5,rfl⟩:=qbZ ah;have I5:=qH ah;clear aA ah) | (go_at_call 110;refine (qgM _ _ _ I5.o).mono ?_;rw [aI.o];rintro e w6 ⟨rfl,aB⟩;have ax:Below E.heap.size E w6:=bjoin av aB;clear aB))
 go_wp2;go_ret;exact⟨rfl,HW.o _ ax⟩
def FCmps (w:World) (n d m c:List UInt8) (e:Ending) (E:World):Prop :=
 ((FOk n d/\FOk m c)/\e=.returned (.tuple #[.int .i64 (cmp3 ((fval n d).num*((fval m c).den:Int) + -((fval m c).num*((fval n d).den:Int))) 0),.int .i64 0]) \/
  ¬(FOk n d/\FOk m c)/\e=.returned (.tuple #[.int .i64 0,.int .i64 20]))/\Below w.heap.size w E
def FApplies (w:World) (G:Rat->Rat->Rat) (n d m c:List UInt8) (e:Ending) (F:World):Prop :=
 (∃v E,e=.returned (.tuple #[v,.int .i64 E])/\((FOk n d/\FOk m c)/\E=0/\RatV F v (G (fval n d) (fval m c))\/¬(FOk n d/\FOk m c)/\E=20/\v=.agg #[.slice none 0 0,.bool false,.slice none 0 0]))/\Below w.heap.size w F
def FDoes (w:World) (E:Rat->Rat->Rat) (n d m c:List UInt8) (e:Ending) (F:World):Prop :=
 ((FOk n d/\FOk m c)/\(Short (E (fval n d) (fval m c))/\e=.returned (.tuple #[fstr (E (fval n d) (fval m c)),.int .i64 0])\/¬Short (E (fval n d) (fval m c))/\e=.returned (.tuple #[.agg #[.string ⟨#[]⟩,.string ⟨#[]⟩],.int .i64 6])) \/
  ¬(FOk n d/\FOk m c)/\e=.returned (.tuple #[.agg #[.string ⟨#[]⟩,.string ⟨#[]⟩],.int .i64 20]))/\Below w.heap.size w F
theorem qkX (n d m c:ByteArray) (w:World) :
  Calls prog 59 #[.agg #[.string n,.string d],.agg #[.string m,.string c],.func (.func 60) #[] #[]] w fun e w'=>FCmps w n.data.toList d.data.toList m.data.toList c.data.toList e w':=by
 obtain⟨W1,U⟩:=qY ((w.alloc (.cells #[.string n,.string d] 27)).alloc (.cells #[.string m,.string c] 27));have E:Below w.heap.size w W1:=U▸qbY (qbY qB qN) qN;have av:W1.heap[w.heap.size]? = some (.cells #[.string n,.string d] 27 (0,0)):=by rw [U,qL _ _ _ (by simp only [qab];omega)];exact qM _ _ _ rfl
 have ax:W1.heap[w.heap.size+1]? = some (.cells #[.string m,.string c] 27 (0,0)):=by rw [U];exact qM _ _ _ (by simp)
 have ay:True:=trivial;have HR:=qH (qA E (qA av (qA ax ay)));clear E av ax ay;go_enter func59,ntmps59;go_wp2_with fail;rw [<-U];clear U;refine (qd2 n d W1).mono ?_;rintro e w1 ⟨v1,ok1,rfl,Z,E⟩;obtain⟨a0,n0,c0,b0,d0,e0,f0,rfl⟩:=qdN Z;have aA:=qH Z;have k1:=qC w1 _ 0 _ _ _ ((E.block _ (qG HR.o.2.2.1).1).trans HR.o.2.2.1);have k2:=qC w1 _ 1 _ _ _ ((E.block _ (qG HR.o.2.2.1).1).trans HR.o.2.2.1);have q1:w.heap.size+1<w1.heap.size:=qak (qG HR.o.2.2.1).1 E.size;have aj:=qH E;clear E Z;go_wp2_with fail;obtain⟨V1,ae⟩:=qY (w1.alloc (.cells #[.slice a0 n0 c0,.bool b0,.slice d0 e0 f0] 127));rw [<-ae];have J:V1.heap[w1.heap.size]? = some (.cells #[.slice a0 n0 c0,.bool b0,.slice d0 e0 f0] 127 (0,0)):=by rw [ae];exact qM _ _ _ rfl
 have Y:Below w1.heap.size w1 V1:=ae▸qbY qB qN;clear ae k1 k2;refine (qd2 m c V1).mono ?_;rintro e w2 ⟨v2,aD,rfl,aa,ah⟩;obtain⟨a1,n1,c1,b1,d1,e1,f1,rfl⟩:=qdN aa;have aB:=qH aa;have I:=(ah.block _ (qG J).1).trans J;have V:Below w1.heap.size w1 w2:=Y.trans (ah.mono Y.size);have ak:=qH V;have ai:Below w.heap.size w w2:=HR.o.1.trans ((aj.o.trans (V.mono aj.o.size)).mono HR.o.1.size);obtain⟨V2,af⟩:=qY (w2.alloc (.cells #[.slice a1 n1 c1,.bool b1,.slice d1 e1 f1] 127));have O:Below w2.heap.size w2 V2:=af▸qbY qB qN;have r8:=(O.block _ (qG I).1).trans I;have r9:V2.heap[w2.heap.size]? = some (.cells #[.slice a1 n1 c1,.bool b1,.slice d1 e1 f1] 127 (0,0)):=by rw [af];exact qM _ _ _ rfl
 have G:=qH (qA r8 (qA r9 (qA (ai.trans (O.mono ai.size)) O)));have x0:=qC w2 _ 0 _ _ _ I;have x1:=qC w2 _ 1 _ _ _ I;have x2:=qC w2 _ 2 _ _ _ I;have aC:=(qG I).1;have ag:=qH af;clear J Y ah aa I V ai O r8 r9 af;have HO:=qH (fun (h1:FOk n.data.toList d.data.toList) (h2:FOk m.data.toList c.data.toList) (hv:RatV V2 (.agg #[.slice a0 n0 c0,.bool b0,.slice d0 e0 f0]) (fval n.data.toList d.data.toList)) (hu:RatV V2 (.agg #[.slice a1 n1 c1,.bool b1,.slice d1 e1 f1]) (fval m.data.toList c.data.toList))=>qlx _ _ 67 (by decide) _ _ V2 hv hu h1.fit h2.fit);rcases aA.o with ⟨rfl,F,J⟩ | ⟨rfl,F,_⟩
 ·rcases aB.o with ⟨rfl,H,az⟩ | ⟨rfl,H,_⟩
  ·have hc:=HO.o F H ((F.at J).below (ak.o.trans (G.o.2.2.2.mono ak.o.size))) ((H.at az).below G.o.2.2.2);have HC:=qH (qA hc (qA F H));clear F H J az hc;have x3:=qC V2 _ 0 _ _ _ G.o.1;go_wp2_with fail;rw [<-ag.o];refine HC.o.1.mono ?_;rintro e w9 ⟨rfl,au⟩;have H9:=qH (G.o.2.2.1.trans (au.mono G.o.2.2.1.size));clear au;go_wp2_with fail
   go_ret2
   exact⟨qax ⟨HC.o.2,rfl⟩,H9.o⟩
  ·have HN:=qH (show ¬(FOk n.data.toList d.data.toList/\FOk m.data.toList c.data.toList) from fun h=>H h.2);clear F H J;go_wp2_with fail
   go_ret2
   exact⟨qam ⟨HN.o,rfl⟩,ag.o▸G.o.2.2.1⟩
 ·have HN:=qH (show ¬(FOk n.data.toList d.data.toList/\FOk m.data.toList c.data.toList) from fun h=>F h.1);clear F;go_wp2_with fail
  go_ret2
  exact⟨qam ⟨HN.o,rfl⟩,ag.o▸G.o.2.2.1⟩
theorem qkY (n d m c:ByteArray) (w:World) :
  Calls prog 187 #[.agg #[.string n,.string d],.agg #[.string m,.string c],.func (.func 188) #[] #[]] w fun e w'=>FApplies w (· * ·) n.data.toList d.data.toList m.data.toList c.data.toList e w':=by
 obtain⟨W1,Y⟩:=qY (((w.alloc (.cells #[.string n,.string d] 27)).alloc (.cells #[.string m,.string c] 27)).alloc (.cells #[.slice none 0 0,.bool false,.slice none 0 0] 127));have G:Below w.heap.size w W1:=Y▸qbY (qbY (qbY qB qN) qN) qN;have aD:W1.heap[w.heap.size]? = some (.cells #[.string n,.string d] 27 (0,0)):=by rw [Y,qL _ _ _ (by simp only [qab];omega),qL _ _ _ (by simp only [qab];omega)];exact qM _ _ _ rfl
 have aF:W1.heap[w.heap.size+1]? = some (.cells #[.string m,.string c] 27 (0,0)):=by rw [Y,qL _ _ _ (by simp only [qab];omega)];exact qM _ _ _ (by simp)
 have aG:W1.heap[w.heap.size+1+1]? = some (.cells #[.slice none 0 0,.bool false,.slice none 0 0] 127 (0,0)):=by rw [Y];exact qM _ _ _ (by simp)
 have HR:=qH (qA G (qA aD (qA aF aG)));clear G aD aF aG;go_enter func187,ntmps187;go_wp2_with fail;rw [<-Y];clear Y;refine (qd2 n d W1).mono ?_;rintro e w1 ⟨v1,ok1,rfl,ag,G⟩;obtain⟨a0,n0,c0,b0,d0,e0,f0,rfl⟩:=qdN ag;have aI:=qH ag;have k1:=qC w1 _ 0 _ _ _ ((G.block _ (qG HR.o.2.2.1).1).trans HR.o.2.2.1);have k2:=qC w1 _ 1 _ _ _ ((G.block _ (qG HR.o.2.2.1).1).trans HR.o.2.2.1);have q1:w.heap.size+1<w1.heap.size:=qak (qG HR.o.2.2.1).1 G.size;have au:=qH G;clear G ag;go_wp2_with fail;obtain⟨V1,aj⟩:=qY (w1.alloc (.cells #[.slice a0 n0 c0,.bool b0,.slice d0 e0 f0] 127));rw [<-aj];have O:V1.heap[w1.heap.size]? = some (.cells #[.slice a0 n0 c0,.bool b0,.slice d0 e0 f0] 127 (0,0)):=by rw [aj];exact qM _ _ _ rfl
 have af:Below w1.heap.size w1 V1:=aj▸qbY qB qN;clear aj k1 k2;refine (qd2 m c V1).mono ?_;rintro e Z ⟨v2,aL,rfl,ah,ay⟩;obtain⟨a1,n1,c1,b1,d1,e1,f1,rfl⟩:=qdN ah;have aJ:=qH ah;have J:=(ay.block _ (qG O).1).trans O;have ae:Below w1.heap.size w1 Z:=af.trans (ay.mono af.size);have av:=qH ae;have aA:Below w.heap.size w Z:=HR.o.1.trans ((au.o.trans (ae.mono au.o.size)).mono HR.o.1.size);obtain⟨V2,ak⟩:=qY (Z.alloc (.cells #[.slice a1 n1 c1,.bool b1,.slice d1 e1 f1] 127));have U:Below Z.heap.size Z V2:=ak▸qbY qB qN;have r8:=(U.block _ (qG J).1).trans J;have r9:V2.heap[Z.heap.size]? = some (.cells #[.slice a1 n1 c1,.bool b1,.slice d1 e1 f1] 127 (0,0)):=by rw [ak];exact qM _ _ _ rfl
 have E:=qH (qA r8 (qA r9 (qA (aA.trans (U.mono aA.size)) U)));have x0:=qC Z _ 0 _ _ _ J;have x1:=qC Z _ 1 _ _ _ J;have x2:=qC Z _ 2 _ _ _ J;have aK:=(qG J).1;have aa:=qH ak;clear O af ay ah J ae aA U r8 r9 ak;have HO:=qH (fun (h1:FOk n.data.toList d.data.toList) (h2:FOk m.data.toList c.data.toList) (hv:RatV V2 (.agg #[.slice a0 n0 c0,.bool b0,.slice d0 e0 f0]) (fval n.data.toList d.data.toList)) (hu:RatV V2 (.agg #[.slice a1 n1 c1,.bool b1,.slice d1 e1 f1]) (fval m.data.toList c.data.toList))=>rmul_any _ _ 67 (by decide) _ _ V2 hv hu h1.fit h2.fit);have V:Hu (V2.heap[w.heap.size+1+1]? = some (.cells #[.slice none 0 0,.bool false,.slice none 0 0] 127 (0,0))):=qH (by
  have h1:=(au.o.block _ (qG HR.o.2.2.2).1).trans HR.o.2.2.2;have h2:=(av.o.block _ (qG h1).1).trans h1;exact (E.o.2.2.2.block _ (qG h2).1).trans h2)
 rcases aI.o with ⟨rfl,H,O⟩ | ⟨rfl,H,_⟩
 ·rcases aJ.o with ⟨rfl,I,aH⟩ | ⟨rfl,I,_⟩
  ·have hc:=HO.o H I ((H.at O).below (av.o.trans (E.o.2.2.2.mono av.o.size))) ((I.at aH).below E.o.2.2.2);have HC:=qH (qA hc (qA H I));clear H I O aH hc;go_wp2_with fail;rw [<-aa.o];refine HC.o.1.mono ?_;rintro e w9 ⟨v9,rfl,az,aC⟩;obtain⟨a7,n7,c7,b7,d7,e7,f7,rfl⟩:=qdf aC;have aB:=(az.block _ (qG V.o).1).trans V.o;have H9:=qH (qA aB (qA (E.o.2.2.1.trans (az.mono E.o.2.2.1.size)) (qfV (cs':=#[.slice a7 n7 c7,.bool b7,.slice d7 e7 f7]) aC aB)));clear az aC aB
   go_wp2_with (with_reducible refine sR_ rfl 127 _ _ rfl (w.heap.size+1+1) #[.slice a7 n7 c7,.bool b7,.slice d7 e7 f7] H9.o.1 3 ?_)
   exact qR (v:=.tuple #[.agg #[.slice a7 n7 c7,.bool b7,.slice d7 e7 f7],.int .i64 0]) (rB_ rfl (w.heap.size+1+1) (qT _ _ _ _ _ _ H9.o.1) underlying127 3) rfl ⟨⟨_,_,rfl,qax ⟨HC.o.2,rfl,H9.o.2.2⟩⟩,qS H9.o.2.1 (by omega) _⟩
  ·have HN:=qH (show ¬(FOk n.data.toList d.data.toList/\FOk m.data.toList c.data.toList) from fun h=>I h.2);clear H I O;have ai:((Z.alloc (.cells #[.slice a1 n1 c1,.bool b1,.slice d1 e1 f1] 127)).alloc (.cells #[.slice none 0 0,.bool false,.slice none 0 0] 127)).heap[w.heap.size+1+1]? = some (.cells #[.slice none 0 0,.bool false,.slice none 0 0] 127 (0,0)):=by
    rw [<-aa.o];exact (qL _ _ _ (qG V.o).1).trans V.o
   have F:=qH ai;have ax:=qH (show Below w.heap.size w ((Z.alloc (.cells #[.slice a1 n1 c1,.bool b1,.slice d1 e1 f1] 127)).alloc (.cells #[.slice none 0 0,.bool false,.slice none 0 0] 127)) from aa.o▸(E.o.2.2.1.alloc E.o.2.2.1.size _));clear ai
   go_wp2_with (with_reducible refine sR_ rfl 127 _ _ rfl (w.heap.size+1+1) #[.slice none 0 0,.bool false,.slice none 0 0] F.o 3 ?_)
   exact qR (v:=.tuple #[.agg #[.slice none 0 0,.bool false,.slice none 0 0],.int .i64 20]) (rB_ rfl (w.heap.size+1+1) (qT _ _ _ _ _ _ F.o) underlying127 3) rfl ⟨⟨_,_,rfl,qam ⟨HN.o,rfl,rfl⟩⟩,qS ax.o (by omega) _⟩
 ·have HN:=qH (show ¬(FOk n.data.toList d.data.toList/\FOk m.data.toList c.data.toList) from fun h=>H h.1);clear H;have ai:((Z.alloc (.cells #[.slice a1 n1 c1,.bool b1,.slice d1 e1 f1] 127)).alloc (.cells #[.slice none 0 0,.bool false,.slice none 0 0] 127)).heap[w.heap.size+1+1]? = some (.cells #[.slice none 0 0,.bool false,.slice none 0 0] 127 (0,0)):=by
   rw [<-aa.o];exact (qL _ _ _ (qG V.o).1).trans V.o
  have F:=qH ai;have ax:=qH (show Below w.heap.size w ((Z.alloc (.cells #[.slice a1 n1 c1,.bool b1,.slice d1 e1 f1] 127)).alloc (.cells #[.slice none 0 0,.bool false,.slice none 0 0] 127)) from aa.o▸(E.o.2.2.1.alloc E.o.2.2.1.size _));clear ai
  go_wp2_with (with_reducible refine sR_ rfl 127 _ _ rfl (w.heap.size+1+1) #[.slice none 0 0,.bool false,.slice none 0 0] F.o 3 ?_)
  exact qR (v:=.tuple #[.agg #[.slice none 0 0,.bool false,.slice none 0 0],.int .i64 20]) (rB_ rfl (w.heap.size+1+1) (qT _ _ _ _ _ _ F.o) underlying127 3) rfl ⟨⟨_,_,rfl,qam ⟨HN.o,rfl,rfl⟩⟩,qS ax.o (by omega) _⟩
theorem RFit.mul {p q:Rat} {K:Nat} (E:RFit p K) (F:RFit q K):RFit (p*q) (K+K):=by
 have G:Fit (p.num*q.num).natAbs (K+K):=by rw [qaK];exact E.1.mul F.1
 have H:Fit (p.den*q.den) (K+K):=E.2.mul F.2;rw [Rat.mul_def'];have hne:=qbU p.den_nz q.den_nz
 constructor
 ·rw [Rat.num_mkRat,if_neg hne];refine G.le ?_;rw [Int.natAbs_ediv_of_dvd (Int.ofNat_dvd_left.2 (qaZ _ _))];exact qaV _ _
 ·rw [Rat.den_mkRat,if_neg hne];exact H.le (qaV _ _)
theorem qkj (n d m c:ByteArray) (w:World) :
  Calls prog 25 #[.agg #[.string n,.string d],.agg #[.string m,.string c]] w fun e O=>FCmps w n.data.toList d.data.toList m.data.toList c.data.toList e O:=by
 have J:=qH (fun W=>qkX n d m c W);have H:Hu (Below w.heap.size w ((w.alloc (.cells #[.string n,.string d] 27)).alloc (.cells #[.string m,.string c] 27))):=qH (qbY (qbY qB qN) qN);go_enter func25,ntmps25;go_wp2_with fail;refine (J.o _).mono ?_;rintro e U ⟨h,I⟩;have G:=qH (H.o.trans (I.mono H.o.size));clear I;rcases h with ⟨E,rfl⟩ | ⟨E,rfl⟩
 ·have F:=qH E;clear E;go_wp2_with fail
  go_ret2
  exact⟨qax ⟨F.o,rfl⟩,G.o⟩
 ·have F:=qH E;clear E;go_wp2_with fail
  go_ret2
  exact⟨qam ⟨F.o,rfl⟩,G.o⟩
theorem qjE (a:Option Addr) (x c:Nat) (b:Bool) (d:Option Addr) (E f:Nat) (w:World) :
  Calls prog 186 #[.agg #[.slice a x c,.bool b,.slice d E f],.int .i64 20] w fun e G=>e=.returned (.tuple #[.agg #[.string ⟨#[]⟩,.string ⟨#[]⟩],.int .i64 20])/\Below w.heap.size w G:=by
 have F:∀cs,Hu (Below w.heap.size w ((w.alloc (.cells #[.slice a x c,.bool b,.slice d E f] 127)).alloc (.cells cs 27))):=fun cs=>qH (qbY (qbY qB qN) qN)
 go_enter func186,ntmps186;go_wp2_with fail;exact qR (v:=.tuple #[.agg #[.string ⟨#[]⟩,.string ⟨#[]⟩],.int .i64 20]) (rB_ rfl (w.heap.size+1) (qM _ _ _ (by simp)) underlying27 2) rfl ⟨rfl,(F _).o⟩
theorem qk1 (q:Rat) (K:Nat) (aa:0<K) (hK:K<=34359738368) (v:Value) (w:World) (hv:RatV w v q) (hq:RFit q K) (hT:HasT w) :
  Calls prog 186 #[v,.int .i64 0] w fun e w'=>qgp w q e w':=by
 obtain⟨a,x,c,b,d,e0,f,rfl⟩:=qdf hv;obtain⟨Z,E⟩:=qY ((w.alloc (.cells #[.slice a x c,.bool b,.slice d e0 f] 127)).alloc (.cells #[.string ⟨#[]⟩,.string ⟨#[]⟩] 27));have F:Below w.heap.size w Z:=E▸qbY (qbY qB qN) qN;have O:Z.heap[w.heap.size+1]? = some (.cells #[.string ⟨#[]⟩,.string ⟨#[]⟩] 27 (0,0)):=by rw [E];exact qM _ _ _ (by simp)
 have HW:=qH (qfW q K aa hK _ Z (hv.below F) hq (hT.below F));have V:=qH (qA F O);clear hv hq hT F O hK;go_enter func186,ntmps186;go_wp2_with fail;rw [<-E];clear E;refine HW.o.mono ?_;rintro e w2 ⟨h,hb⟩;have I:=qH (qA ((hb.block _ (qG V.o.2).1).trans V.o.2) (V.o.1.trans (hb.mono V.o.1.size)));clear hb;rcases h with ⟨U,rfl⟩ | ⟨U,rfl⟩
 ·unfold fstr;have Y:=qH U;obtain⟨T1,G⟩:∃T,qcb q.num=T:=⟨_,rfl⟩;obtain⟨T2,H⟩:∃T,num q.den=T:=⟨_,rfl⟩;rw [G,H];have J:=qH (qA G H);clear G H U
  go_wp2_with (with_reducible refine sR_ rfl 27 _ _ rfl (w.heap.size+1) #[.string T1,.string T2] I.o.1 2 ?_)
  refine qR (v:=.tuple #[.agg #[.string T1,.string T2],.int .i64 0]) (rB_ rfl (w.heap.size+1) (qT _ _ _ _ _ _ I.o.1) underlying27 2) rfl ⟨qax ⟨Y.o,?_⟩,qS I.o.2 (by omega) _⟩;unfold fstr;rw [J.o.1,J.o.2]
 ·have Y:=qH U;clear U
  go_wp2_with (with_reducible refine sR_ rfl 27 _ _ rfl (w.heap.size+1) #[.string ⟨#[]⟩,.string ⟨#[]⟩] I.o.1 2 ?_)
  exact qR (v:=.tuple #[.agg #[.string ⟨#[]⟩,.string ⟨#[]⟩],.int .i64 6]) (rB_ rfl (w.heap.size+1) (qT _ _ _ _ _ _ I.o.1) underlying27 2) rfl ⟨qam ⟨Y.o,rfl⟩,qS I.o.2 (by omega) _⟩
theorem fmul_any (n d m c:ByteArray) (w:World) (hT:HasT w) :
  Calls prog 114 #[.agg #[.string n,.string d],.agg #[.string m,.string c]] w fun e w'=>FDoes w (· * ·) n.data.toList d.data.toList m.data.toList c.data.toList e w':=by
 have HT:=qH hT;have HA:=qH (fun W=>qkY n d m c W);obtain⟨W1,H⟩:=qY (((w.alloc (.cells #[.string n,.string d] 27)).alloc (.cells #[.string m,.string c] 27)).alloc (.cells #[.string ⟨#[]⟩,.string ⟨#[]⟩] 27));have Z:Below w.heap.size w W1:=H▸qbY (qbY (qbY qB qN) qN) qN;have aa:W1.heap[w.heap.size+1+1]? = some (.cells #[.string ⟨#[]⟩,.string ⟨#[]⟩] 27 (0,0)):=by rw [H];exact qM _ _ _ (by simp)
 have HR:=qH (qA Z aa);clear Z aa hT;go_enter func114,ntmps114;go_wp2_with fail;rw [<-H];clear H;refine (HA.o W1).mono ?_;rintro e w2 ⟨⟨v,er,rfl,h⟩,E⟩;have G:=qH (qA ((E.block _ (qG HR.o.2).1).trans HR.o.2) (HR.o.1.trans (E.mono HR.o.1.size)));clear E;rcases h with ⟨V,rfl,hv⟩ | ⟨V,rfl,rfl⟩
 ·have I:=qk1 _ (67+67) (by decide) (by decide) v w2 hv (V.1.fit.mul V.2.fit) (HT.o.below G.o.2);have HF:=qH V;have J:=qH I;obtain⟨a7,n7,c7,b7,d7,e7,f7,rfl⟩:=qdf hv;clear V I hv;go_wp2_with fail;refine J.o.mono ?_;rintro e w3 ⟨h,E⟩;have F:=qH (qA ((E.block _ (qG G.o.1).1).trans G.o.1) (G.o.2.trans (E.mono G.o.2.size)));clear E;rcases h with ⟨hs,rfl⟩ | ⟨hs,rfl⟩
  ·unfold fstr;have HS:=qH hs;obtain⟨q,hq⟩:=qX (((· * ·):Rat->Rat->Rat) (fval n.data.toList d.data.toList) (fval m.data.toList c.data.toList));obtain⟨T1,O⟩:∃T,qcb (((· * ·):Rat->Rat->Rat) (fval n.data.toList d.data.toList) (fval m.data.toList c.data.toList)).num=T:=⟨_,rfl⟩;obtain⟨T2,U⟩:∃T,num (((· * ·):Rat->Rat->Rat) (fval n.data.toList d.data.toList) (fval m.data.toList c.data.toList)).den=T:=⟨_,rfl⟩;rw [O,U];have Y:=qH (qA O U);clear O U hs hq
   go_wp2_with (with_reducible refine sR_ rfl 27 _ _ rfl (w.heap.size+1+1) #[.string T1,.string T2] F.o.1 2 ?_)
   refine qR (v:=.tuple #[.agg #[.string T1,.string T2],.int .i64 0]) (rB_ rfl (w.heap.size+1+1) (qT _ _ _ _ _ _ F.o.1) underlying27 2) rfl ⟨qax ⟨HF.o,qax ⟨HS.o,?_⟩⟩,qS F.o.2 (by omega) _⟩;unfold fstr;rw [Y.o.1,Y.o.2]
  ·have HS:=qH hs;clear hs
   go_wp2_with (with_reducible refine sR_ rfl 27 _ _ rfl (w.heap.size+1+1) #[.string ⟨#[]⟩,.string ⟨#[]⟩] F.o.1 2 ?_)
   exact qR (v:=.tuple #[.agg #[.string ⟨#[]⟩,.string ⟨#[]⟩],.int .i64 6]) (rB_ rfl (w.heap.size+1+1) (qT _ _ _ _ _ _ F.o.1) underlying27 2) rfl ⟨qax ⟨HF.o,qam ⟨HS.o,rfl⟩⟩,qS F.o.2 (by omega) _⟩
 ·have HF:=qH V;have J:=qH (fun W=>qjE none 0 0 false none 0 0 W);clear V;go_wp2_with fail;refine (J.o _).mono ?_;rintro e w3 ⟨rfl,E⟩;have F:=qH (qA ((E.block _ (qG G.o.1).1).trans G.o.1) (G.o.2.trans (E.mono G.o.2.size)));clear E
  go_wp2_with (with_reducible refine sR_ rfl 27 _ _ rfl (w.heap.size+1+1) #[.string ⟨#[]⟩,.string ⟨#[]⟩] F.o.1 2 ?_)
  exact qR (v:=.tuple #[.agg #[.string ⟨#[]⟩,.string ⟨#[]⟩],.int .i64 20]) (rB_ rfl (w.heap.size+1+1) (qT _ _ _ _ _ _ F.o.1) underlying27 2) rfl ⟨qam ⟨HF.o,rfl⟩,qS F.o.2 (by omega) _⟩
theorem qjY (n d:Int) (hd:d≠0):(Rat.divInt n d).num=(if (decide (n<0) != decide (d<0))=true then -((n.natAbs / n.natAbs.gcd d.natAbs:Nat):Int) else ((n.natAbs / n.natAbs.gcd d.natAbs:Nat):Int))/\(Rat.divInt n d).den=d.natAbs / n.natAbs.gcd d.natAbs:=by
 have hg:0<n.natAbs.gcd d.natAbs:=qba _ (by omega);obtain⟨z,I⟩:=qX (if (decide (n<0) != decide (d<0))=true then -((n.natAbs / n.natAbs.gcd d.natAbs:Nat):Int) else ((n.natAbs / n.natAbs.gcd d.natAbs:Nat):Int));rw [I];have J:z.natAbs=n.natAbs / n.natAbs.gcd d.natAbs:=by
  rw [<-I];generalize n.natAbs / n.natAbs.gcd d.natAbs=A;split <;> omega
 have Z:d.natAbs / n.natAbs.gcd d.natAbs≠0:=qbo (Nat.div_pos (qbT (by omega) (qaZ _ _)) hg);have hc:z.natAbs.Coprime (d.natAbs / n.natAbs.gcd d.natAbs):=by rw [J];exact Nat.coprime_div_gcd_div_gcd hg
 have hx:n.natAbs / n.natAbs.gcd d.natAbs*d.natAbs=n.natAbs*(d.natAbs / n.natAbs.gcd d.natAbs):=by
  obtain⟨a,O⟩:=qbN n.natAbs d.natAbs;obtain⟨b,U⟩:=qaZ n.natAbs d.natAbs;have V:n.natAbs / n.natAbs.gcd d.natAbs=a:=by (conv=>lhs;lhs;rw [O]);exact qa2 _ hg
  have Y:d.natAbs / n.natAbs.gcd d.natAbs=b:=by (conv=>lhs;lhs;rw [U]);exact qa2 _ hg
  rw [V,Y];generalize n.natAbs.gcd d.natAbs=g at *;rw [O,U];simp only [qbt,qat]
 have e:=qi5 (z:=z) (N:=if d<0 then -n else n) (D:=d.natAbs) Z hc (by omega) (by
  have E:((n.natAbs / n.natAbs.gcd d.natAbs:Nat):Int)*(d.natAbs:Int)=(n.natAbs:Int)*((d.natAbs / n.natAbs.gcd d.natAbs:Nat):Int):=by exact_mod_cast hx
  generalize ((d.natAbs / n.natAbs.gcd d.natAbs:Nat):Int)=B at *;rw [<-I];generalize ((n.natAbs / n.natAbs.gcd d.natAbs:Nat):Int)=A at *
  by_cases G:n<0
  ·have H:(n.natAbs:Int) = -n:=by omega
   rw [H] at E
   by_cases F:d<0
   ·rw [qV G,qV F,if_neg (by decide),if_pos F];exact E
   ·rw [qV G,qU F,if_pos (by decide),if_neg F,qbI,E,qbI,Int.neg_neg]
  ·have H:(n.natAbs:Int)=n:=by omega
   rw [H] at E
   by_cases F:d<0
   ·rw [qU G,qV F,if_pos (by decide),if_pos F,qbI,E,qbI]
   ·rw [qU G,qU F,if_neg (by decide),if_neg F];exact E) (q:=Rat.divInt n d) (by
  by_cases F:d<0
  ·rw [if_pos F,<-Rat.divInt_ofNat,<-Rat.neg_divInt_neg]
   congr 1;omega
  ·rw [if_neg F,<-Rat.divInt_ofNat]
   congr 1;omega)
 exact e
theorem qhx (n d:Int) (aB:d≠0) (K:Nat) (ay:0<K) (hK:K<=34359738368) (v u:Value) (w:World) (Y:IntAt w v n) (hu:IntAt w u d) (fn:Fit n.natAbs K) (fd:Fit d.natAbs K) (hT:HasT w) :
  Calls prog 160 #[v,u] w fun e w'=>qgp w (Rat.divInt n d) e w':=by
 obtain⟨mn,rfl,hn⟩:=Y;obtain⟨md,rfl,hd⟩:=hu;obtain⟨Z,aa⟩:=qjY n d aB;obtain⟨q,hq⟩:=qX (Rat.divInt n d);rw [hq] at Z aa ⊢;have au:0<n.natAbs.gcd d.natAbs:=qba _ (by omega);have fg:Fit (n.natAbs.gcd d.natAbs) K:=fd.le (Nat.gcd_le_right _ (by omega));obtain⟨g,hg⟩:=qX (n.natAbs.gcd d.natAbs);obtain⟨x,hx⟩:=qX n.natAbs;obtain⟨y,hy⟩:=qX d.natAbs;rw [hg] at Z aa au fg;rw [hx] at Z hn fn hg;rw [hy] at aa hd fd hg;obtain⟨a,ha⟩:=qX (x / g);obtain⟨b,E⟩:=qX (y / g);rw [ha] at Z;rw [E] at aa;have fa:Fit a K:=ha▸fn.le (qaV _ _);have fb:Fit b K:=E▸fd.le (qaV _ _);have aC:q.num.natAbs=a:=by rw [Z];split <;> omega
 have az:Short q↔(num a).size<=600/\(num b).size<=600:=by unfold Short;rw [aC,aa]
 have HQ:=qH (qA Z (qA aa az));generalize decide (n<0)=b0 at *;generalize decide (d<0)=b1 at *;have HF:=qH (qA fn (qA fd (qA fg (qA fa fb))));have HE:=qH (qA hg (qA ha (qA E au)));have HK:=qH (qA ay hK);have HX:=qH (qA hn hd);have HT:=qH hT;obtain⟨a0,_,_,c0,n0,_,rfl,_,_⟩:=hn;obtain⟨a1,_,_,c1,n1,_,rfl,_,_⟩:=hd;obtain⟨W1,ae⟩:=qY (((w.alloc (.cells #[.slice a0 n0 c0,.bool b0] 217)).alloc (.cells #[.slice a1 n1 c1,.bool b1] 217)).alloc (.cells #[.string ⟨#[]⟩,.string ⟨#[]⟩] 27));have aA:Below w.heap.size w W1:=ae▸qbY (qbY (qbY qB qN) qN) qN;have aD:W1.heap[w.heap.size]? = some (.cells #[.slice a0 n0 c0,.bool b0] 217 (0,0)):=by rw [ae,qL _ _ _ (by simp only [qab];omega),qL _ _ _ (by simp only [qab];omega)];exact qM _ _ _ rfl
 have aF:W1.heap[w.heap.size+1]? = some (.cells #[.slice a1 n1 c1,.bool b1] 217 (0,0)):=by rw [ae,qL _ _ _ (by simp only [qab];omega)];exact qM _ _ _ (by simp)
 have aG:W1.heap[w.heap.size+1+1]? = some (.cells #[.string ⟨#[]⟩,.string ⟨#[]⟩] 27 (0,0)):=by rw [ae];exact qM _ _ _ (by simp)
 have H:=qH (qA aA (qA aD (qA aF aG)));have HN:=qH hq;clear hq Z aa az aC fn fd fg fa fb hg ha E au ay hK hT aA aD aF aG hx hy aB;go_enter func160,ntmps160;go_wp2_with fail;rw [<-ae];clear ae
 ·refine ((qcZ .l) x y K (by have:=HK.o;omega) _ _ W1 (HX.o.1.below H.o.1) (HX.o.2.below H.o.1) HF.o.1 HF.o.2.1).mono ?_;rintro e w2 ⟨vg,rfl,E,Y⟩;rw [HE.o.1] at Y;have Mw2_g:=qH Y;have I:=qH (qA (H.o.1.trans (E.mono H.o.1.size)) (qA ((E.block _ (qG H.o.2.1).1).trans H.o.2.1) (qA ((E.block _ (qG H.o.2.2.1).1).trans H.o.2.2.1) ((E.block _ (qG H.o.2.2.2).1).trans H.o.2.2.2))));have aM:=qC w2 _ 0 _ _ _ I.o.2.1;obtain⟨sg,_,_,ug,tg,_,rfl,_,_⟩:=Y;clear E;go_wp2_with fail;refine ((qb5 .l) x g K (by have:=HK.o;omega) _ _ w2 (HX.o.1.below I.o.1) Mw2_g.o HF.o.1 HF.o.2.2.1 HE.o.2.2.2).mono ?_;rintro e w3 ⟨va,_,rfl,E,Y,_⟩;rw [HE.o.2.1] at Y;have Mw3_a:=qH Y;have J:=qH (qA (I.o.1.trans (E.mono I.o.1.size)) (qA ((E.block _ (qG I.o.2.1).1).trans I.o.2.1) (qA ((E.block _ (qG I.o.2.2.1).1).trans I.o.2.2.1) ((E.block _ (qG I.o.2.2.2).1).trans I.o.2.2.2))));have Mw3_g:=qH (Mw2_g.o.below E);have aO:=qC w3 _ 0 _ _ _ J.o.2.2.1;obtain⟨sa,_,_,ua,ta,_,rfl,_,_⟩:=Y;clear E aM;go_wp2_with fail;refine ((qb5 .l) y g K (by have:=HK.o;omega) _ _ w3 (HX.o.2.below J.o.1) Mw3_g.o HF.o.2.1 HF.o.2.2.1 HE.o.2.2.2).mono ?_;rintro e w4 ⟨vb,_,rfl,E,Y,_⟩;rw [HE.o.2.2.1] at Y;have Mw4_b:=qH Y;have O:=qH (qA (J.o.1.trans (E.mono J.o.1.size)) (qA ((E.block _ (qG J.o.2.1).1).trans J.o.2.1) (qA ((E.block _ (qG J.o.2.2.1).1).trans J.o.2.2.1) ((E.block _ (qG J.o.2.2.2).1).trans J.o.2.2.2))));have Mw4_a:=qH (Mw3_a.o.below E);obtain⟨sb,_,_,ub,tb,_,rfl,_,_⟩:=Y;clear E aO;obtain⟨L1,ah⟩:∃L,(num a).size=L:=⟨_,rfl⟩;obtain⟨L2,ai⟩:∃L,(num b).size=L:=⟨_,rfl⟩;have HL:=qH (show Short q↔L1<=600/\L2<=600 by rw [<-ah,<-ai];exact HQ.o.2.2);have l1:=(qdE .l) a K (by have:=HK.o;omega) _ w4 Mw4_a.o HF.o.2.2.2.1 (HT.o.below O.o.1);rw [ah] at l1;have aH:=qH l1;have aL:=qH ai;clear l1 ah ai;go_wp2_with fail;refine aH.o.mono ?_;rintro e w5 ⟨rfl,E⟩;have G:=qH (qA (O.o.1.trans (E.mono O.o.1.size)) (qA ((E.block _ (qG O.o.2.1).1).trans O.o.2.1) (qA ((E.block _ (qG O.o.2.2.1).1).trans O.o.2.2.1) ((E.block _ (qG O.o.2.2.2).1).trans O.o.2.2.2))));have Mw5_a:=qH (Mw4_a.o.below E);have Mw5_b:=qH (Mw4_b.o.below E);clear E
  by_cases h1:(600:Int)<L1
  ·have af:Hu (¬Short q):=qH (fun h=>by have:=HL.o.1 h;omega)
   go_wp2_with (with_reducible refine sR_ rfl 27 _ _ rfl (w.heap.size+1+1) #[.string ⟨#[]⟩,.string ⟨#[]⟩] G.o.2.2.2 2 ?_)
   exact qR (v:=.tuple #[.agg #[.string ⟨#[]⟩,.string ⟨#[]⟩],.int .i64 6]) (rB_ rfl (w.heap.size+1+1) (qT _ _ _ _ _ _ G.o.2.2.2) underlying27 2) rfl ⟨qam ⟨af.o,rfl⟩,qS G.o.1 (by omega) _⟩
  ·have l2:=(qdE .l) b K (by have:=HK.o;omega) _ w5 Mw5_b.o HF.o.2.2.2.2 (HT.o.below G.o.1);rw [aL.o] at l2;have aI:=qH l2;clear l2;go_wp2_with fail;refine aI.o.mono ?_;rintro e w6 ⟨rfl,E⟩;have F:=qH (qA (G.o.1.trans (E.mono G.o.1.size)) (qA ((E.block _ (qG G.o.2.1).1).trans G.o.2.1) (qA ((E.block _ (qG G.o.2.2.1).1).trans G.o.2.2.1) ((E.block _ (qG G.o.2.2.2).1).trans G.o.2.2.2))));have Mw6_a:=qH (Mw5_a.o.below E);have Mw6_b:=qH (Mw5_b.o.below E);clear E
   by_cases h2:(600:Int)<L2
   ·have af:Hu (¬Short q):=qH (fun h=>by have:=HL.o.1 h;omega)
    go_wp2_with (with_reducible refine sR_ rfl 27 _ _ rfl (w.heap.size+1+1) #[.string ⟨#[]⟩,.string ⟨#[]⟩] F.o.2.2.2 2 ?_)
    exact qR (v:=.tuple #[.agg #[.string ⟨#[]⟩,.string ⟨#[]⟩],.int .i64 6]) (rB_ rfl (w.heap.size+1+1) (qT _ _ _ _ _ _ F.o.2.2.2) underlying27 2) rfl ⟨qam ⟨af.o,rfl⟩,qS F.o.1 (by omega) _⟩
   ·have HY:Hu (Short q):=qH (HL.o.2 (by omega));have aN:=qC w6 _ 1 _ _ _ F.o.2.1;have aP:=qC w6 _ 1 _ _ _ F.o.2.2.1;go_wp2_with fail;refine ((qcf .l) a (b0 != b1) _ w6 Mw6_a.o).mono ?_;rintro e w7 ⟨v7,rfl,E,Y⟩;rw [<-HQ.o.1] at Y;have I7:=qH Y;have U:=qH (qA (F.o.1.trans (E.mono F.o.1.size)) (qA ((E.block _ (qG F.o.2.1).1).trans F.o.2.1) (qA ((E.block _ (qG F.o.2.2.1).1).trans F.o.2.2.1) ((E.block _ (qG F.o.2.2.2).1).trans F.o.2.2.2))));have Mw7_b:=qH (Mw6_b.o.below E);obtain⟨a9,n9,c9,b9,rfl⟩:=qbZ Y;have fq:Fit q.num.natAbs K:=by
     have h:=HQ.o.1;rw [h];split <;> (first | (rw [qbv,qar];exact HF.o.2.2.2.1) | (rw [qar];exact HF.o.2.2.2.1))
    have t7:=(qgN .l) q.num K HK.o.1 (by have:=HK.o;omega) _ w7 I7.o fq (HT.o.below U.o.1);obtain⟨T1,aj⟩:∃T,qcb q.num=T:=⟨_,rfl⟩;rw [aj] at t7;have aJ:=qH t7;have av:=qH aj;clear E aN aP Y t7 aj fq;go_wp2_with fail;refine aJ.o.mono ?_;rintro e w8 ⟨rfl,E⟩;have V:=qH (qA (U.o.1.trans (E.mono U.o.1.size)) (qA ((E.block _ (qG U.o.2.1).1).trans U.o.2.1) (qA ((E.block _ (qG U.o.2.2.1).1).trans U.o.2.2.1) ((E.block _ (qG U.o.2.2.2).1).trans U.o.2.2.2))));have Mw8_b:=qH (Mw7_b.o.below E);have t8:=(qej .l) b K (by have:=HK.o;omega) _ w8 Mw8_b.o HF.o.2.2.2.2 (HT.o.below V.o.1);obtain⟨T2,ak⟩:∃T,num b=T:=⟨_,rfl⟩;rw [ak] at t8;have aK:=qH t8;have ax:=qH ak;clear E t8 ak;go_wp2_with fail;refine aK.o.mono ?_;rintro e w9 ⟨rfl,E⟩;have ag:=qH (qA (V.o.1.trans (E.mono V.o.1.size)) (qA ((E.block _ (qG V.o.2.1).1).trans V.o.2.1) (qA ((E.block _ (qG V.o.2.2.1).1).trans V.o.2.2.1) ((E.block _ (qG V.o.2.2.2).1).trans V.o.2.2.2))));clear E
    go_wp2_with (with_reducible refine sR_ rfl 27 _ _ rfl (w.heap.size+1+1) #[.string T1,.string T2] ag.o.2.2.2 2 ?_)
    refine qR (v:=.tuple #[.agg #[.string T1,.string T2],.int .i64 0]) (rB_ rfl (w.heap.size+1+1) (qT _ _ _ _ _ _ ag.o.2.2.2) underlying27 2) rfl ⟨qax ⟨HY.o,?_⟩,qS ag.o.1 (by omega) _⟩;unfold fstr;rw [show qcb q.num=T1 from av.o,HQ.o.2.1,ax.o]
structure VCells (W:World) (ao:Option Addr) (b off:Nat) (vs:List Value):Prop where
 addr:0<vs.length->ao=some ⟨b,off,none⟩
 cell:∀k,k<vs.length->W.cell? ⟨b,off+k,none⟩=some (vs.getD k undef)
theorem VCells.below {W W':World} {F:Option Addr} {b E:Nat} {H:List Value} (h:VCells W F b E H) (I:Below W.heap.size W W'):VCells W' F b E H :=
 ⟨h.addr,fun k G=>(I.cell (qac W _ (h.cell k G))).trans (h.cell k G)⟩
def qdD (W:World) (F:List Value) (E:List Nat):Prop:=F.length=E.length/\∀k,k<E.length->MagAt W (F.getD k undef) (E.getD k 0)
theorem qdD.below {W W':World} {E:List Value} {F:List Nat} (h:qdD W E F) (G:Below W.heap.size W W'):qdD W' E F:=⟨h.1,fun k H=>(h.2 k H).below G⟩
def lcms (E:List Nat):Nat:=E.foldl Nat.lcm 1
theorem qfu (E:List Nat) (k:Nat) (h:k<E.length):lcms (E.take (k+1))=(lcms (E.take k)).lcm (E.getD k 0):=by
 unfold lcms;rw [qbJ,qad h,List.foldl_append,qaa,qad h];rfl
theorem qft (E:List Nat) (h:∀k,k<E.length->0<E.getD k 0):∀k,k<=E.length->0<lcms (E.take k)
 | 0,_=>by simp [lcms]
 | k+1,hk=>by rw [qfu E k (by omega)];exact Nat.lcm_pos (qft E h k (by omega)) (h k (by omega))
theorem qfs (E:List Nat) (J:Nat) (h:∀k,k<E.length->0<E.getD k 0/\Fit (E.getD k 0) J):∀k,k<=E.length->Fit (lcms (E.take k)) (k*J+1)
 | 0,_=>by show 1<1000000000 ^ (0*J+1);rw [Nat.zero_mul];decide
 | k+1,F=>by
  rw [qfu E k (by omega)];have G:=(qfs E J h k (by omega)).mul (h k (by omega)).2;have H:=qft E (fun k F=>(h k F).1) k (by omega);have I:=(h k (by omega)).1;refine (G.le (qbT (qbW H I) (Nat.lcm_dvd_mul _ _))).mono ?_;rw [qaF];omega
theorem qhU (E:List Nat):∀m k,k<m->m<=E.length->E.getD k 0∣lcms (E.take m)
 | 0,_,h,_=>absurd h (by omega)
 | m+1,k,F,hm=>by
  rw [qfu E m (by omega)]
  by_cases e:k=m
  ·subst e;exact Nat.dvd_lcm_right _ _
  ·exact Nat.dvd_trans (qhU E m k (by omega) (by omega)) (Nat.dvd_lcm_left _ _)
theorem qhl (ao:Option Addr) (b ai n c:Nat) (vs:List Value) (F:List Nat) (J:Nat) (w:World) (hn:F.length=n) (E:VCells w ao b ai vs) (hm:qdD w vs F) (hx:∀k,k<n->0<F.getD k 0/\Fit (F.getD k 0) J) (hb:n*J+1<=137438953472) (hJ:J<=137438953472) (ak:n<=1048576) :
  Calls prog 210 #[.slice ao n c] w fun e w'=>∃v,e=.returned v/\Below w.heap.size w w'/\MagAt w' v (lcms F):=by
 have ae:vs.length=n:=hm.1.trans hn;have H:=qH (qA E (qA hm (qA hn ae)));have HX:=qH (qA hx (qA hb hJ));clear E hm hn ae hx hb hJ;go_enter func210,ntmps210;go_wp2
 go_loopw [3,9] (fun x3 x9 W=>∃k:Nat,k<=n/\x9=.int .i64 k/\Hu (MagAt W x3 (lcms (F.take k)))/\Hu (Below w.heap.size w W)) (fun _ x9 _=>n-(intOf x9).toNat)
 case atStart=>exact⟨0,qaj _,rfl,qH (qfO w _ (by decide) (by decide)),qH (qbY qB qN)⟩
 case round =>
  obtain⟨k,hk,rfl,hM,hB⟩:=hrel
  by_cases ah:k<n
  ·have aj:(k:Int)<n:=by omega
   have af:=H.o.1.addr (by have:=H.o.2.2.2;omega);subst af;have hc:=(H.o.1.below hB.o).cell k (by have:=H.o.2.2.2;omega);have O:=((H.o.2.1.below hB.o).2 k (by have:=H.o.2.2.1;omega));obtain⟨vk,aa⟩:=qX (vs.getD k undef);rw [aa] at hc O;have U:∀j,j<F.length->0<F.getD j 0/\Fit (F.getD j 0) J:=fun j hj=>HX.o.1 j (by have:=H.o.2.2.1;omega)
   have ag:k*J<=n*J:=qaP _ hk;have I:=qew (lcms (F.take k)) (F.getD k 0) (k*J+1) J (by have:=HX.o.2.1;omega) HX.o.2.2 (qft F (fun j hj=>(U j hj).1) k (by have:=H.o.2.2.1;omega)) (U k (by have:=H.o.2.2.1;omega)).1 _ vk wr hM.o O (qfs F J U k (by have:=H.o.2.2.1;omega)) (U k (by have:=H.o.2.2.1;omega)).2;rw [<-qfu F k (by have:=H.o.2.2.1;omega)] at I;have HM:=qH I;have HV:=qH O;obtain⟨sa,_,_,sc,sn,_,rfl,_,_⟩:=O;obtain⟨ua,_,_,uc,un,_,rfl,_,_⟩:=hM.o;clear I ag aa;go_wp2_with fail;refine HM.o.mono ?_;rintro e w2 ⟨v2,rfl,Y,Z⟩;have H2:=qH (qA (hB.o.trans (Y.mono hB.o.size)) Z);clear Y Z;go_wp2;go_roundw
   case rel=>exact⟨k+1,ah,by go_num,qH H2.o.2,qH H2.o.1⟩
   case measure=>simp [intOf];omega
  ·obtain rfl:k=n:=by omega
   have G:=hM.o;rw [qah (by have:=H.o.2.2.1;omega)] at G;have V:=qH G;clear G;go_wp2;go_ret;exact⟨_,rfl,hB.o,V.o⟩
theorem FOk.dpos {n d:List UInt8} (h:FOk n d):0<(ival d).natAbs:=by have:=h.pos;omega
theorem qfj (a:Option Addr) (n c:Nat) (b:Bool) (w:World):(Instr.field 217 (.agg #[.slice a n c,.bool b]) 0).run prog w=.ok (.slice a n c) w:=by kernel_rfl
theorem qnZ (n d:ByteArray) (hf:FOk n.data.toList d.data.toList) (pb:Nat) (a2:Option Addr) (n2 c2:Nat) (Bv K:Nat) (hK:K<=68719476736) (ah:67<=K) (w:World) (H:w.heap[pb]? = some (.cells #[.slice a2 n2 c2] 213 (0,0))) (hm:MagAt w (.slice a2 n2 c2) Bv) (hB:Fit Bv K) :
  Calls prog 211 #[.agg #[.string n,.string d],.pointer (some ⟨pb,0,none⟩)] w fun e w'=>∃v,e=.returned v/\Below w.heap.size w w'/\IntAt w' v (ival n.data.toList*((Bv / (ival d.data.toList).natAbs:Nat):Int)):=by
 obtain⟨E,G⟩:=qY ((w.alloc (.cells #[.string n,.string d] 27)).alloc (.cells #[.slice none 0 0,.bool false] 217));have I:Below w.heap.size w E:=G▸qbY (qbY qB qN) qN;have F:E.heap[w.heap.size]? = some (.cells #[.string n,.string d] 27 (0,0)):=by rw [G,qL _ _ _ (by simp only [qab];omega)];exact qM _ _ _ rfl
 have ax:E.heap[w.heap.size+1]? = some (.cells #[.slice none 0 0,.bool false] 217 (0,0)):=by rw [G];exact qM _ _ _ (by simp)
 have af:=(I.block _ (qG H).1).trans H;have C0:∀W,Below E.heap.size E W->W.cell? ⟨pb,0,none⟩=some (.slice a2 n2 c2):=fun W h=>(h.cell (p:=⟨pb,0,none⟩) (qG af).1).trans (qC _ _ 0 _ _ _ af)
 have C1:∀W,Below E.heap.size E W->W.cell? ⟨w.heap.size,1,none⟩=some (.string d):=fun W h=>(h.cell (p:=⟨w.heap.size,1,none⟩) (qG F).1).trans (qC _ _ 1 _ _ _ F)
 have C2:∀W,Below E.heap.size E W->W.cell? ⟨w.heap.size,0,none⟩=some (.string n):=fun W h=>(h.cell (p:=⟨w.heap.size,0,none⟩) (qG F).1).trans (qC _ _ 0 _ _ _ F)
 have az:=qH (fun W=>(qcl .l) d hf.vd W);have aA:=qH (fun W=>(qcl .l) n hf.vn W);have HR:=qH (qA I (qA ax (hm.below I)));have J:=qH (qA hf (qA hB (qA hK ah)));have aD:=qfj;have ay:Below E.heap.size E E:=Below.refl _ _;have O:Below E.heap.size E E.drew:=ay.drew;have HC:=qH (qA C2 F);clear I F ax af hm hf hB H C2;go_enter func211,ntmps211;go_wp2_with fail;rw [<-G];clear G
 go_cut [4] (fun x4 W=>∃(a4:Option Addr) (n4 c4:Nat),x4=.slice a4 n4 c4/\Hu (MagAt W (.slice a4 n4 c4) (Bv / (ival d.data.toList).natAbs))/\Hu (Below E.heap.size E W))
 case first =>
  go_region_held3 (fun W=>Below E.heap.size E W) (first | with_reducible exact ay | with_reducible exact O | with_reducible exact ag | with_reducible exact U) (first | (go_at_call 148;refine (az.o _).mono ?_;rintro e w2 ⟨p2,rfl,ai,aC⟩;have U:Below E.heap.size E w2:=O.trans ai;obtain⟨m2,rfl,au⟩:=aC;have G2:=qH au;obtain⟨s2,_,_,u2,t2,_,rfl,_,_⟩:=au;clear ai) | (go_at_call 159;refine ((qb5 .l) Bv (ival d.data.toList).natAbs K (by have:=J.o.2.2.1;omega) _ _ _ (HR.o.2.2.below U) G2.o J.o.2.1 (J.o.1.vd.fit.mono J.o.2.2.2) J.o.1.dpos).mono ?_;rintro e w3 ⟨q3,r3,rfl,aj,av,_⟩;have ag:Below E.heap.size E w3:=bjoin U aj;have G3:=qH av;obtain⟨s3,_,_,u3,t3,_,rfl,_,_⟩:=av;clear aj))
  all_goals go_wp2_with fail
  all_goals go_meet
  all_goals exact⟨_,_,_,rfl,G3,qH ag⟩
 case rest =>
  obtain⟨a4,n4,c4,rfl,aB,V⟩:=hcut;have k0:=HC.o.1 wc V.o;clear C0 C1;go_wp2_with fail;refine (aA.o _).mono ?_;rintro e w5 ⟨p5,rfl,Y,Z⟩;have I5:=qH Z;have G5:=qH (aB.o.below Y);have H5:=qH (V.o.trans (Y.mono V.o.size));obtain⟨a6,n6,c6,b6,rfl⟩:=qbZ Z;clear Y Z k0;go_wp2_with fail;refine ((qcz .l) (ival n.data.toList) (Bv / (ival d.data.toList).natAbs) 67 K (by have:=J.o.2.2.1;omega) _ _ w5 I5.o G5.o J.o.1.vn.fit (J.o.2.1.le (qaV _ _))).mono ?_;rintro e w6 ⟨p6,rfl,ak,aa⟩;obtain⟨a9,n9,c9,b9,rfl⟩:=qbZ aa;have h6:=H5.o.trans (ak.mono H5.o.size);have ae:=(h6.block _ (qG HR.o.2.1).1).trans HR.o.2.1;have H6:=qH (qA ae (qA (HR.o.1.trans (h6.mono HR.o.1.size)) (qdd (cs':=#[.slice a9 n9 c9,.bool b9]) aa ae qfa)));clear ak aa h6 ae
  go_wp2_with (with_reducible refine sR_ rfl 217 _ _ rfl (w.heap.size+1) #[.slice a9 n9 c9,.bool b9] H6.o.1 2 ?_)
  exact qR (v:=.agg #[.slice a9 n9 c9,.bool b9]) (rA_ rfl (w.heap.size+1) (qT _ _ _ _ _ _ H6.o.1) underlying217 2) rfl ⟨_,rfl,qS H6.o.2.1 (by omega) _,H6.o.2.2⟩
abbrev zs0:Value:=.slice none 0 0
def PRow (W:World) (g n:Nat) (E:List Value):Prop :=
 W.heap[g]? = some (.cells (E++List.replicate (n-E.length) zs0).toArray 213 (0,0))/\(∀v∈E,∀d,v≠.int .u32 d)/\E.length<=n
theorem qjO {W:World} {v:Value} {x:Nat} (h:MagAt W v x):∀d,v≠.int .u32 d:=by
 obtain⟨_,_,_,_,_,_,rfl,_,_⟩:=h;intro d e;cases e
theorem PRow.below {W W':World} {g n:Nat} {E:List Value} (h:PRow W g n E) (F:Below W.heap.size W W'):PRow W' g n E :=
 ⟨(F.block _ (qG h.1).1).trans h.1,h.2⟩
theorem PRow.made (W:World) (n:Nat):PRow (W.alloc (.cells (madeCells #[zs0] n) 213)) W.heap.size n []:=by
 refine⟨?_,(fun _ E=>absurd E (by simp)),qaj _⟩;rw [qM _ _ _ rfl,qbj,List.length_nil,Nat.sub_zero,<-toList_madeCells_one,Array.toArray_toList]
theorem PRow.nope {W:World} {g n:Nat} {E:List Value} (h:PRow W g n E):∀x∈(E++List.replicate (n-E.length) zs0).toArray.toList,∀d,x≠.int .u32 d:=by
 intro x hx d;rcases qaI.1 (show x∈E++List.replicate (n-E.length) zs0 from hx) with hx | hx
 ·exact h.2.1 x hx d
 ·rw [(List.mem_replicate.1 hx).2];intro e;cases e
theorem PRow.at {W:World} {g n:Nat} {E:List Value} (h:PRow W g n E) (F:E.length<n):W.cell? ⟨g,E.length,none⟩=some zs0/\W.frozen? ⟨g,E.length,none⟩=false:=by
 refine⟨(qC _ _ _ _ _ _ h.1).trans ?_,qF _ _ _ _ _ h.1⟩;rw [qaC,qau qN,qaM,qbk,if_pos (by omega)]
theorem PRow.set {W:World} {g n:Nat} {E:List Value} (h:PRow W g n E) (H:E.length<n) (v:Value) (G:∀d,v≠.int .u32 d):PRow (W.setCell ⟨g,E.length,none⟩ v) g n (E++[v]):=by
 refine⟨?_,fun x hx d=>?_,by rw [qaf,qaG];omega⟩
 ·rw [heap_setCell_same _ g E.length _ _ v h.1]
  congr 3
  obtain⟨m,F⟩:∃m,n-E.length=m+1:=⟨n-E.length-1,by omega⟩;rw [qaL,F,qbr,qbb _ _ qN,qaM,qbp,qaf,qaG,show n-(E.length+1)=m by omega,qaE];rfl
 ·rcases qaI.1 hx with hx | hx
  ·exact h.2.1 x hx d
  ·rw [qan.1 hx];exact G d
theorem PRow.cells {W:World} {g n:Nat} {E:List Value} (h:PRow W g n E) (_hn:E.length=n):VCells W (some ⟨g,0,none⟩) g 0 E:=by
 refine⟨fun _=>rfl,fun k F=>?_⟩;rw [qaR,qC _ _ _ _ _ _ h.1,qaC,qaz F,qaa,qad F];rfl
theorem qdD.keep {W W':World} {g:Nat} {cs:Array Value} {t:TypeId} {H:Nat×Nat} {F:List Value} {G:List Nat} (h:qdD W F G) (I:W.grownBy W' (some g)) (hg:W.heap[g]? = some (.cells cs t H)) (hne:∀x∈cs.toList,∀d,x≠.int .u32 d):qdD W' F G :=
 ⟨h.1,fun k E=>qcq (h.2 k E) I hg hne⟩
theorem qdD.snoc {W:World} {G:List Value} {F:List Nat} {v:Value} {x:Nat} (h:qdD W G F) (I:MagAt W v x):qdD W (G++[v]) (F++[x]):=by
 refine⟨by rw [qaf,qaf,h.1];rfl,fun k H=>?_⟩;rw [qaf,qaG] at H
 by_cases E:k<F.length
 ·rw [qaa,qaa,qaz (by rw [h.1];exact E),qaz E,<-qaa,<-qaa];exact h.2 k E
 ·obtain rfl:k=F.length:=by omega
  rw [qaa,qaa,qau (by rw [h.1];exact qae _),qau qN,h.1,qaM];exact I
def iflat (E:List (Value×Bool)):List Value:=E.flatMap fun p=>[p.1,.bool p.2]
theorem qd4 (E:List (Value×Bool)):(iflat E).length=E.length*2:=by
 induction E with
 | nil=>rfl
 | cons p E ih=>rw [iflat,List.flatMap_cons,qaf,<-iflat,ih,qbz];simp;omega
theorem qfo (a b:List (Value×Bool)):iflat (a++b)=iflat a++iflat b:=by unfold iflat;rw [List.flatMap_append]
def IRow (W:World) (g n:Nat) (E:List (Value×Bool)):Prop :=
 W.heap[g]? = some (.cells (iflat (E++List.replicate (n-E.length) (zs0,false))).toArray 217 (0,0))/\(∀p∈E,∀d,p.1≠.int .u32 d)/\E.length<=n
theorem IRow.below {W W':World} {g n:Nat} {E:List (Value×Bool)} (h:IRow W g n E) (F:Below W.heap.size W W'):IRow W' g n E :=
 ⟨(F.block _ (qG h.1).1).trans h.1,h.2⟩
theorem qmz {E:List (Value×Bool)} (h:∀p∈E,∀d,p.1≠.int .u32 d):∀x∈iflat E,∀d,x≠.int .u32 d:=by
 intro x hx d;unfold iflat at hx;obtain⟨p,F,hx⟩:=List.mem_flatMap.1 hx;rcases qav.1 hx with rfl | hx
 ·exact h p F d
 ·rw [qan.1 hx];intro e;cases e
theorem IRow.nope {W:World} {g n:Nat} {F:List (Value×Bool)} (h:IRow W g n F):∀x∈(iflat (F++List.replicate (n-F.length) (zs0,false))).toArray.toList,∀d,x≠.int .u32 d:=by
 refine qmz fun p E d=>?_
 rcases qaI.1 E with E | E
 ·exact h.2.1 p E d
 ·rw [(List.mem_replicate.1 E).2];intro e;cases e
theorem qfp (E:List (Value×Bool)):∀(k:Nat) (p:Value×Bool),E[k]? = some p->(iflat E)[k*2]? = some p.1/\(iflat E)[k*2+1]? = some (.bool p.2):=by
 induction E with
 | nil=>intro k p h;cases h
 | cons q E ih =>
  intro k p h;have e:iflat (q :: E)=q.1 :: .bool q.2 :: iflat E:=rfl;rw [e];cases k with
  | zero =>
   have:q=p:=qag h;subst this;exact⟨rfl,rfl⟩
  | succ k =>
   have F:=ih k p h;rw [show (k+1)*2=k*2+1+1 by omega];exact F
theorem IRow.at {W:World} {g n:Nat} {E:List (Value×Bool)} (h:IRow W g n E) (I:E.length<n):(W.cell? ⟨g,E.length*2,none⟩=some zs0/\W.cell? ⟨g,E.length*2+1,none⟩=some (.bool false))/\∀j,W.frozen? ⟨g,j,none⟩=false:=by
 have F:(E++List.replicate (n-E.length) (zs0,false))[E.length]? = some (zs0,false):=by
  rw [qau qN,qaM,qbk,if_pos (by omega)]
 obtain⟨G,H⟩:=qfp _ _ _ F;exact⟨⟨(qC _ _ _ _ _ _ h.1).trans ((qaC ..).trans G),(qC _ _ _ _ _ _ h.1).trans ((qaC ..).trans H)⟩,fun j=>qF _ _ _ _ _ h.1⟩
theorem IRow.set {W:World} {g n:Nat} {E:List (Value×Bool)} (h:IRow W g n E) (J:E.length<n) (v:Value) (b:Bool) (I:∀d,v≠.int .u32 d) :
  IRow ((W.setCell ⟨g,E.length*2,none⟩ v).setCell ⟨g,E.length*2+1,none⟩ (.bool b)) g n (E++[(v,b)]):=by
 refine⟨?_,fun x hx d=>?_,by rw [qaf,qaG];omega⟩
 ·rw [heap_setCell_same _ g (E.length*2+1) _ _ _ (heap_setCell_same _ g (E.length*2) _ _ v h.1)]
  congr 3
  obtain⟨m,H⟩:∃m,n-E.length=m+1:=⟨n-E.length-1,by omega⟩;have F:iflat (E++List.replicate (m+1) (zs0,false))=iflat E++(zs0 :: .bool false :: iflat (List.replicate m (zs0,false))):=by
   rw [qfo,qbr];rfl
  have G:iflat (E++[(v,b)]++List.replicate m (zs0,false))=iflat E++(v :: .bool b :: iflat (List.replicate m (zs0,false))):=by
   rw [qfo,qfo,qaE];rfl
  rw [qaL,qaL,H,qaf,qaG,show n-(E.length+1)=m by omega,F,G];rw [qbb _ _ (by rw [qd4];exact qae _),qd4,qaM,qbp,qbb _ _ (by rw [qd4];omega),qd4,show E.length*2+1-E.length*2=1 by omega]
  rfl
 ·rcases qaI.1 hx with hx | hx
  ·exact h.2.1 x hx d
  ·rw [qan.1 hx];exact I d
theorem qmA (n:Nat):∀i,i<n*2->(iflat (List.replicate n (zs0,false)))[i]? = some (if i % 2=0 then zs0 else .bool false):=by
 intro i E;have h:=qfp (List.replicate n (zs0,false)) (i / 2) (zs0,false) (by rw [qbk,if_pos (by omega)])
 by_cases e:i % 2=0
 ·rw [if_pos e];have:=h.1
  rwa [show i / 2*2=i by omega] at this
 ·rw [if_neg e];have:=h.2
  rwa [show i / 2*2+1=i by omega] at this
theorem qmW (n:Nat):madeCells #[zs0,.bool false] (n*2)=(iflat (List.replicate n (zs0,false))).toArray:=by
 apply Array.ext';apply List.ext_getElem?;intro i;rw [Array.getElem?_toList]
 show _=(iflat (List.replicate n (zs0,false)))[i]?
 by_cases E:i<n*2
 ·rw [qmA n i E];have F:(madeCells #[zs0,.bool false] (n*2))[i]? = some ((#[zs0,.bool false]:Array Value)[i % 2]!):=by simp [madeCells,E]
  rw [F]
  congr 1
  rcases (show i % 2=0\/i % 2=1 by omega) with e | e
  ·rw [if_pos e,e];rfl
  ·rw [if_neg (by omega),e];rfl
 ·rw [Array.getElem?_eq_none (by rw [size_madeCells];omega),qaO (by rw [qd4,qaS];omega)]
theorem IRow.made (W:World) (n:Nat):IRow (W.alloc (.cells (madeCells #[zs0,.bool false] (n*2)) 217)) W.heap.size n []:=by
 refine⟨?_,(fun _ E=>absurd E (by simp)),qaj _⟩;rw [qM _ _ _ rfl,qbj,List.length_nil,Nat.sub_zero,qmW]
theorem infoI:(Tryz.prog.info? 217).map (fun i=>(i.zero,i.size,i.bytes))=some (some (.agg #[zs0,.bool false]),2,32):=by kernel_rfl
theorem qgI (n:Nat) (I:n<=1048576) (w:World):(Instr.makeSlice 212 (.int .i64 (n:Int)) (.int .i64 (n:Int))).run prog w=.ok (.slice (some ⟨w.heap.size,0,none⟩) n n) (w.alloc (.cells (madeCells #[zs0,.bool false] (n*2)) 217)):=by
 obtain⟨i,H,E,F,G⟩:=info_parts infoI;have h:=run_make (P:=prog) w 212 217 i _ underlying212 H E .i64 .i64 (n:Int) (n:Int) (by omega) (Int.le_refl _) (by rw [G];omega) (by omega);rw [h,F,Int.toNat_natCast];rfl
