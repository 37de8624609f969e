/- Ad, part 32: Rl Sa Rm Rn -/
import Derived.Deep.RegionHeld3
import Derived.Test.YtfminfgabiipjaaGreatDoorAd0
import Derived.Test.YtfminfgabiipjaaGreatDoorAd14
import Derived.Test.YtfminfgabiipjaaGreatDoorAd28
import Derived.Test.YtfminfgabiipjaaGreatDoorAd31
set_option maxRecDepth 100000
set_option maxHeartbeats 16000000
namespace Go.Proofs.YtfminfgabiipjaaGreatDoor.p4
open Go.RowKit
instance stays_mag {v:Value} {x:Nat}:Stays fun W=>MagAt W v x:=⟨fun h hb=>h.below hb⟩
instance stays_plain {v:Value} {x:Int}:Stays fun W=>qbP W v x:=⟨fun h hb=>h.below hb⟩
instance stays_dig {v:Value} {x N:Nat}:Stays fun W=>DigAt W v x N:=⟨fun h hb=>h.below hb⟩
def Rows2 (g g':Nat) (o o':Obj) (W:World):Prop:=W.heap[g]? = some o∧W.heap[g']? = some o'
theorem qks {P:Program} {fn:Func} {p q:Tmp} {ty:TypeId} (h:fn.results=#[.cell p ty,.cell q ty]) (tmps:Array Value) (w:World) (g g':Nat) (t:TypeId) (cs cs':Array Value) (d:TypeDesc)
  (hp:tmps.getD p undef=.pointer (some ⟨g,0,none⟩)) (hq:tmps.getD q undef=.pointer (some ⟨g',0,none⟩)) (hg:w.heap[g]? = some (.cells cs t (0,0))) (hg':w.heap[g']? = some (.cells cs' t (0,0)))
  (hu:P.underlying ty=some d) (hd:(match d with | .struct _ | .array _ _=>true | _=>false)=true) (n:Nat) (hi:(P.info? ty).map (·.size)=some n) (hcs:cs.size=n) (hcs':cs'.size=n) :
  (results fn tmps).run P w=.ok (.tuple #[.agg cs,.agg cs']) w:=by
 have hp':tmps[p]?.getD undef=.pointer (some ⟨g,0,none⟩):=by simpa using hp
 have hq':tmps[q]?.getD undef=.pointer (some ⟨g',0,none⟩):=by simpa using hq
 have h1:=run_loadVar_row w g t ty cs (0,0) d hg hu hd (by rw [hcs];exact hi)
 have h2:=run_loadVar_row w g' t ty cs' (0,0) d hg' hu hd (by rw [hcs'];exact hi)
 simp [results,h,hp',hq',asAddr,h1,h2,Sem.run_bind,Result.andThen]
theorem qgM (x y:Int) (K:Nat) (hK:K≤17592186000000) (v u:Value) (w:World) (hv:qbP w v x) (hu:qbP w u y) (hx:Fit x.natAbs K) (hy:Fit y.natAbs K) (hy0:0<y) (hdiv:x.natAbs % y.natAbs=0) :
  Calls Tryz.prog 166 #[v,u] w fun e w'=>∃p q,e=.returned (.tuple #[p,q])∧Below w.heap.size w w'∧qbP w' p (if x<0 then -((x.natAbs / y.natAbs:Nat):Int) else ((x.natAbs / y.natAbs:Nat):Int))∧qbP w' q 0∧HiP w.heap.size p:=by
 obtain⟨m,rfl,hm⟩:=hv
 obtain⟨o,rfl,ho⟩:=hu
 rw [decide_eq_false (show ¬y<0 by omega)]
 have hp:=fun (W:World) (h:Below w.heap.size w W)=>qiq x.natAbs y.natAbs K hK m o W (hm.below h) (ho.below h) hx hy (by omega)
 rw [hdiv] at hp
 have hq:Fit (x.natAbs / y.natAbs) K:=hx.le (qa5 _ _)
 have hres:(if (decide (x<0) != false)=true then -((x.natAbs / y.natAbs:Nat):Int) else ((x.natAbs / y.natAbs:Nat):Int))=(if x<0 then -((x.natAbs / y.natAbs:Nat):Int) else ((x.natAbs / y.natAbs:Nat):Int)):=by
  by_cases h:x<0
  ·rw [decide_eq_true h,if_pos h];rfl
  ·rw [decide_eq_false h,if_neg h];rfl
 rw [←hres]
 obtain⟨b0,hb0⟩:∃b0,decide (x<0)=b0:=⟨_,rfl⟩
 rw [hb0]
 rw [show (b0 != false)=b0 by cases b0 <;> rfl]
 obtain⟨X,hX⟩:∃X:Int,(if b0=true then -((x.natAbs / y.natAbs:Nat):Int) else ((x.natAbs / y.natAbs:Nat):Int))=X:=⟨_,rfl⟩
 rw [hX]
 generalize x.natAbs / y.natAbs=Q at *
 have HP:=qH hp
 have HXX:=qH hX
 have HQ:=qH hq
 have hK2:=hK
 obtain⟨ax,bm,om,cx,nx,M,rfl,Im,hMx⟩:=hm
 obtain⟨ay,bo,oo,cy,ny,O,rfl,Io,hOx⟩:=ho
 clear hX hp hq hres hb0 Im hMx Io hOx hx hy hK hdiv
 obtain⟨W1,hW1⟩:∃W1,W1=(((w.alloc (.cells #[.bool b0,.slice ax nx cx] 121)).alloc (.cells #[.bool false,.slice ay ny cy] 121)).alloc (.cells #[.bool false,.slice none 0 0] 121)).alloc (.cells #[.bool false,.slice none 0 0] 121):=⟨_,rfl⟩
 have hb1:Below w.heap.size w W1:=hW1▸qbI (qbI (qbI (qbI qB qN) qN) qN) qN
 have hr0:W1.heap[w.heap.size]? = some (.cells #[.bool b0,.slice ax nx cx] 121 (0,0)):=by rw [hW1,qL _ _ _ (by simp only [qab];omega),qL _ _ _ (by simp only [qab];omega),qL _ _ _ (by simp only [qab];omega)];exact qM _ _ _ rfl
 have hr1:W1.heap[w.heap.size+1]? = some (.cells #[.bool false,.slice ay ny cy] 121 (0,0)):=by rw [hW1,qL _ _ _ (by simp only [qab];omega),qL _ _ _ (by simp only [qab];omega)];exact qM _ _ _ (by simp)
 have hr2:W1.heap[w.heap.size+1+1]? = some (.cells #[.bool false,.slice none 0 0] 121 (0,0)):=by rw [hW1,qL _ _ _ (by simp only [qab];omega)];exact qM _ _ _ (by simp)
 have hr3:W1.heap[w.heap.size+1+1+1]? = some (.cells #[.bool false,.slice none 0 0] 121 (0,0)):=by rw [hW1];exact qM _ _ _ (by simp)
 have k01:=cell_of_row W1 _ 1 _ _ _ hr0
 have k11:=cell_of_row W1 _ 1 _ _ _ hr1
 have HR:=qH (qA hb1 (qA hr0 (qA hr1 (qA hr2 hr3))))
 clear hr0 hr1 hr2 hr3 hb1
 go_enter Tryz.func166,Tryz.ntmps166
 go_wp2_with fail
 rw [←hW1]
 clear hW1
 go_wp2_with fail
 refine (HP.out _ HR.out.1).mono ?_
 rintro e w2 ⟨q,r,rfl,hb2,hvq,hvr,hqh⟩
 clear k01 k11
 have hst:Below w2.heap.size w2 w2:=Below.refl _ _
 have hstD:Below w2.heap.size w2 w2.drew:=hst.drew
 have hdr2:w2.drew.heap.size=w2.heap.size:=rfl
 have row:∀(g:Nat) (o:Obj),W1.heap[g]? = some o→w2.heap[g]? = some o:=zkeep hb2
 have R0:=row _ _ HR.out.2.1
 have R1:=row _ _ HR.out.2.2.1
 have l0:w.heap.size<w2.heap.size:=(qG R0).1
 have l1:w.heap.size+1<w2.heap.size:=(qG R1).1
 have C0:∀W,Below w2.heap.size w2 W→W.cell? ⟨w.heap.size,0,none⟩=some (.bool b0):=fun W h=>(h.cell (p:=⟨w.heap.size,0,none⟩) l0).trans (cell_of_row _ _ 0 _ _ _ R0)
 have C1:∀W,Below w2.heap.size w2 W→W.cell? ⟨w.heap.size+1,0,none⟩=some (.bool false):=fun W h=>(h.cell (p:=⟨w.heap.size+1,0,none⟩) l1).trans (cell_of_row _ _ 0 _ _ _ R1)
 have hn3:=fun (W:World) (h:Below w2.heap.size w2 W)=>qjC Q K b0 q W ((hvq.below h).digs HQ.out) (by omega)
 have hn4:=fun (W:World) (h:Below w2.heap.size w2 W)=>qdq 0 1 b0 r W ((hvr.below h).digs (by unfold Fit;decide)) (by decide)
 rw [HXX.out] at hn3
 rw [show (if b0=true then -((0:Nat):Int) else ((0:Nat):Int))=0 by split <;> rfl] at hn4
 have HN3:=qH hn3
 have HN4:=qH hn4
 have hbw2:=HR.out.1.trans (hb2.mono HR.out.1.size)
 have HQH:=qH (hqh.mono HR.out.1.size)
 have H2:=qH (qA hbw2 (qA (row _ _ HR.out.2.2.2.1) (row _ _ HR.out.2.2.2.2)))
 obtain⟨aq,_,_,cq,nq0,_,rfl,_,_⟩:=hvq
 obtain⟨ar,_,_,cr,nr0,_,rfl,_,_⟩:=hvr
 clear hn3 hn4 R0 R1 hb2 hbw2 row hqh
 go_wp2_with fail
 refine wp_region_held_drew (S:=fun W=>Below w2.heap.size w2 W) (by kernel_rfl) hstD (fun hS0=>?_)
 refine hT 0 (h:=hT 1 (h:=hT 2 (h:=hT 3 (h:=hT 4 (h:=hT 5 (h:=hT 7 (h:=hT 8 (h:=hT 9 (h:=?_)))))))))
 refine gr [(6,24),(10,28),(11,8),(12,9)] [] [0,1,2,3,4,5,7,8,9] [6,10,11,12] [11,12] 13 15 (fl2 [(6,fun x W=>qbP W x X∧HiP w.heap.size x),(10,fun x W=>qbP W x 0),(11,ZC w2.heap.size #[.bool false,.slice none 0 0] 121),(12,ZC w2.heap.size #[.bool false,.slice none 0 0] 121)]) _ 2
  (hS:=fun w' h=>qbU h) (hstep:=⟨⟨_,rfl,fun v w3 hb hF K hK=>?_⟩,⟨_,rfl,fun v w3 hb hF K hK=>?_⟩,⟨_,rfl,fun v w3 hb hF K hK=>?_⟩,⟨_,rfl,fun v w3 hb hF K hK=>?_⟩,trivial⟩) (hend:=fun v w3 hb hF hE f=>?_)
 ·exact gC hK (HN3.out _ (qbU hb)) (h:=fun e w3 ⟨u,e1,h1,h2,h3⟩=>⟨u,e1,⟨h2,h3 _ HQH.out⟩,h1⟩)
 ·exact gC hK (HN4.out _ (qbU hb)) (h:=fun e w3 ⟨u,e1,h1,h2⟩=>⟨u,e1,h2,h1⟩)
 ·exact gW hK (h:=ZC.new hb.size)
 ·exact gW hK (h:=ZC.new hb.size)
 have i3:qbP w3 (v 6) X∧HiP w.heap.size (v 6):=hF 6 (by decide) (by decide)
 have i4:qbP w3 (v 10) 0:=hF 10 (by decide) (by decide)
 obtain⟨g3,h3,e11,hg3⟩:ZC _ _ _ (v 11) w3:=hF 11 (by decide) (by decide)
 obtain⟨g4,h4,e12,hg4⟩:ZC _ _ _ (v 12) w3:=hF 12 (by decide) (by decide)
 have hne:g3≠g4:=by have:=hE 11 (by decide) 12 (by decide) (by decide);rwa [e11,e12] at this
 obtain⟨b3,a3,n3,c3,e6⟩:=i3.1.shape
 obtain⟨b4,a4,n4,c4,e10⟩:=i4.shape
 rw [e6] at i3
 rw [e10] at i4
 have hb4:b4=false:=by
  obtain⟨m4,hm4,_⟩:=i4
  simp only [qaQ,qaP,qaI,qbz] at hm4
  exact hm4.1
 subst hb4
 have hb:=qbU hb
 have h4':=(setRow_other w3 g3 g4 #[.bool b3,.slice a3 n3 c3] (fun e=>hne e.symm)).trans h4
 refine hSn 13 2 h3 (hx:=by exact e11) (hy:=by exact e6) (h:=⟨below_setRow hb hg3 _,?_⟩)
 refine hSt 14 2 h4' (hx:=by exact e12) (hy:=by exact e10) (h:=⟨below_setRow (below_setRow hb hg3 _) hg4 _,?_⟩)
 have l1:=(qG H2.out.2.2).1
 obtain⟨W5,hW5⟩:∃W5,W5=(w3.setRow g3 #[.bool b3,.slice a3 n3 c3]).setRow g4 #[.bool false,.slice a4 n4 c4]:=⟨_,rfl⟩
 have hb5:Below w2.heap.size w2 W5:=hW5▸below_setRow (below_setRow hb hg3 _) hg4 _
 have K5:Kn (fun W=>Below w.heap.size w W∧W.heap[w.heap.size+1+1]? = some (.cells #[.bool false,.slice none 0 0] 121 (0,0))∧W.heap[w.heap.size+1+1+1]? = some (.cells #[.bool false,.slice none 0 0] 121 (0,0)) ∧
   W.heap[g3]? = some (.cells #[.bool b3,.slice a3 n3 c3] 121 (0,0))∧W.heap[g4]? = some (.cells #[.bool false,.slice a4 n4 c4] 121 (0,0))∧qbP W (.agg #[.bool b3,.slice a3 n3 c3]) X∧qbP W (.agg #[.bool false,.slice a4 n4 c4]) 0) W5 :=
  .of ⟨H2.out.1.trans (hb5.mono H2.out.1.size),zkeep hb5 _ _ H2.out.2.1,zkeep hb5 _ _ H2.out.2.2,hW5▸(setRow_other _ _ _ _ hne).trans (setRow_heap _ _ _ _ _ _ h3),hW5▸setRow_heap _ _ _ _ _ _ h4',
   hW5▸qbV (qbV i3.1 h3 (nd2 _ _ _ _)) h4' (nd2 _ _ _ _),hW5▸qbV (qbV i4 h3 (nd2 _ _ _ _)) h4' (nd2 _ _ _ _)⟩
 rw [←hW5]
 have HI:=qH i3.2
 have k1:∀W,Rows2 g3 g4 (.cells #[.bool b3,.slice a3 n3 c3] 121 (0,0)) (.cells #[.bool false,.slice a4 n4 c4] 121 (0,0)) W→W.cell? ⟨g3,0,none⟩=some (.bool b3)∧W.cell? ⟨g3,1,none⟩=some (.slice a3 n3 c3)∧W.cell? ⟨g4,0,none⟩=some (.bool false)∧W.cell? ⟨g4,1,none⟩=some (.slice a4 n4 c4) :=
  fun W h=>⟨cell_of_row _ _ 0 _ _ _ h.1,cell_of_row _ _ 1 _ _ _ h.1,cell_of_row _ _ 0 _ _ _ h.2,cell_of_row _ _ 1 _ _ _ h.2⟩
 have hR5:Rows2 g3 g4 (.cells #[.bool b3,.slice a3 n3 c3] 121 (0,0)) (.cells #[.bool false,.slice a4 n4 c4] 121 (0,0)) W5:=⟨K5.out.2.2.2.1,K5.out.2.2.2.2.1⟩
 clear C0 C1 h3 h4 h4' i3 i4 hb hb5 hF hE hW5 hS0
 go_wp2_with fail
 refine wp_region_held_drew (S:=Rows2 g3 g4 (.cells #[.bool b3,.slice a3 n3 c3] 121 (0,0)) (.cells #[.bool false,.slice a4 n4 c4] 121 (0,0))) (by kernel_rfl) hR5 (fun hS0=>?_)
 refine hT 0 (h:=hT 1 (h:=?_))
 have o3:=(setRow_other W5.drew (w.heap.size+1+1) (w.heap.size+1+1+1) #[.bool b3,.slice a3 n3 c3] (by omega)).trans K5.out.2.2.1
 have sr:∀(W:World) (g:Nat) (cs:Array Value),Rows2 g3 g4 (.cells #[.bool b3,.slice a3 n3 c3] 121 (0,0)) (.cells #[.bool false,.slice a4 n4 c4] 121 (0,0)) W→g3≠g→g4≠g→Rows2 g3 g4 (.cells #[.bool b3,.slice a3 n3 c3] 121 (0,0)) (.cells #[.bool false,.slice a4 n4 c4] 121 (0,0)) (W.setRow g cs):=fun W g cs h h1 h2=>⟨(setRow_other _ _ _ _ h1).trans h.1,(setRow_other _ _ _ _ h2).trans h.2⟩
 refine hSn 2 2 (show W5.drew.heap[_]? = _ from K5.out.2.1) (h:=⟨sr _ _ _ hS0 (by omega) (by omega),?_⟩)
 refine hSt 3 2 o3 (h:=⟨sr _ _ _ (sr _ _ _ hS0 (by omega) (by omega)) (by omega) (by omega),?_⟩)
 go_wp2_with fail
 exact bodyPost_ret (v:=.tuple #[.agg #[.bool b3,.slice a3 n3 c3],.agg #[.bool false,.slice a4 n4 c4]]) (qks rfl _ _ (w.heap.size+1+1) (w.heap.size+1+1+1) 121 _ _ _ rfl rfl ((setRow_other _ _ _ _ (by omega)).trans (setRow_heap _ _ _ _ _ _ K5.out.2.1)) (setRow_heap _ _ _ _ _ _ o3) Tryz.underlying121 rfl 2 (by kernel_rfl) rfl rfl) rfl
  ⟨_,_,rfl,below_setRow (below_setRow K5.out.1.drew (by omega) _) (by omega) _,qbV (qbV (K5.out.2.2.2.2.2.1.below qB.drew) K5.out.2.1 (nd2 _ _ _ _)) o3 (nd2 _ _ _ _),qbV (qbV (K5.out.2.2.2.2.2.2.below qB.drew) K5.out.2.1 (nd2 _ _ _ _)) o3 (nd2 _ _ _ _),HI.out⟩
theorem kn3 (w:World) (a:Array Value) (t:TypeId) (a':Array Value) (t':TypeId) (b:Array Value) (u:TypeId):∃W,W=((w.alloc (.cells a t)).alloc (.cells a' t')).alloc (.cells b u) ∧
  Kn (fun W=>Below w.heap.size w W∧W.heap[w.heap.size]? = some (.cells a t (0,0))∧W.heap[w.heap.size+1]? = some (.cells a' t' (0,0))∧W.heap[w.heap.size+1+1]? = some (.cells b u (0,0))) W :=
 ⟨_,rfl,.of ⟨qbI (qbI (qbI qB qN) qN) qN,
  (qL _ _ _ (by simp only [qab];omega)).trans ((qL _ _ _ (by simp only [qab];omega)).trans (qM _ _ _ rfl)),
  (qL _ _ _ (by simp only [qab];omega)).trans (qM _ _ _ (by simp)),qM _ _ _ (by simp)⟩⟩
theorem sgn_mul (x y:Int):(if (decide (x<0) != decide (y<0))=true then -((x.natAbs*y.natAbs:Nat):Int) else ((x.natAbs*y.natAbs:Nat):Int))=x*y:=by
 have h1:(x.natAbs:Int)=if x<0 then -x else x:=by split <;> omega
 have h2:(y.natAbs:Int)=if y<0 then -y else y:=by split <;> omega
 rw [Int.natCast_mul,h1,h2]
 by_cases hx:x<0 <;> by_cases hy:y<0 <;> simp only [hx,hy,decide_true,decide_false,if_true,if_false] <;> simp <;> try grind
theorem qcb (x y:Int) (K J:Nat) (hK:K+J≤17592186040000) (v u:Value) (w:World) (hv:qbP w v x) (hu:qbP w u y) (hx:Fit x.natAbs K) (hy:Fit y.natAbs J) :
  Calls Tryz.prog 133 #[v,u] w fun e w'=>∃p,e=.returned p∧Below w.heap.size w w'∧qbP w' p (x*y):=by
 obtain⟨m,rfl,hm⟩:=hv
 obtain⟨o,rfl,ho⟩:=hu
 have hxy:=sgn_mul x y
 have HP:=qH fun (W:World) (h:Below w.heap.size w W)=>qcA x.natAbs y.natAbs K J hK m o W ((hm.below h).digs hx) ((ho.below h).digs hy).sec
 have HM:=qH fun (W:World) (q:Value) (h:MagAt W q (x.natAbs*y.natAbs))=>hxy▸qdq _ (K+J) (!(decide (x<0) == decide (y<0))) q W (h.digs (hx.mul hy)) (by omega)
 generalize decide (x<0)=b at *
 generalize decide (y<0)=c at *
 obtain⟨am,bm,om,cm,nm,M,rfl,_,_⟩:=hm
 obtain⟨ao,bo,oo,co,no,O,rfl,_,_⟩:=ho
 clear hxy hx hy
 obtain⟨W1,hW1,K1⟩:=kn3 w #[.bool b,.slice am nm cm] 121 #[.bool c,.slice ao no co] 121 #[.bool false,.slice none 0 0] 121
 have hb:Below (w.heap.size+1+1) W1 W1:=Below.refl _ _
 have lt:=(qG K1.out.2.2.2).1
 have c0:=rowC (B:=w.heap.size+1+1) K1.out.2.1 0
 have c1:=rowC (B:=w.heap.size+1+1) K1.out.2.1 1
 have c2:=rowC (B:=w.heap.size+1+1) K1.out.2.2.1 0
 have c3:=rowC (B:=w.heap.size+1+1) K1.out.2.2.1 1
 go_enter Tryz.func133,Tryz.ntmps133
 go_wp2_with fail
 rw [←hW1]
 clear hW1
 refine wp_region_held_drew (S:=fun W=>Below (w.heap.size+1+1) W1 W) (by kernel_rfl) hb.drew (fun hS0=>?_)
 refine hT 0 (h:=hT 1 (h:=hT 2 (h:=hT 3 (h:=hT 4 (h:=hT 5 (h:=hT 6 (h:=hT 7 (h:=hT 8 (h:=?_)))))))))
 refine hC 9 (HP.out _ K1.out.1.drew) (h:=?_)
 rintro e w2 ⟨q,rfl,hb,hq⟩
 obtain⟨aq,bq,oq,cq,nq,M,rfl,Iq⟩:=id hq
 have K2:=K1.ond (q:=fun W=>MagAt W _ _) hb hq
 have hS2:=hS0.trans (hb.mono (qar lt))
 refine⟨_,rfl,hS2,hN (h:=?_)⟩
 refine hC 10 (HM.out _ _ hq) (h:=?_)
 rintro e w3 ⟨p,rfl,hb3,hp⟩
 obtain⟨b3,a3,n3,c3,rfl⟩:=hp.shape
 have K3:=K2.on (q:=fun W=>qbP W _ _) hb3 hp
 have hS3:=hS2.trans (hb3.mono (qai (qar lt) hb.size))
 refine⟨_,rfl,hS3,hN (h:=?_)⟩
 refine hSt 11 2 K3.out.1.1.2.2.2 (h:=⟨below_setRow hS3 qN _,?_⟩)
 go_wp2_with fail
 exact bodyPost_ret (v:=.agg #[.bool b3,.slice a3 n3 c3]) (qbN rfl _ _ (w.heap.size+1+1) 121 _ _ rfl (setRow_heap _ _ _ _ _ _ K3.out.1.1.2.2.2) Tryz.underlying121 rfl 2 (by kernel_rfl) rfl) rfl ⟨_,rfl,below_setRow K3.out.1.1.1 (by omega) _,qbV hp K3.out.1.1.2.2.2 (nd2 _ _ _ _)⟩
end Go.Proofs.YtfminfgabiipjaaGreatDoor.p4
namespace Go.Proofs.YtfminfgabiipjaaGreatDoor.p4
open Go.RowKit Go.Lib
theorem conv4 (q0 q1 q2 q3:UInt8) (n0 n1 n2 n3:Int) (h0:n0=(q0.toNat:Nat)) (h1:n1=(q1.toNat:Nat)) (h2:n2=(q2.toNat:Nat)) (h3:n3=(q3.toNat:Nat)) (W:World) :
  (convert 27 9 (.slice (some ⟨W.heap.size,0,none⟩) 4 4)).run Tryz.prog (W.alloc (.cells #[.int .u8 n0,.int .u8 n1,.int .u8 n2,.int .u8 n3] 5))=.ok (.string ⟨#[q0,q1,q2,q3]⟩) (W.alloc (.cells #[.int .u8 n0,.int .u8 n1,.int .u8 n2,.int .u8 n3] 5)):=by
 subst h0 h1 h2 h3
 refine run_convert_bytes_back (P:=Tryz.prog) _ 27 9 5 ⟨W.heap.size,0,none⟩ 4 [q0,q1,q2,q3] Tryz.underlying27 Tryz.underlying5 Tryz.underlying9 ?_
 intro j hj
 have hg:=heap_alloc_new W (.cells #[.int .u8 (q0.toNat:Nat),.int .u8 (q1.toNat:Nat),.int .u8 (q2.toNat:Nat),.int .u8 (q3.toNat:Nat)] 5)
 match j,hj with
 | 0,_=>exact cell_of_row _ _ 0 _ _ _ hg
 | 1,_=>exact cell_of_row _ _ 1 _ _ _ hg
 | 2,_=>exact cell_of_row _ _ 2 _ _ _ hg
 | 3,_=>exact cell_of_row _ _ 3 _ _ _ hg
def grp (d:Nat):ByteArray:=⟨(padk 4 d).toArray⟩
theorem grp_size (d:Nat):(grp d).size=4:=by
 show (padk 4 d).toArray.size=4
 rw [List.size_toArray,qgj]
theorem four_any (d:Nat) (hd:d<10000) (w:World) :
  Calls Tryz.prog 188 #[.int .i64 (d:Int)] w fun e w'=>e=.returned (.string (grp d))∧Below w.heap.size w w':=by
 obtain⟨a,ha⟩:∃a,d / 1000=a:=⟨_,rfl⟩
 obtain⟨b,hb⟩:∃b,d / 100=b:=⟨_,rfl⟩
 obtain⟨b',hb'⟩:∃b',b % 10=b':=⟨_,rfl⟩
 obtain⟨c,hc⟩:∃c,d / 10=c:=⟨_,rfl⟩
 obtain⟨c',hc'⟩:∃c',c % 10=c':=⟨_,rfl⟩
 obtain⟨e,he⟩:∃e,d % 10=e:=⟨_,rfl⟩
 have hg:grp d=⟨#[UInt8.ofNat (48+a),UInt8.ofNat (48+b'),UInt8.ofNat (48+c'),UInt8.ofNat (48+e)]⟩:=by
  unfold grp
  simp only [padk]
  rw [show d / 10 / 10 / 10 % 10=a by omega,show d / 10 / 10 % 10=b' by omega,show d / 10 % 10=c' by omega,he]
  rfl
 have hcv:=conv4 (UInt8.ofNat (48+a)) (UInt8.ofNat (48+b')) (UInt8.ofNat (48+c')) (UInt8.ofNat (48+e)) (48+(a:Int)) (48+(b':Int)) (48+(c':Int)) (48+(e:Int)) (by rw [qcm (by omega)];omega) (by rw [qcm (by omega)];omega) (by rw [qcm (by omega)];omega) (by rw [qcm (by omega)];omega) w
 rw [←hg] at hcv
 have t1:(d:Int) / 1000=a:=by omega
 have t2:(d:Int) / 100=b:=by omega
 have t3:(b:Int) % 10=b':=by omega
 have t4:(d:Int) / 10=c:=by omega
 have t5:(c:Int) % 10=c':=by omega
 have t6:(d:Int) % 10=e:=by omega
 have l1:a<10:=by omega
 have l2:b<100:=by omega
 have l3:c<1000:=by omega
 have l4:b'<10:=by omega
 have l5:c'<10:=by omega
 have l6:e<10:=by omega
 clear ha hb hb' hc hc' he hg
 generalize grp d=G at *
 go_enter Tryz.func188,Tryz.ntmps188
 go_wp2_with fail
 go_ret
 exact⟨rfl,qbI qB qN⟩
theorem ne_empty {a:ByteArray} (h:a.size≠0):a.toList.isEmpty=false:=by
 rw [ByteArray.toList_eq]
 cases e:a.data.toList with
 | nil=>exact absurd (show a.size=0 by show a.data.size=0;rw [←qa6,e];rfl) h
 | cons x l=>rfl
theorem qgo (z:Int) (K:Nat) (hK:K≤17592186000000) (v:Value) (w:World) (hv:qbP w v z) (hz:Fit z.natAbs K) :
  Calls Tryz.prog 156 #[v] w fun e w'=>e=.returned (.string (frac.wtxt z))∧Below w.heap.size w w':=by
 obtain⟨m,rfl,am,bm,om,cm,n,M,rfl,Im,hMx⟩:=hv
 have hn:n≤K:=by rw [←hMx] at hz;exact hz.len Im
 obtain⟨zc,hst⟩:=qlj Im.dig
 have hglen:=qli M
 rw [Im.len] at hglen
 have hsg:=frac.qfz (z:=z)
 have hsp:=frac.qdO (z:=z)
 rw [hMx] at hst
 have Hsg:=qH (qA hsg hsp)
 obtain⟨WT,hWT⟩:∃WT,frac.wtxt z=WT:=⟨_,rfl⟩
 rw [hWT]
 have HWT:=qH hWT
 clear hWT
 have Hst:=qH hst
 have Hgl:=qH hglen
 have HM:=qH Im
 have hb1:Below w.heap.size w (w.alloc (.cells #[.bool (decide (z<0)),.slice am n cm] 121)):=qbI qB qN
 obtain⟨bz,hbz⟩:∃bz,decide (z<0)=bz:=⟨_,rfl⟩
 rw [hbz] at hb1 ⊢
 have Hbz:=qH hbz
 obtain⟨W1,hW1⟩:∃W1,W1=w.alloc (.cells #[.bool bz,.slice am n cm] 121):=⟨_,rfl⟩
 have hr1:W1.heap[w.heap.size]? = some (.cells #[.bool bz,.slice am n cm] 121 (0,0)):=by rw [hW1];exact qM _ _ _ rfl
 rw [←hW1] at hb1
 have HW:=qH (qA hb1 hr1)
 have hIm:=Im.below hb1
 have HM1:=qH hIm
 clear hsg hsp hst hglen Im hMx hz hbz hb1 hIm
 go_enter Tryz.func156,Tryz.ntmps156
 go_wp2_with fail
 rw [←hW1]
 clear hW1
 have k1:=cell_of_row W1 _ 1 _ _ _ hr1
 clear hr1
 go_wp2_with fail
 go_loopw [3,4] (fun x3 x4 W=>∃(k:Nat) (zz:Int) (t:ByteArray),k≤n∧x4=.int .i64 zz∧Hid (zz+1=k)∧x3=.string t∧Hid (t.data.toList=gtx (M.drop k))∧Hid (Below W1.heap.size W1 W)) (fun _ x4 _=>(RowKit.intOf x4+1).toNat)
 case atStart=>exact⟨n,_,⟨#[]⟩,qae _,rfl,qH (by omega),rfl,qH (by rw [qay (by rw [HM.out.len];exact qae _)];rfl),qH qB⟩
 case round =>
  obtain⟨k,zz,t,hk,rfl,hzz,rfl,ht,hB⟩:=hrel
  have hrw:=(hB.out.block w.heap.size (qG HW.out.2).1).trans HW.out.2
  have k1:=cell_of_row wr _ 1 _ _ _ hrw
  have k0:=cell_of_row wr _ 0 _ _ _ hrw
  have Hrw:=qH hrw
  clear hrw
  by_cases hk0:0<k
  ·obtain⟨j,rfl⟩:∃j,k=j+1:=⟨k-1,by omega⟩
   obtain rfl:zz=(j:Int):=by have:=hzz.out;omega
   have hji:(j:Int)<n:=by omega
   have haw:=HM.out.addr (by omega)
   subst haw
   have hcm:=(HM1.out.below hB.out).cell j (by omega)
   have hdm:dg M j<10000:=HM.out.dig j
   have hgd:=gtx_drop (L:=M) (j:=j) (by rw [HM.out.len];omega)
   obtain⟨d,hd⟩:∃d,dg M j=d:=⟨_,rfl⟩
   rw [hd] at hcm hdm hgd
   have hts:t.size=4*(n-(j+1)):=by
    have:t.size=t.data.toList.length:=by rw [qa6];rfl
    rw [this,ht.out,qli,qaY,HM.out.len]
   have HF:=qH (four_any d hdm)
   have hgs:=grp_size d
   have hadd:∀W,(Op.stringOp .add t (grp d)).run Tryz.prog W=.ok (.string (t++grp d)) W:=fun W=>run_string_add_sum W _ _ (by omega)
   have hnew:(t++grp d).data.toList=gtx (M.drop j):=by
    rw [ByteArray.data_append,Array.toList_append,ht.out,hgd];rfl
   have Hnew:=qH hnew
   generalize grp d=G at *
   clear hnew hgs hts hgd hd hdm
   go_wp2_with (go_at_call 188;refine (HF.out _).mono ?_)
   rintro e w2 ⟨rfl,hb2⟩
   have Hb2:=qH hb2
   clear hb2
   go_wp2_with fail
   go_roundw
   case rel=>exact⟨j,_,_,by omega,rfl,qH (by omega),rfl,Hnew,qH (hB.out.trans (Hb2.out.mono hB.out.size))⟩
   case measure=>simp [RowKit.intOf]
  ·obtain rfl:k=0:=by omega
   obtain rfl:zz = -1:=by have:=hzz.out;omega
   have ht2:=ht.out
   rw [List.drop_zero] at ht2
   have hts:t.size=4*n:=by
    have:t.size=t.data.toList.length:=by rw [qa6];rfl
    rw [this,ht2,Hgl.out]
   rw [Hst.out] at ht2
   obtain⟨R,hR⟩:∃R,bare z.natAbs=R:=⟨_,rfl⟩
   rw [hR] at ht2
   have hlen:zc+R.length=4*n:=by
    have h1:t.size=t.data.toList.length:=by rw [qa6];rfl
    rw [←hts,h1,ht2,qag,qaS]
   obtain⟨N4,hN4⟩:∃N4,4*n=N4:=⟨_,rfl⟩
   rw [hN4] at hts hlen
   have hat:∀i (h:i<t.size),t[i]=(List.replicate zc 48++R).getD i 0:=fun i h=>by
    have:t[i]=t.data.toList[i]'(by rw [qa6];exact h):=rfl
    rw [this,←ht2,qaa,qaf (by rw [qa6];exact h)];rfl
   have hex:t.extract zc N4=⟨R.toArray⟩:=by
    apply ByteArray.ext
    rw [ByteArray.data_extract]
    apply Array.ext'
    rw [Array.toList_extract,ht2]
    simp only [List.extract,List.drop_append,qaS,qaH,List.drop_zero]
    rw [qay (by rw [qaS];exact qae _),qbv,qak (by omega)]
   have hN5:N4≤70368744000000:=by omega
   have Hat:=qH hat
   have Hex:=qH hex
   have HR:=qH hR
   have Hl:=qH hlen
   clear hat hex hR ht2 hN4
   go_wp2_with fail
   go_loopw [5] (fun x5 W=>∃k:Nat,x5=.int .i64 k∧k≤zc∧W=wr) (fun x5 _=>zc-(RowKit.intOf x5).toNat)
   case atStart=>exact⟨0,rfl,qam _,rfl⟩
   case round =>
    obtain⟨k,rfl,hkz,hW⟩:=hrel
    have hW2:=hW.symm
    clear hW
    subst hW2
    by_cases hlt:k<zc
    ·have hsz:k<t.size:=by have:=Hl.out;omega
     have hkN:(k:Int)<N4:=by have:=Hl.out;omega
     have hsc:(t[k]'hsz).toNat=48:=by
      rw [Hat.out k hsz,qaa,qaB (by rw [qaS];exact hlt),qbm,if_pos hlt];rfl
     go_wp2_with fail
     go_roundw
     case rel=>exact⟨k+1,by go_num,hlt,trivial⟩
     case measure=>simp [RowKit.intOf];omega
    ·obtain rfl:k=zc:=by omega
     by_cases h0:z.natAbs=0
     ·have hRn:R=[]:=by rw [←HR.out];unfold bare;rw [if_pos h0]
      subst hRn
      have hkN:k=N4:=by have:=Hl.out;simpa using this
      have hwz:frac.wtxt z=⟨#[48]⟩:=by
       rw [Hsg.out.2 (by omega),h0]
       unfold num
       rw [qb0 (by decide)];rfl
      have hex:=Hex.out
      subst hkN
      rw [HWT.out] at hwz
      subst hwz
      go_wp2_with fail
      go_ret
      exact⟨rfl,HW.out.1.trans (hB.out.mono HW.out.1.size)⟩
     ·have hRn:R=decDigits z.natAbs:=by rw [←HR.out];unfold bare;rw [if_neg h0]
      have hRl:R≠[]:=by rw [hRn];exact qdH _
      have hR0:=List.length_pos_iff.2 hRl
      have hkN:(k:Int)<N4:=by have:=Hl.out;omega
      have hkN2:k≤N4:=by omega
      have hsz:k<t.size:=by omega
      obtain⟨c,hc⟩:∃c,(t[k]'hsz).toNat=c:=⟨_,rfl⟩
      have hc48:c≠48:=by
       rintro rfl
       obtain⟨x,l,hxl⟩:∃x l,R=x :: l:=by
        cases R with
        | nil=>exact absurd rfl hRl
        | cons x l=>exact⟨x,l,rfl⟩
       have h1:=Hat.out k hsz
       rw [qaa,qas (by rw [qaS];exact qae _),qaS,qaH,hxl] at h1
       replace h1:t[k]=x:=h1
       rw [h1] at hc
       exact qkN (HR.out.trans hxl) (qfy hc)
      have hcb:((c:Int) == 48)=false:=by rw [beq_eq_false_iff_ne];omega
      have hex:=Hex.out
      have hnum:(⟨R.toArray⟩:ByteArray)=num z.natAbs:=by rw [hRn];rfl
      rw [hnum] at hex
      have hns:(num z.natAbs).size=R.length:=by rw [hRn];rfl
      have hne:=ne_empty (a:=num z.natAbs) (by omega)
      have hwn:=Hsg.out.1
      have hwp:=Hsg.out.2
      have Hwn:Hid (z<0→frac.wtxt z=⟨#[45]⟩++num z.natAbs):=qH hwn
      have Hwp:Hid (¬z<0→frac.wtxt z=num z.natAbs):=qH fun h=>hwp (by omega)
      clear hwn hwp
      generalize num z.natAbs=U at *
      have hadd:∀W,(Op.stringOp .add ⟨#[45]⟩ U).run Tryz.prog W=.ok (.string (⟨#[45]⟩++U)) W:=fun W=>run_string_add_sum W _ _ (by have:(⟨#[45]⟩:ByteArray).size=1:=rfl;have:=Hl.out;omega)
      obtain⟨V,hV⟩:∃V,(⟨#[45]⟩:ByteArray)++U=V:=⟨_,rfl⟩
      rw [hV] at hadd Hwn
      clear hV hRn hRl hnum hc48 hns
      cases bz with
      | true =>
       have hlt0:z<0:=of_decide_eq_true Hbz.out
       have hVW:V=WT:=by rw [←HWT.out,Hwn.out hlt0]
       subst hVW
       clear hlt0
       go_wp2_with fail
       go_ret
       exact⟨rfl,HW.out.1.trans (hB.out.mono HW.out.1.size)⟩
      | false =>
       have hlt0:¬z<0:=of_decide_eq_false Hbz.out
       have hVW:U=WT:=by rw [←HWT.out,Hwp.out hlt0]
       subst hVW
       clear hlt0
       go_wp2_with fail
       go_ret
       exact⟨rfl,HW.out.1.trans (hB.out.mono HW.out.1.size)⟩
def qiN (w:World) (L:List UInt8) (e:Ending) (w':World):Prop:=∃ok,e=.returned (.bool ok)∧(ok=true↔Valid L)∧w'=w
theorem qi7 {L:List UInt8} (h:0<L.length) (hc:L[0].toNat=45):body L=L.drop 1∧signd L=true:=by
 cases L with
 | nil=>exact absurd h (by simp)
 | cons c t =>
  have:c=45:=qfy hc
  subst this
  exact qjj t
theorem qhQ {L:List UInt8} (h:0<L.length) (hc:L[0].toNat≠45):body L=L.drop 0∧signd L=false:=by
 rw [List.drop_zero]
 refine qjk ?_
 rw [List.head?_eq_getElem?,qaf h]
 intro e
 apply hc
 rw [qah e];rfl
theorem qlH {L:List UInt8} {fr:Nat} (h:∀i (hi:i<L.length),fr≤i→48≤L[i].toNat∧L[i].toNat≤57):Nums (L.drop fr):=fun c hc=>by
 obtain⟨i,hi,rfl⟩:=List.getElem_of_mem hc
 rw [List.getElem_drop]
 exact h _ (by rw [qaY] at hi;omega) (by omega)
theorem qib {L:List UInt8} {fr:Nat} (h:fr<L.length):(L.drop fr).head? = some 48↔L[fr].toNat=48:=by
 rw [List.head?_drop,qaf h]
 exact⟨fun e=>by rw [qah e];rfl,fun e=>congrArg some (qfy e)⟩
theorem qlX (s:ByteArray) (n:Nat) (hn:s.size=n) (h0:0<n) (hmax:n≤140737488355328) (h45:(s[0]'(by omega)).toNat=45) (w:World) :
  Calls Tryz.prog 155 #[.string s] w fun e w'=>qiN w s.data.toList e w':=by
 obtain⟨L,hL⟩:∃L,s.data.toList=L:=⟨_,rfl⟩
 have hLn:L.length=n:=by rw [←hL,←hn,qa6];rfl
 have hat:∀k (h:k<s.size) (h':k<L.length),s[k]=L[k]:=fun k h h'=>by subst hL;rfl
 have hsz0:0<s.size:=by omega
 have hsg:=qi7 (L:=L) (by omega) (by rw [←hat 0 hsz0 (by omega)];exact h45)
 have hV:Valid L↔Nums (L.drop 1)∧0<(L.drop 1).length∧(L.drop 1).length≤600∧((L.drop 1).head? = some 48→(L.drop 1).length=1∧False):=by
  rw [←hsg.1]
  have h2:=hsg.2
  exact⟨fun h=>⟨h.nums,h.pos,h.le,fun e=>⟨(h.lead e).1,by have:=(h.lead e).2;rw [h2] at this;cases this⟩⟩,fun h=>⟨h.1,h.2.1,h.2.2.1,fun e=>⟨(h.2.2.2 e).1,False.elim (h.2.2.2 e).2⟩⟩⟩
 rw [hL]
 rw [qaY,hLn] at hV
 obtain⟨c0,hc0⟩:∃c0,(s[0]'hsz0).toNat=c0:=⟨_,rfl⟩
 have hsc0:=hc0
 rw [hc0] at h45
 have hcb:((c0:Int) == 45)=true:=by rw [beq_iff_eq];omega
 have HV:=qH hV
 have Hat:=qH hat
 have HL:=qH hLn
 have Hn:=qH hn
 have h0i:(0:Int)<n:=by omega
 clear hV hsg hL hLn hat hc0
 subst h45
 by_cases h1:n-1<1
 ·have hno:¬Valid L:=fun h=>by have:=HV.out.1 h;omega
  have h1i:(n:Int)-1<1:=by omega
  have HN:=qH hno
  clear hno
  skip
  go_enter Tryz.func155,Tryz.ntmps155
  go_wp2_with fail
  go_ret
  exact⟨false,rfl,qcQ HN.out,rfl⟩
 have h1i:¬(n:Int)-1<1:=by omega
 by_cases h6:600<n-1
 ·have hno:¬Valid L:=fun h=>by have:=HV.out.1 h;omega
  have h6i:(600:Int)<(n:Int)-1:=by omega
  have HN:=qH hno
  clear hno
  go_enter Tryz.func155,Tryz.ntmps155
  go_wp2_with fail
  go_ret
  exact⟨false,rfl,qcQ HN.out,rfl⟩
 have h6i:¬(600:Int)<(n:Int)-1:=by omega
 go_enter Tryz.func155,Tryz.ntmps155
 go_wp2_with fail
 go_loopw [5] (fun x5 W=>∃k:Nat,x5=.int .i64 k∧1≤k∧k≤n∧W=w∧Hid (∀i (hi:i<L.length),1≤i→i<k→48≤L[i].toNat∧L[i].toNat≤57)) (fun x5 _=>n-(RowKit.intOf x5).toNat)
 case atStart=>exact⟨1,rfl,qae _,by omega,rfl,qH (fun i _ h1 h2=>by omega)⟩
 case round =>
  obtain⟨k,rfl,hk1,hk,hW,hI⟩:=hrel
  have hW2:=hW.symm
  clear hW
  subst hW2
  by_cases hkn:k<n
  ·have hki:(k:Int)<n:=by omega
   have hLk:k<L.length:=by rw [HL.out];exact hkn
   have hsz:k<s.size:=by rw [Hn.out];exact hkn
   have hai:=Hat.out k hsz hLk
   obtain⟨c,hcc⟩:∃c,L[k].toNat=c:=⟨_,rfl⟩
   have hsc:(s[k]'hsz).toNat=c:=by rw [hai,hcc]
   have Hcc:=qH hcc
   clear hcc hai
   by_cases g1:c<48
   ·have hno:¬Valid L:=fun h=>by
     have:=(HV.out.1 h).1 (L[k]) (qbe (i:=k-1) (by rw [List.getElem?_drop,show 1+(k-1)=k by omega,qaf hLk]))
     rw [Hcc.out] at this;omega
    have g1i:(c:Int)<48:=by omega
    have HN:=qH hno
    clear hno
    go_wp2_with fail
    go_ret
    exact⟨false,rfl,qcQ HN.out,rfl⟩
   ·have g1i:¬(c:Int)<48:=by omega
    by_cases g2:57<c
    ·have hno:¬Valid L:=fun h=>by
      have:=(HV.out.1 h).1 (L[k]) (qbe (i:=k-1) (by rw [List.getElem?_drop,show 1+(k-1)=k by omega,qaf hLk]))
      rw [Hcc.out] at this;omega
     have g2i:(57:Int)<c:=by omega
     have HN:=qH hno
     clear hno
     go_wp2_with fail
     go_ret
     exact⟨false,rfl,qcQ HN.out,rfl⟩
    ·have g2i:¬(57:Int)<c:=by omega
     have Hnx:Hid (∀i (hi:i<L.length),1≤i→i<k+1→48≤L[i].toNat∧L[i].toNat≤57):=qH fun i hi h1 h2=>by
      by_cases e:i=k
      ·subst e;rw [Hcc.out];omega
      ·exact hI.out i hi h1 (by omega)
     go_wp2_with fail
     go_roundw
     case rel=>exact⟨k+1,by go_num,by omega,hkn,trivial,Hnx⟩
     case measure=>simp [RowKit.intOf];omega
  ·obtain rfl:k=n:=by omega
   have hnum:Nums (L.drop 1):=qlH fun i hi h1=>hI.out i hi h1 (by rw [←HL.out];exact hi)
   have hfi:(1:Int)<k:=by omega
   have hfr:1<s.size:=by rw [Hn.out];omega
   have hLf:1<L.length:=by rw [HL.out];omega
   have hhead:=qib (L:=L) (fr:=1) hLf
   have hai:=Hat.out 1 hfr hLf
   obtain⟨c,hcc⟩:∃c,L[1].toNat=c:=⟨_,rfl⟩
   have hsc:(s[1]'hfr).toNat=c:=by rw [hai,hcc]
   rw [hcc] at hhead
   have Hh:=qH hhead
   have Hnum:=qH hnum
   clear hcc hai hnum hhead
   by_cases hc48:c=48
   ·subst hc48
    have hcb2:((48:Int) != 48)=false:=by decide
    by_cases hk1':k=1
    ·omega
    ·have hno:¬Valid L:=fun h=>by have:=(HV.out.1 h).2.2.2 (Hh.out.2 rfl);exact this.2
     have HN:=qH hno
     have hb1:((k:Int) == 1)=false:=by rw [beq_eq_false_iff_ne];omega
     clear hno
     go_wp2_with fail
     go_ret
     exact⟨false,rfl,qcQ HN.out,rfl⟩
   ·have hcb2:((c:Int) != 48)=true:=by rw [bne_iff_ne];omega
    have hyes:Valid L:=HV.out.2 ⟨Hnum.out,by omega,by omega,fun e=>absurd (Hh.out.1 e) hc48⟩
    have HY:=qH hyes
    clear hyes
    go_wp2_with fail
    go_ret
    exact⟨true,rfl,qe1 HY.out,rfl⟩
theorem qlY (s:ByteArray) (n:Nat) (hn:s.size=n) (h0:0<n) (hmax:n≤140737488355328) (h45:(s[0]'(by omega)).toNat≠45) (w:World) :
  Calls Tryz.prog 155 #[.string s] w fun e w'=>qiN w s.data.toList e w':=by
 obtain⟨L,hL⟩:∃L,s.data.toList=L:=⟨_,rfl⟩
 have hLn:L.length=n:=by rw [←hL,←hn,qa6];rfl
 have hat:∀k (h:k<s.size) (h':k<L.length),s[k]=L[k]:=fun k h h'=>by subst hL;rfl
 have hsz0:0<s.size:=by omega
 have hsg:=qhQ (L:=L) (by omega) (by rw [←hat 0 hsz0 (by omega)];exact h45)
 have hV:Valid L↔Nums (L.drop 0)∧0<(L.drop 0).length∧(L.drop 0).length≤600∧((L.drop 0).head? = some 48→(L.drop 0).length=1∧True):=by
  rw [←hsg.1]
  have h2:=hsg.2
  exact⟨fun h=>⟨h.nums,h.pos,h.le,fun e=>⟨(h.lead e).1,by have:=(h.lead e).2;trivial⟩⟩,fun h=>⟨h.1,h.2.1,h.2.2.1,fun e=>⟨(h.2.2.2 e).1,h2⟩⟩⟩
 rw [hL]
 rw [qaY,hLn] at hV
 obtain⟨c0,hc0⟩:∃c0,(s[0]'hsz0).toNat=c0:=⟨_,rfl⟩
 have hsc0:=hc0
 rw [hc0] at h45
 have hcb:((c0:Int) == 45)=false:=by rw [beq_eq_false_iff_ne];omega
 have HV:=qH hV
 have Hat:=qH hat
 have HL:=qH hLn
 have Hn:=qH hn
 have h0i:(0:Int)<n:=by omega
 clear hV hsg hL hLn hat hc0
 by_cases h1:n-0<1
 ·have hno:¬Valid L:=fun h=>by have:=HV.out.1 h;omega
  have h1i:(n:Int)-0<1:=by omega
  have HN:=qH hno
  clear hno
  exact absurd h1 (by omega)
 have h1i:¬(n:Int)-0<1:=by omega
 by_cases h6:600<n-0
 ·have hno:¬Valid L:=fun h=>by have:=HV.out.1 h;omega
  have h6i:(600:Int)<(n:Int)-0:=by omega
  have HN:=qH hno
  clear hno
  go_enter Tryz.func155,Tryz.ntmps155
  go_wp2_with fail
  go_ret
  exact⟨false,rfl,qcQ HN.out,rfl⟩
 have h6i:¬(600:Int)<(n:Int)-0:=by omega
 go_enter Tryz.func155,Tryz.ntmps155
 go_wp2_with fail
 go_loopw [5] (fun x5 W=>∃k:Nat,x5=.int .i64 k∧0≤k∧k≤n∧W=w∧Hid (∀i (hi:i<L.length),0≤i→i<k→48≤L[i].toNat∧L[i].toNat≤57)) (fun x5 _=>n-(RowKit.intOf x5).toNat)
 case atStart=>exact⟨0,rfl,qae _,by omega,rfl,qH (fun i _ h1 h2=>by omega)⟩
 case round =>
  obtain⟨k,rfl,hk1,hk,hW,hI⟩:=hrel
  have hW2:=hW.symm
  clear hW
  subst hW2
  by_cases hkn:k<n
  ·have hki:(k:Int)<n:=by omega
   have hLk:k<L.length:=by rw [HL.out];exact hkn
   have hsz:k<s.size:=by rw [Hn.out];exact hkn
   have hai:=Hat.out k hsz hLk
   obtain⟨c,hcc⟩:∃c,L[k].toNat=c:=⟨_,rfl⟩
   have hsc:(s[k]'hsz).toNat=c:=by rw [hai,hcc]
   have Hcc:=qH hcc
   clear hcc hai
   by_cases g1:c<48
   ·have hno:¬Valid L:=fun h=>by
     have:=(HV.out.1 h).1 (L[k]) (qbe (i:=k-0) (by rw [List.getElem?_drop,show 0+(k-0)=k by omega,qaf hLk]))
     rw [Hcc.out] at this;omega
    have g1i:(c:Int)<48:=by omega
    have HN:=qH hno
    clear hno
    go_wp2_with fail
    go_ret
    exact⟨false,rfl,qcQ HN.out,rfl⟩
   ·have g1i:¬(c:Int)<48:=by omega
    by_cases g2:57<c
    ·have hno:¬Valid L:=fun h=>by
      have:=(HV.out.1 h).1 (L[k]) (qbe (i:=k-0) (by rw [List.getElem?_drop,show 0+(k-0)=k by omega,qaf hLk]))
      rw [Hcc.out] at this;omega
     have g2i:(57:Int)<c:=by omega
     have HN:=qH hno
     clear hno
     go_wp2_with fail
     go_ret
     exact⟨false,rfl,qcQ HN.out,rfl⟩
    ·have g2i:¬(57:Int)<c:=by omega
     have Hnx:Hid (∀i (hi:i<L.length),0≤i→i<k+1→48≤L[i].toNat∧L[i].toNat≤57):=qH fun i hi h1 h2=>by
      by_cases e:i=k
      ·subst e;rw [Hcc.out];omega
      ·exact hI.out i hi h1 (by omega)
     go_wp2_with fail
     go_roundw
     case rel=>exact⟨k+1,by go_num,by omega,hkn,trivial,Hnx⟩
     case measure=>simp [RowKit.intOf];omega
  ·obtain rfl:k=n:=by omega
   have hnum:Nums (L.drop 0):=qlH fun i hi h1=>hI.out i hi h1 (by rw [←HL.out];exact hi)
   have hfi:(0:Int)<k:=by omega
   have hfr:0<s.size:=by rw [Hn.out];omega
   have hLf:0<L.length:=by rw [HL.out];omega
   have hhead:=qib (L:=L) (fr:=0) hLf
   have hai:=Hat.out 0 hfr hLf
   obtain⟨c,hcc⟩:∃c,L[0].toNat=c:=⟨_,rfl⟩
   have hsc:(s[0]'hfr).toNat=c:=by rw [hai,hcc]
   rw [hcc] at hhead
   have Hh:=qH hhead
   have Hnum:=qH hnum
   clear hcc hai hnum hhead hsc0
   by_cases hc48:c=48
   ·subst hc48
    have hcb2:((48:Int) != 48)=false:=by decide
    by_cases hk1':k=1
    ·skip
     have hyes:Valid L:=HV.out.2 ⟨Hnum.out,by omega,by omega,fun _=>⟨by omega,trivial⟩⟩
     have HY:=qH hyes
     have hb1:((k:Int) == 1)=true:=by rw [beq_iff_eq];omega
     clear hyes
     go_wp2_with fail
     go_ret
     exact⟨true,rfl,qe1 HY.out,rfl⟩
    ·have hno:¬Valid L:=fun h=>by have:=(HV.out.1 h).2.2.2 (Hh.out.2 rfl);omega
     have HN:=qH hno
     have hb1:((k:Int) == 1)=false:=by rw [beq_eq_false_iff_ne];omega
     clear hno
     go_wp2_with fail
     go_ret
     exact⟨false,rfl,qcQ HN.out,rfl⟩
   ·have hcb2:((c:Int) != 48)=true:=by rw [bne_iff_ne];omega
    have hyes:Valid L:=HV.out.2 ⟨Hnum.out,by omega,by omega,fun e=>absurd (Hh.out.1 e) hc48⟩
    have HY:=qH hyes
    clear hyes
    go_wp2_with fail
    go_ret
    exact⟨true,rfl,qe1 HY.out,rfl⟩
theorem qix (s:ByteArray) (hmax:s.size≤140737488355328) (w:World) :
  Calls Tryz.prog 155 #[.string s] w fun e w'=>qiN w s.data.toList e w':=by
 by_cases h0:0<s.size
 ·by_cases h45:(s[0]'h0).toNat=45
  ·exact qlX s _ rfl h0 hmax h45 w
  ·exact qlY s _ rfl h0 hmax h45 w
 ·obtain⟨n,hn⟩:∃n,s.size=n:=⟨_,rfl⟩
  have hno:¬Valid s.data.toList:=fun h=>by
   have h1:=h.pos
   have h2:s.data.toList=[]:=qa3.1 (by rw [qa6];show s.size=0;omega)
   rw [h2] at h1
   exact absurd h1 (by decide)
  have hn0:n=0:=by omega
  subst hn0
  have HN:=qH hno
  clear hno h0
  go_enter Tryz.func155,Tryz.ntmps155
  go_wp2_with fail
  go_ret
  exact⟨false,rfl,qcQ HN.out,rfl⟩
theorem in_neg (s:ByteArray) (n:Nat) (hn:s.size=n) (h0:0<n) (h45:(s[0]'(by omega)).toNat=45) (hs:Valid s.data.toList) (w:World) :
  Calls Tryz.prog 131 #[.string s] w fun e w'=>∃v,e=.returned v∧Below w.heap.size w w'∧qbP w' v (ival s.data.toList):=by
 obtain⟨L,hL⟩:∃L,s.data.toList=L:=⟨_,rfl⟩
 have hLn:L.length=n:=by rw [←hL,←hn,qa6];rfl
 have hat:∀k (h:k<s.size) (h':k<L.length),s[k]=L[k]:=fun k h h'=>by subst hL;rfl
 have hsz0:0<s.size:=by omega
 have hsg:=qi7 (L:=L) (by omega) (by rw [←hat 0 hsz0 (by omega)];exact h45)
 rw [hL] at hs ⊢
 have hnum:=hs.nums
 have hle:=hs.le
 have hpos:=hs.pos
 have hiv:ival L=if true=true then -(dval (L.drop 1):Int) else dval (L.drop 1):=by unfold ival;rw [hsg.2,hsg.1]
 rw [hsg.1] at hnum hle hpos
 rw [qaY,hLn] at hle hpos
 obtain⟨Bd,hBd⟩:∃Bd,L.drop 1=Bd:=⟨_,rfl⟩
 have hBl:Bd.length=n-1:=by rw [←hBd,qaY,hLn]
 have hatB:∀k (h:1+k<s.size) (h':k<Bd.length),s[1+k]=Bd[k]:=fun k h h'=>by subst hBd;rw [hat _ h (by omega)];simp [Nat.add_comm]
 rw [hBd] at hiv hnum
 rw [hiv]
 obtain⟨c0,hc0⟩:∃c0,(s[0]'hsz0).toNat=c0:=⟨_,rfl⟩
 have hsc0:=hc0
 rw [hc0] at h45
 have hcb:((c0:Int) == 45)=true:=by rw [beq_iff_eq];omega
 have Hat:=qH hatB
 have HL:=qH (qA hBl (qA hn hnum))
 have h0i:(0:Int)<n:=by omega
 obtain⟨W1,hW1⟩:∃W1,W1=w.alloc (.cells #[.bool false,.slice none 0 0] 121):=⟨_,rfl⟩
 have hb1:Below w.heap.size w W1:=hW1▸qbI qB qN
 have hr1:W1.heap[w.heap.size]? = some (.cells #[.bool false,.slice none 0 0] 121 (0,0)):=by rw [hW1];exact qM _ _ _ rfl
 have HR:=qH (qA hb1 hr1)
 clear hb1 hr1 hs hsg hL hLn hat hc0 hBl hatB hnum hiv hBd
 subst h45
 have hn6:n≤601:=by omega
 go_enter Tryz.func131,Tryz.ntmps131
 go_wp2_with fail
 rw [←hW1]
 clear hW1 hsc0 hcb
 go_loopw [4,5,6,7] (fun x4 x5 x6 x7 W=>∃(z:Int) (e k:Nat) (S:List Nat),x5=.int .i64 z∧-4≤z∧z≤n∧(1<z→z=1+e)∧(z≤1→e=0)∧k+e≤n+4∧Hid (Dig S)∧Hid (S.length=k)∧Hid (mval S+10000 ^ k*dval (Bd.take e)=dval Bd)∧Hid (W.ownsRow W1.heap.size 3 1 x4 k (row64 S))∧Hid (Below W1.heap.size W1 W)) (fun _ x5 _ _ _=>(RowKit.intOf x5+4).toNat)
 case atStart=>exact⟨n,n-1,0,[],rfl,by omega,Int.le_refl _,by omega,by omega,by omega,qH Dig.nil,qH rfl,qH (by rw [qak (by rw [HL.out.1];exact qae _)];simp [mval]),qH (qbt _ _ _ _),qH qB⟩
 case round =>
  obtain⟨z,e,k,S,rfl,hz1,hz2,hze,hz0,hke,hD,hSl,hI,hO,hB⟩:=hrel
  have Hsz:=hB.out.size
  by_cases hgo:1<z
  ·obtain rfl:z=1+e:=hze hgo
   have he0:0<e:=by omega
   have hez:(1:Int)<1+(e:Int):=by omega
   have Hz:=qH (qA hz2 hke)
   have hen:1+e≤n:=by omega
   clear hze hz0 hz1 hgo
   go_upto_region 9 with fail
   go_cut [7] (fun x7 W=>∃st:Nat,x7=.int .i64 ((1+st:Nat):Int)∧W=wr∧Hid ((st=0∧e≤4)∨st+4=e))
   case first =>
    by_cases h9:e≤4
    ·have h9i:1+(e:Int)-4≤1:=by omega
     go_wp2_with fail
     all_goals go_meet
     all_goals first
      | exact⟨0,rfl,rfl,qH (qau ⟨rfl,h9⟩)⟩
      | exact⟨0,congrArg (Value.int .i64) (by omega),rfl,qH (qau ⟨rfl,h9⟩)⟩
    ·have h9i:¬1+(e:Int)-4≤1:=by omega
     go_wp2_with fail
     all_goals go_meet
     all_goals exact⟨e-4,congrArg (Value.int .i64) (by omega),rfl,qH (qaq (by omega))⟩
   case rest =>
    obtain⟨st,rfl,hW,hst⟩:=hcut
    have hW2:=hW.symm
    clear hW
    subst hW2
    have hst9:st≤e∧e≤st+4:=by have:=hst.out;omega
    go_wp2_with fail
    go_loopw [6,7] (fun x6 x7 W=>∃i v:Nat,st≤i∧i≤e∧x7=.int .i64 ((1+i:Nat):Int)∧x6=.int .i64 v∧W=wr∧Hid (v<10 ^ (i-st)∧dval (Bd.take i)=dval (Bd.take st)*10 ^ (i-st)+v)) (fun _ x7 _=>1+e-(RowKit.intOf x7).toNat)
    case atStart=>exact⟨st,0,qae _,hst9.1,rfl,rfl,rfl,qH ⟨by rw [qaH];decide,by rw [qaH];simp⟩⟩
    case round =>
     obtain⟨i,v,hsi,hie,rfl,rfl,hW,hv⟩:=hrel
     have hW2:=hW.symm
     clear hW
     subst hW2
     by_cases hlt:i<e
     ·obtain⟨q,hq⟩:∃q,1+i=q:=⟨_,rfl⟩
      have hqe:(q:Int)<1+(e:Int):=by omega
      have hqn:(q:Int)<n:=by omega
      have hBi:i<Bd.length:=by rw [HL.out.1];omega
      have hsz:q<s.size:=by rw [HL.out.2.1];omega
      have hc:=HL.out.2.2 Bd[i] (List.getElem_mem hBi)
      have hd:=qen Bd i hBi
      have hai:=Hat.out i (by rw [hq];exact hsz) hBi
      obtain⟨c,hcc⟩:∃c,Bd[i].toNat=c:=⟨_,rfl⟩
      have hsc:(s[q]'hsz).toNat=c:=by subst hq;rw [hai,hcc]
      rw [hcc] at hc hd
      have hv8:v<1000:=qid hv.out.1 (by omega)
      obtain⟨d,hdd⟩:∃d,c-48=d:=⟨_,rfl⟩
      obtain⟨v1,hv1⟩:∃v1,v*10+d=v1:=⟨_,rfl⟩
      have i1:(c:Int)-48=d:=by omega
      have i2:(v:Int)*10+d=v1:=by omega
      have hdl:d≤9:=by omega
      have Hv1:Hid (v1<10 ^ (i+1-st)∧dval (Bd.take (i+1))=dval (Bd.take st)*10 ^ (i+1-st)+v1):=qH (by
       have h1:=qdl hv.out (D:=dval (Bd.take (i+1))) (d:=d) (by rw [hd,hdd]) hdl
       rwa [hv1,show i-st+1=i+1-st by omega] at h1)
      have Hq:=qH hq
      clear hcc hd hai hdd hv1
      rw [hq]
      clear hq
      go_wp2_with fail
      go_roundw
      case rel=>exact⟨i+1,v1,by omega,hlt,by have:=Hq.out;congr 1;omega,rfl,trivial,Hv1⟩
      case measure=>have:=Hq.out;simp [RowKit.intOf];omega
     ·obtain rfl:i=e:=by omega
      have hv9:v<10000:=qjw hv.out.1 (by omega)
      have hqe:¬(((1+i:Nat)):Int)<1+(i:Int):=by omega
      have Hnew:=qH (hD.out.snoc hv9)
      have Hval:Hid (mval (S++[v])+10000 ^ (k+1)*dval (Bd.take st)=dval Bd):=qH (qlp hSl.out hI.out hv.out.2 hst.out)
      have Hnl:Hid ((S++[v]).length=k+1):=qH (by rw [qag,hSl.out];rfl)
      have Hk:=qH (show k<17592186044416 by have:=Hz.out;omega)
      clear hlt
      obtain⟨q,hq⟩:∃q,1+i=q:=⟨_,rfl⟩
      rw [hq] at hqe ⊢
      clear hq
      go_wp2_with (first | (at_builtin;refine qck (d:=v) rfl _ _ rfl hB.out rfl hO.out rfl rfl Hk.out rfl ?_;intro v' w' ho' hb') | fail)
      go_roundw
      case rel=>exact⟨_,st,k+1,S++[v],rfl,by omega,by omega,by have:=hst.out;omega,by have:=hst.out;omega,by have:=Hz.out;have:=hst.out;omega,Hnew,Hnl,Hval,ho',hb'⟩
      case measure=>simp [RowKit.intOf];omega
  ·obtain rfl:e=0:=hz0 (by omega)
   have hv:mval S=dval Bd:=by have:=hI.out;simpa [dval] using this
   have HD:=qH (qdc (N:=605) hO.out hD.out (by omega))
   rw [hv] at HD
   have hm0:=qdq (dval Bd) 605 true _ _ HD.out (by decide)
   obtain⟨IV,hIV⟩:∃IV:Int,(if true=true then -(dval Bd:Int) else dval Bd)=IV:=⟨_,rfl⟩
   rw [hIV] at hm0
   have HM:=qH hm0
   have HIV:=qH hIV
   clear hv hm0 hIV
   go_wp2_with fail
   refine HM.out.mono ?_
   rintro e w2 ⟨u,rfl,hb9,hu9⟩
   have hBW:Below W1.heap.size W1 w2:=hB.out.trans (hb9.mono hB.out.size)
   have hrow9:=(hBW.block w.heap.size (qG HR.out.2).1).trans HR.out.2
   have hbw9:Below w.heap.size w w2:=HR.out.1.trans (hBW.mono HR.out.1.size)
   obtain⟨b9,a9,n9,c9,rfl⟩:=hu9.shape
   have hvs:=qbV (cs':=#[.bool b9,.slice a9 n9 c9]) hu9 hrow9 (nd2 _ _ _ _)
   have HR:=qH (qA hrow9 (qA hbw9 (below_setRow hbw9 qN #[.bool b9,.slice a9 n9 c9])))
   have HV:=qH hvs
   clear hrow9 hbw9 hvs hb9 hu9 hBW
   go_wp2_with ((with_reducible refine wpList_store_row rfl 121 _ _ rfl (w.heap.size) #[.bool b9,.slice a9 n9 c9] ?_ ?_ 121 _ HR.out.1 2 ?_ ?_ ?_ ?_ ?_);(next=>rfl);(next=>rfl);(next=>kernel_rfl);(next=>rfl);(next=>rfl);(next=>rfl))
   exact bodyPost_ret (v:=.agg #[.bool b9,.slice a9 n9 c9]) (qbN rfl _ _ (w.heap.size) 121 _ _ rfl (setRow_heap _ _ _ _ _ _ HR.out.1) Tryz.underlying121 rfl 2 (by kernel_rfl) rfl) rfl ⟨_,rfl,HR.out.2.2,by have:=HV.out;rwa [←HIV.out] at this⟩
theorem in_pos (s:ByteArray) (n:Nat) (hn:s.size=n) (h0:0<n) (h45:(s[0]'(by omega)).toNat≠45) (hs:Valid s.data.toList) (w:World) :
  Calls Tryz.prog 131 #[.string s] w fun e w'=>∃v,e=.returned v∧Below w.heap.size w w'∧qbP w' v (ival s.data.toList):=by
 obtain⟨L,hL⟩:∃L,s.data.toList=L:=⟨_,rfl⟩
 have hLn:L.length=n:=by rw [←hL,←hn,qa6];rfl
 have hat:∀k (h:k<s.size) (h':k<L.length),s[k]=L[k]:=fun k h h'=>by subst hL;rfl
 have hsz0:0<s.size:=by omega
 have hsg:=qhQ (L:=L) (by omega) (by rw [←hat 0 hsz0 (by omega)];exact h45)
 rw [hL] at hs ⊢
 have hnum:=hs.nums
 have hle:=hs.le
 have hpos:=hs.pos
 have hiv:ival L=if false=true then -(dval (L.drop 0):Int) else dval (L.drop 0):=by unfold ival;rw [hsg.2,hsg.1]
 rw [hsg.1] at hnum hle hpos
 rw [qaY,hLn] at hle hpos
 obtain⟨Bd,hBd⟩:∃Bd,L.drop 0=Bd:=⟨_,rfl⟩
 have hBl:Bd.length=n-0:=by rw [←hBd,qaY,hLn]
 have hatB:∀k (h:k<s.size) (h':k<Bd.length),s[k]=Bd[k]:=fun k h h'=>by subst hBd;rw [hat _ h (by omega)];simp
 rw [hBd] at hiv hnum
 rw [hiv]
 obtain⟨c0,hc0⟩:∃c0,(s[0]'hsz0).toNat=c0:=⟨_,rfl⟩
 have hsc0:=hc0
 rw [hc0] at h45
 have hcb:((c0:Int) == 45)=false:=by rw [beq_eq_false_iff_ne];omega
 have Hat:=qH hatB
 have HL:=qH (qA hBl (qA hn hnum))
 have h0i:(0:Int)<n:=by omega
 obtain⟨W1,hW1⟩:∃W1,W1=w.alloc (.cells #[.bool false,.slice none 0 0] 121):=⟨_,rfl⟩
 have hb1:Below w.heap.size w W1:=hW1▸qbI qB qN
 have hr1:W1.heap[w.heap.size]? = some (.cells #[.bool false,.slice none 0 0] 121 (0,0)):=by rw [hW1];exact qM _ _ _ rfl
 have HR:=qH (qA hb1 hr1)
 clear hb1 hr1 hs hsg hL hLn hat hc0 hBl hatB hnum hiv hBd
 have hn6:n≤601:=by omega
 go_enter Tryz.func131,Tryz.ntmps131
 go_wp2_with fail
 rw [←hW1]
 clear hW1 hsc0 hcb
 go_loopw [4,5,6,7] (fun x4 x5 x6 x7 W=>∃(z:Int) (e k:Nat) (S:List Nat),x5=.int .i64 z∧-4≤z∧z≤n∧(0<z→z=e)∧(z≤0→e=0)∧k+e≤n+4∧Hid (Dig S)∧Hid (S.length=k)∧Hid (mval S+10000 ^ k*dval (Bd.take e)=dval Bd)∧Hid (W.ownsRow W1.heap.size 3 1 x4 k (row64 S))∧Hid (Below W1.heap.size W1 W)) (fun _ x5 _ _ _=>(RowKit.intOf x5+4).toNat)
 case atStart=>exact⟨n,n-0,0,[],rfl,by omega,Int.le_refl _,by omega,by omega,by omega,qH Dig.nil,qH rfl,qH (by rw [qak (by rw [HL.out.1];exact qae _)];simp [mval]),qH (qbt _ _ _ _),qH qB⟩
 case round =>
  obtain⟨z,e,k,S,rfl,hz1,hz2,hze,hz0,hke,hD,hSl,hI,hO,hB⟩:=hrel
  have Hsz:=hB.out.size
  by_cases hgo:0<z
  ·obtain rfl:z=e:=hze hgo
   have he0:0<e:=by omega
   have hez:(0:Int)<(e:Int):=by omega
   have Hz:=qH (qA hz2 hke)
   have hen:e≤n:=by omega
   clear hze hz0 hz1 hgo
   go_upto_region 9 with fail
   go_cut [7] (fun x7 W=>∃st:Nat,x7=.int .i64 ((st:Nat):Int)∧W=wr∧Hid ((st=0∧e≤4)∨st+4=e))
   case first =>
    by_cases h9:e≤4
    ·have h9i:(e:Int)-4≤0:=by omega
     go_wp2_with fail
     all_goals go_meet
     all_goals first
      | exact⟨0,rfl,rfl,qH (qau ⟨rfl,h9⟩)⟩
      | exact⟨0,congrArg (Value.int .i64) (by omega),rfl,qH (qau ⟨rfl,h9⟩)⟩
    ·have h9i:¬(e:Int)-4≤0:=by omega
     go_wp2_with fail
     all_goals go_meet
     all_goals exact⟨e-4,congrArg (Value.int .i64) (by omega),rfl,qH (qaq (by omega))⟩
   case rest =>
    obtain⟨st,rfl,hW,hst⟩:=hcut
    have hW2:=hW.symm
    clear hW
    subst hW2
    have hst9:st≤e∧e≤st+4:=by have:=hst.out;omega
    go_wp2_with fail
    go_loopw [6,7] (fun x6 x7 W=>∃i v:Nat,st≤i∧i≤e∧x7=.int .i64 ((i:Nat):Int)∧x6=.int .i64 v∧W=wr∧Hid (v<10 ^ (i-st)∧dval (Bd.take i)=dval (Bd.take st)*10 ^ (i-st)+v)) (fun _ x7 _=>e-(RowKit.intOf x7).toNat)
    case atStart=>exact⟨st,0,qae _,hst9.1,rfl,rfl,rfl,qH ⟨by rw [qaH];decide,by rw [qaH];simp⟩⟩
    case round =>
     obtain⟨i,v,hsi,hie,rfl,rfl,hW,hv⟩:=hrel
     have hW2:=hW.symm
     clear hW
     subst hW2
     by_cases hlt:i<e
     ·obtain⟨q,hq⟩:∃q,i=q:=⟨_,rfl⟩
      have hqe:(q:Int)<(e:Int):=by omega
      have hqn:(q:Int)<n:=by omega
      have hBi:i<Bd.length:=by rw [HL.out.1];omega
      have hsz:q<s.size:=by rw [HL.out.2.1];omega
      have hc:=HL.out.2.2 Bd[i] (List.getElem_mem hBi)
      have hd:=qen Bd i hBi
      have hai:=Hat.out i (by rw [hq];exact hsz) hBi
      obtain⟨c,hcc⟩:∃c,Bd[i].toNat=c:=⟨_,rfl⟩
      have hsc:(s[q]'hsz).toNat=c:=by subst hq;rw [hai,hcc]
      rw [hcc] at hc hd
      have hv8:v<1000:=qid hv.out.1 (by omega)
      obtain⟨d,hdd⟩:∃d,c-48=d:=⟨_,rfl⟩
      obtain⟨v1,hv1⟩:∃v1,v*10+d=v1:=⟨_,rfl⟩
      have i1:(c:Int)-48=d:=by omega
      have i2:(v:Int)*10+d=v1:=by omega
      have hdl:d≤9:=by omega
      have Hv1:Hid (v1<10 ^ (i+1-st)∧dval (Bd.take (i+1))=dval (Bd.take st)*10 ^ (i+1-st)+v1):=qH (by
       have h1:=qdl hv.out (D:=dval (Bd.take (i+1))) (d:=d) (by rw [hd,hdd]) hdl
       rwa [hv1,show i-st+1=i+1-st by omega] at h1)
      have Hq:=qH hq
      clear hcc hd hai hdd hv1
      rw [hq]
      clear hq
      go_wp2_with fail
      go_roundw
      case rel=>exact⟨i+1,v1,by omega,hlt,by have:=Hq.out;congr 1;omega,rfl,trivial,Hv1⟩
      case measure=>have:=Hq.out;simp [RowKit.intOf];omega
     ·obtain rfl:i=e:=by omega
      have hv9:v<10000:=qjw hv.out.1 (by omega)
      have hqe:¬(((i:Nat)):Int)<(i:Int):=by omega
      have Hnew:=qH (hD.out.snoc hv9)
      have Hval:Hid (mval (S++[v])+10000 ^ (k+1)*dval (Bd.take st)=dval Bd):=qH (qlp hSl.out hI.out hv.out.2 hst.out)
      have Hnl:Hid ((S++[v]).length=k+1):=qH (by rw [qag,hSl.out];rfl)
      have Hk:=qH (show k<17592186044416 by have:=Hz.out;omega)
      clear hlt
      go_wp2_with (first | (at_builtin;refine qck (d:=v) rfl _ _ rfl hB.out rfl hO.out rfl rfl Hk.out rfl ?_;intro v' w' ho' hb') | fail)
      go_roundw
      case rel=>exact⟨_,st,k+1,S++[v],rfl,by omega,by omega,by have:=hst.out;omega,by have:=hst.out;omega,by have:=Hz.out;have:=hst.out;omega,Hnew,Hnl,Hval,ho',hb'⟩
      case measure=>simp [RowKit.intOf];omega
  ·obtain rfl:e=0:=hz0 (by omega)
   have hv:mval S=dval Bd:=by have:=hI.out;simpa [dval] using this
   have HD:=qH (qdc (N:=605) hO.out hD.out (by omega))
   rw [hv] at HD
   have hm0:=qdq (dval Bd) 605 false _ _ HD.out (by decide)
   obtain⟨IV,hIV⟩:∃IV:Int,(if false=true then -(dval Bd:Int) else dval Bd)=IV:=⟨_,rfl⟩
   rw [hIV] at hm0
   have HM:=qH hm0
   have HIV:=qH hIV
   clear hv hm0 hIV
   go_wp2_with fail
   refine HM.out.mono ?_
   rintro e w2 ⟨u,rfl,hb9,hu9⟩
   have hBW:Below W1.heap.size W1 w2:=hB.out.trans (hb9.mono hB.out.size)
   have hrow9:=(hBW.block w.heap.size (qG HR.out.2).1).trans HR.out.2
   have hbw9:Below w.heap.size w w2:=HR.out.1.trans (hBW.mono HR.out.1.size)
   obtain⟨b9,a9,n9,c9,rfl⟩:=hu9.shape
   have hvs:=qbV (cs':=#[.bool b9,.slice a9 n9 c9]) hu9 hrow9 (nd2 _ _ _ _)
   have HR:=qH (qA hrow9 (qA hbw9 (below_setRow hbw9 qN #[.bool b9,.slice a9 n9 c9])))
   have HV:=qH hvs
   clear hrow9 hbw9 hvs hb9 hu9 hBW
   go_wp2_with ((with_reducible refine wpList_store_row rfl 121 _ _ rfl (w.heap.size) #[.bool b9,.slice a9 n9 c9] ?_ ?_ 121 _ HR.out.1 2 ?_ ?_ ?_ ?_ ?_);(next=>rfl);(next=>rfl);(next=>kernel_rfl);(next=>rfl);(next=>rfl);(next=>rfl))
   exact bodyPost_ret (v:=.agg #[.bool b9,.slice a9 n9 c9]) (qbN rfl _ _ (w.heap.size) 121 _ _ rfl (setRow_heap _ _ _ _ _ _ HR.out.1) Tryz.underlying121 rfl 2 (by kernel_rfl) rfl) rfl ⟨_,rfl,HR.out.2.2,by have:=HV.out;rwa [←HIV.out] at this⟩
theorem qju (s:ByteArray) (hs:Valid s.data.toList) (w:World) :
  Calls Tryz.prog 131 #[.string s] w fun e w'=>∃v,e=.returned v∧Below w.heap.size w w'∧qbP w' v (ival s.data.toList):=by
 have h0:0<s.size:=by
  rcases qaJ s.size with h | h
  ·exfalso
   have h1:=hs.pos
   have h2:s.data.toList=[]:=qa3.1 (by rw [qa6];exact h)
   rw [h2] at h1
   exact absurd h1 (by decide)
  ·exact h
 by_cases h45:(s[0]'h0).toNat=45
 ·exact in_neg s _ rfl h0 h45 hs w
 ·exact in_pos s _ rfl h0 h45 hs w
end Go.Proofs.YtfminfgabiipjaaGreatDoor.p4
