/- Ad, part 45: Sd Se -/
import Derived.Test.YtfminfgabiipjaaGreatDoorAd0
import Derived.Test.YtfminfgabiipjaaGreatDoorAd33
import Derived.Test.YtfminfgabiipjaaGreatDoorAd44
set_option maxRecDepth 100000
set_option maxHeartbeats 16000000
namespace Go.Proofs.YtfminfgabiipjaaGreatDoor.p4
open Go.RowKit
theorem qk3 (a b:Rat):Rat.divInt (a.num*b.num) ((a.den:Int)*b.den)=a*b:=by
 rw [←Rat.divInt_mul_divInt,Rat.num_divInt_den,Rat.num_divInt_den]
theorem qjm (a b:Rat):Rat.divInt (a.num*b.den) ((a.den:Int)*b.num)=a / b:=by
 rw [←Rat.divInt_mul_divInt,Rat.num_divInt_den,←Rat.inv_def,Rat.div_def]
theorem qjn (a b:Rat):Rat.divInt (a.num*b.den+b.num*a.den) ((a.den:Int)*b.den)=a+b:=by
 rw [←Rat.divInt_add_divInt _ _ (by have:=a.den_pos;omega) (by have:=b.den_pos;omega),Rat.num_divInt_den,Rat.num_divInt_den]
instance stays_ratio {v:Value} {q:Rat}:Stays fun W=>qbK W v q:=⟨fun h hb=>h.below hb⟩
def RFit (q:Rat) (K:Nat):Prop:=Fit q.num.natAbs K∧Fit q.den K
theorem qbK.parts {W:World} {v:Value} {q:Rat} (h:qbK W v q):∃(b:Bool) (a:Option Addr) (n c:Nat) (a':Option Addr) (n' c':Nat),v=.agg #[.bool b,.slice a n c,.bool false,.slice a' n' c']∧qbP W (.agg #[.bool b,.slice a n c]) q.num∧qbP W (.agg #[.bool false,.slice a' n' c']) (q.den:Int):=by
 obtain⟨m,o,rfl,h1,h2⟩:=h
 have h3:=h1
 have h4:=h2
 obtain⟨am,bm,om,cm,n,M,rfl,_,_⟩:=h3
 obtain⟨ao,bo,oo,co,no,O,rfl,_,_⟩:=h4
 exact⟨_,_,_,_,_,_,_,rfl,⟨_,rfl,h1⟩,⟨_,by rw [decide_eq_false (by omega)],by simpa using h2⟩⟩
theorem RFit.mul {p q:Rat} {K J:Nat} (h:RFit p K) (k:RFit q J):Fit (p.num*q.num).natAbs (K+J)∧Fit ((p.den:Int)*q.den).natAbs (K+J):=by
 rw [qaT,qaT]
 exact⟨h.1.mul k.1,h.2.mul k.2⟩
theorem RFit.over {p q:Rat} {K J:Nat} (h:RFit p K) (k:RFit q J):Fit (p.num*q.den).natAbs (K+J)∧Fit ((p.den:Int)*q.num).natAbs (K+J):=by
 rw [qaT,qaT]
 exact⟨h.1.mul k.2,h.2.mul k.1⟩
theorem qdv (p q:Rat) (K J:Nat) (hK:K+J≤17592186000000) (v u:Value) (w:World) (hv:qbK w v p) (hu:qbK w u q) (fp:RFit p K) (fq:RFit q J) :
  Calls Tryz.prog 83 #[v,u] w fun e w'=>∃r,e=.returned r∧Below w.heap.size w w'∧qbK w' r (p*q)∧HiR w.heap.size r:=by
 obtain⟨b,am,nm,cm,ao,no,co,rfl,hp1,hp2⟩:=hv.parts
 obtain⟨b',am',nm',cm',ao',no',co',rfl,hq1,hq2⟩:=hu.parts
 have H1:=qH fun (W:World) (h:Below w.heap.size w W)=>qcb p.num q.num K J (by omega) _ _ W (hp1.below h) (hq1.below h) fp.1 fq.1
 have H2:=qH fun (W:World) (h:Below w.heap.size w W)=>qcb p.den q.den K J (by omega) _ _ W (hp2.below h) (hq2.below h) (by simpa using fp.2) (by simpa using fq.2)
 have H3:=qH fun (W:World) (x y:Value) (hx:qbP W x (p.num*q.num)) (hy:qbP W y ((p.den:Int)*q.den))=>qk3 p q▸qez _ _ (Int.mul_ne_zero (by have:=p.den_pos;omega) (by have:=q.den_pos;omega)) (K+J) hK x y W hx hy (fp.mul fq).1 (fp.mul fq).2
 clear hv hu fp fq hp1 hp2 hq1 hq2
 obtain⟨W1,hW1,K1⟩:=kn3 w #[.bool b,.slice am nm cm,.bool false,.slice ao no co] 123 #[.bool b',.slice am' nm' cm',.bool false,.slice ao' no' co'] 123 #[.bool false,.slice none 0 0,.bool false,.slice none 0 0] 123
 have lt:=(qG K1.out.2.2.2).1
 have c0:=rowC (B:=w.heap.size+1+1) K1.out.2.1 0
 have c1:=rowC (B:=w.heap.size+1+1) K1.out.2.1 1
 have c2:=rowC (B:=w.heap.size+1+1) K1.out.2.1 2
 have c3:=rowC (B:=w.heap.size+1+1) K1.out.2.1 3
 have d0:=rowC (B:=w.heap.size+1+1) K1.out.2.2.1 0
 have d1:=rowC (B:=w.heap.size+1+1) K1.out.2.2.1 1
 have d2:=rowC (B:=w.heap.size+1+1) K1.out.2.2.1 2
 have d3:=rowC (B:=w.heap.size+1+1) K1.out.2.2.1 3
 go_enter Tryz.func83,Tryz.ntmps83
 go_wp2_with fail
 rw [←hW1]
 clear hW1
 refine wp_region_held_drew (S:=fun W=>Below (w.heap.size+1+1) W1 W) (by kernel_rfl) qB.drew (fun hS0=>?_)
 refine hT 0 (h:=hT 1 (h:=hT 2 (h:=hT 3 (h:=hT 5 (h:=hT 6 (h:=hT 7 (h:=hT 8 (h:=?_))))))))
 refine hC 4 (H1.out _ K1.out.1.drew) (h:=?_)
 rintro e w2 ⟨x,rfl,hb2,hx⟩
 obtain⟨bx,ax,nx,cx,rfl⟩:=hx.shape
 have K2:=K1.ond (q:=fun W=>qbP W _ _) hb2 hx
 have hS2:=hS0.trans (hb2.mono (qar lt))
 refine⟨_,rfl,hS2,hN (h:=?_)⟩
 refine hC 9 (H2.out _ K2.out.1.1) (h:=?_)
 rintro e w3 ⟨y,rfl,hb3,hy⟩
 obtain⟨by',ay,ny,cy,rfl⟩:=hy.shape
 have K3:=K2.on (q:=fun W=>qbP W _ _) hb3 hy
 have hS3:=hS2.trans (hb3.mono (qai (qar lt) hb2.size))
 refine⟨_,rfl,hS3,hN (h:=?_)⟩
 refine hC 10 (H3.out _ _ _ K3.out.1.2 K3.out.2) (h:=?_)
 rintro e w4 ⟨z,rfl,hb4,hz,hh⟩
 obtain⟨bz,az,nz,cz,az',nz',cz',rfl⟩:=hz.shape
 have K4:=K3.on (q:=fun W=>qbK W _ _) hb4 hz
 have hS4:=hS3.trans (hb4.mono (qai (qai (qar lt) hb2.size) hb3.size))
 refine⟨_,rfl,hS4,hN (h:=?_)⟩
 refine hSt 11 4 K4.out.1.1.1.2.2.2 (h:=⟨below_setRow hS4 qN _,?_⟩)
 go_wp2_with fail
 exact bodyPost_ret (v:=.agg #[.bool bz,.slice az nz cz,.bool false,.slice az' nz' cz']) (qbN rfl _ _ (w.heap.size+1+1) 123 _ _ rfl (setRow_heap _ _ _ _ _ _ K4.out.1.1.1.2.2.2) Tryz.underlying123 rfl 4 (by kernel_rfl) rfl) rfl ⟨_,rfl,below_setRow K4.out.1.1.1.1 (by omega) _,qco hz K4.out.1.1.1.2.2.2 (nd4 _ _ _ _ _ _ _ _),hh.mono K3.out.1.1.1.size⟩
theorem qlZ (p q:Rat) (hq0:q≠0) (K J:Nat) (hK:K+J≤17592186000000) (v u:Value) (w:World) (hv:qbK w v p) (hu:qbK w u q) (fp:RFit p K) (fq:RFit q J) :
  Calls Tryz.prog 111 #[v,u] w fun e w'=>∃r,e=.returned r∧Below w.heap.size w w'∧qbK w' r (p / q)∧HiR w.heap.size r:=by
 obtain⟨b,am,nm,cm,ao,no,co,rfl,hp1,hp2⟩:=hv.parts
 obtain⟨b',am',nm',cm',ao',no',co',rfl,hq1,hq2⟩:=hu.parts
 have H1:=qH fun (W:World) (h:Below w.heap.size w W)=>qcb p.num q.den K J (by omega) _ _ W (hp1.below h) (hq2.below h) fp.1 (by simpa using fq.2)
 have H2:=qH fun (W:World) (h:Below w.heap.size w W)=>qcb p.den q.num K J (by omega) _ _ W (hp2.below h) (hq1.below h) (by simpa using fp.2) fq.1
 have H3:=qH fun (W:World) (x y:Value) (hx:qbP W x (p.num*q.den)) (hy:qbP W y ((p.den:Int)*q.num))=>qjm p q▸qez _ _ (Int.mul_ne_zero (by have:=p.den_pos;omega) (fun h=>hq0 (Rat.num_eq_zero.1 h))) (K+J) hK x y W hx hy (fp.over fq).1 (fp.over fq).2
 clear hv hu fp fq hp1 hp2 hq1 hq2
 obtain⟨W1,hW1,K1⟩:=kn3 w #[.bool b,.slice am nm cm,.bool false,.slice ao no co] 123 #[.bool b',.slice am' nm' cm',.bool false,.slice ao' no' co'] 123 #[.bool false,.slice none 0 0,.bool false,.slice none 0 0] 123
 have lt:=(qG K1.out.2.2.2).1
 have c0:=rowC (B:=w.heap.size+1+1) K1.out.2.1 0
 have c1:=rowC (B:=w.heap.size+1+1) K1.out.2.1 1
 have c2:=rowC (B:=w.heap.size+1+1) K1.out.2.1 2
 have c3:=rowC (B:=w.heap.size+1+1) K1.out.2.1 3
 have d0:=rowC (B:=w.heap.size+1+1) K1.out.2.2.1 0
 have d1:=rowC (B:=w.heap.size+1+1) K1.out.2.2.1 1
 have d2:=rowC (B:=w.heap.size+1+1) K1.out.2.2.1 2
 have d3:=rowC (B:=w.heap.size+1+1) K1.out.2.2.1 3
 go_enter Tryz.func111,Tryz.ntmps111
 go_wp2_with fail
 rw [←hW1]
 clear hW1
 refine wp_region_held_drew (S:=fun W=>Below (w.heap.size+1+1) W1 W) (by kernel_rfl) qB.drew (fun hS0=>?_)
 refine hT 0 (h:=hT 1 (h:=hT 2 (h:=hT 3 (h:=hT 5 (h:=hT 6 (h:=hT 7 (h:=hT 8 (h:=?_))))))))
 refine hC 4 (H1.out _ K1.out.1.drew) (h:=?_)
 rintro e w2 ⟨x,rfl,hb2,hx⟩
 obtain⟨bx,ax,nx,cx,rfl⟩:=hx.shape
 have K2:=K1.ond (q:=fun W=>qbP W _ _) hb2 hx
 have hS2:=hS0.trans (hb2.mono (qar lt))
 refine⟨_,rfl,hS2,hN (h:=?_)⟩
 refine hC 9 (H2.out _ K2.out.1.1) (h:=?_)
 rintro e w3 ⟨y,rfl,hb3,hy⟩
 obtain⟨by',ay,ny,cy,rfl⟩:=hy.shape
 have K3:=K2.on (q:=fun W=>qbP W _ _) hb3 hy
 have hS3:=hS2.trans (hb3.mono (qai (qar lt) hb2.size))
 refine⟨_,rfl,hS3,hN (h:=?_)⟩
 refine hC 10 (H3.out _ _ _ K3.out.1.2 K3.out.2) (h:=?_)
 rintro e w4 ⟨z,rfl,hb4,hz,hh⟩
 obtain⟨bz,az,nz,cz,az',nz',cz',rfl⟩:=hz.shape
 have K4:=K3.on (q:=fun W=>qbK W _ _) hb4 hz
 have hS4:=hS3.trans (hb4.mono (qai (qai (qar lt) hb2.size) hb3.size))
 refine⟨_,rfl,hS4,hN (h:=?_)⟩
 refine hSt 11 4 K4.out.1.1.1.2.2.2 (h:=⟨below_setRow hS4 qN _,?_⟩)
 go_wp2_with fail
 exact bodyPost_ret (v:=.agg #[.bool bz,.slice az nz cz,.bool false,.slice az' nz' cz']) (qbN rfl _ _ (w.heap.size+1+1) 123 _ _ rfl (setRow_heap _ _ _ _ _ _ K4.out.1.1.1.2.2.2) Tryz.underlying123 rfl 4 (by kernel_rfl) rfl) rfl ⟨_,rfl,below_setRow K4.out.1.1.1.1 (by omega) _,qco hz K4.out.1.1.1.2.2.2 (nd4 _ _ _ _ _ _ _ _),hh.mono K3.out.1.1.1.size⟩
theorem qfr (p q:Rat) (K J:Nat) (hK:K+J+1≤17592186000000) (v u:Value) (w:World) (hv:qbK w v p) (hu:qbK w u q) (fp:RFit p K) (fq:RFit q J) :
  Calls Tryz.prog 82 #[v,u] w fun e w'=>∃r,e=.returned r∧Below w.heap.size w w'∧qbK w' r (p+q)∧HiR w.heap.size r:=by
 obtain⟨b,am,nm,cm,ao,no,co,rfl,hp1,hp2⟩:=hv.parts
 obtain⟨b',am',nm',cm',ao',no',co',rfl,hq1,hq2⟩:=hu.parts
 have H1:=qH fun (W:World) (h:Below w.heap.size w W)=>qcb p.num q.den K J (by omega) _ _ W (hp1.below h) (hq2.below h) fp.1 (by simpa using fq.2)
 have H2:=qH fun (W:World) (h:Below w.heap.size w W)=>qcb q.num p.den J K (by omega) _ _ W (hq1.below h) (hp2.below h) fq.1 (by simpa using fp.2)
 have f1:=(fp.over fq).1
 have f2:Fit (q.num*p.den).natAbs (K+J):=by have:=(fq.over fp).1;rwa [Nat.add_comm] at this
 have H0:=qH fun (W:World) (x y:Value) (hx:qbP W x (p.num*q.den)) (hy:qbP W y (q.num*p.den))=>qhK _ _ (K+J) (by omega) x y W hx hy f1 f2
 have H4:=qH fun (W:World) (h:Below w.heap.size w W)=>qcb p.den q.den K J (by omega) _ _ W (hp2.below h) (hq2.below h) (by simpa using fp.2) (by simpa using fq.2)
 have H3:=qH fun (W:World) (x y:Value) (hx:qbP W x (p.num*q.den+q.num*p.den)) (hy:qbP W y ((p.den:Int)*q.den))=>qjn p q▸qez _ _ (Int.mul_ne_zero (by have:=p.den_pos;omega) (by have:=q.den_pos;omega)) (K+J+1) (by omega) x y W hx hy ((f1.add f2).le (Int.natAbs_add_le _ _)) ((fp.mul fq).2.mono (qbi _))
 clear hv hu fp fq hp1 hp2 hq1 hq2 f1 f2
 obtain⟨W1,hW1,K1⟩:=kn3 w #[.bool b,.slice am nm cm,.bool false,.slice ao no co] 123 #[.bool b',.slice am' nm' cm',.bool false,.slice ao' no' co'] 123 #[.bool false,.slice none 0 0,.bool false,.slice none 0 0] 123
 have lt:=(qG K1.out.2.2.2).1
 have c0:=rowC (B:=w.heap.size+1+1) K1.out.2.1 0
 have c1:=rowC (B:=w.heap.size+1+1) K1.out.2.1 1
 have c2:=rowC (B:=w.heap.size+1+1) K1.out.2.1 2
 have c3:=rowC (B:=w.heap.size+1+1) K1.out.2.1 3
 have d0:=rowC (B:=w.heap.size+1+1) K1.out.2.2.1 0
 have d1:=rowC (B:=w.heap.size+1+1) K1.out.2.2.1 1
 have d2:=rowC (B:=w.heap.size+1+1) K1.out.2.2.1 2
 have d3:=rowC (B:=w.heap.size+1+1) K1.out.2.2.1 3
 go_enter Tryz.func82,Tryz.ntmps82
 go_wp2_with fail
 rw [←hW1]
 clear hW1
 refine wp_region_held_drew (S:=fun W=>Below (w.heap.size+1+1) W1 W) (by kernel_rfl) qB.drew (fun hS0=>?_)
 refine hT 0 (h:=hT 1 (h:=hT 2 (h:=hT 3 (h:=hT 5 (h:=hT 6 (h:=hT 7 (h:=hT 8 (h:=?_))))))))
 refine gr [(4,10),(9,15),(10,16),(11,5)] [(10,[4,9])] [0,1,2,3,5,6,7,8] [4,9,10,11] [11] 12 13 (fl2 [(4,fun x W=>qbP W x (p.num*q.den)),(9,fun x W=>qbP W x (q.num*p.den)),(10,fun x W=>qbP W x (p.num*q.den+q.num*p.den)),(11,ZC W1.heap.size #[.bool false,.slice none 0 0] 121)]) _ 1
  (hS:=fun w' h=>(qbU h).mono (qar lt)) (hstep:=⟨⟨_,rfl,fun v w2 hb hF K hK=>?_⟩,⟨_,rfl,fun v w2 hb hF K hK=>?_⟩,⟨_,rfl,fun v w2 hb hF K hK=>?_⟩,⟨_,rfl,fun v w2 hb hF K hK=>?_⟩,trivial⟩) (hend:=fun v w2 hb hF _ f=>?_)
 ·exact gC hK (H1.out _ (K1.below (qbU hb)).out.1) (h:=fun e w3 ⟨u,e1,h1,h2⟩=>⟨u,e1,h2,h1⟩)
 ·exact gC hK (H2.out _ (K1.below (qbU hb)).out.1) (h:=fun e w3 ⟨u,e1,h1,h2⟩=>⟨u,e1,h2,h1⟩)
 ·exact gC hK (H0.out _ _ _ hF.1 hF.2.1) (h:=fun e w3 ⟨u,e1,h1,h2⟩=>⟨u,e1,h2,h1⟩)
 ·exact gW hK (h:=ZC.new hb.size)
 obtain⟨g,hg,e11,hgs⟩:ZC _ _ _ _ _:=hF 11 (by decide) (by decide)
 have hx:qbP w2 (v 10) _:=hF 10 (by decide) (by decide)
 obtain⟨bx,ax,nx,cx,e10⟩:=hx.shape
 rw [e10] at hx
 have K2:=K1.below (qbU hb)
 refine hSt 12 2 hg (hx:=by exact e11) (hy:=by exact e10) (h:=⟨below_setRow ((qbU hb).mono (qar lt)) (by omega) _,?_⟩)
 obtain⟨W3,hW3⟩:∃W3,W3=w2.setRow g #[.bool bx,.slice ax nx cx]:=⟨_,rfl⟩
 have K3:Kn (fun W=>(Below w.heap.size w W∧W.heap[w.heap.size]? = some (.cells #[.bool b,.slice am nm cm,.bool false,.slice ao no co] 123 (0,0))∧W.heap[w.heap.size+1]? = some (.cells #[.bool b',.slice am' nm' cm',.bool false,.slice ao' no' co'] 123 (0,0))∧W.heap[w.heap.size+1+1]? = some (.cells #[.bool false,.slice none 0 0,.bool false,.slice none 0 0] 123 (0,0))) ∧
   W.heap[g]? = some (.cells #[.bool bx,.slice ax nx cx] 121 (0,0))∧qbP W (.agg #[.bool bx,.slice ax nx cx]) (p.num*q.den+q.num*p.den)) W3 :=
  .of (by rw [hW3];exact⟨⟨below_setRow K2.out.1 (by omega) _,(setRow_other _ _ _ _ (by omega)).trans K2.out.2.1,(setRow_other _ _ _ _ (by omega)).trans K2.out.2.2.1,(setRow_other _ _ _ _ (by omega)).trans K2.out.2.2.2⟩,setRow_heap _ _ _ _ _ _ hg,qbV hx hg (nd2 _ _ _ _)⟩)
 rw [←hW3]
 have lg:=(qG K3.out.2.1).1
 have lt3:w.heap.size+1+1<W3.heap.size:=by omega
 clear c0 c1 c2 c3 d0 d1 d2 d3 hW3 K2 hg hF hb hx hS0
 have c2:=rowG (g0:=w.heap.size+1+1) K3.out.1.2.1 2
 have c3:=rowG (g0:=w.heap.size+1+1) K3.out.1.2.1 3
 have d2:=rowG (g0:=w.heap.size+1+1) K3.out.1.2.2.1 2
 have d3:=rowG (g0:=w.heap.size+1+1) K3.out.1.2.2.1 3
 have g0:=rowG (g0:=w.heap.size+1+1) K3.out.2.1 0
 have g1:=rowG (g0:=w.heap.size+1+1) K3.out.2.1 1
 go_wp2_with fail
 refine wp_region_held_drew (S:=fun W=>W3.grownBy W (some (w.heap.size+1+1))) (by kernel_rfl) (qbR (qb3 _ _) qB.drew) (fun hS0=>?_)
 refine hT 0 (h:=hT 1 (h:=hT 2 (h:=hT 3 (h:=hT 4 (h:=?_)))))
 refine hC 5 (H4.out _ K3.out.1.1.drew) (h:=?_)
 rintro e w4 ⟨x,rfl,hb,hx⟩
 obtain⟨b4,a4,n4,c4,rfl⟩:=hx.shape
 have K4:=K3.ond (q:=fun W=>qbP W _ _) hb hx
 have hS4:=qbR hS0 hb
 refine⟨_,rfl,hS4,hN (h:=?_)⟩
 refine hC 6 (H3.out _ _ _ K4.out.1.2.2 K4.out.2) (h:=?_)
 rintro e w5 ⟨z,rfl,hb,hz,hh⟩
 obtain⟨bz,az,nz,cz,az',nz',cz',rfl⟩:=hz.shape
 have K5:=K4.on (q:=fun W=>qbK W _ _) hb hz
 have hS5:=qbR hS4 hb
 refine⟨_,rfl,hS5,hN (h:=?_)⟩
 refine hSt 7 4 K5.out.1.1.1.2.2.2 (h:=⟨qbL hS5 (qb9 _ _ _),?_⟩)
 go_wp2_with fail
 exact bodyPost_ret (v:=.agg #[.bool bz,.slice az nz cz,.bool false,.slice az' nz' cz']) (qbN rfl _ _ (w.heap.size+1+1) 123 _ _ rfl (setRow_heap _ _ _ _ _ _ K5.out.1.1.1.2.2.2) Tryz.underlying123 rfl 4 (by kernel_rfl) rfl) rfl ⟨_,rfl,below_setRow K5.out.1.1.1.1 (by omega) _,qco hz K5.out.1.1.1.2.2.2 (nd4 _ _ _ _ _ _ _ _),hh.mono K4.out.1.1.1.size⟩
theorem kn2 (w:World) (a:Array Value) (t:TypeId) (b:Array Value) (u:TypeId):∃W,W=(w.alloc (.cells a t)).alloc (.cells b u) ∧
  Kn (fun W=>Below w.heap.size w W∧W.heap[w.heap.size]? = some (.cells a t (0,0))∧W.heap[w.heap.size+1]? = some (.cells b u (0,0))) W :=
 ⟨_,rfl,.of ⟨qbI (qbI qB qN) qN,
  (qL _ _ _ (by simp only [qab];omega)).trans (qM _ _ _ rfl),qM _ _ _ (by simp)⟩⟩
theorem RFit.neg {q:Rat} {K:Nat} (h:RFit q K):RFit (-q) K:=⟨by rw [Rat.neg_num,qbg];exact h.1,by rw [Rat.neg_den];exact h.2⟩
theorem RFit.mono {q:Rat} {K J:Nat} (h:RFit q K) (hJ:K≤J):RFit q J:=⟨h.1.mono hJ,h.2.mono hJ⟩
theorem ql5 (q:Rat) (K:Nat) (hK:K≤17592186000000) (v:Value) (w:World) (hv:qbK w v q) (fq:RFit q K) :
  Calls Tryz.prog 130 #[v] w fun e w'=>∃r,e=.returned r∧Below w.heap.size w w'∧qbK w' r (-q):=by
 obtain⟨b,am,nm,cm,ao,no,co,rfl,hp1,hp2⟩:=hv.parts
 have H1:=qH fun (W:World) (h:Below w.heap.size w W)=>qhX q.num K (by omega) _ W (hp1.below h) fq.1
 have HD:=qH hp2
 clear hv fq hp1 hp2
 obtain⟨W1,hW1,K1⟩:=kn2 w #[.bool b,.slice am nm cm,.bool false,.slice ao no co] 123 #[.bool false,.slice none 0 0,.bool false,.slice none 0 0] 123
 have c0:=rowG (g0:=w.heap.size+1) K1.out.2.1 0
 have c1:=rowG (g0:=w.heap.size+1) K1.out.2.1 1
 have c2:=rowG (g0:=w.heap.size+1) K1.out.2.1 2
 have c3:=rowG (g0:=w.heap.size+1) K1.out.2.1 3
 go_enter Tryz.func130,Tryz.ntmps130
 go_wp2_with fail
 rw [←hW1]
 clear hW1
 refine wp_region_held_drew (S:=fun W=>W1.grownBy W (some (w.heap.size+1))) (by kernel_rfl) (qbR (qb3 _ _) qB.drew) (fun hS0=>?_)
 refine hT 0 (h:=hT 1 (h:=hT 3 (h:=hT 4 (h:=?_))))
 refine hC 2 (H1.out _ K1.out.1.drew) (h:=?_)
 rintro e w2 ⟨x,rfl,hb,hx⟩
 obtain⟨bx,ax,nx,cx,rfl⟩:=hx.shape
 have K2:=K1.ond (q:=fun W=>qbP W _ _) hb hx
 have hS2:=qbR hS0 hb
 have hz:qbK w2 (.agg #[.bool bx,.slice ax nx cx,.bool false,.slice ao no co]) (-q):=qgP K2.out.2 (HD.out.below K2.out.1.1) (Rat.neg_num q).symm (by rw [Rat.neg_den])
 refine⟨_,rfl,hS2,hN (h:=?_)⟩
 refine hT 5 (h:=?_)
 refine hSt 6 4 K2.out.1.2.2 (h:=⟨qbL hS2 (qb9 _ _ _),?_⟩)
 go_wp2_with fail
 exact bodyPost_ret (v:=.agg #[.bool bx,.slice ax nx cx,.bool false,.slice ao no co]) (qbN rfl _ _ (w.heap.size+1) 123 _ _ rfl (setRow_heap _ _ _ _ _ _ K2.out.1.2.2) Tryz.underlying123 rfl 4 (by kernel_rfl) rfl) rfl ⟨_,rfl,below_setRow K2.out.1.1 (by omega) _,qco hz K2.out.1.2.2 (nd4 _ _ _ _ _ _ _ _)⟩
theorem qhk (p q:Rat) (K J:Nat) (hK:K+J+1≤17592186000000) (v u:Value) (w:World) (hv:qbK w v p) (hu:qbK w u q) (fp:RFit p K) (fq:RFit q J) :
  Calls Tryz.prog 79 #[v,u] w fun e w'=>∃r,e=.returned r∧Below w.heap.size w w'∧qbK w' r (p-q)∧HiR w.heap.size r:=by
 have H1:=qH fun (W:World) (h:Below w.heap.size w W)=>ql5 q J (by omega) _ W (hu.below h) fq
 have H2:=qH fun (W:World) (x:Value) (h:Below w.heap.size w W) (hx:qbK W x (-q))=>(Rat.sub_eq_add_neg p q)▸qfr p (-q) K J hK _ x W (hv.below h) hx fp fq.neg
 obtain⟨b,am,nm,cm,ao,no,co,rfl⟩:=hv.shape
 obtain⟨b',am',nm',cm',ao',no',co',rfl⟩:=hu.shape
 clear hv hu fp fq
 obtain⟨W1,hW1,K1⟩:=kn3 w #[.bool b,.slice am nm cm,.bool false,.slice ao no co] 123 #[.bool b',.slice am' nm' cm',.bool false,.slice ao' no' co'] 123 #[.bool false,.slice none 0 0,.bool false,.slice none 0 0] 123
 have c0:=rowG (g0:=w.heap.size+1+1) K1.out.2.1 0
 have c1:=rowG (g0:=w.heap.size+1+1) K1.out.2.1 1
 have c2:=rowG (g0:=w.heap.size+1+1) K1.out.2.1 2
 have c3:=rowG (g0:=w.heap.size+1+1) K1.out.2.1 3
 have d0:=rowG (g0:=w.heap.size+1+1) K1.out.2.2.1 0
 have d1:=rowG (g0:=w.heap.size+1+1) K1.out.2.2.1 1
 have d2:=rowG (g0:=w.heap.size+1+1) K1.out.2.2.1 2
 have d3:=rowG (g0:=w.heap.size+1+1) K1.out.2.2.1 3
 go_enter Tryz.func79,Tryz.ntmps79
 go_wp2_with fail
 rw [←hW1]
 clear hW1
 refine wp_region_held_drew (S:=fun W=>W1.grownBy W (some (w.heap.size+1+1))) (by kernel_rfl) (qbR (qb3 _ _) qB.drew) (fun hS0=>?_)
 refine hT 0 (h:=hT 1 (h:=?_))
 refine hC 2 (H1.out _ K1.out.1.drew) (h:=?_)
 rintro e w2 ⟨x,rfl,hb,hx⟩
 obtain⟨bx,ax,nx,cx,ax',nx',cx',rfl⟩:=hx.shape
 have K2:=K1.ond (q:=fun W=>qbK W _ _) hb hx
 have hS2:=qbR hS0 hb
 refine⟨_,rfl,hS2,hN (h:=?_)⟩
 refine hC 3 (H2.out _ _ K2.out.1.1 K2.out.2) (h:=?_)
 rintro e w5 ⟨z,rfl,hb,hz,hh⟩
 obtain⟨bz,az,nz,cz,az',nz',cz',rfl⟩:=hz.shape
 have K5:=K2.on (q:=fun W=>qbK W _ _) hb hz
 have hS5:=qbR hS2 hb
 refine⟨_,rfl,hS5,hN (h:=?_)⟩
 refine hSt 4 4 K5.out.1.1.2.2.2 (h:=⟨qbL hS5 (qb9 _ _ _),?_⟩)
 go_wp2_with fail
 exact bodyPost_ret (v:=.agg #[.bool bz,.slice az nz cz,.bool false,.slice az' nz' cz']) (qbN rfl _ _ (w.heap.size+1+1) 123 _ _ rfl (setRow_heap _ _ _ _ _ _ K5.out.1.1.2.2.2) Tryz.underlying123 rfl 4 (by kernel_rfl) rfl) rfl ⟨_,rfl,below_setRow K5.out.1.1.1 (by omega) _,qco hz K5.out.1.1.2.2.2 (nd4 _ _ _ _ _ _ _ _),hh.mono K2.out.1.1.size⟩
end Go.Proofs.YtfminfgabiipjaaGreatDoor.p4
