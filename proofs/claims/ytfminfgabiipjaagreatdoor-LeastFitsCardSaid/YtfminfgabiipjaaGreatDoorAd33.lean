/- Ad, part 33: Ro -/
import Derived.Deep.Cut
import Derived.Test.YtfminfgabiipjaaGreatDoorAd0
import Derived.Test.YtfminfgabiipjaaGreatDoorAd20
import Derived.Test.YtfminfgabiipjaaGreatDoorAd32
set_option maxRecDepth 100000
set_option maxHeartbeats 16000000
namespace Go.Proofs.YtfminfgabiipjaaGreatDoor.p4
open Go.RowKit
def qbK (W:World) (v:Value) (q:Rat):Prop:=∃m o,v=.agg #[.bool (decide (q.num<0)),m,.bool false,o]∧MagAt W m q.num.natAbs∧MagAt W o q.den
theorem qbK.below {W W':World} {v:Value} {q:Rat} (h:qbK W v q) (hb:Below W.heap.size W W'):qbK W' v q:=by
 obtain⟨m,o,h1,h2,h3⟩:=h
 exact⟨m,o,h1,h2.below hb,h3.below hb⟩
theorem qbK.shape {W:World} {v:Value} {q:Rat} (h:qbK W v q):∃(b:Bool) (a:Option Addr) (n c:Nat) (a':Option Addr) (n' c':Nat),v=.agg #[.bool b,.slice a n c,.bool false,.slice a' n' c']:=by
 obtain⟨m,o,rfl,⟨am,bm,om,cm,n,M,rfl,_,_⟩,⟨ao,bo,oo,co,no,O,rfl,_,_⟩⟩:=h
 exact⟨_,am,n,cm,ao,no,co,rfl⟩
theorem qco {W:World} {v:Value} {q:Rat} {g:Nat} {cs cs':Array Value} {t:TypeId} {fz:Nat×Nat} (h:qbK W v q) (hg:W.heap[g]? = some (.cells cs t fz)) (hne:∀x∈cs.toList,∀d,x≠.int .i64 d):qbK (W.setRow g cs') v q:=by
 obtain⟨m,o,h1,h2,h3⟩:=h
 exact⟨m,o,h1,qc6 h2 hg hne,qc6 h3 hg hne⟩
theorem hir_of {B:Nat} {b x b' y:Value} (h1:HiS B x) (h2:HiS B y):HiR B (.agg #[b,x,b',y]):=fun _ _ _ _ e=>by
 simp only [qaQ,qaP,qaI,and_true] at e
 rw [←e.2.1,←e.2.2.2];exact⟨h1,h2⟩
theorem qgP {W:World} {b b':Bool} {m o:Value} {q:Rat} {x y:Int} (hx:qbP W (.agg #[.bool b,m]) x) (hy:qbP W (.agg #[.bool b',o]) y) (h1:x=q.num) (h2:y=(q.den:Int)):qbK W (.agg #[.bool b,m,.bool b',o]) q:=by
 obtain⟨m',e1,hm⟩:=hx
 obtain⟨o',e2,ho⟩:=hy
 simp only [qaQ,qaP,qaI,qbz,and_true] at e1 e2
 obtain⟨rfl,rfl⟩:=e1
 obtain⟨rfl,rfl⟩:=e2
 subst h1 h2
 refine⟨m,o,?_,hm,by simpa using ho⟩
 rw [decide_eq_false (show ¬(q.den:Int)<0 by omega)]
theorem low_num (n d:Int) (hd:0<d):(if n<0 then -((n.natAbs / (n.natAbs.gcd d.natAbs:Nat):Nat):Int) else ((n.natAbs / (n.natAbs.gcd d.natAbs:Nat):Nat):Int))=(Rat.divInt n d).num∧((d.natAbs / (n.natAbs.gcd d.natAbs:Nat):Nat):Int)=((Rat.divInt n d).den:Int):=by
 obtain⟨h1,h2⟩:=qgO n d (by omega)
 rw [h1,h2,decide_eq_false (show ¬d<0 by omega)]
 refine⟨?_,rfl⟩
 by_cases h:n<0
 ·rw [if_pos h,decide_eq_true h];rfl
 ·rw [if_neg h,decide_eq_false h];rfl
def LowSt (w:World) (q:Rat) (K:Nat) (W:World) (b0:Bool) (am:Option Addr) (nm cm:Nat) (ao:Option Addr) (no co:Nat):Prop :=
 (∃n d:Int,0<d∧Rat.divInt n d=q∧Fit n.natAbs K∧Fit d.natAbs K∧qbP W (.agg #[.bool b0,.slice am nm cm]) n∧qbP W (.agg #[.bool false,.slice ao no co]) d) ∧
 Below w.heap.size w W∧W.heap[w.heap.size]? = some (.cells #[.bool b0,.slice am nm cm] 121 (0,0))∧W.heap[w.heap.size+1]? = some (.cells #[.bool false,.slice ao no co] 121 (0,0)) ∧
  W.heap[w.heap.size+1+1]? = some (.cells #[.bool false,.slice none 0 0,.bool false,.slice none 0 0] 123 (0,0))
theorem qez (n d:Int) (hd:d≠0) (K:Nat) (hK:K≤17592186000000) (v u:Value) (w:World) (hv:qbP w v n) (hu:qbP w u d) (fn:Fit n.natAbs K) (fd:Fit d.natAbs K) :
  Calls Tryz.prog 128 #[v,u] w fun e w'=>∃u,e=.returned u∧Below w.heap.size w w'∧qbK w' u (Rat.divInt n d)∧HiR w.heap.size u:=by
 obtain⟨q,hq⟩:∃q,Rat.divInt n d=q:=⟨_,rfl⟩
 rw [hq]
 have HTn:=qH fun (W:World) (h:Below w.heap.size w W)=>qhX n K (by omega) v W (hv.below h) fn
 have HTd:=qH fun (W:World) (h:Below w.heap.size w W)=>qhX d K (by omega) u W (hu.below h) fd
 have HF:=qH (qA fn (qA fd (qA hd (qA hq (qA hv hu)))))
 obtain⟨m,rfl,am,bm,om,cm,nm,M,rfl,_,_⟩:=hv
 obtain⟨o,rfl,ao,bo,oo,co,no,O,rfl,_,_⟩:=hu
 generalize hb0:decide (n<0)=b0 at *
 generalize hd0:decide (d<0)=bd at *
 have HB0:=qH (qA hb0 hd0)
 clear fn fd hb0 hd0 hq
 obtain⟨W1,hW1,K1⟩:=kn3 w #[.bool b0,.slice am nm cm] 121 #[.bool bd,.slice ao no co] 121 #[.bool false,.slice none 0 0,.bool false,.slice none 0 0] 123
 have k10:=cell_of_row W1 _ 0 _ _ _ K1.out.2.2.1
 go_enter Tryz.func128,Tryz.ntmps128
 go_upto_region 1 with fail
 rw [←hW1]
 clear hW1
 go_upto_if 11 with fail
 go_cut [12] from 12 (fun _ W=>∃b0 am nm cm ao no co,LowSt w q K W b0 am nm cm ao no co)
 case first =>
  have l2:=(qG K1.out.2.2.2).1
  cases bd
  rotate_left 1
  ·have hneg:d<0:=of_decide_eq_true HB0.out.2
   have c0:=rowC (B:=w.heap.size+1+1) K1.out.2.1 0
   have c1:=rowC (B:=w.heap.size+1+1) K1.out.2.1 1
   have c2:=rowC (B:=w.heap.size+1+1) K1.out.2.2.1 0
   have c3:=rowC (B:=w.heap.size+1+1) K1.out.2.2.1 1
   go_wp2_with fail
   refine wp_region_held_drew (S:=fun W=>Below w.heap.size W1 W) (by kernel_rfl) qB.drew (fun hS0=>?_)
   refine gr [(0,12),(1,13),(2,14),(3,15)] [(1,[0]),(3,[2])] [] [0,1,2,3] [] 4 6 (fl2 [(0,fun x _=>x=.agg #[.bool b0,.slice am nm cm]),(1,fun x W=>qbP W x (-n)),(2,fun x _=>x=.agg #[.bool true,.slice ao no co]),(3,fun x W=>qbP W x (-d))]) _ 2
    (hS:=fun w' h=>(qbU h).mono (by show _≤W1.heap.size;omega)) (hstep:=⟨⟨_,rfl,fun v w2 hb hF K hK=>?_⟩,⟨_,rfl,fun v w2 hb hF K hK=>?_⟩,⟨_,rfl,fun v w2 hb hF K hK=>?_⟩,⟨_,rfl,fun v w2 hb hF K hK=>?_⟩,trivial⟩) (hend:=fun v w2 hb hF _ f=>?_)
   ·have hb':Below (w.heap.size+1+1) W1 w2:=(qbU hb).mono (by show _≤W1.heap.size;omega)
    exact gV hK rfl
   ·have e0:v 0=_:=hF.1
    exact gC hK (HTn.out _ (K1.out.1.trans ((qbU hb).mono (by show _≤W1.heap.size;omega)))) (h:=fun e w3 ⟨u,e1,h1,h2⟩=>⟨u,e1,h2,h1⟩)
   ·have hb':Below (w.heap.size+1+1) W1 w2:=(qbU hb).mono (by show _≤W1.heap.size;omega)
    exact gV hK rfl
   ·have e0:v 2=_:=hF.1
    exact gC hK (HTd.out _ (K1.out.1.trans ((qbU hb).mono (by show _≤W1.heap.size;omega)))) (h:=fun e w3 ⟨u,e1,h1,h2⟩=>⟨u,e1,h2,h1⟩)
   have p1:qbP w2 (v 1) (-n):=hF 1 (by decide) (by decide)
   have p3:qbP w2 (v 3) (-d):=hF 3 (by decide) (by decide)
   obtain⟨b1,a1,n1,c1,e1⟩:=p1.shape
   obtain⟨b3,a3,n3,c3,e3⟩:=p3.shape
   have K2:=K1.below (qbU hb)
   have r1:=(setRow_other w2 w.heap.size (w.heap.size+1) #[.bool b1,.slice a1 n1 c1] (by omega)).trans K2.out.2.2.1
   refine hSn 4 2 K2.out.2.1 (hy:=by exact e1) (h:=⟨below_setRow ((qbU hb).mono (by show _≤W1.heap.size;omega)) qN _,?_⟩)
   refine hSt 5 2 r1 (hy:=by exact e3) (h:=⟨below_setRow (below_setRow ((qbU hb).mono (by show _≤W1.heap.size;omega)) qN _) (by omega) _,?_⟩)
   go_wp2_with fail
   go_meet
   have hb3:b3=false:=by
    obtain⟨m,h,_⟩:=p3
    rw [e3] at h
    simp only [qaQ,qaP,qaI,qbz] at h
    rw [h.1];exact decide_eq_false (by omega)
   subst hb3
   rw [e1] at p1
   rw [e3] at p3
   exact⟨b1,a1,n1,c1,a3,n3,c3,⟨-n,-d,by omega,by rw [←HF.out.2.2.2.1];exact Rat.neg_divInt_neg n d,by rw [qbg];exact HF.out.1,by rw [qbg];exact HF.out.2.1,qbV (qbV p1 K2.out.2.1 (nd2 _ _ _ _)) r1 (nd2 _ _ _ _),qbV (qbV p3 K2.out.2.1 (nd2 _ _ _ _)) r1 (nd2 _ _ _ _)⟩,
    below_setRow (below_setRow K2.out.1 qN _) (by omega) _,(setRow_other _ _ _ _ (by omega)).trans (setRow_heap _ _ _ _ _ _ K2.out.2.1),setRow_heap _ _ _ _ _ _ r1,(setRow_other _ _ _ _ (by omega)).trans ((setRow_other _ _ _ _ (by omega)).trans K2.out.2.2.2)⟩
  ·have hneg:¬d<0:=of_decide_eq_false HB0.out.2
   go_wp2_with fail
   go_meet
   exact⟨_,_,_,_,_,_,_,⟨n,d,by omega,HF.out.2.2.2.1,HF.out.1,HF.out.2.1,HF.out.2.2.2.2.1.below K1.out.1,HF.out.2.2.2.2.2.below K1.out.1⟩,K1.out⟩
 case rest =>
  clear HTn HTd HF HB0 K1 k10 hd
  obtain⟨b0,am,nm,cm,ao,no,co,⟨n,d,hd,hq,fn,fd,hv,hu⟩,hb,r0,r1,r2⟩:=hcut
  obtain⟨l1,l2⟩:=low_num n d hd
  obtain⟨G,hG⟩:∃G,n.natAbs.gcd d.natAbs=G:=⟨_,rfl⟩
  have hG0:0<G:=by rw [←hG];exact Nat.gcd_pos_of_pos_right _ (by omega)
  have hGf:Fit G K:=fd.le (by rw [←hG];exact Nat.gcd_le_right _ (by omega))
  have hGn:n.natAbs % G=0:=by rw [←hG];exact Nat.mod_eq_zero_of_dvd (Nat.gcd_dvd_left _ _)
  have hGd:d.natAbs % G=0:=by rw [←hG];exact Nat.mod_eq_zero_of_dvd (Nat.gcd_dvd_right _ _)
  rw [hG,hq] at l1 l2
  have HG:=qH (fun (W:World) (h:Below wc.heap.size wc W)=>qgv n d K hK _ _ W (hv.below h) (hu.below h) fn fd)
  have HG':Hid (n.natAbs.gcd d.natAbs=G):=qH hG
  have HN:=qH (fun (W:World) (g:Value) (h:Below wc.heap.size wc W) (hg:qbP W g (G:Int))=>qgM n G K hK _ g W (hv.below h) hg fn (by simpa using hGf) (by omega) (by simpa using hGn))
  have HD:=qH (fun (W:World) (g:Value) (h:Below wc.heap.size wc W) (hg:qbP W g (G:Int))=>qgM d G K hK _ g W (hu.below h) hg fd (by simpa using hGf) (by omega) (by simpa using hGd))
  have HL:=qH (qA l1 (qA l2 hd))
  have HB:=qH hb
  have HR:=qH (qA (Below.refl wc.heap.size wc) (qA r0 (qA r1 r2)))
  clear l1 l2 hG hG0 hGf hGn hGd fn fd hv hu r0 r1 r2 hb hq
  go_wp2_with (first | ((with_reducible refine qbJ rfl 121 _ rfl (w.heap.size) ?_ 121 #[.bool b0,.slice am nm cm] _ HR.out.2.1 Tryz.underlying121 ?_ 2 ?_ ?_ ?_);(next=>rfl);(next=>rfl);(next=>kernel_rfl);(next=>rfl)) | ((with_reducible refine qbJ rfl 121 _ rfl (w.heap.size+1) ?_ 121 #[.bool false,.slice ao no co] _ HR.out.2.2.1 Tryz.underlying121 ?_ 2 ?_ ?_ ?_);(next=>rfl);(next=>rfl);(next=>kernel_rfl);(next=>rfl)))
  refine (HG.out _ qB).mono ?_
  rintro e w2 ⟨vg,rfl,hb2,hvg⟩
  rw [HG'.out] at hvg
  obtain⟨bg,ag,ng,cg,rfl⟩:=hvg.shape
  obtain⟨W2,hW2⟩:∃W2,W2=w2.alloc (.cells #[.bool bg,.slice ag ng cg] 121):=⟨_,rfl⟩
  have hb12:Below wc.heap.size wc W2:=hW2▸qbI hb2 qN
  have hvg2:qbP W2 (.agg #[.bool bg,.slice ag ng cg]) (G:Int):=hvg.below (hW2▸qbI qB qN)
  have row:∀(g:Nat) (o:Obj),wc.heap[g]? = some o→W2.heap[g]? = some o:=zkeep hb12
  have rg:W2.heap[w2.heap.size]? = some (.cells #[.bool bg,.slice ag ng cg] 121 (0,0)):=by rw [hW2];exact qM _ _ _ rfl
  have H2:=qH (qA (HR.out.1.trans (hb12.mono HR.out.1.size)) (qA (row _ _ HR.out.2.1) (qA (row _ _ HR.out.2.2.1) (qA (row _ _ HR.out.2.2.2) (qA rg hvg2)))))
  have HW2:=qH hW2
  clear hb2 hvg hb12 hvg2 row rg hW2
  have F0:=H2.out.2.1
  have Fg:=H2.out.2.2.2.2.1
  rw [HW2.out] at F0 Fg
  have H2a:=qH (qA F0 Fg)
  clear F0 Fg
  go_wp2_with (first | ((with_reducible refine qb1 rfl 121 _ _ rfl _ #[.bool bg,.slice ag ng cg] ?_ ?_ 2 ?_ ?_ ?_ ?_ ?_);(next=>rfl);(next=>rfl);(next=>kernel_rfl);(next=>rfl);(next=>rfl);(next=>rfl)) | ((with_reducible refine qbJ rfl 121 _ rfl (w.heap.size) ?_ 121 #[.bool b0,.slice am nm cm] _ H2a.out.1 Tryz.underlying121 ?_ 2 ?_ ?_ ?_);(next=>rfl);(next=>rfl);(next=>kernel_rfl);(next=>rfl)) | ((with_reducible refine qbJ rfl 121 _ rfl (w2.heap.size) ?_ 121 #[.bool bg,.slice ag ng cg] _ H2a.out.2 Tryz.underlying121 ?_ 2 ?_ ?_ ?_);(next=>rfl);(next=>rfl);(next=>kernel_rfl);(next=>rfl)))
  rw [←HW2.out]
  refine (HN.out _ _ H2.out.1 H2.out.2.2.2.2.2).mono ?_
  rintro e w4 ⟨p4,q4,rfl,hb4,hp4,hq4,hh4⟩
  obtain⟨bp4,ap4,np4,cp4,rfl⟩:=hp4.shape
  obtain⟨bq4,aq4,nq4,cq4,rfl⟩:=hq4.shape
  have H4h:=qH (hh4.mono (qai HB.out.size H2.out.1.size))
  clear hh4
  have hb14:Below wc.heap.size wc w4:=H2.out.1.trans (hb4.mono H2.out.1.size)
  have row4:∀(g:Nat) (o:Obj),W2.heap[g]? = some o→w4.heap[g]? = some o:=zkeep hb4
  have H4:=qH (qA hb14 (qA (row4 _ _ H2.out.2.2.1) (qA (row4 _ _ H2.out.2.2.2.1) (qA (row4 _ _ H2.out.2.2.2.2.1) (qA (H2.out.2.2.2.2.2.below hb4) (qA hp4 hq4))))))
  clear hb4 hp4 hq4 hb14 row4
  obtain⟨W5,hW5⟩:∃W5,W5=(w4.alloc (.cells #[.bool bp4,.slice ap4 np4 cp4] 121)).alloc (.cells #[.bool bq4,.slice aq4 nq4 cq4] 121):=⟨_,rfl⟩
  have hb45:Below w4.heap.size w4 W5:=hW5▸qbI (qbI qB qN) qN
  have row5:∀(g:Nat) (o:Obj),w4.heap[g]? = some o→W5.heap[g]? = some o:=zkeep hb45
  have rp:W5.heap[w4.heap.size]? = some (.cells #[.bool bp4,.slice ap4 np4 cp4] 121 (0,0)):=by rw [hW5,qL _ _ _ (by simp only [qab];omega)];exact qM _ _ _ rfl
  have H5:=qH (qA (H4.out.1.trans (hb45.mono H4.out.1.size)) (qA (row5 _ _ H4.out.2.1) (qA (row5 _ _ H4.out.2.2.1) (qA (row5 _ _ H4.out.2.2.2.1) (qA (H4.out.2.2.2.2.1.below hb45) (qA rp (H4.out.2.2.2.2.2.1.below hb45)))))))
  have F1:=H5.out.2.1
  have Fg:=H5.out.2.2.2.1
  rw [hW5] at F1 Fg
  have H5a:=qH (qA F1 Fg)
  have HW5:=qH hW5
  clear hb45 row5 rp F1 Fg hW5
  go_wp2_with (first | ((with_reducible refine qbJ rfl 121 _ rfl (w.heap.size+1) ?_ 121 #[.bool false,.slice ao no co] _ H5a.out.1 Tryz.underlying121 ?_ 2 ?_ ?_ ?_);(next=>rfl);(next=>rfl);(next=>kernel_rfl);(next=>rfl)) | ((with_reducible refine qbJ rfl 121 _ rfl (w2.heap.size) ?_ 121 #[.bool bg,.slice ag ng cg] _ H5a.out.2 Tryz.underlying121 ?_ 2 ?_ ?_ ?_);(next=>rfl);(next=>rfl);(next=>kernel_rfl);(next=>rfl)))
  rw [←HW5.out]
  refine (HD.out _ _ H5.out.1 H5.out.2.2.2.2.1).mono ?_
  rintro e w6 ⟨p6,q6,rfl,hb6,hp6,hq6,hh6⟩
  obtain⟨bp6,ap6,np6,cp6,rfl⟩:=hp6.shape
  obtain⟨bq6,aq6,nq6,cq6,rfl⟩:=hq6.shape
  have H6h:=qH (hh6.mono (qai HB.out.size H5.out.1.size))
  clear hh6
  obtain⟨W7,hW7⟩:∃W7,W7=(w6.alloc (.cells #[.bool bp6,.slice ap6 np6 cp6] 121)).alloc (.cells #[.bool bq6,.slice aq6 nq6 cq6] 121):=⟨_,rfl⟩
  have hb67:Below w6.heap.size w6 W7:=hW7▸qbI (qbI qB qN) qN
  have hb57:Below W5.heap.size W5 W7:=hb6.trans (hb67.mono hb6.size)
  have row7:∀(g:Nat) (o:Obj),W5.heap[g]? = some o→W7.heap[g]? = some o:=zkeep hb57
  have rp6:W7.heap[w6.heap.size]? = some (.cells #[.bool bp6,.slice ap6 np6 cp6] 121 (0,0)):=by rw [hW7,qL _ _ _ (by simp only [qab];omega)];exact qM _ _ _ rfl
  have hbw:Below w.heap.size w W7:=HB.out.trans ((H5.out.1.trans (hb57.mono H5.out.1.size)).mono HB.out.size)
  have rr:=row7 _ _ H5.out.2.2.1
  have hq:=qgP (q:=q) (H5.out.2.2.2.2.2.2.below hb57) (hp6.below hb67) HL.out.1 (by rw [if_neg (show ¬d<0 by have:=HL.out.2.2;omega),qax];exact HL.out.2.1)
  have hbq6:bp6=false:=by
   obtain⟨m6,o6,h6,_⟩:=hq
   simp only [qaQ,qaP,qaI,qbz] at h6
   exact h6.2.2.1
  subst hbq6
  have hqs:=qco (cs':=#[.bool bp4,.slice ap4 np4 cp4,.bool false,.slice ap6 np6 cp6]) hq rr (nd4 _ _ _ _ _ _ _ _)
  have G0:=row7 _ _ H5.out.2.2.2.2.2.1
  have G1:=rp6
  have G2:=rr
  rw [hW7] at G0 G1 G2
  have H7:=qH (qA G0 (qA G1 (qA G2 (qA rr (qA hqs (below_setRow hbw (show w.heap.size≤w.heap.size+1+1 by omega) #[.bool bp4,.slice ap4 np4 cp4,.bool false,.slice ap6 np6 cp6]))))))
  have HW7:=qH hW7
  clear hb6 hp6 hq6 hb67 hb57 row7 rp6 hbw rr hq hqs G0 G1 G2 hW7
  go_wp2_with (first | ((with_reducible refine qbJ rfl 121 _ rfl (w4.heap.size) ?_ 121 #[.bool bp4,.slice ap4 np4 cp4] _ H7.out.1 Tryz.underlying121 ?_ 2 ?_ ?_ ?_);(next=>rfl);(next=>rfl);(next=>kernel_rfl);(next=>rfl)) | ((with_reducible refine qbJ rfl 121 _ rfl (w6.heap.size) ?_ 121 #[.bool false,.slice ap6 np6 cp6] _ H7.out.2.1 Tryz.underlying121 ?_ 2 ?_ ?_ ?_);(next=>rfl);(next=>rfl);(next=>kernel_rfl);(next=>rfl)) | ((with_reducible refine wpList_store_row rfl 123 _ _ rfl (w.heap.size+1+1) #[.bool bp4,.slice ap4 np4 cp4,.bool false,.slice ap6 np6 cp6] ?_ ?_ 123 _ H7.out.2.2.1 4 ?_ ?_ ?_ ?_ ?_);(next=>rfl);(next=>rfl);(next=>kernel_rfl);(next=>rfl);(next=>rfl);(next=>rfl)))
  rw [←HW7.out]
  exact bodyPost_ret (v:=.agg #[.bool bp4,.slice ap4 np4 cp4,.bool false,.slice ap6 np6 cp6]) (qbN rfl _ _ (w.heap.size+1+1) 123 _ _ rfl (setRow_heap _ _ _ _ _ _ H7.out.2.2.2.1) Tryz.underlying123 rfl 4 (by kernel_rfl) rfl) rfl ⟨_,rfl,H7.out.2.2.2.2.2,H7.out.2.2.2.2.1,hir_of (H4h.out _ _ rfl) (H6h.out _ _ rfl)⟩
theorem qfo (n d:Int) (hn:-9223372036854775808≤n∧n≤9223372036854775807) (hd:0<d) (hd2:d≤9223372036854775807) (w:World) :
  Calls Tryz.prog 78 #[.int .i64 n,.int .i64 d] w fun e w'=>∃u,e=.returned u∧Below w.heap.size w w'∧qbK w' u (Rat.divInt n d):=by
 have f5:∀z:Int,-9223372036854775808≤z→z≤9223372036854775807→Fit z.natAbs 5:=fun z h1 h2=>by
  show z.natAbs<10000 ^ 5
  rw [show (10000:Nat) ^ 5=100000000000000000000 by decide];omega
 have HN:=qH (fun (W:World)=>qgC n hn W)
 have HD:=qH (fun (W:World)=>qgC d ⟨by omega,hd2⟩ W)
 have HL:=qH (fun (W:World) (v u:Value) (hv:qbP W v n) (hu:qbP W u d)=>qez n d (by omega) 5 (by decide) v u W hv hu (f5 n hn.1 hn.2) (f5 d (by omega) hd2))
 obtain⟨W1,hW1⟩:∃W1,W1=w.alloc (.cells #[.bool false,.slice none 0 0,.bool false,.slice none 0 0] 123):=⟨_,rfl⟩
 have hb1:Below w.heap.size w W1:=hW1▸qbI qB qN
 have hr1:W1.heap[w.heap.size]? = some (.cells #[.bool false,.slice none 0 0,.bool false,.slice none 0 0] 123 (0,0)):=by rw [hW1];exact qM _ _ _ rfl
 have H1:=qH (qA hb1 hr1)
 clear f5 hb1 hr1
 go_enter Tryz.func78,Tryz.ntmps78
 go_wp2_with fail
 rw [←hW1]
 clear hW1
 refine (HN.out _).mono ?_
 rintro e w2 ⟨v2,rfl,hb2,hv2⟩
 have H2:=qH (qA (H1.out.1.trans (hb2.mono H1.out.1.size)) (qA (zkeep hb2 _ _ H1.out.2) hv2))
 obtain⟨bv2,av2,nv2,cv2,rfl⟩:=hv2.shape
 clear hb2 hv2
 go_wp2_with fail
 refine (HD.out _).mono ?_
 rintro e w3 ⟨v3,rfl,hb3,hv3⟩
 have H3:=qH (qA (H2.out.1.trans (hb3.mono H2.out.1.size)) (qA (zkeep hb3 _ _ H2.out.2.1) (qA (H2.out.2.2.below hb3) hv3)))
 obtain⟨bv3,av3,nv3,cv3,rfl⟩:=hv3.shape
 clear hb3 hv3
 go_wp2_with fail
 refine (HL.out _ _ _ H3.out.2.2.1 H3.out.2.2.2).mono ?_
 rintro e w4 ⟨v4,rfl,hb4,hv4,_⟩
 obtain⟨b4,a4,n4,c4,a5,n5,c5,rfl⟩:=hv4.shape
 have rr:=zkeep hb4 _ _ H3.out.2.1
 have hbw:=H3.out.1.trans (hb4.mono H3.out.1.size)
 have hqs:=qco (cs':=#[.bool b4,.slice a4 n4 c4,.bool false,.slice a5 n5 c5]) hv4 rr (nd4 _ _ _ _ _ _ _ _)
 have H4:=qH (qA rr (qA hqs (below_setRow hbw qN #[.bool b4,.slice a4 n4 c4,.bool false,.slice a5 n5 c5])))
 clear hb4 hv4 rr hbw hqs
 go_wp2_with ((with_reducible refine wpList_store_row rfl 123 _ _ rfl (w.heap.size) #[.bool b4,.slice a4 n4 c4,.bool false,.slice a5 n5 c5] ?_ ?_ 123 _ H4.out.1 4 ?_ ?_ ?_ ?_ ?_);(next=>rfl);(next=>rfl);(next=>kernel_rfl);(next=>rfl);(next=>rfl);(next=>rfl))
 exact bodyPost_ret (v:=.agg #[.bool b4,.slice a4 n4 c4,.bool false,.slice a5 n5 c5]) (qbN rfl _ _ (w.heap.size) 123 _ _ rfl (setRow_heap _ _ _ _ _ _ H4.out.1) Tryz.underlying123 rfl 4 (by kernel_rfl) rfl) rfl ⟨_,rfl,H4.out.2.2,H4.out.2.1⟩
end Go.Proofs.YtfminfgabiipjaaGreatDoor.p4
