/- Ad, part 47: Cx Cy Sk -/
import Derived.Test.YtfminfgabiipjaaGreatDoorAd0
import Derived.Test.YtfminfgabiipjaaGreatDoorAd46
set_option maxRecDepth 100000
set_option maxHeartbeats 16000000
namespace Go.Proofs.YtfminfgabiipjaaGreatDoor
open Go.RowKit
def qeP (W:World) (B k:Nat) (t:Tbl) (vs:List Value):Prop:=vs.length=k∧∀j,j<k→∃(ra:Option Addr) (rb ro rc:Nat),vs.getD j undef=.slice ra ((t.getD j []).take 4).length rc∧((t.getD j []).take 4).length≤rc∧FCells W ra rb ro ((t.getD j []).take 4)∧(0<((t.getD j []).take 4).length→rb<B)
theorem FCells.low {W W':World} {ao:Option Addr} {b off B:Nat} {l:List FT} (h:FCells W ao b off l) (hb:0<l.length→b<B) (hB:Below B W W'):FCells W' ao b off l :=
 ⟨h.addr,fun k hk=>⟨(hB.cell (p:=⟨b,off+k*2,none⟩) (hb (by omega))).trans (h.cell k hk).1,(hB.cell (p:=⟨b,off+k*2+1,none⟩) (hb (by omega))).trans (h.cell k hk).2⟩⟩
theorem qeP.map {W W':World} {B k:Nat} {t:Tbl} {vs:List Value} (h:qeP W B k t vs) (hb:Below B W W'):qeP W' B k t vs :=
 ⟨h.1,fun j hj=>by
  obtain⟨ra,rb,ro,rc,h1,h2,h3,h4⟩:=h.2 j hj
  exact⟨ra,rb,ro,rc,h1,h2,h3.low h4 hb,h4⟩⟩
theorem qeP.next {W:World} {B k rb ro rc:Nat} {t:Tbl} {vs:List Value} {ra:Option Addr} (h:qeP W B k t vs) (h1:((t.getD k []).take 4).length≤rc) (h2:FCells W ra rb ro ((t.getD k []).take 4)) (h3:0<((t.getD k []).take 4).length→rb<B):qeP W B (k+1) t (vs++[.slice ra ((t.getD k []).take 4).length rc]):=by
 refine⟨by rw [qag,h.1];rfl,fun j hj=>?_⟩
 by_cases e:j=k
 ·subst e
  refine⟨ra,rb,ro,rc,?_,h1,h2,h3⟩
  rw [qaa,qas (by rw [h.1];exact qae _),h.1,qaH]
  rfl
 ·obtain⟨ra',rb',ro',rc',h4,h5⟩:=h.2 j (by omega)
  refine⟨ra',rb',ro',rc',?_,h5⟩
  rw [qaa,qaB (by rw [h.1];omega),←qaa]
  exact h4
theorem FCells.take {W:World} {ao:Option Addr} {b off:Nat} {l:List FT} (h:FCells W ao b off l) (m:Nat):FCells W ao b off (l.take m) :=
 ⟨fun h0=>h.addr (by rw [qao] at h0;omega),fun k hk=>by
  obtain⟨h1,h2⟩:=take_at (d:=fd0) k hk
  rw [h2]
  exact h.cell k h1⟩
theorem FCells.keepS {W W':World} {a:Option Addr} {b off g:Nat} {l:List FT} {cs:Array Value} {ty:TypeId} (h:FCells W a b off l) (hk:W.grownBy W' (some g)) (hg:W.heap[g]? = some (.cells cs ty (0,0))) (hs:∀y∈cs.toList,∃a n c,y=.slice a n c):FCells W' a b off l:=by
 refine⟨h.addr,fun k hk'=>?_⟩
 obtain⟨h1,h2⟩:=h.cell k hk'
 have hne:some b≠some g:=fun e=>by
  have:=qah e
  subst this
  rw [cell_of_row _ _ _ _ _ _ hg] at h1
  obtain⟨_,_,_,e⟩:=hs _ (qbe ((Array.getElem?_toList ..).trans h1))
  cases e
 exact⟨hk.cell h1 hne,hk.cell h2 hne⟩
theorem TabAt.keepT {W W':World} {a:Option Addr} {b off g:Nat} {t:Tbl} {cs:Array Value} {ty:TypeId} (h:TabAt W a b off t) (hb:0<t.length→b≠g) (hk:W.grownBy W' (some g)) (hg:W.heap[g]? = some (.cells cs ty (0,0))) (hs:∀y∈cs.toList,∃a n c,y=.slice a n c):TabAt W' a b off t:=by
 have hne:∀k,k<t.length→some b≠some g:=fun k hk' e=>hb (by omega) (qah e)
 refine⟨⟨h.tc.addr,fun k hk'=>?_⟩,fun k hk'=>?_⟩
 ·obtain⟨ra,rb,ro,rc,h1,h2⟩:=h.tc.row k hk'
  exact⟨ra,rb,ro,rc,hk.cell h1 (hne k hk'),h2.keepS hk hg hs⟩
 ·obtain⟨ra,rc,h1,h2⟩:=h.cap k hk'
  exact⟨ra,rc,hk.cell h1 (hne k hk'),h2⟩
theorem RawAt.keepT {W W':World} {B g:Nat} {z0 z1 z2 z3:Value} {t:Tbl} {l u x:List FT} {vs:List Value} {cs:Array Value} (h:RawAt W (.agg #[z0,z1,z2,z3]) t l u x) (hr:Rws W B 23 1 z0 t.length vs) (hk:W.grownBy W' (some g)) (hg:W.heap[g]? = some (.cells cs 25 (0,0))) (hs:∀y∈cs.toList,∃a n c,y=.slice a n c):RawAt W' (.agg #[z0,z1,z2,z3]) t l u x:=by
 obtain⟨a,b,off,c,a1,b1,o1,c1,a2,b2,o2,c2,a3,b3,o3,c3,e,hc,hT,h1,h2,h3⟩:=h
 refine⟨a,b,off,c,a1,b1,o1,c1,a2,b2,o2,c2,a3,b3,o3,c3,e,hc,hT.keepT (fun h0 e2=>?_) hk hg hs,h1.keepS hk hg hs,h2.keepS hk hg hs,h3.keepS hk hg hs⟩
 simp only [qaQ,qaP,qaI] at e
 have ea:=hT.tc.addr h0
 rcases hr.neT hg (by decide) with h | h
 ·rw [e.1,ea] at h;cases h
 ·rw [e.1,ea,←e2] at h;exact h rfl
structure FewSt (w:World) (G:Nat) (box:Array Value) (t:Tbl) (k:Nat) (y:Value) (vs:List Value) (W:World):Prop where
 old:Below w.heap.size w W
 box:W.heap[w.heap.size]? = some (.cells box 25 (0,0))
 res:W.heap[w.heap.size+1]? = some (.cells #[.slice none 0 0,.slice none 0 0,.slice none 0 0,.slice none 0 0] 25 (0,0))
 out:W.heap[G]? = some (.cells #[y,.slice none 0 0,.slice none 0 0,.slice none 0 0] 25 (0,0))
 rws:Rws W (G+1) 23 1 y k vs
 rows:qeP W w.heap.size k t vs
instance stays_few {w:World} {G:Nat} {box:Array Value} {t:Tbl} {k:Nat} {y:Value} {vs:List Value}:Stays (FewSt w G box t k y vs) :=
 ⟨fun h hb=>⟨h.old.trans (hb.mono h.old.size),zkeep hb _ _ h.box,zkeep hb _ _ h.res,zkeep hb _ _ h.out,h.rws.below hb,h.rows.map (hb.mono h.old.size)⟩⟩
theorem FewSt.put {w w3 w4:World} {G:Nat} {box:Array Value} {t:Tbl} {k rb ro rc:Nat} {y v':Value} {vs:List Value} {ra:Option Addr} (hG:w.heap.size+1<G) (h:FewSt w G box t k y vs w3) (h1:Rws w4 (G+1) 23 1 v' (k+1) (vs++[.slice ra ((t.getD k []).take 4).length rc])) (h2:w3.grownBy w4 y.ownBlock)
  (hr1:((t.getD k []).take 4).length≤rc) (hr2:FCells w3 ra rb ro ((t.getD k []).take 4)) (hr3:0<((t.getD k []).take 4).length→rb<w.heap.size) :
  (w4.cell? ⟨G,0,none⟩=some y∧w4.frozen? ⟨G,0,none⟩=false)∧FewSt w G box t (k+1) v' (vs++[.slice ra ((t.getD k []).take 4).length rc]) (w4.setCell ⟨G,0,none⟩ v'):=by
 have hl3:=(qG h.out).1
 have own:∀g,g<G+1→w4.heap[g]? = w3.heap[g]?:=fun g hg=>h2.block g (by omega) (fun e=>by have:=(h.rws.lt g e.symm).1;omega)
 have r0:=(own _ (by omega)).trans h.box
 have r1:=(own _ (by omega)).trans h.res
 have r2:=(own _ (by omega)).trans h.out
 have k0:w4.grownBy (w4.setCell ⟨G,0,none⟩ v') (some G):=least.qbO _ _ _ _
 have hb3:Below w.heap.size w3 (w4.setCell ⟨G,0,none⟩ v'):=(h.rws.old h2 ((Below.refl w3.heap.size w3).mono h.old.size) (by omega) (by omega)).setCell (by show w.heap.size≤G;omega) _
 refine⟨⟨cell_of_row _ _ 0 _ _ _ r2,frozen_of_row _ _ _ _ _ r2⟩,⟨(h.rws.old h2 h.old (by omega) (by omega)).setCell (by show w.heap.size≤G;omega) _,(heap_setCell_other _ _ _ _ (by show w.heap.size≠G;omega)).trans r0,(heap_setCell_other _ _ _ _ (by show w.heap.size+1≠G;omega)).trans r1,(heap_setCell_same _ _ 0 _ _ v' r2).trans (by rfl),h1.kept k0 (h1.neT r2 (by decide)),?_⟩⟩
 exact (h.rows.map hb3).next hr1 (hr2.low hr3 hb3) hr3
theorem qla (v:Value) (t:Tbl) (l u x:List FT) (w:World) (hv:RawAt w v t l u x) (hc:Cut t l u x) :
  Calls Tryz.prog 14 #[v] w fun e w'=>∃r t' l' u' x',e=.returned r∧RawAt w' r t' l' u' x'∧Cut t' l' u' x'∧Below w.heap.size w w' ∧
   ((r=v∧t'=t∧l'=l∧u'=u∧x'=x)∨∃(B:Nat) (vs:List Value) (z0 z1 z2 z3:Value),r=.agg #[z0,z1,z2,z3]∧Rws w' B 23 1 z0 t'.length vs):=by
 have HV:=qH (qA hv hc)
 obtain⟨a,b,off,c,a1,b1,o1,c1,a2,b2,o2,c2,a3,b3,o3,c3,rfl,⟨hc0,hc1,hc2,hc3⟩,hT,h1,h2,h3⟩:=hv
 obtain⟨M,hM⟩:∃M,min t.length 6=M:=⟨_,rfl⟩
 have hMi:min (t.length:Int) 6=(M:Int):=by omega
 have hMc:(M:Int)≤(c:Int):=by omega
 have hM0:(0:Int)≤(M:Int):=by omega
 have hM1:M≤6:=by omega
 obtain⟨M1,hN1⟩:∃M,min l.length 6=M:=⟨_,rfl⟩
 obtain⟨M2,hN2⟩:∃M,min u.length 6=M:=⟨_,rfl⟩
 obtain⟨M3,hN3⟩:∃M,min x.length 4=M:=⟨_,rfl⟩
 have i1:min (l.length:Int) 6=(M1:Int)∧(0:Int)≤(M1:Int)∧(M1:Int)≤(c1:Int):=by omega
 have i2:min (u.length:Int) 6=(M2:Int)∧(0:Int)≤(M2:Int)∧(M2:Int)≤(c2:Int):=by omega
 have i3:min (x.length:Int) 4=(M3:Int)∧(0:Int)≤(M3:Int)∧(M3:Int)≤(c3:Int):=by omega
 obtain⟨i1,j1,k1⟩:=i1
 obtain⟨i2,j2,k2⟩:=i2
 obtain⟨i3,j3,k3⟩:=i3
 have HR:=qH (fun (W:World) (h:Below w.heap.size w W)=>p4.qdw a b off t.length c t W rfl (by have:=hc.t1;omega) (fun k hk=>by have:=(hc.t2 k hk).1;omega) (fun i k hk=>by
  by_cases hi:i<t.length
  ·have:=(hc.t2 i hi).2 k hk
   exact⟨by omega,by omega⟩
  ·rw [qaa,qa4 (by omega)] at hk
   exact absurd hk (by simp)) (hT.tc.below h))
 have HX:=qH (qA hT (qA h1 (qA h2 (qA h3 (qA hM (qA hN1 (qA hN2 hN3)))))))
 obtain⟨n,hn⟩:∃n,t.length=n:=⟨_,rfl⟩
 obtain⟨n1,hn1⟩:∃n,l.length=n:=⟨_,rfl⟩
 obtain⟨n2,hn2⟩:∃n,u.length=n:=⟨_,rfl⟩
 obtain⟨n3,hn3⟩:∃n,x.length=n:=⟨_,rfl⟩
 rw [hn] at hMi HR HV
 rw [hn1] at i1 HV
 rw [hn2] at i2 HV
 rw [hn3] at i3 HV
 rw [hn,hn1,hn2,hn3]
 have HN:=qH (qA hn (qA hn1 (qA hn2 hn3)))
 clear hT h1 h2 h3 hM hN1 hN2 hN3 hc0 hc1 hc2 hc3 hn hn1 hn2 hn3 hc
 obtain⟨W1,hW1,K1⟩:=p4.kn2 w #[.slice a n c,.slice a1 n1 c1,.slice a2 n2 c2,.slice a3 n3 c3] 25 #[.slice none 0 0,.slice none 0 0,.slice none 0 0,.slice none 0 0] 25
 have hs1:W1.heap.size=w.heap.size+1+1:=by rw [hW1];simp only [qab]
 have HS1:=qH hs1
 clear hs1
 go_enter Tryz.func14,Tryz.ntmps14
 go_upto_region 1 with fail
 rw [←hW1]
 clear hW1
 have c0:=cell_of_row W1 _ 0 _ _ _ K1.out.2.1
 go_wp2_with fail
 refine (HR.out _ K1.out.1).mono ?_
 rintro e w2 ⟨r,rfl,hr,hb⟩
 have K2:=K1.below hb
 have Hsz:=qH hb.size
 clear hb c0 K1
 cases r with
 | false =>
  have r0:=K2.out.2.1
  have r1:=K2.out.2.2
  go_wp2_with (first | ((with_reducible refine qbJ rfl 25 _ rfl (w.heap.size) ?_ 25 #[.slice a n c,.slice a1 n1 c1,.slice a2 n2 c2,.slice a3 n3 c3] _ r0 Tryz.underlying25 ?_ 4 ?_ ?_ ?_);(next=>rfl);(next=>rfl);(next=>kernel_rfl);(next=>rfl)) | ((with_reducible refine wpList_store_row rfl 25 _ _ rfl (w.heap.size+1) #[.slice a n c,.slice a1 n1 c1,.slice a2 n2 c2,.slice a3 n3 c3] ?_ ?_ 25 _ r1 4 ?_ ?_ ?_ ?_ ?_);(next=>rfl);(next=>rfl);(next=>kernel_rfl);(next=>rfl);(next=>rfl);(next=>rfl)) | fail)
  have hbf:=below_setRow K2.out.1 (show w.heap.size≤w.heap.size+1 by omega) #[.slice a n c,.slice a1 n1 c1,.slice a2 n2 c2,.slice a3 n3 c3]
  exact bodyPost_ret (v:=.agg #[.slice a n c,.slice a1 n1 c1,.slice a2 n2 c2,.slice a3 n3 c3]) (qbN rfl _ _ (w.heap.size+1) 25 _ _ rfl (setRow_heap _ _ _ _ _ _ r1) Tryz.underlying25 rfl 4 (by kernel_rfl) rfl) rfl ⟨_,t,l,u,x,rfl,HV.out.1.below hbf,HV.out.2,hbf,qau ⟨rfl,rfl,rfl,rfl,rfl⟩⟩
 | true =>
  have ht:=hr.1 (by first | exact rfl | trivial)
  have HT:=qH ht
  clear ht hr
  obtain⟨G,hG⟩:∃G,G=w2.heap.size:=⟨_,rfl⟩
  have hGl:w.heap.size+1<G:=by have:=Hsz.out;have:=HS1.out;omega
  obtain⟨W3,hW3⟩:∃W3,W3=w2.alloc (.cells #[.slice none 0 0,.slice none 0 0,.slice none 0 0,.slice none 0 0] 25):=⟨_,rfl⟩
  have K3:Kn (FewSt w G #[.slice a n c,.slice a1 n1 c1,.slice a2 n2 c2,.slice a3 n3 c3] t 0 (.slice none 0 0) []) W3:=by
   have hb3:Below w2.heap.size w2 W3:=hW3▸qbI qB qN
   have K4:=K2.below hb3
   exact .of ⟨K4.out.1,K4.out.2.1,K4.out.2.2,by rw [hW3,hG];exact heap_alloc_new w2 _,Rws.nil _ _ _ _,rfl,fun j hj=>absurd hj (by omega)⟩
  go_upto_region 4 with fail
  rw [←hG,←hW3]
  clear hW3 hG K2
  have c0:=cell_of_row W3 _ 0 _ _ _ K3.out.box
  go_wp2_with fail
  clear c0
  go_loopw [5,19] (fun _ x19 W=>∃(k:Nat) (y:Value) (vs:List Value),x19=.int .i64 k∧k≤M∧Kn (FewSt w G #[.slice a n c,.slice a1 n1 c1,.slice a2 n2 c2,.slice a3 n3 c3] t k y vs) W) (fun _ x19 _=>M-(intOf x19).toNat)
  case atStart=>exact⟨0,_,[],rfl,qam _,K3⟩
  case round =>
   obtain⟨k,y,vs,rfl,hk,K4⟩:=hrel
   by_cases hkn:k<M
   ·have hki:(k:Int)<M:=by omega
    have hkt:k<t.length:=by have:=HX.out.2.2.2.2.1;omega
    have har:=HX.out.1.tc.addr (by omega)
    subst har
    obtain⟨ra,rb,ro,rc,d0,hrc,hF⟩:=HX.out.1.row hkt
    have hlow:0<((t.getD k []).take 4).length→rb<w.heap.size:=fun h0=>by
     rw [qao] at h0
     exact qac w _ (hF.cell 0 (by omega)).1
    replace d0:=(K4.out.old.cell (qac w _ d0)).trans d0
    obtain⟨m,hm⟩:∃m,(t.getD k []).length=m:=⟨_,rfl⟩
    obtain⟨m4,hm4⟩:∃m4,((t.getD k []).take 4).length=m4:=⟨_,rfl⟩
    have hm4':min m 4=m4:=by rw [←hm4,qao,hm];exact Nat.min_comm _ _
    rw [hm] at d0 hrc
    have t1:min (m:Int) 4=(m4:Int):=by omega
    have t2:(0:Int)≤(m4:Int):=by omega
    have t3:(m4:Int)≤(rc:Int):=by omega
    have HF:=qH (qA (hF.take 4) (qA hlow (qA hm4 (show m4≤rc by omega))))
    clear hF hlow hm hm4 hm4' hrc hkt
    go_wp2_with fail
    refine wp_region_held_drew (S:=fun _=>True) (by kernel_rfl) trivial (fun hS0=>?_)
    refine hT 0 (h:=hT 2 (h:=hT 3 (h:=hT 4 (h:=hT 5 (h:=hT 6 (h:=?_))))))
    refine gr [(1,24),(7,30)] [] [0,2,3,4,5,6] [1,7] [] 8 11 (fl2 [(1,fun z _=>z=y),(7,fun z W=>∃g:Nat,W.heap[g]? = some (.cells #[.slice ra m4 rc] 23 (0,0))∧z=.slice (some ⟨g,0,none⟩) 1 1)]) _ 3
     (hS:=fun _ _=>trivial) (hstep:=⟨⟨_,rfl,fun v w3 hb hF K hK=>?_⟩,⟨_,rfl,fun v w3 hb hF K hK=>?_⟩,trivial⟩) (hend:=fun v w3 hb hF _ fu=>?_)
    ·have h0:=cell_of_row _ _ 0 _ _ _ (K4.below (qbU hb)).out.out
     exact gV hK rfl
    ·exact gW hK (h:=⟨⟨w3.heap.size,qM _ _ _ rfl,rfl⟩,qbI qB qN⟩)
    have e1:v 1=_:=hF 1 (by decide) (by decide)
    obtain⟨g4,hg4,e4⟩:∃g:Nat,_:=hF 7 (by decide) (by decide)
    have K5:=K4.below (qbU hb)
    obtain⟨v',w4,hr,h41,h42⟩:=qjQ 22 K5.out.rws (by have:=(qG K5.out.out).1;omega) hg4 (by omega)
    rw [e1,e4]
    refine hE 8 (he:=by exact qfN rfl rfl rfl rfl hr) (h:=⟨trivial,hN (h:=?_)⟩)
    obtain⟨a5,c5,rfl⟩:=h41.shape
    obtain⟨hce,K6⟩:=K5.out.put hGl (by rw [HF.out.2.2.1];exact h41) h42 (by rw [HF.out.2.2.1];exact HF.out.2.2.2) (HF.out.1.low HF.out.2.1 K5.out.old) HF.out.2.1
    obtain⟨hce,hfr⟩:=hce
    have K6:=Kn.of K6
    clear K5 h41 h42 hr e1 e4 hg4 hF hb K4
    refine hT 9 (hS:=trivial) (h:=?_)
    refine hSg 10 (h:=⟨trivial,?_⟩)
    refine wpAnyH_done (by kernel_rfl) ?_ _
    obtain⟨W5,hW5⟩:∃W5,W5=w4.setCell ⟨G,0,none⟩ (.slice a5 (k+1) c5):=⟨_,rfl⟩
    rw [←hW5] at K6 ⊢
    clear hW5 hce hfr d0
    go_wp2_with fail
    go_roundw
    case rel=>exact⟨k+1,_,_,by go_num,hkn,K6⟩
    case measure=>simp [intOf];omega
   ·obtain rfl:k=M:=by omega
    have q1:=rowG (g0:=G) K4.out.box 1
    have q2:=rowG (g0:=G) K4.out.box 2
    have q3:=rowG (g0:=G) K4.out.box 3
    obtain⟨ay,cy,rfl⟩:=K4.out.rws.shape
    go_wp2_with fail
    refine wp_region_held_drew (S:=fun W=>wr.grownBy W (some G)) (by kernel_rfl) (qbR (qb3 _ _) qB.drew) (fun hS0=>?_)
    refine hT 0 (h:=hT 1 (h:=hT 2 (h:=hT 3 (h:=hT 4 (h:=hT 5 (h:=hT 6 (h:=hT 7 (h:=hT 8 (h:=hT 9 (h:=hT 10 (h:=hT 11 (h:=hT 12 (h:=hT 13 (h:=hT 14 (h:=hT 15 (h:=hT 16 (h:=hT 17 (h:=hT 18 (h:=hT 19 (h:=hT 20 (h:=hT 21 (h:=?_))))))))))))))))))))))
    obtain⟨V,hV⟩:∃V,V=wr.drew:=⟨_,rfl⟩
    have K5:Kn _ V:=K4.below (hV▸qB.drew)
    rw [←hV] at hS0 ⊢
    clear hV K4 q1 q2 q3
    have r0:=K5.out.out
    have b1:=cell_of_row _ _ 1 _ _ _ r0
    have f1:=frozen_of_row _ _ 1 _ _ r0
    have hS2:=qbL hS0 (least.qbO V G 1 (.slice a1 M1 c1))
    refine hSg 22 (h:=⟨hS2,?_⟩)
    obtain⟨W5,hW5⟩:∃W5,W5=V.setCell ⟨G,1,none⟩ (.slice a1 M1 c1):=⟨_,rfl⟩
    have r5:W5.heap[G]? = some (.cells #[.slice ay k cy,.slice a1 M1 c1,.slice none 0 0,.slice none 0 0] 25 (0,0)):=hW5▸heap_setCell_same _ _ 1 _ _ _ r0
    rw [←hW5] at hS2 ⊢
    have k5:V.grownBy W5 (some G):=hW5▸least.qbO V G 1 (.slice a1 M1 c1)
    clear hW5 b1 f1
    have b2:=cell_of_row _ _ 2 _ _ _ r5
    have f2:=frozen_of_row _ _ 2 _ _ r5
    have hS3:=qbL hS2 (least.qbO W5 G 2 (.slice a2 M2 c2))
    refine hT 23 (h:=hSg 24 (h:=⟨hS3,?_⟩))
    obtain⟨W6,hW6⟩:∃W6,W6=W5.setCell ⟨G,2,none⟩ (.slice a2 M2 c2):=⟨_,rfl⟩
    have r6:W6.heap[G]? = some (.cells #[.slice ay k cy,.slice a1 M1 c1,.slice a2 M2 c2,.slice none 0 0] 25 (0,0)):=hW6▸heap_setCell_same _ _ 2 _ _ _ r5
    rw [←hW6] at hS3 ⊢
    have k6:V.grownBy W6 (some G):=qbL k5 (hW6▸least.qbO W5 G 2 (.slice a2 M2 c2))
    clear hW6 b2 f2 k5
    have b3:=cell_of_row _ _ 3 _ _ _ r6
    have f3:=frozen_of_row _ _ 3 _ _ r6
    have hS4:=qbL hS3 (least.qbO W6 G 3 (.slice a3 M3 c3))
    refine hT 25 (h:=hSg 26 (h:=⟨hS4,?_⟩))
    obtain⟨W7,hW7⟩:∃W7,W7=W6.setCell ⟨G,3,none⟩ (.slice a3 M3 c3):=⟨_,rfl⟩
    have r7:W7.heap[G]? = some (.cells #[.slice ay k cy,.slice a1 M1 c1,.slice a2 M2 c2,.slice a3 M3 c3] 25 (0,0)):=hW7▸heap_setCell_same _ _ 3 _ _ _ r6
    have k7:V.grownBy W7 (some G):=qbL k6 (hW7▸least.qbO W6 G 3 (.slice a3 M3 c3))
    rw [←hW7]
    clear hW7 b3 f3 k6 hS0 hS2 hS3 hS4
    refine wpAnyH_done (by kernel_rfl) ?_ _
    have hl3:=(qG r0).1
    have ks:∀g,g<w.heap.size+1+1→W7.heap[g]? = V.heap[g]?:=fun g hg=>k7.block g (by omega) (fun e=>by have:=qah e;omega)
    have r1:=(ks _ (by omega)).trans K5.out.res
    have hb7:Below w.heap.size w W7:=K5.out.old.trans ⟨k7.os,k7.tape,k7.output,k7.size,fun i hi=>ks i (by omega)⟩
    have hs7:W7.grownBy (W7.setRow (w.heap.size+1) #[.slice ay k cy,.slice a1 M1 c1,.slice a2 M2 c2,.slice a3 M3 c3]) (some (w.heap.size+1)):=qb9 _ _ _
    have hbf:=below_setRow hb7 (show w.heap.size≤w.heap.size+1 by omega) #[.slice ay k cy,.slice a1 M1 c1,.slice a2 M2 c2,.slice a3 M3 c3]
    have hrw:=K5.out.rws.kept k7 (K5.out.rws.neT r0 (by decide))
    replace hrw:=hrw.kept hs7 (hrw.neT r1 (by decide))
    have hcut:=HV.out.2.few
    have hlt:(fewT t).length=k:=by rw [qhz];exact HX.out.2.2.2.2.1
    have hl1:(l.take 6).length=M1:=by rw [qao,←HX.out.2.2.2.2.2.1];exact Nat.min_comm _ _
    have hl2:(u.take 6).length=M2:=by rw [qao,←HX.out.2.2.2.2.2.2.1];exact Nat.min_comm _ _
    have hl4:(x.take 4).length=M3:=by rw [qao,←HX.out.2.2.2.2.2.2.2];exact Nat.min_comm _ _
    obtain⟨q0,g0,p0,e0,hT0,m0⟩:=qhV (t:=fewT t) hrw hlt (fun j hj=>by
     obtain⟨qa,ga,oa,pa,ea,ma,hFa,hlo⟩:=K5.out.rows.2 j hj
     have eg:(fewT t).getD j []=(t.getD j []).take 4:=qjo (by have:=HX.out.2.2.2.2.1;omega)
     rw [eg]
     refine⟨qa,ga,oa,pa,ea,ma,hFa.low hlo ?_⟩
     exact below_setRow (⟨k7.os,k7.tape,k7.output,k7.size,fun i hi=>ks i (by omega)⟩:Below w.heap.size V W7) (show w.heap.size≤w.heap.size+1 by omega) _)
    have hfin:RawAt (W7.setRow (w.heap.size+1) #[.slice ay k cy,.slice a1 M1 c1,.slice a2 M2 c2,.slice a3 M3 c3]) (.agg #[.slice ay k cy,.slice a1 M1 c1,.slice a2 M2 c2,.slice a3 M3 c3]) (fewT t) (l.take 6) (u.take 6) (x.take 4) :=
     ⟨q0,g0,0,p0,a1,_,_,c1,a2,_,_,c2,a3,_,_,c3,by rw [hlt,hl1,hl2,hl4,e0],⟨by omega,by omega,by omega,by omega⟩,hT0,(HX.out.2.1.take 6).below hbf,(HX.out.2.2.1.take 6).below hbf,(HX.out.2.2.2.1.take 4).below hbf⟩
    have HFin:=qH (qA hfin (show Rws _ _ 23 1 (.slice ay k cy) (fewT t).length vs by rw [hlt];exact hrw))
    clear hfin hT0 e0 hlt hl1 hl2 hl4 k7 hs7 hrw K5 r0 r5 r6 hl3 ks
    go_wp2_with (first | ((with_reducible refine qbJ rfl 25 _ rfl (G) ?_ 25 #[.slice ay k cy,.slice a1 M1 c1,.slice a2 M2 c2,.slice a3 M3 c3] _ r7 Tryz.underlying25 ?_ 4 ?_ ?_ ?_);(next=>rfl);(next=>rfl);(next=>kernel_rfl);(next=>rfl)) | ((with_reducible refine wpList_store_row rfl 25 _ _ rfl (w.heap.size+1) #[.slice ay k cy,.slice a1 M1 c1,.slice a2 M2 c2,.slice a3 M3 c3] ?_ ?_ 25 _ r1 4 ?_ ?_ ?_ ?_ ?_);(next=>rfl);(next=>rfl);(next=>kernel_rfl);(next=>rfl);(next=>rfl);(next=>rfl)) | fail)
    exact bodyPost_ret (v:=.agg #[.slice ay k cy,.slice a1 M1 c1,.slice a2 M2 c2,.slice a3 M3 c3]) (qbN rfl _ _ (w.heap.size+1) 25 _ _ rfl (setRow_heap _ _ _ _ _ _ r1) Tryz.underlying25 rfl 4 (by kernel_rfl) rfl) rfl ⟨_,_,_,_,_,rfl,HFin.out.1,hcut,hbf,qaq ⟨_,vs,_,_,_,_,rfl,HFin.out.2⟩⟩
theorem same_tab (ao:Option Addr) (b off n c:Nat) (t:Tbl) (ao2:Option Addr) (b2 off2 c2:Nat) (w:World) (hn:t.length=n) (hn6:n≤1000) (hw:∀k,k<n→(t.getD k []).length≤1000) (hT:TCells w ao b off t) (hT2:TCells w ao2 b2 off2 t) :
  Calls Tryz.prog 21 #[.slice ao n c,.slice ao2 n c2] w fun e w'=>e=.returned (.bool true)∧Below w.heap.size w w':=by
 have HC:=qH (qA hn (qA hw (qA hT hT2)))
 clear hn hw hT hT2
 go_enter Tryz.func21,Tryz.ntmps21
 go_wp2_with fail
 go_loopw [5,13] (fun _ x13 W=>∃k:Nat,x13=.int .i64 k∧k≤n∧Hid (Below w.heap.size w W)) (fun _ x13 _=>n-(intOf x13).toNat)
 case atStart=>exact⟨0,rfl,qam _,qH qB⟩
 case round =>
  obtain⟨k,rfl,hk,hB⟩:=hrel
  by_cases hkn:k<n
  ·have hki:(k:Int)<n:=by omega
   have h1:=HC.out.2.2.1.addr (by rw [HC.out.1];omega)
   have h2:=HC.out.2.2.2.addr (by rw [HC.out.1];omega)
   subst h1 h2
   obtain⟨ra,rb,ro,rc,d0,hF⟩:=(HC.out.2.2.1.below hB.out).row k (by rw [HC.out.1];omega)
   obtain⟨ra2,rb2,ro2,rc2,d1,hF2⟩:=(HC.out.2.2.2.below hB.out).row k (by rw [HC.out.1];omega)
   obtain⟨m,hm⟩:∃m,(t.getD k []).length=m:=⟨_,rfl⟩
   have hm6:=HC.out.2.1 k hkn
   rw [hm] at d0 d1 hm6
   have HS:=qH (fun (W:World) (h:Below wr.heap.size wr W)=>qfs ra rb ro m rc (t.getD k []) ra2 rb2 ro2 m rc2 (t.getD k []) W hm (by omega) (hF.below h) hm (by omega) (hF2.below h))
   clear hF hF2 hm
   have p0:∀W,Below wr.heap.size wr W→W.cell? ⟨b,off+k,none⟩=some (.slice ra m rc):=fun W h=>(h.cell (qac wr _ d0)).trans d0
   have p1:∀W,Below wr.heap.size wr W→W.cell? ⟨b2,off2+k,none⟩=some (.slice ra2 m rc2):=fun W h=>(h.cell (qac wr _ d1)).trans d1
   clear d0 d1
   go_wp2_with fail
   refine wp_region_held_drew (S:=fun W=>Below wr.heap.size wr W) (by kernel_rfl) qB.drew (fun hS0=>?_)
   refine hT 0 (h:=hT 1 (h:=hT 2 (h:=hT 3 (h:=hT 4 (h:=hT 5 (h:=hT 6 (h:=hT 7 (h:=?_))))))))
   refine hC 8 (HS.out _ hS0) (h:=?_)
   rintro e w2 ⟨r,rfl,hr,hb⟩
   obtain rfl:r=true:=hr.2 rfl
   have HB:=qH (hB.out.trans ((qbU hb).mono hB.out.size))
   refine⟨_,rfl,qbU hb,hN (h:=?_)⟩
   refine hT 9 (hS:=qbU hb) (h:=?_)
   refine wpAnyH_done (by kernel_rfl) ?_ _
   clear hr hb p0 p1 hS0
   go_wp2_with fail
   go_roundw
   case rel=>exact⟨k+1,by go_num,hkn,HB⟩
   case measure=>simp [intOf];omega
  ·obtain rfl:k=n:=by omega
   go_wp2_with fail
   go_ret
   exact⟨rfl,hB.out⟩
def qkH (w:World) (n m:Nat) (f:Nat→Nat→Rat) (e:Ending) (w':World):Prop:=∃(ao:Option Addr) (g cap:Nat),e=.returned (.slice ao n cap)∧TabAt w' ao g 0 (ttab n m f)∧n≤cap∧Below w.heap.size w w'
theorem qjU (n m:Nat) (hn:n≤1000) (hm:m≤1000) (r c:Nat) (N:List Int) (D:List Nat) (v:Value) (w:World) (hv:qc2 w v r c N D) :
  Calls Tryz.prog 39 #[v,.int .i64 (n:Int),.int .i64 (m:Int)] w fun e w'=>qkH w n m (fun i j=>drq N D (5*i+j)) e w':=by
 refine (qky n m hn hm r c N D v w hv).mono ?_
 rintro e w' ⟨v',vs,B,rfl,_,hO,hD,hb⟩
 obtain⟨ao,g,cap,rfl,hT,hc⟩:=qhV (t:=ttab n m fun i j=>drq N D (5*i+j)) hO (qb8 _ _ _) (fun k hk=>by
  obtain⟨B',_,hB'⟩:=hD.2 k hk
  obtain⟨qa,ga,pa,ea,hFa,ma⟩:=qc5 hB' (qbQ _ _)
  rw [qeg hk,qbQ]
  exact⟨qa,ga,0,pa,ea,ma,hFa⟩)
 exact⟨ao,g,cap,rfl,hT,hc,hb⟩
theorem table_at (r c:Nat) (N:List Int) (D:List Nat) (v:Value) (w:World) (hv:qc2 w v r c N D) :
  Calls Tryz.prog 26 #[v] w fun e w'=>qkH w (1+r % 8) (1+c % 4) (fun i j=>drq N D (5*i+j)) e w':=by
 have hS:=fun (W:World) (h:Below w.heap.size w W)=>qjU (1+r % 8) (1+c % 4) (by omega) (by omega) r c N D v W (hv.below h)
 obtain⟨a,b,off,nn,cc,a',b',off',n',cc',rfl,hr,hc,_⟩:=hv
 obtain⟨r8,h8⟩:∃r8,r % 8=r8:=⟨_,rfl⟩
 obtain⟨c4,h4⟩:∃c4,c % 4=c4:=⟨_,rfl⟩
 obtain⟨n,hn⟩:∃n,1+r8=n:=⟨_,rfl⟩
 obtain⟨m,hm⟩:∃m,1+c4=m:=⟨_,rfl⟩
 have e1:(r:Int) % 8=r8:=by omega
 have e2:(c:Int) % 4=c4:=by omega
 have e3:1+(r8:Int)=n:=by omega
 have e4:1+(c4:Int)=m:=by omega
 have l1:r8<8:=by omega
 have l2:c4<4:=by omega
 rw [h8,h4,hn,hm] at hS
 rw [h8,h4,hn,hm]
 have HS:=qH hS
 clear hS h8 h4 hn hm
 obtain⟨W1,hW1⟩:∃W1,W1=w.alloc (.cells #[.int .u8 (r:Int),.int .u8 (c:Int),.slice a nn cc,.slice a' n' cc'] 29):=⟨_,rfl⟩
 have hb1:Below w.heap.size w W1:=hW1▸qbI qB qN
 have hr1:W1.heap[w.heap.size]? = some (.cells #[.int .u8 (r:Int),.int .u8 (c:Int),.slice a nn cc,.slice a' n' cc'] 29 (0,0)):=by rw [hW1];exact qM _ _ _ rfl
 have k0:=cell_of_row W1 _ 0 _ _ _ hr1
 have k1:=cell_of_row W1 _ 1 _ _ _ hr1
 have H1:=qH (qA hb1 hr1)
 clear hb1 hr1
 go_enter Tryz.func26,Tryz.ntmps26
 go_upto_region 1 with fail
 rw [←hW1]
 clear hW1
 go_wp2_with ((with_reducible refine qbJ rfl 29 _ rfl (w.heap.size) ?_ 29 #[.int .u8 (r:Int),.int .u8 (c:Int),.slice a nn cc,.slice a' n' cc'] _ H1.out.2 Tryz.underlying29 ?_ 4 ?_ ?_ ?_);(next=>rfl);(next=>rfl);(next=>kernel_rfl);(next=>rfl))
 refine (HS.out _ H1.out.1).mono ?_
 rintro e w2 ⟨ao,g,cap,rfl,hT,hcap,hb2⟩
 have HT:=qH (qA hT (qA hcap (H1.out.1.trans (hb2.mono H1.out.1.size))))
 clear hT hcap hb2
 go_wp2_with fail
 go_ret
 exact⟨ao,g,cap,rfl,HT.out.1,HT.out.2.1,HT.out.2.2⟩
def FL (n:Nat) (l:List FT) (z:Value) (W:World):Prop:=∃(a:Option Addr) (g c:Nat),z=.slice a n c∧FCells W a g 0 l∧n≤c
instance stays_fl {n:Nat} {l:List FT} {z:Value}:Stays (FL n l z):=⟨fun⟨a,g,c,h1,h2,h3⟩ hb=>⟨a,g,c,h1,h2.below hb,h3⟩⟩
instance stays_tabat {a:Option Addr} {b off:Nat} {t:Tbl}:Stays fun W=>TabAt W a b off t:=⟨fun h hb=>h.below hb⟩
theorem zero4:∀y∈(#[.slice none 0 0,.slice none 0 0,.slice none 0 0,.slice none 0 0]:Array Value).toList,∃a n c,y=.slice a n c:=fun y hy=>by
 simp at hy
 exact⟨_,_,_,hy⟩
theorem qmr {g i:Nat} {W:World} {x:Value} {t:TypeId} (hg:W.heap[g]? = some (.cells #[.slice none 0 0,.slice none 0 0,.slice none 0 0,.slice none 0 0] t (0,0))) (h:W.cell? ⟨g,i,none⟩=some x):x=.slice none 0 0:=by
 rw [cell_of_row _ _ _ _ _ _ hg] at h
 have:=qbe ((Array.getElem?_toList ..).trans h)
 simpa using this
theorem FL.keepZ {W W':World} {n g:Nat} {l:List FT} {z:Value} {t:TypeId} (h:FL n l z W) (hk:W.grownBy W' (some g)) (hg:W.heap[g]? = some (.cells #[.slice none 0 0,.slice none 0 0,.slice none 0 0,.slice none 0 0] t (0,0))):FL n l z W':=by
 obtain⟨a,g',c,h1,h2,h3⟩:=h
 exact⟨a,g',c,h1,h2.keepS hk hg zero4,h3⟩
theorem TabAt.keepZ {W W':World} {a:Option Addr} {b off g R n:Nat} {F:Nat→Nat→Rat} {t:TypeId} (hn:0<n) (h:TabAt W a b off (ttab R n F)) (hk:W.grownBy W' (some g)) (hg:W.heap[g]? = some (.cells #[.slice none 0 0,.slice none 0 0,.slice none 0 0,.slice none 0 0] t (0,0))):TabAt W' a b off (ttab R n F):=by
 refine h.keepT (fun h0 e=>?_) hk hg zero4
 subst e
 obtain⟨ra,rc,h1,_⟩:=h.cap 0 h0
 have e2:=qmr hg h1
 rw [qb8] at h0
 rw [qeg h0,qbQ] at e2
 simp at e2
 omega
def FTab (n:Nat) (t:Tbl) (z:Value) (W:World):Prop:=∃(a:Option Addr) (g c:Nat),z=.slice a n c∧TabAt W a g 0 t∧n≤c
instance stays_ftab {n:Nat} {t:Tbl} {z:Value}:Stays (FTab n t z):=⟨fun⟨a,g,c,h1,h2,h3⟩ hb=>⟨a,g,c,h1,h2.below hb,h3⟩⟩
def DrBlk (g:Nat) (z0 z1 z2 z3:Value) (R n:Nat) (F:Nat→Nat→Rat) (lb lu lx:List FT) (W:World):Prop :=
 FTab R (ttab R n F) z0 W∧FL R lb z1 W∧FL R lu z2 W∧FL n lx z3 W∧W.heap[g]? = some (.cells #[z0,z1,z2,z3] 25 (0,0))
instance stays_drblk {g:Nat} {z0 z1 z2 z3:Value} {R n:Nat} {F:Nat→Nat→Rat} {lb lu lx:List FT}:Stays (DrBlk g z0 z1 z2 z3 R n F lb lu lx) :=
 ⟨fun⟨h1,h4,h5,h6,h7⟩ hb=>⟨Stays.go h1 hb,Stays.go h4 hb,Stays.go h5 hb,Stays.go h6 hb,zkeep hb _ _ h7⟩⟩
theorem qjN {W:World} {n n1 n2 n3:Nat} {t:Tbl} {l u x:List FT} {z0 z1 z2 z3:Value} (h0:FTab n t z0 W) (h1:FL n1 l z1 W) (h2:FL n2 u z2 W) (h3:FL n3 x z3 W) (e0:t.length=n) (e1:l.length=n1) (e2:u.length=n2) (e3:x.length=n3):RawAt W (.agg #[z0,z1,z2,z3]) t l u x:=by
 subst e0 e1 e2 e3
 obtain⟨a,b,c,rfl,hT,d⟩:=h0
 obtain⟨a1,b1,c1,rfl,k1,d1⟩:=h1
 obtain⟨a2,b2,c2,rfl,k2,d2⟩:=h2
 obtain⟨a3,b3,c3,rfl,k3,d3⟩:=h3
 exact⟨a,b,0,c,a1,b1,0,c1,a2,b2,0,c2,a3,b3,0,c3,rfl,⟨d,d1,d2,d3⟩,hT,k1,k2,k3⟩
theorem RawOwn.fs {W:World} {z0 z1 z2 z3:Value} {t:Tbl} {l u x:List FT} (h:RawOwn W z0 z1 z2 z3 t l u x):FTab t.length t z0 W∧FL l.length l z1 W∧FL u.length u z2 W∧FL x.length x z3 W:=by
 obtain⟨a,g,c,a1,g1,c1,a2,g2,c2,a3,g3,c3,⟨e0,e1,e2,e3⟩,⟨d,d1,d2,d3⟩,hT,k1,k2,k3⟩:=h.parts
 exact⟨⟨a,g,c,e0,hT,d⟩,⟨a1,g1,c1,e1,k1,d1⟩,⟨a2,g2,c2,e2,k2,d2⟩,⟨a3,g3,c3,e3,k3,d3⟩⟩
theorem qkK (v vd:Value) (t:Tbl) (l u x:List FT) (r c:Nat) (N:List Int) (D:List Nat) (w:World) (hv:RawAt w v t l u x) (hd:qc2 w vd r c N D) :
  Calls Tryz.prog 11 #[v,vd] w fun e w'=>∃g,e=.returned (.slice (some ⟨g,0,none⟩) 4 4) ∧
   (∀i,i<4→∃z0 z1 z2 z3,w'.cell? ⟨g,i*4,none⟩=some z0∧w'.cell? ⟨g,i*4+1,none⟩=some z1∧w'.cell? ⟨g,i*4+2,none⟩=some z2∧w'.cell? ⟨g,i*4+3,none⟩=some z3∧∃(t:Tbl) (l u x:List FT),RawAt w' (.agg #[z0,z1,z2,z3]) t l u x∧Cut t l u x)∧Below w.heap.size w w':=by
 have HT:=qH (fun (W:World) (h:Below w.heap.size w W)=>table_at r c N D vd W (hd.below h))
 have HSz:=qH (fun (W:World) (h:Below w.heap.size w W) (n:Nat) (hn:n≤1000)=>qjU n n hn hn r c N D vd W (hd.below h))
 have HL:=qH (fun (W:World) (h:Below w.heap.size w W) (n fr:Nat) (hn:n≤1000) (hf:fr≤1000)=>list_any n fr hn hf r c N D vd W (hd.below h))
 have HWt:=qH (fun (W:World) (h:Below w.heap.size w W) (n:Nat) (hn:n≤1000)=>qjc n hn r c N D vd W (hd.below h))
 have HO:=qH (fun (W:World) (h:Below w.heap.size w W)=>qlL v t l u x W (hv.below h))
 have hcut:∀R n,R≤8→n≤4→∀fr f2,Cut (ttab R n fun i j=>drq N D (5*i+j)) (told R fun i=>drq N D (fr+3*i)) (told R fun i=>qabs (drq N D (2*i+1))) (told n fun i=>drq N D (f2+3*i)):=fun R n hR hn fr f2 =>
  cut_told hR hn (fun i j=>qg8 _ _ _) (by rw [qbQ];omega) (qgm fun i=>qg8 _ _ _) (by rw [qbQ];omega) (qgm fun i=>(qg8 _ _ _).abs) (fun i=>qg8 _ _ _)
 obtain⟨a,b,off,nn,cc,a',b',off',n',cc',rfl,_⟩:=hd
 obtain⟨y0,y1,y2,y3,rfl⟩:∃y0 y1 y2 y3,v=.agg #[y0,y1,y2,y3]:=by
  obtain⟨_,_,_,_,_,_,_,_,_,_,_,_,_,_,_,_,e,_⟩:=hv
  exact⟨_,_,_,_,e⟩
 have HC:=qH hcut
 clear hv hcut
 obtain⟨R,hR⟩:∃R,1+r % 8=R:=⟨_,rfl⟩
 obtain⟨n,hn⟩:∃n,1+c % 4=n:=⟨_,rfl⟩
 have hR1:1≤R:=by omega
 have hR8:R≤8:=by omega
 have hn1:1≤n:=by omega
 have hn4:n≤4:=by omega
 rw [hR,hn] at HT
 clear hR hn
 obtain⟨W1,hW1,K1⟩:=p4.kn2 w #[y0,y1,y2,y3] 25 #[.int .u8 (r:Int),.int .u8 (c:Int),.slice a nn cc,.slice a' n' cc'] 29
 go_enter Tryz.func11,Tryz.ntmps11
 go_upto_region 1 with fail
 rw [←hW1]
 clear hW1
 go_wp2_with ((with_reducible refine qbJ rfl 29 _ rfl (w.heap.size+1) ?_ 29 #[.int .u8 (r:Int),.int .u8 (c:Int),.slice a nn cc,.slice a' n' cc'] _ K1.out.2.2 Tryz.underlying29 ?_ 4 ?_ ?_ ?_);(next=>rfl);(next=>rfl);(next=>kernel_rfl);(next=>rfl))
 refine (HT.out _ K1.out.1).mono ?_
 rintro e w3 ⟨ao,g,cap,rfl,hT,hcap,hb3⟩
 have K3:=(K1.below hb3).also (q:=fun W=>TabAt W ao g 0 (ttab R n fun i j=>drq N D (5*i+j))) hT
 have haddr:=hT.tc.addr (by rw [qb8];omega)
 subst haddr
 obtain⟨ra,rb,ro,rc,hrow,_,_⟩:=hT.row (k:=0) (by rw [qb8];omega)
 rw [qeg (by omega),qbQ,qa2] at hrow
 have hRi:(0:Int)<R:=by omega
 have hRn:0<R:=by omega
 have hl3:=(qG K3.out.1.2.2).1
 have c0:=rowC (B:=w3.heap.size) K3.out.1.2.2 0
 have c1:=rowC (B:=w3.heap.size) K3.out.1.2.2 1
 have c2:=rowC (B:=w3.heap.size) K3.out.1.2.2 2
 have c3:=rowC (B:=w3.heap.size) K3.out.1.2.2 3
 obtain⟨F,hFF⟩:∃F:Nat→Nat→Rat,F=fun i j=>drq N D (5*i+j):=⟨_,rfl⟩
 obtain⟨lb,hlb⟩:∃l,l=told R fun i=>drq N D (7+3*i):=⟨_,rfl⟩
 obtain⟨lu,hlu⟩:∃l,l=told R fun i=>qabs (drq N D (2*i+1)):=⟨_,rfl⟩
 obtain⟨lx,hlx⟩:∃l,l=told n fun i=>drq N D (2+3*i):=⟨_,rfl⟩
 clear hb3 hT
 go_wp2_with fail
 clear hrow
 refine wp_region_held_drew (S:=fun W=>Below w3.heap.size w3 W) (by kernel_rfl) qB.drew (fun hS0=>?_)
 refine hT 0 (h:=hT 1 (h:=hT 2 (h:=hT 3 (h:=hT 5 (h:=hT 6 (h:=hT 7 (h:=hT 9 (h:=hT 10 (h:=?_)))))))))
 refine gr [(4,21),(8,25),(11,28),(12,29),(13,7)] [(12,[4,8,11])] [0,1,2,3,5,6,7,9,10] [4,8,11,12,13] [] 14 15
  (fl2 [(4,FL R lb),(8,FL R lu),(11,FL n lx),(12,fun z W=>∃z1 z2 z3,z=.agg #[.slice (some ⟨g,0,none⟩) R cap,z1,z2,z3]∧FL R lb z1 W∧FL R lu z2 W∧FL n lx z3 W),(13,ZC w3.heap.size #[.slice none 0 0,.slice none 0 0,.slice none 0 0,.slice none 0 0] 25)]) _ 1
  (hS:=fun w' h=>qbU h) (hstep:=⟨⟨_,rfl,fun v w4 hb hF K hK=>?_⟩,⟨_,rfl,fun v w4 hb hF K hK=>?_⟩,⟨_,rfl,fun v w4 hb hF K hK=>?_⟩,⟨_,rfl,fun v w4 hb hF K hK=>?_⟩,⟨_,rfl,fun v w4 hb hF K hK=>?_⟩,trivial⟩) (hend:=fun v w4 hb hF _ fu=>?_)
 ·exact gC hK (HL.out w4 (K3.out.1.1.trans ((qbU hb).mono K3.out.1.1.size)) R 7 (by omega) (by decide)) (h:=fun e w5 ⟨a5,g5,c5,e1,h1,h2,h3⟩=>⟨_,e1,⟨a5,g5,c5,rfl,hlb▸h1,h2⟩,h3⟩)
 ·exact gC hK (HWt.out w4 (K3.out.1.1.trans ((qbU hb).mono K3.out.1.1.size)) R (by omega)) (h:=fun e w5 ⟨a5,g5,c5,e1,h1,h2,h3⟩=>⟨_,e1,⟨a5,g5,c5,rfl,hlu▸h1,h2⟩,h3⟩)
 ·exact gC hK (HL.out w4 (K3.out.1.1.trans ((qbU hb).mono K3.out.1.1.size)) n 2 (by omega) (by decide)) (h:=fun e w5 ⟨a5,g5,c5,e1,h1,h2,h3⟩=>⟨_,e1,⟨a5,g5,c5,rfl,hlx▸h1,h2⟩,h3⟩)
 ·have f4:FL R lb (v 4) w4:=hF.1
  have f8:FL R lu (v 8) w4:=hF.2.1
  have f11:FL n lx (v 11) w4:=hF.2.2.1
  obtain⟨a4,g4,c4,e4,_⟩:=id f4
  obtain⟨a8,g8,c8,e8,_⟩:=id f8
  obtain⟨a11,g11,c11,e11,_⟩:=id f11
  exact gV hK ⟨.slice a4 R c4,.slice a8 R c8,.slice a11 n c11,rfl,e4▸f4,e8▸f8,e11▸f11⟩
 ·exact gW hK (h:=ZC.new (qbU hb).size)
 obtain⟨z1,z2,z3,e12,f1,f2,f3⟩:∃z1 z2 z3,_:=hF 12 (by decide) (by decide)
 obtain⟨g7,hg7,e13,hge⟩:∃g7,_:=hF 13 (by decide) (by decide)
 have K4:=K3.below (qbU hb)
 obtain⟨a1,g1,c1',rfl,h1⟩:=f1
 obtain⟨a2,g2,c2',rfl,h2⟩:=f2
 obtain⟨a3,g3,c3',rfl,h3⟩:=f3
 rw [e12,e13]
 refine hSt 14 4 hg7 (h:=⟨below_setRow (qbU hb) hge _,?_⟩)
 have hkz:=qb9 w4 g7 #[.slice (some ⟨g,0,none⟩) R cap,(.slice a1 R c1'),(.slice a2 R c2'),(.slice a3 n c3')]
 have hkb:=below_setRow (Below.refl w3.heap.size w4) hge #[.slice (some ⟨g,0,none⟩) R cap,(.slice a1 R c1'),(.slice a2 R c2'),(.slice a3 n c3')]
 have K5:Kn (fun W=>(Below w.heap.size w W∧W.heap[w.heap.size]? = some (.cells #[y0,y1,y2,y3] 25 (0,0))∧W.heap[w.heap.size+1]? = some (.cells #[.int .u8 (r:Int),.int .u8 (c:Int),.slice a nn cc,.slice a' n' cc'] 29 (0,0)))∧DrBlk g7 (.slice (some ⟨g,0,none⟩) R cap) (.slice a1 R c1') (.slice a2 R c2') (.slice a3 n c3') R n F lb lu lx W) (w4.setRow g7 #[.slice (some ⟨g,0,none⟩) R cap,(.slice a1 R c1'),(.slice a2 R c2'),(.slice a3 n c3')]):=by
  have l0:=(qG K3.out.1.2.1).1
  refine .of ⟨⟨below_setRow K4.out.1.1 (by omega) _,(setRow_other _ _ _ _ (by omega)).trans K4.out.1.2.1,(setRow_other _ _ _ _ (by omega)).trans K4.out.1.2.2⟩,⟨_,g,cap,rfl,?_,hcap⟩,FL.keepZ ⟨a1,g1,c1',rfl,h1⟩ hkz hg7,FL.keepZ ⟨a2,g2,c2',rfl,h2⟩ hkz hg7,FL.keepZ ⟨a3,g3,c3',rfl,h3⟩ hkz hg7,setRow_heap _ _ _ _ _ _ hg7⟩
  have:=K4.out.2
  rw [hFF]
  exact this.keepZ (by omega) hkz hg7
 obtain⟨W5,hW5⟩:∃W5,W5=w4.setRow g7 #[.slice (some ⟨g,0,none⟩) R cap,(.slice a1 R c1'),(.slice a2 R c2'),(.slice a3 n c3')]:=⟨_,rfl⟩
 rw [←hW5] at K5 ⊢
 clear hW5 hkz hkb hF hb e12 e13 h1 h2 h3 hg7 hge hS0 K3 K4 c0 c1 c2 c3
 go_wp2_with fail
 have l2:=(qG K5.out.1.2.2).1
 have c0:=rowC (B:=W5.heap.size) K5.out.1.2.2 0
 have c1:=rowC (B:=W5.heap.size) K5.out.1.2.2 1
 have c2:=rowC (B:=W5.heap.size) K5.out.1.2.2 2
 have c3:=rowC (B:=W5.heap.size) K5.out.1.2.2 3
 obtain⟨sb,hsb⟩:∃l,l=told n fun i=>drq N D (1+3*i):=⟨_,rfl⟩
 obtain⟨su,hsu⟩:∃l,l=told n fun i=>qabs (drq N D (2*i+1)):=⟨_,rfl⟩
 obtain⟨sx,hsx⟩:∃l,l=told n fun i=>drq N D (3+3*i):=⟨_,rfl⟩
 refine wp_region_held_drew (S:=fun W=>Below W5.heap.size W5 W) (by kernel_rfl) qB.drew (fun hS0=>?_)
 refine hT 0 (h:=hT 1 (h:=hT 2 (h:=hT 4 (h:=hT 5 (h:=hT 7 (h:=hT 8 (h:=hT 10 (h:=hT 11 (h:=?_)))))))))
 refine gr [(3,33),(6,36),(9,39),(12,42),(13,43),(14,8)] [(13,[3,6,9,12])] [0,1,2,4,5,7,8,10,11] [3,6,9,12,13,14] [] 15 16
  (fl2 [(3,FTab n (ttab n n F)),(6,FL n sb),(9,FL n su),(12,FL n sx),(13,fun z W=>∃z0 z1 z2 z3,z=.agg #[z0,z1,z2,z3]∧FTab n (ttab n n F) z0 W∧FL n sb z1 W∧FL n su z2 W∧FL n sx z3 W),(14,ZC W5.heap.size #[.slice none 0 0,.slice none 0 0,.slice none 0 0,.slice none 0 0] 25)]) _ 1
  (hS:=fun w' h=>qbU h) (hstep:=⟨⟨_,rfl,fun v w4 hb hF K hK=>?_⟩,⟨_,rfl,fun v w4 hb hF K hK=>?_⟩,⟨_,rfl,fun v w4 hb hF K hK=>?_⟩,⟨_,rfl,fun v w4 hb hF K hK=>?_⟩,⟨_,rfl,fun v w4 hb hF K hK=>?_⟩,⟨_,rfl,fun v w4 hb hF K hK=>?_⟩,trivial⟩) (hend:=fun v w4 hb hF _ fu=>?_)
 ·exact gC hK (HSz.out w4 (K5.out.1.1.trans ((qbU hb).mono K5.out.1.1.size)) n (by omega)) (h:=fun e w5 ⟨a5,g5,c5,e1,h1,h2,h3⟩=>⟨_,e1,⟨a5,g5,c5,rfl,hFF▸h1,h2⟩,h3⟩)
 ·exact gC hK (HL.out w4 (K5.out.1.1.trans ((qbU hb).mono K5.out.1.1.size)) n 1 (by omega) (by decide)) (h:=fun e w5 ⟨a5,g5,c5,e1,h1,h2,h3⟩=>⟨_,e1,⟨a5,g5,c5,rfl,hsb▸h1,h2⟩,h3⟩)
 ·exact gC hK (HWt.out w4 (K5.out.1.1.trans ((qbU hb).mono K5.out.1.1.size)) n (by omega)) (h:=fun e w5 ⟨a5,g5,c5,e1,h1,h2,h3⟩=>⟨_,e1,⟨a5,g5,c5,rfl,hsu▸h1,h2⟩,h3⟩)
 ·exact gC hK (HL.out w4 (K5.out.1.1.trans ((qbU hb).mono K5.out.1.1.size)) n 3 (by omega) (by decide)) (h:=fun e w5 ⟨a5,g5,c5,e1,h1,h2,h3⟩=>⟨_,e1,⟨a5,g5,c5,rfl,hsx▸h1,h2⟩,h3⟩)
 ·have f3:FTab n (ttab n n F) (v 3) w4:=hF.1
  have f6:FL n sb (v 6) w4:=hF.2.1
  have f9:FL n su (v 9) w4:=hF.2.2.1
  have f12:FL n sx (v 12) w4:=hF.2.2.2.1
  obtain⟨a3,g3,c3,e3,_⟩:=id f3
  obtain⟨a6,g6,c6,e6,_⟩:=id f6
  obtain⟨a9,g9,c9,e9,_⟩:=id f9
  obtain⟨a12,g12,c12,e12,_⟩:=id f12
  exact gV hK ⟨.slice a3 n c3,.slice a6 n c6,.slice a9 n c9,.slice a12 n c12,rfl,e3▸f3,e6▸f6,e9▸f9,e12▸f12⟩
 ·exact gW hK (h:=ZC.new (qbU hb).size)
 obtain⟨s0,s1,s2,s3,e13,f0,f1,f2,f3⟩:∃s0 s1 s2 s3,_:=hF 13 (by decide) (by decide)
 obtain⟨g8,hg8,e14,hge⟩:∃g8,_:=hF 14 (by decide) (by decide)
 have K6:=K5.below (qbU hb)
 obtain⟨b0,h0,d0',rfl,hh0,m0⟩:=f0
 obtain⟨b1,h1,d1',rfl,hh1,m1⟩:=f1
 obtain⟨b2,h2,d2',rfl,hh2,m2⟩:=f2
 obtain⟨b3,h3,d3',rfl,hh3,m3⟩:=f3
 rw [e13,e14]
 refine hSt 15 4 hg8 (h:=⟨below_setRow (qbU hb) hge _,?_⟩)
 have hkz:=qb9 w4 g8 #[.slice b0 n d0',.slice b1 n d1',.slice b2 n d2',.slice b3 n d3']
 have hbz:Below W5.heap.size W5 (w4.setRow g8 #[.slice b0 n d0',.slice b1 n d1',.slice b2 n d2',.slice b3 n d3']):=below_setRow (qbU hb) hge _
 have K7:=(K5.below hbz).also (q:=DrBlk g8 (.slice b0 n d0') (.slice b1 n d1') (.slice b2 n d2') (.slice b3 n d3') n n F sb su sx) ⟨⟨b0,h0,d0',rfl,hh0.keepZ (by omega) hkz hg8,m0⟩,FL.keepZ ⟨b1,h1,d1',rfl,hh1,m1⟩ hkz hg8,FL.keepZ ⟨b2,h2,d2',rfl,hh2,m2⟩ hkz hg8,FL.keepZ ⟨b3,h3,d3',rfl,hh3,m3⟩ hkz hg8,setRow_heap _ _ _ _ _ _ hg8⟩
 obtain⟨W7,hW7⟩:∃W7,W7=w4.setRow g8 #[.slice b0 n d0',.slice b1 n d1',.slice b2 n d2',.slice b3 n d3']:=⟨_,rfl⟩
 rw [←hW7] at K7 ⊢
 clear hW7 hkz hbz hF hb e13 e14 hh0 hh1 hh2 hh3 hg8 hge hS0 K5 K6 c0 c1 c2 c3 l2
 go_wp2_with fail
 have lx:=(qG K7.out.1.1.2.1).1
 have l7:=(qG K7.out.1.2.2.2.2.2).1
 have c0:=rowC (B:=W7.heap.size) K7.out.1.1.2.1 0
 have c1:=rowC (B:=W7.heap.size) K7.out.1.1.2.1 1
 have c2:=rowC (B:=W7.heap.size) K7.out.1.1.2.1 2
 have c3:=rowC (B:=W7.heap.size) K7.out.1.1.2.1 3
 have d0:=rowC (B:=W7.heap.size) K7.out.1.2.2.2.2.2 0
 have d1:=rowC (B:=W7.heap.size) K7.out.1.2.2.2.2.2 1
 have d2:=rowC (B:=W7.heap.size) K7.out.1.2.2.2.2.2 2
 have d3:=rowC (B:=W7.heap.size) K7.out.1.2.2.2.2.2 3
 refine wp_region_held_drew (S:=fun W=>Below W7.heap.size W7 W) (by kernel_rfl) qB.drew (fun hS0=>?_)
 refine hT 0 (h:=hT 2 (h:=?_))
 refine gr [(1,45),(3,9),(4,10)] [] [0,2] [1,3,4] [3,4] 5 7
  (fl2 [(1,fun z W=>∃z0 z1 z2 z3,z=.agg #[z0,z1,z2,z3]∧RawOwn W z0 z1 z2 z3 (cutT t) (cutL 42 l) (cutL 42 u) (cutL 11 x)),(3,ZC W7.heap.size #[.slice none 0 0,.slice none 0 0,.slice none 0 0,.slice none 0 0] 25),(4,ZC W7.heap.size #[.slice none 0 0,.slice none 0 0,.slice none 0 0,.slice none 0 0] 25)]) _ 2
  (hS:=fun w' h=>qbU h) (hstep:=⟨⟨_,rfl,fun v w4 hb hF K hK=>?_⟩,⟨_,rfl,fun v w4 hb hF K hK=>?_⟩,⟨_,rfl,fun v w4 hb hF K hK=>?_⟩,trivial⟩) (hend:=fun v w4 hb hF hE' fu=>?_)
 ·exact gC hK (HO.out w4 (K7.out.1.1.1.trans ((qbU hb).mono K7.out.1.1.1.size))) (h:=fun e w5 ⟨z0,z1,z2,z3,e1,h1,h3⟩=>⟨_,e1,⟨z0,z1,z2,z3,rfl,h1⟩,h3⟩)
 ·exact gW hK (h:=ZC.new (qbU hb).size)
 ·exact gW hK (h:=ZC.new (qbU hb).size)
 obtain⟨z0,z1,z2,z3,e1,hown⟩:∃z0 z1 z2 z3,_:=hF 1 (by decide) (by decide)
 obtain⟨g9,hg9,e3,hge9⟩:∃g9,_:=hF 3 (by decide) (by decide)
 obtain⟨g10,hg10,e4,hge10⟩:∃g10,_:=hF 4 (by decide) (by decide)
 have hne:g9≠g10:=by
  have h:=hE' 3 (by decide) 4 (by decide) (by decide)
  rw [e3,e4] at h
  exact h
 obtain⟨q0,_,k0,q1,_,k1,q2,_,k2,q3,_,k3,⟨rfl,rfl,rfl,rfl⟩,_⟩:=hown.parts
 obtain⟨N0,hN0⟩:∃N,(cutT t).length=N:=⟨_,rfl⟩
 obtain⟨N1,hN1⟩:∃N,(cutL 42 l).length=N:=⟨_,rfl⟩
 obtain⟨N2,hN2⟩:∃N,(cutL 42 u).length=N:=⟨_,rfl⟩
 obtain⟨N3,hN3⟩:∃N,(cutL 11 x).length=N:=⟨_,rfl⟩
 rw [hN0,hN1,hN2,hN3] at e1 hown
 rw [e1,e3,e4]
 have hkz:=qb9 w4 g9 #[.slice q0 N0 k0,.slice q1 N1 k1,.slice q2 N2 k2,.slice q3 N3 k3]
 have hg10':=(setRow_other w4 g9 g10 #[.slice q0 N0 k0,.slice q1 N1 k1,.slice q2 N2 k2,.slice q3 N3 k3] (Ne.symm hne)).trans hg10
 have hg9':=setRow_heap _ _ _ #[.slice q0 N0 k0,.slice q1 N1 k1,.slice q2 N2 k2,.slice q3 N3 k3] _ _ hg9
 have hbz:=below_setRow (qbU hb) hge9 #[.slice q0 N0 k0,.slice q1 N1 k1,.slice q2 N2 k2,.slice q3 N3 k3]
 have ho':=hown.map fun _ _ _ _ _ _ he h=>h.kept hkz (h.neT hg9 he)
 refine hSn 5 4 hg9 (h:=⟨hbz,?_⟩)
 obtain⟨W8,hW8⟩:∃W8,W8=w4.setRow g9 #[.slice q0 N0 k0,.slice q1 N1 k1,.slice q2 N2 k2,.slice q3 N3 k3]:=⟨_,rfl⟩
 rw [←hW8] at hg10' hg9' hbz ho' ⊢
 clear hW8 hkz hF hE' hb e1 e3 e4 hown hg9 hg10 hS0 c0 c1 c2 c3 d0 d1 d2 d3
 refine hSt 6 4 hg10' (h:=⟨below_setRow hbz hge10 _,?_⟩)
 have hkz:=qb9 W8 g10 #[.slice (some ⟨g,0,none⟩) R cap,.slice a1 R c1',.slice a2 R c2',.slice a3 n c3']
 have hb9:=below_setRow hbz hge10 #[.slice (some ⟨g,0,none⟩) R cap,.slice a1 R c1',.slice a2 R c2',.slice a3 n c3']
 have hg9:=(setRow_other W8 g10 g9 #[.slice (some ⟨g,0,none⟩) R cap,.slice a1 R c1',.slice a2 R c2',.slice a3 n c3'] hne).trans hg9'
 have hg10:=setRow_heap _ _ _ #[.slice (some ⟨g,0,none⟩) R cap,.slice a1 R c1',.slice a2 R c2',.slice a3 n c3'] _ _ hg10'
 have ho:=ho'.map fun _ _ _ _ _ _ he h=>h.kept hkz (h.neT hg10' he)
 obtain⟨W9,hW9⟩:∃W9,W9=W8.setRow g10 #[.slice (some ⟨g,0,none⟩) R cap,.slice a1 R c1',.slice a2 R c2',.slice a3 n c3']:=⟨_,rfl⟩
 rw [←hW9] at hg9 hg10 ho hb9 ⊢
 clear hW9 hkz ho' hbz hg9' hg10' lx l7
 have t1:=rowG (g0:=g10) hg9 1
 have t2:=rowG (g0:=g10) hg9 2
 go_wp2_with fail
 refine wp_region_held_drew (S:=fun W=>W9.grownBy W (some g10)) (by kernel_rfl) (qbR (qb3 _ _) qB.drew) (fun hS0=>?_)
 refine hT 0 (h:=hT 1 (h:=hT 2 (h:=hT 3 (h:=hT 4 (h:=?_)))))
 obtain⟨V,hV⟩:∃V,V=W9.drew:=⟨_,rfl⟩
 have hbV:Below W9.heap.size W9 V:=hV▸qB.drew
 rw [←hV] at hS0 ⊢
 clear hV t1 t2
 have r0:=zkeep hbV _ _ hg10
 have b1':=cell_of_row _ _ 1 _ _ _ r0
 have f1':=frozen_of_row _ _ 1 _ _ r0
 have hS2:=qbL hS0 (least.qbO V g10 1 (.slice q1 N1 k1))
 refine hSg 5 (h:=⟨hS2,?_⟩)
 obtain⟨Wa,hWa⟩:∃W5,W5=V.setCell ⟨g10,1,none⟩ (.slice q1 N1 k1):=⟨_,rfl⟩
 have r5:Wa.heap[g10]? = some (.cells #[.slice (some ⟨g,0,none⟩) R cap,.slice q1 N1 k1,.slice a2 R c2',.slice a3 n c3'] 25 (0,0)):=hWa▸heap_setCell_same _ _ 1 _ _ _ r0
 rw [←hWa] at hS2 ⊢
 clear hWa b1' f1' r0 hbV hS0
 have b2':=cell_of_row _ _ 2 _ _ _ r5
 have f2':=frozen_of_row _ _ 2 _ _ r5
 have hS3:=qbL hS2 (least.qbO Wa g10 2 (.slice q2 N2 k2))
 refine hT 6 (h:=hSg 7 (h:=⟨hS3,?_⟩))
 refine wpAnyH_done (by kernel_rfl) ?_ _
 obtain⟨Wb,hWb⟩:∃W5,W5=Wa.setCell ⟨g10,2,none⟩ (.slice q2 N2 k2):=⟨_,rfl⟩
 have r6:Wb.heap[g10]? = some (.cells #[.slice (some ⟨g,0,none⟩) R cap,.slice q1 N1 k1,.slice q2 N2 k2,.slice a3 n c3'] 25 (0,0)):=hWb▸heap_setCell_same _ _ 2 _ _ _ r5
 rw [←hWb] at hS3 ⊢
 clear hWb b2' f2' r5 hS2
 have r9:=(hS3.block g9 (qG hg9).1 (fun e=>hne (qah e))).trans hg9
 have hz:=ho.map fun _ _ _ _ _ _ he h=>h.kept hS3 (h.neT hg10 he)
 have hge:W7.heap.size≤g10:=hge10
 have hbW:Below W7.heap.size W7 Wb:=hb9.trans ⟨hS3.os,hS3.tape,hS3.output,hS3.size,fun i hi=>hS3.block i (qaj hi hb9.size) (fun e=>by have h:=qah e;rw [h] at hi;exact absurd hi (Nat.not_lt.2 hge))⟩
 have KA:=(K7.below hbW).also (q:=fun W=>RawOwn W (.slice q0 N0 k0) (.slice q1 N1 k1) (.slice q2 N2 k2) (.slice q3 N3 k3) (cutT t) (cutL 42 l) (cutL 42 u) (cutL 11 x)) hz
 have r7:=KA.out.1.1.2.2.2.2.2
 have r8:=KA.out.1.2.2.2.2.2
 have HN:=qH (qA hN0 (qA hN1 (qA hN2 hN3)))
 clear K7 ho hz hbW hb9 hg9 hg10 hS3 hN0 hN1 hN2 hN3
 go_wp2_with (first | ((with_reducible refine qbJ rfl 25 _ rfl (g9) ?_ 25 #[.slice q0 N0 k0,.slice q1 N1 k1,.slice q2 N2 k2,.slice q3 N3 k3] _ r9 Tryz.underlying25 ?_ 4 ?_ ?_ ?_);(next=>rfl);(next=>rfl);(next=>kernel_rfl);(next=>rfl)) | ((with_reducible refine qbJ rfl 25 _ rfl (g7) ?_ 25 #[.slice (some ⟨g,0,none⟩) R cap,.slice a1 R c1',.slice a2 R c2',.slice a3 n c3'] _ r7 Tryz.underlying25 ?_ 4 ?_ ?_ ?_);(next=>rfl);(next=>rfl);(next=>kernel_rfl);(next=>rfl)) | ((with_reducible refine qbJ rfl 25 _ rfl (g8) ?_ 25 #[.slice b0 n d0',.slice b1 n d1',.slice b2 n d2',.slice b3 n d3'] _ r8 Tryz.underlying25 ?_ 4 ?_ ?_ ?_);(next=>rfl);(next=>rfl);(next=>kernel_rfl);(next=>rfl)) | ((with_reducible refine qbJ rfl 25 _ rfl (g10) ?_ 25 #[.slice (some ⟨g,0,none⟩) R cap,.slice q1 N1 k1,.slice q2 N2 k2,.slice a3 n c3'] _ r6 Tryz.underlying25 ?_ 4 ?_ ?_ ?_);(next=>rfl);(next=>rfl);(next=>kernel_rfl);(next=>rfl)) | fail)
 obtain⟨Wf,hWf⟩:∃W,W=Wb.alloc (.cells #[.slice q0 N0 k0,.slice q1 N1 k1,.slice q2 N2 k2,.slice q3 N3 k3,.slice (some ⟨g,0,none⟩) R cap,.slice a1 R c1',.slice a2 R c2',.slice a3 n c3',.slice b0 n d0',.slice b1 n d1',.slice b2 n d2',.slice b3 n d3',.slice (some ⟨g,0,none⟩) R cap,.slice q1 N1 k1,.slice q2 N2 k2,.slice a3 n c3'] 25):=⟨_,rfl⟩
 have hbf:Below Wb.heap.size Wb Wf:=hWf▸qbI qB qN
 have rf:Wf.heap[Wb.heap.size]? = some (.cells #[.slice q0 N0 k0,.slice q1 N1 k1,.slice q2 N2 k2,.slice q3 N3 k3,.slice (some ⟨g,0,none⟩) R cap,.slice a1 R c1',.slice a2 R c2',.slice a3 n c3',.slice b0 n d0',.slice b1 n d1',.slice b2 n d2',.slice b3 n d3',.slice (some ⟨g,0,none⟩) R cap,.slice q1 N1 k1,.slice q2 N2 k2,.slice a3 n c3'] 25 (0,0)):=hWf▸heap_alloc_new Wb _
 rw [←hWf]
 have KF:=KA.below hbf
 obtain⟨⟨⟨kb,ky⟩,ks⟩,ko⟩:=KF.out
 obtain⟨o0,o1,o2,o3⟩:=ko.fs
 have cy:Cut (ttab R n F) lb lu lx:=by rw [hFF,hlb,hlu,hlx];exact HC.out R n hR8 hn4 7 2
 have cs:Cut (ttab n n F) sb su sx:=by rw [hFF,hsb,hsu,hsx];exact HC.out n n (by omega) hn4 1 3
 have cz:=cut_cut t l u x
 have eb:lb.length=R:=by rw [hlb,qbQ]
 have eu:lu.length=R:=by rw [hlu,qbQ]
 have ex:lx.length=n:=by rw [hlx,qbQ]
 have fb:sb.length=n:=by rw [hsb,qbQ]
 have fu:su.length=n:=by rw [hsu,qbQ]
 have fx:sx.length=n:=by rw [hsx,qbQ]
 have hfin:∀i,i<4→∃z0 z1 z2 z3,Wf.cell? ⟨Wb.heap.size,i*4,none⟩=some z0∧Wf.cell? ⟨Wb.heap.size,i*4+1,none⟩=some z1∧Wf.cell? ⟨Wb.heap.size,i*4+2,none⟩=some z2∧Wf.cell? ⟨Wb.heap.size,i*4+3,none⟩=some z3∧∃(t:Tbl) (l u x:List FT),RawAt Wf (.agg #[z0,z1,z2,z3]) t l u x∧Cut t l u x:=fun i hi=>by
  match i,hi with
  | 0,_=>exact⟨.slice q0 N0 k0,.slice q1 N1 k1,.slice q2 N2 k2,.slice q3 N3 k3,cell_of_row _ _ 0 _ _ _ rf,cell_of_row _ _ 1 _ _ _ rf,cell_of_row _ _ 2 _ _ _ rf,cell_of_row _ _ 3 _ _ _ rf,_,_,_,_,qjN o0 o1 o2 o3 rfl rfl rfl rfl,cz⟩
  | 1,_=>exact⟨.slice (some ⟨g,0,none⟩) R cap,.slice a1 R c1',.slice a2 R c2',.slice a3 n c3',cell_of_row _ _ 4 _ _ _ rf,cell_of_row _ _ 5 _ _ _ rf,cell_of_row _ _ 6 _ _ _ rf,cell_of_row _ _ 7 _ _ _ rf,_,_,_,_,qjN ky.1 ky.2.1 ky.2.2.1 ky.2.2.2.1 (qb8 _ _ _) eb eu ex,cy⟩
  | 2,_=>exact⟨.slice b0 n d0',.slice b1 n d1',.slice b2 n d2',.slice b3 n d3',cell_of_row _ _ 8 _ _ _ rf,cell_of_row _ _ 9 _ _ _ rf,cell_of_row _ _ 10 _ _ _ rf,cell_of_row _ _ 11 _ _ _ rf,_,_,_,_,qjN ks.1 ks.2.1 ks.2.2.1 ks.2.2.2.1 (qb8 _ _ _) fb fu fx,cs⟩
  | 3,_=>exact⟨.slice (some ⟨g,0,none⟩) R cap,.slice q1 N1 k1,.slice q2 N2 k2,.slice a3 n c3',cell_of_row _ _ 12 _ _ _ rf,cell_of_row _ _ 13 _ _ _ rf,cell_of_row _ _ 14 _ _ _ rf,cell_of_row _ _ 15 _ _ _ rf,_,_,_,_,qjN ky.1 o1 o2 ky.2.2.2.1 (qb8 _ _ _) rfl rfl ex,⟨cy.t1,cy.t2,cz.b1,cz.b2,cz.u1,cz.u2,cy.x1,cy.x2⟩⟩
  | i+4,h=>omega
 have HFin:=qH (qA hfin kb.1)
 clear hfin
 go_ret
 exact⟨_,rfl,HFin.out.1,HFin.out.2⟩
end Go.Proofs.YtfminfgabiipjaaGreatDoor
namespace Go.Proofs.YtfminfgabiipjaaGreatDoor.p4
open Go.RowKit
def AvQ (so:Option Nat) (u:QV):Prop:=∀s,so=some s→(0<u.2.1.2.1→∀a,u.2.1.1=some a→a.block≠s)∧(0<u.2.2.2.1→∀a,u.2.2.1=some a→a.block≠s)
theorem AvQ.none (u:QV):AvQ none u:=fun s h=>by cases h
theorem AvQ.hi {B:Nat} {u:QV} {so:Option Nat} (h:HiR B (qagg u)) (hs:∀s,so=some s→s<B):AvQ so u:=fun s e=>by
 obtain⟨h1,h2⟩:=h _ _ _ _ rfl
 have:=hs s e
 refine⟨fun h0 a ha e2=>?_,fun h0 a ha e2=>?_⟩
 ·have:=h1 a _ _ (by rw [ha]) h0;omega
 ·have:=h2 a _ _ (by rw [ha]) h0;omega
theorem MagAt.keepA {W W':World} {ao:Option Addr} {n c x:Nat} {so:Option Nat} (h:MagAt W (.slice ao n c) x) (hk:W.grownBy W' so) (ha:∀s,so=some s→0<n→∀a,ao=some a→a.block≠s):MagAt W' (.slice ao n c) x:=by
 obtain⟨ao',b,off,c',n',L,e,h1,h2⟩:=h
 cases e
 cases so with
 | none=>exact MagAt.below ⟨ao,b,off,c,n,L,rfl,h1,h2⟩ (qdt hk)
 | some s=>exact⟨ao,b,off,c,n,L,rfl,⟨h1.len,h1.cap,qdX hk h1.cells (fun h0=>by
   have h0:0<n:=by rw [←h1.len];exact h0
   exact ha s rfl h0 _ (h1.addr h0)),h1.dig,h1.nrm⟩,h2⟩
theorem qbK.keepA {W W':World} {u:QV} {q:Rat} {so:Option Nat} (h:qbK W (qagg u) q) (hk:W.grownBy W' so) (ha:AvQ so u):qbK W' (qagg u) q:=by
 obtain⟨m,o,e,h1,h2⟩:=h
 simp only [qaQ,qaP,qaI,and_true] at e
 obtain⟨e0,rfl,_,rfl⟩:=e
 exact⟨_,_,by unfold qagg;rw [e0],MagAt.keepA h1 hk fun s hs=>(ha s hs).1,MagAt.keepA h2 hk fun s hs=>(ha s hs).2⟩
theorem qbK.avNew {W:World} {u:QV} {q:Rat} {g:Nat} (h:qbK W (qagg u) q) (hg:W.heap.size≤g):AvQ (some g) u:=by
 obtain⟨m,o,e,⟨ao,b,off,c,n,L,rfl,h1,_⟩,⟨ao',b',off',c',n',L',rfl,h2,_⟩⟩:=h
 simp only [qaQ,qaP,qaI,and_true,qbh] at e
 obtain⟨_,⟨e1,e2,_⟩,_,e3,e4,_⟩:=e
 intro s hs
 cases hs
 refine⟨fun h0 a ha e=>?_,fun h0 a ha e=>?_⟩
 ·rw [e2] at h0
  rw [e1,h1.addr h0] at ha
  cases ha
  have:=qeo h1 h0
  simp only at e;omega
 ·rw [e4] at h0
  rw [e3,h2.addr h0] at ha
  cases ha
  have:=qeo h2 h0
  simp only at e;omega
def QRowA (W:World) (g C:Nat) (so:Option Nat) (f:Nat→Rat):Prop:=∃(cur:Array Value) (q:Nat→QV),W.heap[g]? = some (.cells cur 123 (0,0))∧(∀x∈cur.toList,qcg x) ∧
 ∀j,j<C→(∀r,r<4→cur[j*4+r]? = (qcR (q j))[r]?)∧qbK W (qagg (q j)) (f j)∧AvQ so (q j)
theorem QRow.free {W:World} {g C:Nat} {f:Nat→Rat} (h:QRow W g C f):QRowA W g C none f:=by
 obtain⟨cur,q,h1,h2,h3⟩:=h
 exact⟨cur,q,h1,h2,fun j hj=>⟨(h3 j hj).1,(h3 j hj).2,AvQ.none _⟩⟩
theorem QRowA.row {W:World} {g C:Nat} {so:Option Nat} {f:Nat→Rat} (h:QRowA W g C so f):QRow W g C f:=by
 obtain⟨cur,q,h1,h2,h3⟩:=h
 exact⟨cur,q,h1,h2,fun j hj=>⟨(h3 j hj).1,(h3 j hj).2.1⟩⟩
theorem QRowA.below {W W':World} {g C:Nat} {so:Option Nat} {f:Nat→Rat} (h:QRowA W g C so f) (hb:Below W.heap.size W W'):QRowA W' g C so f:=by
 obtain⟨cur,q,h1,h2,h3⟩:=h
 exact⟨cur,q,zkeep hb _ _ h1,h2,fun j hj=>⟨(h3 j hj).1,(h3 j hj).2.1.below hb,(h3 j hj).2.2⟩⟩
theorem QRowA.congr {W:World} {g C:Nat} {so:Option Nat} {f f':Nat→Rat} (h:QRowA W g C so f) (e:∀j,j<C→f j=f' j):QRowA W g C so f':=by
 obtain⟨cur,q,h1,h2,h3⟩:=h
 exact⟨cur,q,h1,h2,fun j hj=>by rw [←e j hj];exact h3 j hj⟩
def set4 (W:World) (g o:Nat) (u:QV):World:=(((W.setCell ⟨g,o,none⟩ (.bool u.1)).setCell ⟨g,o+1,none⟩ (.slice u.2.1.1 u.2.1.2.1 u.2.1.2.2)).setCell ⟨g,o+2,none⟩ (.bool false)).setCell ⟨g,o+3,none⟩ (.slice u.2.2.1 u.2.2.2.1 u.2.2.2.2)
theorem qde (W:World) (g o:Nat) (u:QV):W.grownBy (set4 W g o u) (some g) :=
 qbL (qbO _ _ _ _) (qbL (qbO _ _ _ _) (qbL (qbO _ _ _ _) (qbO _ _ _ _)))
theorem qmb {W:World} {g o:Nat} {u:QV} {cur:Array Value} {t:TypeId} (h:W.heap[g]? = some (.cells cur t (0,0))) :
  (set4 W g o u).heap[g]? = some (.cells ((((cur.setIfInBounds o (.bool u.1)).setIfInBounds (o+1) (.slice u.2.1.1 u.2.1.2.1 u.2.1.2.2)).setIfInBounds (o+2) (.bool false)).setIfInBounds (o+3) (.slice u.2.2.1 u.2.2.2.1 u.2.2.2.2)) t (0,0)) :=
 heap_setCell_same _ g _ _ t _ (heap_setCell_same _ g _ _ t _ (heap_setCell_same _ g _ _ t _ (heap_setCell_same _ g _ _ t _ h)))
theorem qfP {cur:Array Value} {i:Nat} {v:Value} (h:∀x∈cur.toList,qcg x) (hv:qcg v):∀x∈(cur.setIfInBounds i v).toList,qcg x:=by
 intro x hx
 rw [Array.toList_setIfInBounds] at hx
 rcases List.mem_or_eq_of_mem_set hx with hx | rfl
 ·exact h x hx
 ·exact hv
theorem QRowA.set {W:World} {g C:Nat} {so:Option Nat} {f:Nat→Rat} (h:QRowA W g C so f) {j:Nat} (hj:j<C) {u:QV} {q:Rat} (hu:qbK W (qagg u) q) (ha:AvQ so u) :
  QRowA (set4 W g (j*4) u) g C so (fun k=>if k=j then q else f k):=by
 obtain⟨cur,v,h1,h2,h3⟩:=h
 have hk:=qde W g (j*4) u
 refine⟨_,fun k=>if k=j then u else v k,qmb h1,qfP (qfP (qfP (qfP h2 (qf8 _)) (qcF _ _ _)) (qf8 _)) (qcF _ _ _),fun k hkC=>?_⟩
 have hsz:j*4+3<cur.size:=(qG ((h3 j hj).1 3 (by decide))).1
 dsimp only
 by_cases e:k=j
 ·subst e
  rw [if_pos rfl,if_pos rfl]
  refine⟨fun r hr=>?_,qcN hu hk h1 (qfE h2),ha⟩
  have:r=0∨r=1∨r=2∨r=3:=by omega
  rcases this with rfl | rfl | rfl | rfl <;> simp [Array.getElem?_setIfInBounds,qcR] <;> omega
 ·rw [if_neg e,if_neg e]
  obtain⟨a1,a2,a3⟩:=h3 k hkC
  refine⟨fun r hr=>?_,qcN a2 hk h1 (qfE h2),a3⟩
  rw [Array.getElem?_setIfInBounds_ne (by omega),Array.getElem?_setIfInBounds_ne (by omega),Array.getElem?_setIfInBounds_ne (by omega),Array.getElem?_setIfInBounds_ne (by omega)]
  exact a1 r hr
theorem QRowA.keep {W W':World} {g C g':Nat} {so:Option Nat} {f:Nat→Rat} {cs:Array Value} {t:TypeId} (h:QRowA W g C so f) (hk:W.grownBy W' (some g')) (hg:W.heap[g']? = some (.cells cs t (0,0))) (hne:∀x∈cs.toList,qcg x) (hgg:g≠g'):QRowA W' g C so f:=by
 obtain⟨cur,q,h1,h2,h3⟩:=h
 exact⟨cur,q,(hk.block _ (qG h1).1 (fun e=>hgg (qah e))).trans h1,h2,fun j hj=>⟨(h3 j hj).1,qcN (h3 j hj).2.1 hk hg (qfE hne),(h3 j hj).2.2⟩⟩
structure QTab (W:World) (B T R C:Nat) (gs cp:Nat→Nat) (so:Option Nat) (f:Nat→Nat→Rat):Prop where
 hb:B≤T
 hdr:∃cur:Array Value,W.heap[T]? = some (.cells cur 96 (0,0))∧(∀x∈cur.toList,qcg x)∧∀i,i<R→cur[i]? = some (.slice (some ⟨gs i,0,none⟩) C (cp i))
 rows:∀i,i<R→QRowA W (gs i) C so (f i)
 low:∀i,i<R→B≤gs i
 inj:∀i,i<R→∀k,k<R→gs i=gs k→i=k
theorem QTab.below {W W':World} {B T R C:Nat} {gs cp:Nat→Nat} {so:Option Nat} {f:Nat→Nat→Rat} (h:QTab W B T R C gs cp so f) (hb:Below W.heap.size W W'):QTab W' B T R C gs cp so f:=by
 obtain⟨cur,h1,h2,h3⟩:=h.hdr
 exact⟨h.hb,⟨cur,zkeep hb _ _ h1,h2,h3⟩,fun i hi=>(h.rows i hi).below hb,h.low,h.inj⟩
instance stays_qtab {B T R C:Nat} {gs cp:Nat→Nat} {so:Option Nat} {f:Nat→Nat→Rat}:Stays fun W=>QTab W B T R C gs cp so f:=⟨fun h hb=>h.below hb⟩
theorem QTab.congr {W:World} {B T R C:Nat} {gs cp:Nat→Nat} {so:Option Nat} {f f':Nat→Nat→Rat} (h:QTab W B T R C gs cp so f) (e:∀i,i<R→∀j,j<C→f i j=f' i j):QTab W B T R C gs cp so f' :=
 ⟨h.hb,h.hdr,fun i hi=>(h.rows i hi).congr (e i hi),h.low,h.inj⟩
theorem QTab.tne {W:World} {B T R C:Nat} {gs cp:Nat→Nat} {so:Option Nat} {f:Nat→Nat→Rat} (h:QTab W B T R C gs cp so f) {i:Nat} (hi:i<R):T≠gs i:=fun e=>by
 obtain⟨cur,h1,_⟩:=h.hdr
 obtain⟨cur2,q,h2,_⟩:=h.rows i hi
 rw [e,h2] at h1
 simp at h1
theorem QTab.head {W:World} {B T R C:Nat} {gs cp:Nat→Nat} {so:Option Nat} {f:Nat→Nat→Rat} (h:QTab W B T R C gs cp so f) {i:Nat} (hi:i<R):W.cell? ⟨T,i,none⟩=some (.slice (some ⟨gs i,0,none⟩) C (cp i))∧W.frozen? ⟨T,i,none⟩=false:=by
 obtain⟨cur,h1,_,h3⟩:=h.hdr
 exact⟨(cell_of_row _ _ _ _ _ _ h1).trans (h3 i hi),frozen_of_row _ _ _ _ _ h1⟩
theorem QTab.set {W:World} {B T R C:Nat} {gs cp:Nat→Nat} {so:Option Nat} {f:Nat→Nat→Rat} (h:QTab W B T R C gs cp so f) {i j:Nat} (hi:i<R) (hj:j<C) {u:QV} {q:Rat} (hu:qbK W (qagg u) q) (ha:AvQ so u) :
  QTab (set4 W (gs i) (j*4) u) B T R C gs cp so (fun r k=>if r=i∧k=j then q else f r k):=by
 obtain⟨cur,h1,h2,h3⟩:=h.hdr
 have hk:=qde W (gs i) (j*4) u
 obtain⟨cr,qr,r1,r2,_⟩:=h.rows i hi
 refine⟨h.hb,⟨cur,(hk.block _ (qG h1).1 (fun e=>h.tne hi (qah e))).trans h1,h2,h3⟩,fun r hr=>?_,h.low,h.inj⟩
 by_cases e:r=i
 ·subst e
  exact ((h.rows r hr).set hj hu ha).congr fun k _=>by simp
 ·exact ((h.rows r hr).keep hk r1 r2 fun e2=>e (h.inj r hr i hi e2)).congr fun k _=>by simp [e]
theorem QTab.swap {W:World} {B T R C:Nat} {gs cp:Nat→Nat} {so:Option Nat} {f:Nat→Nat→Rat} (h:QTab W B T R C gs cp so f) {i k:Nat} (hi:i<R) (hk:k<R) :
  QTab ((W.setCell ⟨T,i,none⟩ (.slice (some ⟨gs k,0,none⟩) C (cp k))).setCell ⟨T,k,none⟩ (.slice (some ⟨gs i,0,none⟩) C (cp i))) B T R C (qbW gs i k) (qbW cp i k) so (qbW f i k):=by
 obtain⟨cur,h1,h2,h3⟩:=h.hdr
 have hkp:W.grownBy ((W.setCell ⟨T,i,none⟩ (.slice (some ⟨gs k,0,none⟩) C (cp k))).setCell ⟨T,k,none⟩ (.slice (some ⟨gs i,0,none⟩) C (cp i))) (some T):=qbL (qbO _ _ _ _) (qbO _ _ _ _)
 have hrow:∀r,r<R→∃s,s<R∧qbW gs i k r=gs s∧qbW cp i k r=cp s∧qbW f i k r=f s∧(s=if r=i then k else if r=k then i else r):=fun r hr=>by
  unfold qbW
  by_cases e:r=i
  ·exact⟨k,hk,by rw [if_pos e],by rw [if_pos e],by rw [if_pos e],by rw [if_pos e]⟩
  ·by_cases e2:r=k
   ·exact⟨i,hi,by rw [if_neg e,if_pos e2],by rw [if_neg e,if_pos e2],by rw [if_neg e,if_pos e2],by rw [if_neg e,if_pos e2]⟩
   ·exact⟨r,hr,by rw [if_neg e,if_neg e2],by rw [if_neg e,if_neg e2],by rw [if_neg e,if_neg e2],by rw [if_neg e,if_neg e2]⟩
 refine⟨h.hb,⟨_,heap_setCell_same _ T _ _ _ _ (heap_setCell_same _ T _ _ _ _ h1),qfP (qfP h2 (qcF _ _ _)) (qcF _ _ _),fun r hr=>?_⟩,fun r hr=>?_,fun r hr=>?_,fun r hr s hs e=>?_⟩
 ·have hsi:=(qG (h3 i hi)).1
  have hsk:=(qG (h3 k hk)).1
  unfold qbW
  rw [Array.getElem?_setIfInBounds]
  by_cases e2:k=r
  ·rw [if_pos e2,if_pos (by rw [Array.size_setIfInBounds];omega)]
   by_cases e:r=i
   ·rw [if_pos e,if_pos e,←e,←e2]
   ·rw [if_neg e,if_neg e,if_pos e2.symm,if_pos e2.symm]
  ·rw [if_neg e2,Array.getElem?_setIfInBounds]
   by_cases e:i=r
   ·rw [if_pos e,if_pos (by omega),if_pos e.symm,if_pos e.symm]
   ·rw [if_neg e,if_neg (fun h=>e h.symm),if_neg (fun h=>e2 h.symm),if_neg (fun h=>e h.symm),if_neg (fun h=>e2 h.symm)]
    exact h3 r hr
 ·obtain⟨s,hs,e1,_,e3,_⟩:=hrow r hr
  rw [e1,e3]
  exact (h.rows s hs).keep hkp h1 h2 fun e=>h.tne hs e.symm
 ·obtain⟨s,hs,e1,_⟩:=hrow r hr
  rw [e1];exact h.low s hs
 ·obtain⟨r',hr',e1,_,_,f1⟩:=hrow r hr
  obtain⟨s',hs',e2,_,_,f2⟩:=hrow s hs
  rw [e1,e2] at e
  have:=h.inj r' hr' s' hs' e
  clear hrow e e1 e2 hkp h1 h2 h3 hr' hs'
  grind
end Go.Proofs.YtfminfgabiipjaaGreatDoor.p4
