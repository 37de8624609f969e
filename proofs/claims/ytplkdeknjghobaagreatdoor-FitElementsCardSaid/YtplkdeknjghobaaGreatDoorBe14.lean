import Derived.Deep.DrawnRows
import Derived.Deep.RegionWith
import Derived.Test.YtplkdeknjghobaaGreatDoorBe13
set_option maxRecDepth 100000
set_option maxHeartbeats 0
namespace Go.Proofs.YtplkdeknjghobaaGreatDoor
open Go.RowKit
abbrev zi0:Value:=.agg #[.slice none 0 0,.bool false]
def isum (t:Nat->Int):Nat->Int
 | 0=>0
 | n+1=>isum t n+t n
theorem qfm (t:Nat->Int) (K:Nat):∀k,(∀j,j<k->Fit (t j).natAbs K)->Fit (isum t k).natAbs (K+k+1)
 | 0,_=>Nat.pow_pos (by decide)
 | k+1,h=>by
  have h1:=qfm t K k (fun j hj=>h j (by omega));have h2:=(h k (by omega)).mono (show K<=K+k+1 by omega);exact (h1.add h2).le (qbK _ _)
theorem qi1 {w wr w3:World} {a1 a9:Option Addr} {n1 c1 n9 c9:Nat} {b1 b9:Bool} {z:Int} {o:Obj} (hp3:IntAt w3 (.agg #[.slice a9 n9 c9,.bool b9]) z) (z3:w3.heap[w.heap.size+1+1]? = some (.cells #[.slice a1 n1 c1,.bool b1] 242 (0,0))) (hb:Below (w.heap.size+1+1) wr w3) (hz:wr.heap[w.heap.size+1]? = some o) (hB:Below w.heap.size w wr) :
  ((w3.setCell ⟨w.heap.size+1+1,0,none⟩ (.slice a9 n9 c9)).setCell ⟨w.heap.size+1+1,1,none⟩ (.bool b9)).heap[w.heap.size+1+1]? = some (.cells #[.slice a9 n9 c9,.bool b9] 242 (0,0)) /\
   IntAt ((w3.setCell ⟨w.heap.size+1+1,0,none⟩ (.slice a9 n9 c9)).setCell ⟨w.heap.size+1+1,1,none⟩ (.bool b9)) (.agg #[.slice a9 n9 c9,.bool b9]) z /\
   ((w3.setCell ⟨w.heap.size+1+1,0,none⟩ (.slice a9 n9 c9)).setCell ⟨w.heap.size+1+1,1,none⟩ (.bool b9)).heap[w.heap.size+1]? = some o /\
   Below w.heap.size w ((w3.setCell ⟨w.heap.size+1+1,0,none⟩ (.slice a9 n9 c9)).setCell ⟨w.heap.size+1+1,1,none⟩ (.bool b9)):=by
 have hne:w.heap.size+1≠w.heap.size+1+1:=by omega
 refine⟨heap_setCell_same _ _ 1 _ _ _ (heap_setCell_same _ _ 0 _ _ _ z3),?_,(qW _ ⟨_,1,none⟩ _ _ hne).trans ((qW _ ⟨_,0,none⟩ _ _ hne).trans ((hb.block _ (by omega)).trans hz)),((hB.trans (hb.mono (by omega))).setCell (p:=⟨_,0,none⟩) (by show w.heap.size<=w.heap.size+1+1;omega) _).setCell (p:=⟨_,1,none⟩) (by show w.heap.size<=w.heap.size+1+1;omega) _⟩;obtain⟨m,e,hg⟩:=hp3;refine⟨m,e,qce hg (qbU (least.qbX w3 _ 0 _) (least.qbX _ _ 1 _)) z3 ?_⟩;intro x hx d;rcases qaP.1 hx with rfl | hx
 ·intro h;cases h
 ·rw [qap.1 hx];intro h;cases h
theorem qk2 (n:Nat) (p1 p2:Value) (t:Nat->Int) (K:Nat) (hK:K<=34359738368) (w:World) (hn:n<=64)
  (hterm:∀W (j:Nat),j<n->Below w.heap.size w W->Calls Tryz.prog 171 #[.int .i64 j,p1,p2] W fun e W'=>∃u,e=.returned u/\Below W.heap.size W W'/\IntAt W' u (t j)) (hfit:∀j,j<n->Fit (t j).natAbs K) :
  Calls Tryz.prog 170 #[.int .i64 n,zi0,.func (.func 171) #[] #[p1,p2],.func (.func 173) #[] #[]] w fun e w'=>∃u,e=.returned u/\Below w.heap.size w w'/\IntAt w' u (isum t n):=by
 have HT:=qH hterm;have HF:=qH hfit;have hfi:=qfg;clear hterm hfit;go_enter Tryz.func170,Tryz.ntmps170;go_wp2_with fail
 go_loopw [13] (fun x13 W=>∃(k:Nat) (a:Option Addr) (m c:Nat) (b:Bool),k<=n/\x13=.int .i64 k/\Hid (W.heap[w.heap.size+1+1]? = some (.cells #[.slice a m c,.bool b] 242 (0,0))/\IntAt W (.agg #[.slice a m c,.bool b]) (isum t k)/\W.heap[w.heap.size+1]? = some (.cells #[.slice none 0 0,.bool false] 242 (0,0)))/\Hid (Below w.heap.size w W)) (fun x13 _=>n-(intOf x13).toNat)
 case atStart =>
  refine⟨0,none,0,0,false,qam _,rfl,qH ⟨qM _ _ _ (by simp),?_,(qL _ _ _ (by simp)).trans (qM _ _ _ (by simp))⟩,qH (qbS (qbS (qbS qB qN) qN) qN)⟩;exact⟨_,rfl,MagAt.nil _⟩
 case round =>
  obtain⟨k,a1,n1,c1,b1,hk,rfl,hI,hB⟩:=hrel
  by_cases hkn:k<n
  ·have hki:(k:Int)<n:=by omega
   have e0:=qC wr _ 0 _ _ _ hI.out.1;have e1:=qC wr _ 1 _ _ _ hI.out.1;have hst:Below (w.heap.size+1+1) wr wr:=Below.refl _ _;have hstD:Below (w.heap.size+1+1) wr wr.drew:=hst.drew;have hlt:=(qG hI.out.1).1;have Hlt:=qH hlt;clear hlt;have HFt:=qH (qA (qfm t K k (fun j hj=>HF.out j (by omega))) ((HF.out k hkn).mono (show K<=K+k+1 by omega)));go_wp2_with fail
   go_region_with (first | (go_at_call 173;refine (least.qdS (isum t k) (t k) (K+k+1) (by omega) _ _ _ (by first | exact HP2.out.1 | exact HP2.out.1.below qB.drew) (by first | exact HP2.out.2.1 | exact HP2.out.2.1.below qB.drew) HFt.out.1 HFt.out.2).mono ?_;rintro e w3 ⟨p3,rfl,hb3,hp3⟩;have HB3:Below (w.heap.size+1+1) wr w3:=HB2.trans (hb3.mono (qaj (qao Hlt.out) HB2.size));obtain⟨a9,n9,c9,b9,rfl⟩:=least.qbT hp3;have z3:=(hb3.block _ (qag Hlt.out HB2.size)).trans HP2.out.2.2;have q0:=qC w3 _ 0 _ _ _ z3;have q1:=qC w3 _ 1 _ _ _ z3;have f0:=qF w3 _ 0 _ _ z3;have f1:=qF w3 _ 1 _ _ z3;have HF3:=qH (qi1 hp3 z3 HB3 hI.out.2.2 hB.out);clear hb3 hp3 z3) | (go_at_call 171;refine (HT.out _ k hkn (hB.out.trans (hstD.mono (by omega)))).mono ?_;rintro e w2 ⟨u2,rfl,hb2,hu2⟩;have HB2:Below (w.heap.size+1+1) wr w2:=hstD.trans (hb2.mono (qao Hlt.out));have z2:w2.heap[w.heap.size+1+1]? = some (.cells #[.slice a1 n1 c1,.bool b1] 242 (0,0)):=(hb2.block _ Hlt.out).trans hI.out.1;have g0:=qC w2 _ 0 _ _ _ z2;have g1:=qC w2 _ 1 _ _ _ z2;obtain⟨a2,n2,c2,b2,rfl⟩:=least.qbT hu2;have HP2:=qH (qA (hI.out.2.1.below (W':=w2) ((Below.refl wr.heap.size wr).drew.trans hb2)) (qA hu2 z2));clear hb2 hu2 z2))
   all_goals go_wp2_with fail
   all_goals go_roundw
   all_goals first
    | exact⟨k+1,a9,n9,c9,b9,hkn,by go_num,qH ⟨HF3.out.1,HF3.out.2.1,HF3.out.2.2.1⟩,qH HF3.out.2.2.2⟩
    | (simp [intOf];omega)
  ·obtain rfl:k=n:=by omega
   have e0:=qC wr _ 0 _ _ _ hI.out.1;have e1:=qC wr _ 1 _ _ _ hI.out.1;have hrow:=hI.out.2.2;have HR:=qH (qA hrow (qA (qS hB.out (show w.heap.size<=w.heap.size+1 by omega) #[.slice a1 n1 c1,.bool b1]) (least.qcB (cs':=#[.slice a1 n1 c1,.bool b1]) hI.out.2.1 hrow qcX)));clear hrow
   go_wp2_with (with_reducible refine sR_ rfl 242 _ _ rfl (w.heap.size+1) #[.slice a1 n1 c1,.bool b1] HR.out.1 2 ?_)
   exact qR (v:=.agg #[.slice a1 n1 c1,.bool b1]) (rA_ rfl (w.heap.size+1) (qT _ _ _ _ _ _ HR.out.1) Tryz.underlying242 2) rfl ⟨_,rfl,HR.out.2.1,HR.out.2.2⟩
theorem qh7 (n:Nat) (y1 y2 y3 y4:Value) (t:Nat->Int) (K:Nat) (hK:K<=34359738368) (w:World) (hn:n<=64)
  (hterm:∀W (j:Nat),j<n->Below w.heap.size w W->Calls Tryz.prog 252 #[.int .i64 j,y1,y2,y3,y4] W fun e W'=>∃u,e=.returned u/\Below W.heap.size W W'/\IntAt W' u (t j)) (hfit:∀j,j<n->Fit (t j).natAbs K) :
  Calls Tryz.prog 170 #[.int .i64 n,zi0,.func (.func 252) #[] #[y1,y2,y3,y4],.func (.func 173) #[] #[]] w fun e w'=>∃u,e=.returned u/\Below w.heap.size w w'/\IntAt w' u (isum t n):=by
 have HT:=qH hterm;have HF:=qH hfit;have hfi:=qfg;clear hterm hfit;go_enter Tryz.func170,Tryz.ntmps170;go_wp2_with fail
 go_loopw [13] (fun x13 W=>∃(k:Nat) (a:Option Addr) (m c:Nat) (b:Bool),k<=n/\x13=.int .i64 k/\Hid (W.heap[w.heap.size+1+1]? = some (.cells #[.slice a m c,.bool b] 242 (0,0))/\IntAt W (.agg #[.slice a m c,.bool b]) (isum t k)/\W.heap[w.heap.size+1]? = some (.cells #[.slice none 0 0,.bool false] 242 (0,0)))/\Hid (Below w.heap.size w W)) (fun x13 _=>n-(intOf x13).toNat)
 case atStart =>
  refine⟨0,none,0,0,false,qam _,rfl,qH ⟨qM _ _ _ (by simp),?_,(qL _ _ _ (by simp)).trans (qM _ _ _ (by simp))⟩,qH (qbS (qbS (qbS qB qN) qN) qN)⟩;exact⟨_,rfl,MagAt.nil _⟩
 case round =>
  obtain⟨k,a1,n1,c1,b1,hk,rfl,hI,hB⟩:=hrel
  by_cases hkn:k<n
  ·have hki:(k:Int)<n:=by omega
   have e0:=qC wr _ 0 _ _ _ hI.out.1;have e1:=qC wr _ 1 _ _ _ hI.out.1;have hst:Below (w.heap.size+1+1) wr wr:=Below.refl _ _;have hstD:Below (w.heap.size+1+1) wr wr.drew:=hst.drew;have hlt:=(qG hI.out.1).1;have Hlt:=qH hlt;clear hlt;have HFt:=qH (qA (qfm t K k (fun j hj=>HF.out j (by omega))) ((HF.out k hkn).mono (show K<=K+k+1 by omega)));go_wp2_with fail
   go_region_with (first | (go_at_call 173;refine (least.qdS (isum t k) (t k) (K+k+1) (by omega) _ _ _ (by first | exact HP2.out.1 | exact HP2.out.1.below qB.drew) (by first | exact HP2.out.2.1 | exact HP2.out.2.1.below qB.drew) HFt.out.1 HFt.out.2).mono ?_;rintro e w3 ⟨p3,rfl,hb3,hp3⟩;have HB3:Below (w.heap.size+1+1) wr w3:=HB2.trans (hb3.mono (qaj (qao Hlt.out) HB2.size));obtain⟨a9,n9,c9,b9,rfl⟩:=least.qbT hp3;have z3:=(hb3.block _ (qag Hlt.out HB2.size)).trans HP2.out.2.2;have q0:=qC w3 _ 0 _ _ _ z3;have q1:=qC w3 _ 1 _ _ _ z3;have f0:=qF w3 _ 0 _ _ z3;have f1:=qF w3 _ 1 _ _ z3;have HF3:=qH (qi1 hp3 z3 HB3 hI.out.2.2 hB.out);clear hb3 hp3 z3) | (go_at_call 252;refine (HT.out _ k hkn (hB.out.trans (hstD.mono (by omega)))).mono ?_;rintro e w2 ⟨u2,rfl,hb2,hu2⟩;have HB2:Below (w.heap.size+1+1) wr w2:=hstD.trans (hb2.mono (qao Hlt.out));have z2:w2.heap[w.heap.size+1+1]? = some (.cells #[.slice a1 n1 c1,.bool b1] 242 (0,0)):=(hb2.block _ Hlt.out).trans hI.out.1;have g0:=qC w2 _ 0 _ _ _ z2;have g1:=qC w2 _ 1 _ _ _ z2;obtain⟨a2,n2,c2,b2,rfl⟩:=least.qbT hu2;have HP2:=qH (qA (hI.out.2.1.below (W':=w2) ((Below.refl wr.heap.size wr).drew.trans hb2)) (qA hu2 z2));clear hb2 hu2 z2))
   all_goals go_wp2_with fail
   all_goals go_roundw
   all_goals first
    | exact⟨k+1,a9,n9,c9,b9,hkn,by go_num,qH ⟨HF3.out.1,HF3.out.2.1,HF3.out.2.2.1⟩,qH HF3.out.2.2.2⟩
    | (simp [intOf];omega)
  ·obtain rfl:k=n:=by omega
   have e0:=qC wr _ 0 _ _ _ hI.out.1;have e1:=qC wr _ 1 _ _ _ hI.out.1;have hrow:=hI.out.2.2;have HR:=qH (qA hrow (qA (qS hB.out (show w.heap.size<=w.heap.size+1 by omega) #[.slice a1 n1 c1,.bool b1]) (least.qcB (cs':=#[.slice a1 n1 c1,.bool b1]) hI.out.2.1 hrow qcX)));clear hrow
   go_wp2_with (with_reducible refine sR_ rfl 242 _ _ rfl (w.heap.size+1) #[.slice a1 n1 c1,.bool b1] HR.out.1 2 ?_)
   exact qR (v:=.agg #[.slice a1 n1 c1,.bool b1]) (rA_ rfl (w.heap.size+1) (qT _ _ _ _ _ _ HR.out.1) Tryz.underlying242 2) rfl ⟨_,rfl,HR.out.2.1,HR.out.2.2⟩
abbrev rowv (g n:Nat):Value:=.slice (some ⟨g,0,none⟩) n n
def rowvs (R n:Nat) (gs:Nat->Nat):List Value:=(List.range R).map fun i=>rowv (gs i) n
theorem qcM (R n:Nat) (gs:Nat->Nat):(rowvs R n gs).length=R:=by rw [rowvs,qaw,List.length_range]
theorem qea {R n i:Nat} {gs:Nat->Nat} (hi:i<R):(rowvs R n gs)[i]? = some (rowv (gs i) n):=by
 rw [rowvs,qaM,List.getElem?_range hi];rfl
theorem qmR {R n i:Nat} {gs:Nat->Nat} (g:Nat):(rowvs R n gs).set i (rowv g n)=rowvs R n (fun j=>if j=i then g else gs j):=by
 apply List.ext_getElem?;intro j
 by_cases hj:j<R
 ·rw [qea hj,List.getElem?_set]
  by_cases e:i=j
  ·subst e;rw [if_pos rfl,if_pos (by rw [qcM];exact hj),if_pos rfl]
  ·rw [if_neg e,qea hj,if_neg (fun h=>e h.symm)]
 ·rw [qba (by rw [qbb,qcM];omega),qba (by rw [qcM];omega)]
def qcm (W:World) (g n:Nat) (m:Nat->Int):Prop:=∃ps:List (Value×Bool),ps.length=n/\IRow W g n ps/\qct W ps m
theorem qcm.below {W W':World} {g n:Nat} {m:Nat->Int} (h:qcm W g n m) (hb:Below W.heap.size W W'):qcm W' g n m:=by
 obtain⟨ps,h1,h2,h3⟩:=h;exact⟨ps,h1,h2.below hb,h3.below hb⟩
theorem qcm.cells {W:World} {g n:Nat} {ps:List (Value×Bool)} (h1:ps.length=n) (h2:IRow W g n ps):qhm W g n ps:=by
 intro k hk;have h0:(ps++List.replicate (n-ps.length) (zs0,false))[k]? = some (ps.getD k (zs0,false)):=by
  rw [qaA (by omega),qaa,qae (by omega)];rfl
 obtain⟨e1,e2⟩:=qfk _ _ _ h0;exact⟨(qC _ _ _ _ _ _ h2.1).trans ((qat ..).trans e1),(qC _ _ _ _ _ _ h2.1).trans ((qat ..).trans e2)⟩
structure MatAt (W:World) (tb R n:Nat) (gs:Nat->Nat) (M:Nat->Nat->Int):Prop where
 row:W.heap[tb]? = some (.cells (rowvs R n gs).toArray 237 (0,0))
 rows:∀i,i<R->qcm W (gs i) n (M i)
theorem MatAt.below {W W':World} {tb R n:Nat} {gs:Nat->Nat} {M:Nat->Nat->Int} (h:MatAt W tb R n gs M) (hb:Below W.heap.size W W'):MatAt W' tb R n gs M :=
 ⟨(hb.block _ (qG h.row).1).trans h.row,fun i hi=>(h.rows i hi).below hb⟩
theorem MatAt.cell {W:World} {tb R n:Nat} {gs:Nat->Nat} {M:Nat->Nat->Int} (h:MatAt W tb R n gs M) {i:Nat} (hi:i<R):W.cell? ⟨tb,i,none⟩=some (rowv (gs i) n)/\W.frozen? ⟨tb,i,none⟩=false :=
 ⟨(qC _ _ _ _ _ _ h.row).trans ((qat ..).trans (qea hi)),qF _ _ _ _ _ h.row⟩
theorem qg5 {R n:Nat} {gs:Nat->Nat}:∀x∈(rowvs R n gs).toArray.toList,∀d,x≠.int .u32 d:=by
 intro x hx d e;obtain⟨i,_,h⟩:=qbB.1 (show x∈rowvs R n gs from hx);rw [e] at h;cases h
theorem qcm.keep {W W':World} {tb R n g m':Nat} {gs:Nat->Nat} {m:Nat->Int} (h:qcm W g m' m) (hk:W.grownBy W' (some tb)) (ht:W.heap[tb]? = some (.cells (rowvs R n gs).toArray 237 (0,0))):qcm W' g m' m:=by
 obtain⟨ps,h1,h2,h3⟩:=h;have hne:g≠tb:=by
  intro e;subst e;have:=h2.1.symm.trans ht;simp at this
 exact⟨ps,h1,⟨(hk.block _ (qG h2.1).1 (fun e=>hne (qai e))).trans h2.1,h2.2⟩,h3.keep hk ht qg5⟩
theorem MatAt.set {W:World} {tb R n:Nat} {gs:Nat->Nat} {M:Nat->Nat->Int} (h:MatAt W tb R n gs M) (i g:Nat) (m:Nat->Int) (hg:qcm W g n m) :
  MatAt (W.setCell ⟨tb,i,none⟩ (rowv g n)) tb R n (fun j=>if j=i then g else gs j) (fun j=>if j=i then m else M j):=by
 have hk:=least.qbX W tb i (rowv g n);refine⟨?_,fun j hj=>?_⟩
 ·rw [heap_setCell_same _ tb i _ _ _ h.row,qaC,qmR]
 ·by_cases e:j=i
  ·simp only [if_pos e];exact hg.keep hk h.row
  ·simp only [if_neg e];exact (h.rows j hj).keep hk h.row
theorem MatAt.congr {W:World} {tb R n:Nat} {gs gs':Nat->Nat} {M M':Nat->Nat->Int} (h:MatAt W tb R n gs M) (hg:∀i,i<R->gs i=gs' i) (hM:∀i,i<R->M i=M' i):MatAt W tb R n gs' M':=by
 refine⟨?_,fun i hi=>by rw [<-hg i hi,<-hM i hi];exact h.rows i hi⟩;rw [h.row]
 congr 3
 exact List.map_congr_left fun i hi=>by rw [hg i (qbg.1 hi)]
def PivAs (w:World) (tb R n k c:Nat) (gs:Nat->Nat) (M:Nat->Nat->Int) (e:Ending) (w':World):Prop :=
 (e=.returned (.bool false)/\w'=w/\∀i,k<=i->i<R->M i c=0) \/
 (e=.returned (.bool true)/\w.grownBy w' (some tb)/\∃a,k<=a/\a<R/\M a c≠0/\MatAt w' tb R n (fun j=>if j=k then gs a else if j=a then gs k else gs j) (fun j=>if j=k then M a else if j=a then M k else M j))
theorem qmK (tb R n k c:Nat) (gs:Nat->Nat) (M:Nat->Nat->Int) (w:World) (hR:R<=1024) (hk:k<R) (hc:c<n) (_hn:n<=1024) (hM:MatAt w tb R n gs M) :
  Calls Tryz.prog 275 #[.slice (some ⟨tb,0,none⟩) R R,.int .i64 k,.int .i64 c] w fun e w'=>PivAs w tb R n k c gs M e w':=by
 have HM:=qH hM;have hki:(k:Int)<R:=by omega
 have hci:(c:Int)<n:=by omega
 clear hM;go_enter Tryz.func275,Tryz.ntmps275;go_wp2
 go_step3
 go_wp2
 go_step3
 go_wp2
 go_loopw [7,8] (fun x7 x8 W=>∃i:Nat,k<=i/\i<=R/\x7=.int .i64 (-1)/\x8=.int .i64 i/\W=w/\Hid (∀j,k<=j->j<i->M j c=0)) (fun _ x8 _=>R-(intOf x8).toNat)
 case atStart=>exact⟨k,qad _,qao hk,rfl,rfl,rfl,qH (fun j h1 h2=>absurd h1 (by omega))⟩
 case round =>
  obtain⟨i,hik,hiR,rfl,rfl,rfl,hI⟩:=hrel
  by_cases hi:i<R
  ·have hii:(i:Int)<R:=by omega
   obtain⟨ps,hps,hrow,hpa⟩:=HM.out.rows i hi;obtain⟨c0,f0⟩:=HM.out.cell hi;obtain⟨d0,d1⟩:=qcm.cells hps hrow c hc;obtain⟨h1,h2⟩:=hpa c (by omega);have hz:=least.qcF (M i c).natAbs _ wr h2;have HZ:=qH hz;obtain⟨a,_,_,cc,m,_,e,_,_⟩:=h2;rw [e] at d0;rw [e] at HZ;clear hz e d1 h1 hps hrow hpa;go_wp2_with fail;refine HZ.out.mono ?_;rintro e w2 ⟨rfl,hw2⟩;subst hw2
   by_cases h0:(M i c).natAbs=0
   ·rw [qV h0];go_wp2;go_roundw
    case rel =>
     refine⟨i+1,by omega,hi,rfl,by go_num,trivial,qH (fun j h1 h2=>?_)⟩
     by_cases e:j=i
     ·subst e;omega
     ·exact hI.out j h1 (by omega)
    case measure=>simp [intOf];omega
   ·rw [qU h0];obtain⟨c1,f1⟩:=HM.out.cell hk;have m1:=HM.out.set i (gs k) (M k) (HM.out.rows k hk);have m2:=m1.set k (gs i) (M i) ((HM.out.rows i hi).keep (least.qbX w2 tb i (rowv (gs k) n)) HM.out.row);obtain⟨c2,f2⟩:=m1.cell hk;have H2:=qH m2;have H0:=qH h0;clear m1 m2 h0 hR;go_wp2_with fail
    go_region
    all_goals go_wp2_with fail
    all_goals rw [Exit.noGoto_ret]
    all_goals go_ret
    all_goals exact qah ⟨rfl,qcd (qbU (least.qbX _ _ _ _) (least.qbX _ _ _ _)) qB.drew,i,hik,hi,fun h=>H0.out (by rw [h];rfl),H2.out.below qB.drew⟩
  ·obtain rfl:i=R:=by omega
   go_wp2_with fail;rw [Exit.noGoto_ret];go_ret;exact qan ⟨rfl,rfl,hI.out⟩
def KK (K k:Nat):Nat:=(K+1)*2 ^ k-1
theorem qlb (K:Nat):KK K 0=K:=by unfold KK;rw [Nat.pow_zero,Nat.mul_one];omega
theorem qla (K k:Nat):KK K (k+1)=KK K k+KK K k+1:=by
 unfold KK;have h:0<(K+1)*2 ^ k:=qbP (by omega) (Nat.pow_pos (by decide));rw [qaD,<-qav];omega
theorem KK_le {K k:Nat} (hK:K<=33554430) (hk:k<=10):KK K k<=34359738368:=by
 unfold KK;have h1:2 ^ k<=2 ^ 10:=qa3 (by decide) hk;have h2:(K+1)*2 ^ k<=(K+1)*2 ^ 10:=qaR _ h1;have h3:(2:Nat) ^ 10=1024:=by decide
 rw [h3] at h2;omega
theorem fit_step {a b c d z:Int} {K:Nat} (ha:Fit a.natAbs K) (hb:Fit b.natAbs K) (hc:Fit c.natAbs K) (hd:Fit d.natAbs K):Fit ((a*b-c*d).tdiv z).natAbs (K+K+1):=by
 have h1:=ha.mul hb;have h2:=hc.mul hd;rw [<-qaE] at h1 h2;refine ((h1.add h2).le ?_);refine qaj ?_ (show (a*b-c*d).natAbs<=_ by omega);rw [Int.natAbs_tdiv];exact qaS _ _
theorem swap_fit {M:Nat->Nat->Int} {k a R n K:Nat} (hk:k<R) (ha:a<R) (h:∀i,i<R->∀j,j<n->Fit (M i j).natAbs K):∀i,i<R->∀j,j<n->Fit (qcl M k a i j).natAbs K:=by
 intro i hi j hj;unfold qcl;split
 ·exact h a ha j hj
 ·split
  ·exact h k hk j hj
  ·exact h i hi j hj
def qcj (W:World) (g:Nat) (z:Int):Prop:=∃(a:Option Addr) (m c:Nat) (b:Bool),W.heap[g]? = some (.cells #[.slice a m c,.bool b] 242 (0,0))/\IntAt W (.agg #[.slice a m c,.bool b]) z
theorem qcj.below {W W':World} {g:Nat} {z:Int} (h:qcj W g z) (hb:Below W.heap.size W W'):qcj W' g z:=by
 obtain⟨a,m,c,b,h1,h2⟩:=h;exact⟨a,m,c,b,(hb.block _ (qG h1).1).trans h1,h2.below hb⟩
theorem qcj.keep {W W':World} {g tb R n:Nat} {gs:Nat->Nat} {z:Int} (h:qcj W g z) (hk:W.grownBy W' (some tb)) (ht:W.heap[tb]? = some (.cells (rowvs R n gs).toArray 237 (0,0))):qcj W' g z:=by
 obtain⟨a,m,c,b,h1,x,e,h2⟩:=h;have hne:g≠tb:=by
  intro e;subst e;have:=h1.symm.trans ht;simp at this
 exact⟨a,m,c,b,(hk.block _ (qG h1).1 (fun e=>hne (qai e))).trans h1,x,e,qce h2 hk ht qg5⟩
theorem qjW {a:Option Addr} {m c:Nat} {b:Bool}:∀x∈(#[.slice a m c,.bool b]:Array Value).toList,∀d,x≠.int .u32 d:=by
 intro x hx d e;rcases qaP.1 hx with h | h
 ·rw [h] at e;cases e
 ·rw [qap.1 h] at e;cases e
theorem qec (W:World) (g:Nat) (u v:Value):W.grownBy ((W.setCell ⟨g,0,none⟩ u).setCell ⟨g,1,none⟩ v) (some g):=qbU (least.qbX W g 0 u) (least.qbX _ g 1 v)
theorem qcj.put {W:World} {g:Nat} {z0 z:Int} {a:Option Addr} {m c:Nat} {b:Bool} (h:qcj W g z0) (hi:IntAt W (.agg #[.slice a m c,.bool b]) z):qcj ((W.setCell ⟨g,0,none⟩ (.slice a m c)).setCell ⟨g,1,none⟩ (.bool b)) g z:=by
 obtain⟨a0,m0,c0,b0,h1,_⟩:=h;obtain⟨x,e,hm⟩:=hi;exact⟨a,m,c,b,heap_setCell_same _ g 1 _ _ _ (heap_setCell_same _ g 0 _ _ _ h1),x,e,qce hm (qec W g _ _) h1 qjW⟩
theorem qcm.put {W W':World} {g g' n:Nat} {z0:Int} {m:Nat->Int} (h:qcm W g' n m) (hb:qcj W g z0) (hk:W.grownBy W' (some g)) (hne:g'≠g):qcm W' g' n m:=by
 obtain⟨a0,m0,c0,b0,h1,_⟩:=hb;obtain⟨ps,p1,p2,p3⟩:=h;exact⟨ps,p1,⟨(hk.block _ (qG p2.1).1 (fun e=>hne (qai e))).trans p2.1,p2.2⟩,p3.keep hk h1 qjW⟩
theorem MatAt.put {W W':World} {tb R n g:Nat} {gs:Nat->Nat} {M:Nat->Nat->Int} {z0:Int} (h:MatAt W tb R n gs M) (hb:qcj W g z0) (hk:W.grownBy W' (some g)) (hne:∀i,i<R->gs i≠g):MatAt W' tb R n gs M:=by
 refine⟨?_,fun i hi=>(h.rows i hi).put hb hk (hne i hi)⟩;have:tb≠g:=by
  intro e;subst e;obtain⟨_,_,_,_,h1,_⟩:=hb;have:=h.row.symm.trans h1;simp at this
 exact (hk.block _ (qG h.row).1 (fun e=>this (qai e))).trans h.row
theorem qcj.cells {W:World} {g:Nat} {z:Int} (h:qcj W g z):∃(a:Option Addr) (m c:Nat) (b:Bool),(W.cell? ⟨g,0,none⟩=some (.slice a m c)/\W.cell? ⟨g,1,none⟩=some (.bool b))/\(W.frozen? ⟨g,0,none⟩=false/\W.frozen? ⟨g,1,none⟩=false)/\IntAt W (.agg #[.slice a m c,.bool b]) z:=by
 obtain⟨a,m,c,b,h1,h2⟩:=h;exact⟨a,m,c,b,⟨qC _ _ 0 _ _ _ h1,qC _ _ 1 _ _ _ h1⟩,⟨qF _ _ 0 _ _ h1,qF _ _ 1 _ _ h1⟩,h2⟩
theorem qcm.pair {W:World} {g n:Nat} {m:Nat->Int} (h:qcm W g n m) {c:Nat} (hc:c<n):∃(a:Option Addr) (l k:Nat) (b:Bool),W.cell? ⟨g,c*2,none⟩=some (.slice a l k)/\W.cell? ⟨g,c*2+1,none⟩=some (.bool b)/\IntAt W (.agg #[.slice a l k,.bool b]) (m c):=by
 obtain⟨ps,h1,h2,h3⟩:=h;obtain⟨d0,d1⟩:=qcm.cells h1 h2 c hc;obtain⟨a,l,k,b,e,hi⟩:=qdp h3 (k:=c) (by omega);rw [e] at d0 d1;exact⟨a,l,k,b,d0,d1,hi⟩
theorem qcj.lt {W:World} {g:Nat} {z:Int} (h:qcj W g z):g<W.heap.size:=by
 obtain⟨_,_,_,_,h1,_⟩:=h;exact (qG h1).1
theorem qeM {a b:World} {row:Option Nat} (h:a.grownBy b row) {p:Addr} (hp:a.heap.size<=p.block) (v:Value):a.grownBy (b.setCell p v) row :=
 ⟨h.os,h.tape,h.output,by simpa [World.setCell] using h.size,fun i hi hne=>(qW b p v i (by omega)).trans (h.block i hi hne)⟩
theorem gs_set {R i g x:Nat} {gs:Nat->Nat} (h:∀j,j<R->gs j≠x) (hg:g≠x):∀j,j<R->(fun j=>if j=i then g else gs j) j≠x:=by
 intro j hj
 by_cases e:j=i
 ·simp only [if_pos e];exact hg
 ·simp only [if_neg e];exact h j hj
theorem qlT {R k a x:Nat} {gs:Nat->Nat} (hk:k<R) (ha:a<R) (h:∀i,i<R->gs i≠x):∀i,i<R->(fun j=>if j=k then gs a else if j=a then gs k else gs j) i≠x:=by
 intro i hi
 by_cases e:i=k
 ·simp only [if_pos e];exact h a ha
 ·by_cases e2:i=a
  ·simp only [if_neg e,if_pos e2];exact h k hk
  ·simp only [if_neg e,if_neg e2];exact h i hi
theorem qhM {W:World} {gi gk n c K:Nat} {mi mk:Nat->Int} {v0:Value} {z0:Int} (hK:K<=34359738368) (hn:n<=64) (hc:c<n) (hi:qcm W gi n mi) (hk:qcm W gk n mk) (hfi:∀j,j<n->Fit (mi j).natAbs K) (hfk:∀j,j<n->Fit (mk j).natAbs K) (h0:IntAt W v0 z0) (hf0:Fit z0.natAbs K) (hz0:z0≠0) :
  Calls Tryz.prog 276 #[rowv gi n,rowv gk n,.int .i64 c,v0] W fun e W'=>∃g,e=.returned (rowv g n)/\W.heap.size<=g/\Below W.heap.size W W'/\qcm W' g n (fun j=>(mk c*mi j-mi c*mk j).tdiv z0):=by
 obtain⟨ps,p1,p2,p3⟩:=hi;obtain⟨qs,q1,q2,q3⟩:=hk;refine (qim gi gk n n n c ps qs mi mk K hK v0 z0 W hn hc p1 q1 (qcm.cells p1 p2) (qcm.cells q1 q2) p3 q3 hfi hfk h0 hf0 hz0).mono ?_;rintro e W' ⟨g,rs,rfl,hg,hb,hrl,hrow,hps⟩;exact⟨g,rfl,hg,hb,rs,hrl,hrow,hps⟩
def epart (M:Nat->Nat->Int) (k:Nat) (D:Int) (i:Nat):Nat->Nat->Int:=qb8 (fun j=>decide (j<i)) M k k D
theorem qji (M:Nat->Nat->Int) (k:Nat) (D:Int):epart M k D 0=M:=by
 funext j
 unfold epart qb8;rw [if_neg];intro h;have:=of_decide_eq_true h.1;omega
theorem qff (M:Nat->Nat->Int) (k:Nat) (D:Int) (i:Nat):epart M k D i i=M i/\epart M k D i k=M k:=by
 unfold epart qb8
 constructor
 ·rw [if_neg];intro h;have:=of_decide_eq_true h.1;omega
 ·rw [if_neg];intro h;exact h.2 rfl
theorem qkr (M:Nat->Nat->Int) (k:Nat) (D:Int) (i:Nat) (hi:i≠k):(fun j=>if j=i then (fun x=>(M k k*M i x-M i k*M k x).tdiv D) else epart M k D i j)=epart M k D (i+1):=by
 funext j
 by_cases e:j=i
 ·subst e;rw [if_pos rfl];unfold epart qb8;rw [if_pos ⟨qV (by omega),hi⟩]
 ·rw [if_neg e];unfold epart qb8;have h:decide (j<i)=decide (j<i+1):=decide_eq_decide.2 (by omega);simp only [h]
theorem qks (M:Nat->Nat->Int) (k:Nat) (D:Int):epart M k D k=epart M k D (k+1):=by
 funext j
 unfold epart qb8
 by_cases e:j=k
 ·rw [if_neg (fun h=>h.2 e),if_neg (fun h=>h.2 e)]
 ·have h:decide (j<k)=decide (j<k+1):=decide_eq_decide.2 (by omega);simp only [h]
theorem qlz (M:Nat->Nat->Int) (k:Nat) (D:Int) (R:Nat):∀j,j<R->epart M k D R j=qb8 (fun _=>true) M k k D j:=by
 intro j hj;unfold epart qb8;simp only [qV hj]
theorem qlA {M:Nat->Nat->Int} {k:Nat} {D:Int} {R n K:Nat} (hk:k<R) (hc:k<n) (h:∀i,i<R->∀j,j<n->Fit (M i j).natAbs K):∀i,i<R->∀j,j<n->Fit (qb8 (fun _=>true) M k k D i j).natAbs (K+K+1):=by
 intro i hi j hj;unfold qb8;split
 ·exact fit_step (h k hk k hc) (h i hi j hj) (h i hi k hc) (h k hk j hj)
 ·exact (h i hi j hj).mono (by omega)
theorem qlB {W:World} {tb R n k i g:Nat} {D:Int} {gs:Nat->Nat} {M:Nat->Nat->Int} (h:MatAt W tb R n gs (epart M k D i)) (hi:i≠k) (hg:qcm W g n (fun j=>(epart M k D i k k*epart M k D i i j-epart M k D i i k*epart M k D i k j).tdiv D)) :
  MatAt (W.setCell ⟨tb,i,none⟩ (rowv g n)) tb R n (fun j=>if j=i then g else gs j) (epart M k D (i+1)):=by
 rw [(qff M k D i).1,(qff M k D i).2] at hg;have:=h.set i g _ hg;rw [qkr M k D i hi] at this;exact this
theorem qcj.other {W:World} {g g':Nat} {z z0:Int} {u v:Value} (h:qcj W g z) (h':qcj W g' z0) (hne:g≠g'):qcj ((W.setCell ⟨g',0,none⟩ u).setCell ⟨g',1,none⟩ v) g z:=by
 obtain⟨a,m,c,b,h1,x,e,h2⟩:=h;obtain⟨_,_,_,_,k1,_⟩:=h';have hk:=qec W g' u v;exact⟨a,m,c,b,(hk.block _ (qG h1).1 (fun e=>hne (qai e))).trans h1,x,e,qce h2 hk k1 qjW⟩
theorem qcj.row2 {W:World} {g:Nat} {z0 z:Int} {a:Option Addr} {m c:Nat} {b:Bool} (h:qcj W g z0) (hi:IntAt W (.agg #[.slice a m c,.bool b]) z):((W.setCell ⟨g,0,none⟩ (.slice a m c)).setCell ⟨g,1,none⟩ (.bool b)).heap[g]? = some (.cells #[.slice a m c,.bool b] 242 (0,0))/\IntAt ((W.setCell ⟨g,0,none⟩ (.slice a m c)).setCell ⟨g,1,none⟩ (.bool b)) (.agg #[.slice a m c,.bool b]) z:=by
 obtain⟨a0,m0,c0,b0,h1,_⟩:=h;obtain⟨x,e,hm⟩:=hi;exact⟨heap_setCell_same _ g 1 _ _ _ (heap_setCell_same _ g 0 _ _ _ h1),x,e,qce hm (qec W g _ _) h1 qjW⟩
theorem qcj.zero {W:World} {g:Nat} {z0:Int} (h:qcj W g z0):((W.setCell ⟨g,0,none⟩ (.slice none 0 0)).setCell ⟨g,1,none⟩ (.bool false)).heap[g]? = some (.cells #[.slice none 0 0,.bool false] 242 (0,0)) :=
 (h.row2 (z:=0) ⟨_,rfl,MagAt.nil _⟩).1
def ElmAs (w:World) (tb R n K:Nat) (A:Nat->Nat->Int) (e:Ending) (w':World):Prop :=
  ∃(v:Value) (z:Int),e=.returned v/\IntAt w' v z/\w.grownBy w' (some tb) /\
    ((z=0/\∃(k:Nat) (D:Int) (M:Nat->Nat->Int),k<R/\ElimSt R n k D M A/\∀i,k<=i->i<R->M i k=0) \/
     (Fit z.natAbs (KK K R)/\∃(gs:Nat->Nat) (M:Nat->Nat->Int),MatAt w' tb R n gs M/\ElimSt R n R z M A/\∀i,i<R->∀j,j<n->Fit (M i j).natAbs (KK K R)))
theorem elim_any (tb R n K:Nat) (gs:Nat->Nat) (A:Nat->Nat->Int) (w:World) (hR0:0<R) (hR:R<=10) (hRn:R<=n) (hn:n<=11) (hK:K<=33554430) (hK0:0<K) (hM:MatAt w tb R n gs A) (hgs:∀i,i<R->gs i<w.heap.size) (hF:∀i,i<R->∀j,j<n->Fit (A i j).natAbs K) :
  Calls Tryz.prog 253 #[.slice (some ⟨tb,0,none⟩) R R] w fun e w'=>ElmAs w tb R n K A e w':=by
 have HM:=qH (qA hM (qA hgs hF));have htb:tb<w.heap.size:=(qG hM.row).1;have hR0i:(0:Int)<R:=by omega
 clear hM hF hgs;go_enter Tryz.func253,Tryz.ntmps253;go_wp2_with fail
 go_loopw [10] (fun x10 W=>∃(k:Nat) (D:Int) (gs:Nat->Nat) (M:Nat->Nat->Int),k<=R/\x10=.int .i64 k/\Hid (ElimSt R n k D M A)/\Hid (MatAt W tb R n gs M/\(∀i,i<R->gs i≠w.heap.size+1+1)/\∀i,i<R->gs i≠w.heap.size)/\Hid (qcj W (w.heap.size+1+1) D/\qcj W w.heap.size 0)/\Hid (w.grownBy W (some tb))/\Hid (Fit D.natAbs (KK K k)/\∀i,i<R->∀j,j<n->Fit (M i j).natAbs (KK K k))) (fun x10 _=>R-(intOf x10).toNat)
 case atStart =>
  have hb:Below w.heap.size w (((w.alloc (.cells #[.slice none 0 0,.bool false] 242)).alloc (.cells #[.int .u32 1] 232)).alloc (.cells #[.slice (some ⟨w.heap.size+1,0,none⟩) 1 1,.bool false] 242)):=qbS (qbS (qbS qB qN) qN) qN;refine⟨0,1,gs,A,qam _,rfl,qH (ElimSt.start _ _ _),qH ⟨HM.out.1.below hb,fun i hi=>by have:=HM.out.2.1 i hi;omega,fun i hi=>by have:=HM.out.2.1 i hi;omega⟩,qH ⟨⟨_,_,_,_,qM _ _ _ (by simp),_,rfl,?_⟩,⟨_,_,_,_,(qL _ _ _ (by simp only [qab];omega)).trans ((qL _ _ _ (by simp only [qab];omega)).trans (qM _ _ _ rfl)),_,rfl,MagAt.nil _⟩⟩,qH (qb2 _ hb),qH ⟨?_,fun i hi j hj=>by rw [qlb];exact HM.out.2.2 i hi j hj⟩⟩
  ·have:=(qdV (w.alloc (.cells #[.slice none 0 0,.bool false] 242)) 232 (s:=1) (by decide) (by decide)).below (qbS (o:=.cells #[.slice (some ⟨w.heap.size+1,0,none⟩) 1 1,.bool false] 242) qB qN);rw [qab] at this;exact this
  ·rw [qlb];exact Fit.mono (show Fit 1 1 by show 1<1000000000 ^ 1;decide) hK0
 case round =>
  obtain⟨k,D,gs1,M,hk,rfl,hS,hMt,hI,hG,hFt⟩:=hrel
  by_cases hkR:k<R
  ·have hkRi:(k:Int)<R:=by omega
   have hkn:k<n:=by omega
   go_wp2_with fail;refine (qmK tb R n k k gs1 M _ (by omega) hkR hkn (by omega) hMt.out.1).mono ?_;rintro e w2 (⟨rfl,hw,h0⟩ | ⟨rfl,hg2,a,hka,haR,hne,hM2⟩)
   ·subst hw;have H0:=qH h0;obtain⟨a,m,d,b,⟨e0,e1⟩,⟨z0,z1⟩,_⟩:=hI.out.2.cells;have hput:=hI.out.2.zero;have hkp:=qeM (qeM hG.out qN (p:=⟨w.heap.size,0,none⟩) (.slice none 0 0)) qN (p:=⟨w.heap.size,1,none⟩) (.bool false);have HX:=qH (qA hput hkp);clear h0 hput hkp;go_wp2_with fail;exact qR (v:=.agg #[.slice none 0 0,.bool false]) (rA_ rfl w.heap.size HX.out.1 Tryz.underlying242 2) rfl ⟨_,0,rfl,⟨_,rfl,MagAt.nil _⟩,HX.out.2,qan ⟨rfl,k,D,M,hkR,hS.out,H0.out⟩⟩
   ·have HS2:=qH (hS.out.swap hka haR);have HI2:=qH (qA (hI.out.1.keep hg2 hMt.out.1.row) (hI.out.2.keep hg2 hMt.out.1.row));have HG2:=qH (qbU hG.out hg2);have HF2:=qH (qA hFt.out.1 (swap_fit hkR haR hFt.out.2));have HN2:=qH (show qcl M k a k k≠0 by unfold qcl;rw [if_pos rfl];exact hne);obtain⟨gs2,hgs2⟩:=qY (fun j=>if j=k then gs1 a else if j=a then gs1 k else gs1 j);have hgd:=qlT hkR haR hMt.out.2.1;have hgd':=qlT hkR haR hMt.out.2.2;rw [<-hgs2] at hM2 hgd hgd';have hM2':MatAt w2 tb R n gs2 (qcl M k a):=hM2;obtain⟨M2,hM2e⟩:=qY (qcl M k a);rw [<-hM2e] at hM2' HS2 HF2 HN2;have HM2:=qH (qA hM2' (qA hgd hgd'));clear hM2 hM2' hgs2 hM2e hne hg2 hgd hgd' hS hMt hI hG hFt;go_wp2_with fail
    go_loopw [21] (fun x21 W=>∃(i:Nat) (gs:Nat->Nat),i<=R/\x21=.int .i64 i/\Hid (MatAt W tb R n gs (epart M2 k D i)/\(∀i,i<R->gs i≠w.heap.size+1+1)/\∀i,i<R->gs i≠w.heap.size)/\Hid (qcj W (w.heap.size+1+1) D/\qcj W w.heap.size 0)/\Hid (w.grownBy W (some tb))) (fun x21 _=>R-(intOf x21).toNat)
    case atStart=>exact⟨0,gs2,qam _,rfl,qH ⟨by rw [qji];exact HM2.out.1,HM2.out.2⟩,HI2,HG2⟩
    case round =>
     obtain⟨i,gs3,hiR,rfl,hM3,hI3,hG3⟩:=hrel
     by_cases hi:i<R
     ·have hii:(i:Int)<R:=by omega
      by_cases hik:i=k
      ·have hike:((i:Int) != (k:Int))=false:=by simp [hik]
       have Hsk:=qH (show epart M2 k D i=epart M2 k D (i+1) by rw [hik];exact qks M2 k D);clear hik;go_wp2;go_roundw
       case rel=>exact⟨i+1,gs3,hi,by go_num,qH ⟨by rw [<-Hsk.out];exact hM3.out.1,hM3.out.2⟩,hI3,hG3⟩
       case measure=>simp [intOf];omega
      ·have hike:((i:Int) != (k:Int))=true:=by rw [bne_iff_ne];omega
       have Hik:=qH hik;clear hik;obtain⟨ci,fi⟩:=hM3.out.1.cell hi;obtain⟨ck,fk⟩:=hM3.out.1.cell hkR;obtain⟨a,m,d,b,⟨e0,e1⟩,_,hin⟩:=hI3.out.1.cells;have HC:=qH (fun W (h:Below wr.heap.size wr W)=>qhM (KK_le hK (show k<=10 by omega)) (show n<=64 by omega) hkn ((hM3.out.1.below h).rows i hi) ((hM3.out.1.below h).rows k hkR) (by rw [(qff M2 k D i).1];exact HF2.out.2 i hi) (by rw [(qff M2 k D i).2];exact HF2.out.2 k hkR) (hin.below h) HF2.out.1 HS2.out.nz);have hstD:Below wr.heap.size wr wr.drew:=qB.drew;clear hin;go_wp2_with fail
       go_region_with (first | (go_at_call 276;refine (HC.out _ hstD).mono ?_;rintro e w4 ⟨g,rfl,hg4,hb4,hr4⟩;have hb:=hstD.trans hb4;obtain⟨q0,q1⟩:=(hM3.out.1.below hb).cell hi;have HX:=qH (qA (hM3.out.1.below hb) (qA (qA (hI3.out.1.below hb) (hI3.out.2.below hb)) (qA hg4 (qA hr4 (qcd hG3.out hb)))));clear hb4 hr4 hb))
       all_goals go_wp2_with fail
       all_goals go_roundw
       all_goals first
        | exact⟨i+1,_,hi,by go_num,qH ⟨qlB HX.out.1 Hik.out HX.out.2.2.2.1,gs_set hM3.out.2.1 (qbl (qag hI3.out.1.lt HX.out.2.2.1)),gs_set hM3.out.2.2 (qbl (qag hI3.out.2.lt HX.out.2.2.1))⟩,qH ⟨HX.out.2.1.1.keep (least.qbX _ _ _ _) HX.out.1.row,HX.out.2.1.2.keep (least.qbX _ _ _ _) HX.out.1.row⟩,qH (qbU HX.out.2.2.2.2 (least.qbX _ _ _ _))⟩
        | (simp [intOf];omega)
     ·obtain rfl:i=R:=by omega
      obtain⟨ck,fk⟩:=hM3.out.1.cell hkR;obtain⟨a,m,d,b,⟨e0,e1⟩,⟨z0,z1⟩,_⟩:=hI3.out.1.cells;obtain⟨a2,m2,d2,b2,p0,p1,hin⟩:=(hM3.out.1.rows k hkR).pair hkn;rw [(qff M2 k D i).2] at hin;have HX:=qH hin;clear hin;go_wp2;go_roundw
      case rel =>
       refine⟨k+1,M2 k k,gs3,qb8 (fun _=>true) M2 k k D,by omega,by go_num,qH (HS2.out.next hkR hkn HN2.out),qH ⟨(hM3.out.1.put hI3.out.1 (qec _ _ _ _) hM3.out.2.1).congr (fun _ _=>rfl) (qlz M2 k D i),hM3.out.2⟩,qH ⟨hI3.out.1.put HX.out,hI3.out.2.other hI3.out.1 (by omega)⟩,qH ?_,qH ⟨?_,?_⟩⟩
       ·exact qeM (qeM hG3.out (qaq (qbR _)) _) (qaq (qbR _)) _
       ·rw [qla];exact (HF2.out.2 k hkR k hkn).mono (by omega)
       ·rw [qla];exact qlA hkR hkn HF2.out.2
      case measure=>simp [intOf];omega
  ·obtain rfl:k=R:=by omega
   obtain⟨a,m,d,b,⟨e0,e1⟩,_,hin⟩:=hI.out.1.cells;obtain⟨a2,m2,d2,b2,⟨p0,p1⟩,⟨z0,z1⟩,_⟩:=hI.out.2.cells;have hput:=hI.out.2.row2 hin;have hkp:=qeM (qeM hG.out qN (p:=⟨w.heap.size,0,none⟩) (.slice a m d)) qN (p:=⟨w.heap.size,1,none⟩) (.bool b);have hmt:=hMt.out.1.put hI.out.2 (qec _ _ (.slice a m d) (.bool b)) hMt.out.2.2;have HX:=qH (qA hput (qA hkp hmt));clear hin hput hkp hmt;go_wp2_with fail;exact qR (v:=.agg #[.slice a m d,.bool b]) (rA_ rfl w.heap.size HX.out.1.1 Tryz.underlying242 2) rfl ⟨_,D,rfl,HX.out.1.2,HX.out.2.1,qah ⟨hFt.out.1,gs1,M,HX.out.2.2,hS.out,hFt.out.2⟩⟩
def ftxt (q:Rat):FT:=(frac.wtxt q.num,num q.den)
theorem qdT (q:Rat):fstr q=.agg #[.string (ftxt q).1,.string (ftxt q).2]:=rfl
def FRow (W:World) (g n:Nat) (l:List FT):Prop:=W.heap[g]? = some (.cells (fflat (l++List.replicate (n-l.length) fd0)).toArray 44 (0,0))/\l.length<=n
theorem FRow.below {W W':World} {g n:Nat} {l:List FT} (h:FRow W g n l) (hb:Below W.heap.size W W'):FRow W' g n l :=
 ⟨(hb.block _ (qG h.1).1).trans h.1,h.2⟩
theorem FRow.at {W:World} {g n:Nat} {l:List FT} (h:FRow W g n l) (hk:l.length<n):(W.cell? ⟨g,l.length*2,none⟩=some (.string ⟨#[]⟩)/\W.cell? ⟨g,l.length*2+1,none⟩=some (.string ⟨#[]⟩))/\∀j,W.frozen? ⟨g,j,none⟩=false:=by
 have h0:(l++List.replicate (n-l.length) fd0)[l.length]? = some fd0:=by
  rw [qas qN,qaI,qbc,if_pos (by omega)]
 obtain⟨h1,h2⟩:=qd0 _ _ _ h0;exact⟨⟨(qC _ _ _ _ _ _ h.1).trans ((qat ..).trans h1),(qC _ _ _ _ _ _ h.1).trans ((qat ..).trans h2)⟩,fun j=>qF _ _ _ _ _ h.1⟩
theorem FRow.set {W:World} {g n:Nat} {l:List FT} (h:FRow W g n l) (hk:l.length<n) (x:FT) :
  FRow ((W.setCell ⟨g,l.length*2,none⟩ (.string x.1)).setCell ⟨g,l.length*2+1,none⟩ (.string x.2)) g n (l++[x]):=by
 refine⟨?_,by rw [qaf,qax];omega⟩;rw [heap_setCell_same _ g (l.length*2+1) _ _ _ (heap_setCell_same _ g (l.length*2) _ _ _ h.1)]
 congr 3
 obtain⟨m,hm⟩:∃m,n-l.length=m+1:=⟨n-l.length-1,by omega⟩;have e1:fflat (l++List.replicate (m+1) fd0)=fflat l++(.string fd0.1 :: .string fd0.2 :: fflat (List.replicate m fd0)):=by
  rw [qdj,qbo];rfl
 have e2:fflat (l++[x]++List.replicate m fd0)=fflat l++(.string x.1 :: .string x.2 :: fflat (List.replicate m fd0)):=by
  rw [qdj,qdj,qay];rfl
 rw [qaC,qaC,hm,qaf,qax,show n-(l.length+1)=m by omega,e1,e2];rw [qbd _ _ (by rw [qck];exact qad _),qck,qaI,qbn,qbd _ _ (by rw [qck];omega),qck,show l.length*2+1-l.length*2=1 by omega]
 rfl
theorem qlI (n:Nat):fflat (List.replicate n fd0)=List.replicate (n*2) (.string ⟨#[]⟩):=by
 induction n with
 | zero=>rfl
 | succ n ih =>
  rw [qbo,show (n+1)*2=n*2+1+1 by omega,qbo,qbo,<-ih];rfl
theorem qkK (n:Nat):madeCells #[.string ⟨#[]⟩,.string ⟨#[]⟩] (n*2)=(fflat (List.replicate n fd0)).toArray:=by
 rw [qlI];apply Array.ext';apply List.ext_getElem?;intro i;rw [Array.getElem?_toList]
 show _=(List.replicate (n*2) (Value.string ⟨#[]⟩))[i]?
 by_cases hi:i<n*2
 ·rw [qbc,if_pos hi];have hm:(madeCells #[.string ⟨#[]⟩,.string ⟨#[]⟩] (n*2))[i]? = some ((#[.string ⟨#[]⟩,.string ⟨#[]⟩]:Array Value)[i % 2]!):=by simp [madeCells,hi]
  rw [hm]
  congr 1
  rcases (show i % 2=0\/i % 2=1 by omega) with e | e <;> rw [e] <;> rfl
 ·rw [Array.getElem?_eq_none (by rw [size_madeCells];omega),qba (by rw [qaQ];omega)]
theorem FRow.made (W:World) (n:Nat):FRow (W.alloc (.cells (madeCells #[.string ⟨#[]⟩,.string ⟨#[]⟩] (n*2)) 44)) W.heap.size n []:=by
 refine⟨?_,qam _⟩;rw [qM _ _ _ rfl,qbq,List.length_nil,Nat.sub_zero,qkK]
theorem qhT (n:Nat) (hn:n<=1048576) (w:World):(Instr.makeSlice 35 (.int .i64 (n:Int)) (.int .i64 (n:Int))).run Tryz.prog w=.ok (.slice (some ⟨w.heap.size,0,none⟩) n n) (w.alloc (.cells (madeCells #[.string ⟨#[]⟩,.string ⟨#[]⟩] (n*2)) 44)):=by
 obtain⟨i,hi,hz0,hz1,hz2⟩:=info_parts infoF;have h:=run_make (P:=Tryz.prog) w 35 44 i _ Tryz.underlying35 hi hz0 .i64 .i64 (n:Int) (n:Int) (by omega) (Int.le_refl _) (by rw [hz2];omega) (by omega);rw [hz1,Int.toNat_natCast] at h;exact h
theorem FRow.cells {W:World} {g n:Nat} {l:List FT} (h:FRow W g n l) (hl:l.length=n):FCells W (some ⟨g,0,none⟩) g 0 l:=by
 have h1:=h.1;rw [hl,qaI,List.replicate_zero,List.append_nil] at h1;exact FCells.ofRow h1
theorem HasT.keepRow {W W':World} {tb R n:Nat} {gs:Nat->Nat} (h:HasT W) (hk:W.grownBy W' (some tb)) (ht:W.heap[tb]? = some (.cells (rowvs R n gs).toArray 237 (0,0))):HasT W':=by
 unfold HasT Lib.TabIs World.var? at *;cases hg:(Tryz.prog).globalNamed "internal/strconv.uint64pow10" with
 | none=>simp [hg] at h
 | some g =>
  simp only [hg,Option.bind_some] at h ⊢;have hlt:g<W.heap.size:=by
   rcases qaT g W.heap.size with h' | h'
   ·exact h'
   ·rw [Array.getElem?_eq_none h'] at h;simp at h
  have hne:g≠tb:=by
   intro e;subst e;rw [ht] at h;simp only [Option.some.injEq] at h;have h1:=congrArg (fun a:Array Value=>a[0]?) h;have h2:((Lib.pow10Tab.map fun z=>Value.int .u64 z).toArray)[0]? = some (.int .u64 1):=rfl;have h1:(rowvs R n gs).toArray[0]? = (Lib.pow10Tab.map fun z=>Value.int .u64 z).toArray[0]?:=h1;rw [h2,qat] at h1
   by_cases hR:0<R
   ·rw [qea hR] at h1;simp at h1
   ·rw [qba (by rw [qcM];omega)] at h1;simp at h1
  rw [hk.block g hlt (fun e=>hne (qai e))];exact h
def told (n:Nat) (x:Nat->Rat):List FT:=(List.range n).map fun i=>ftxt (x i)
def qbY (n:Nat) (x:Nat->Rat):Prop:=∀i,i<n->Short (x i)
theorem qbY.snoc {n:Nat} {x:Nat->Rat} (h:qbY n x) (hs:Short (x n)):qbY (n+1) x:=fun j hj=>by
 by_cases e:j=n
 ·rw [e];exact hs
 ·exact h j (by omega)
theorem qhh (n:Nat) (x:Nat->Rat):told (n+1) x=told n x++[ftxt (x n)]:=by
 unfold told;rw [List.range_succ,qa5];rfl
theorem qbW (n:Nat) (x:Nat->Rat):(told n x).length=n:=by unfold told;rw [qaw,List.length_range]
def FOne (W2 W:World) (g:Nat) (x:FT):Prop:=W.heap[g]? = some (.cells #[.string x.1,.string x.2] 44 (0,0))/\Below W2.heap.size W2 W/\W2.heap.size<=g
theorem fone_a {W2 W:World} {x1 x2:ByteArray} (hb:Below W2.heap.size W2 W):FOne W2 (W.alloc (.cells #[.string x1,.string x2] 44)) W.heap.size (x1,x2) :=
 ⟨qM _ _ _ rfl,qbS hb qN,hb.size⟩
theorem fone_p {W2 W:World} {g:Nat} {x1 x2:ByteArray} {c0 c1:Value} (hb:Below W2.heap.size W2 W) (hg:W2.heap.size<=g) (hz:W.heap[g]? = some (.cells #[c0,c1] 44 (0,0))) :
  FOne W2 ((W.setCell ⟨g,0,none⟩ (.string x1)).setCell ⟨g,1,none⟩ (.string x2)) g (x1,x2) :=
 ⟨heap_setCell_same _ g 1 _ _ _ (heap_setCell_same _ g 0 _ _ _ hz),(hb.setCell (p:=⟨g,0,none⟩) hg _).setCell (p:=⟨g,1,none⟩) hg _,hg⟩
theorem qgd {w w':World} {q:Rat} {e:Ending} (h:qgB w q e w'):∃(x1 x2:ByteArray) (c:Int),e=.returned (.tuple #[.agg #[.string x1,.string x2],.int .i64 c])/\(Short q/\(x1,x2)=ftxt q/\c=0\/¬Short q/\(x1,x2)=fd0/\c=6)/\Below w.heap.size w w':=by
 obtain⟨h | h,hb⟩:=h
 ·exact⟨(ftxt q).1,(ftxt q).2,0,h.2,qan ⟨h.1,rfl,rfl⟩,hb⟩
 ·exact⟨_,_,6,h.2,qah ⟨h.1,rfl,rfl⟩,hb⟩
def Tells (n:Nat) (x:Nat->Rat) (e:Ending) (w':World):Prop :=
 (qbY n x/\∃g,e=.returned (.tuple #[.slice (some ⟨g,0,none⟩) n n,.int .i64 0])/\FCells w' (some ⟨g,0,none⟩) g 0 (told n x)) \/
 (¬qbY n x/\e=.returned (.tuple #[.slice none 0 0,.int .i64 6]))
def SolvesAs (w:World) (tb R:Nat) (A:Nat->Nat->Int) (e:Ending) (w':World):Prop :=
 w.grownBy w' (some tb)/\((Sing R (castM A)/\e=.returned (.tuple #[.slice none 0 0,.int .i64 7])) \/
  (¬Sing R (castM A)/\∃x,qc6 R (castM A) (fun i=>castM A i R) x/\Tells R x e w'))
theorem fit_pos {z:Int} {K:Nat} (h:Fit z.natAbs K) (hz:z≠0):0<K:=by
 rcases qaK K with e | e
 ·subst e;have:z.natAbs<1:=h;omega
 ·exact e
theorem qgF (a b:Int):Rat.divInt a b=(a:Rat) / b:=Rat.divInt_eq_div a b
theorem qmZ (tb R K:Nat) (gs:Nat->Nat) (A:Nat->Nat->Int) (w:World) (hR0:0<R) (hR:R<=10) (hK:K<=33554430) (hK0:0<K) (hM:MatAt w tb R (R+1) gs A) (hgs:∀i,i<R->gs i<w.heap.size) (hF:∀i,i<R->∀j,j<R+1->Fit (A i j).natAbs K) (hT:HasT w) :
  Calls Tryz.prog 198 #[.agg #[.slice (some ⟨tb,0,none⟩) R R]] w fun e w'=>SolvesAs w tb R A e w':=by
 have HM:=qH (qA hM (qA hgs hF));have HT:=qH hT;have htb:tb<w.heap.size:=(qG hM.row).1;have hR0i:(0:Int)<R:=by omega
 have hb0:Below w.heap.size w (w.alloc (.cells #[.slice (some ⟨tb,0,none⟩) R R] 278)):=qbS qB qN;have HE:=qH (elim_any tb R (R+1) K gs A (w.alloc (.cells #[.slice (some ⟨tb,0,none⟩) R R] 278)) hR0 hR (by omega) (by omega) hK hK0 (hM.below hb0) (fun i hi=>qag (hgs i hi) hb0.size) hF);have HB0:=qH hb0;have hfi:=qfg;clear hM hF hgs hT hb0;go_enter Tryz.func198,Tryz.ntmps198;go_wp2_with fail;refine HE.out.mono ?_;rintro e w2 ⟨v,z,rfl,hv,hg2,hz⟩;obtain⟨a,m,d,b,rfl⟩:=least.qbT hv;have hmt:=(HM.out.1.below HB0.out);have hT2:=(HT.out.below HB0.out).keepRow hg2 hmt.row;have hg:=qbU (qb2 tb HB0.out) hg2;have hz1:=least.qcF z.natAbs (.slice a m d);have Hv:=qH hv;have HX:=qH (qA hT2 (qA hg hg2));have hm2:MagAt w2 (.slice a m d) z.natAbs:=by
  obtain⟨_,e,h⟩:=hv;simp only [qaJ,qaL,qaH] at e;rw [e.1];exact h
 have hal:Below w2.heap.size w2 (w2.alloc (.cells #[.slice a m d,.bool b] 242)):=qbS qB qN;have HZ:=qH (hz1 _ (hm2.below hal));have HAL:=qH hal;have hs2:(w2.alloc (.cells #[.slice a m d,.bool b] 242)).heap.size=w2.heap.size+1:=by rw [qab]
 have hsb:w.heap.size<w2.heap.size:=by have:=hg2.size;rw [qab] at this;omega
 have hbox:w2.heap[w.heap.size]? = some (.cells #[.slice (some ⟨tb,0,none⟩) R R] 278 (0,0)):=(hg2.block _ (by rw [qab];omega) (fun e=>Nat.lt_irrefl _ (qai e▸htb))).trans (qM _ _ _ rfl);have HBX:=qH hbox;have bx0:=qC _ _ 0 _ _ _ hbox;clear hv hg2 hmt hT2 hg hz1 hm2 hal hs2 hbox;go_wp2_with fail;obtain⟨W3,hW3⟩:=qY (w2.alloc (.cells #[.slice a m d,.bool b] 242));rw [<-hW3] at HZ HAL ⊢;have hg3:Hid (w.grownBy W3 (some tb)):=qH (qcd HX.out.2.1 HAL.out);rcases hz with ⟨hz0,k,D,M,hk,hS,h0⟩ | ⟨hfz,gs',M,hMt,hS,hfM⟩
 ·refine HZ.out.mono ?_;rintro e w4 ⟨rfl,hw⟩;rw [qV (show z.natAbs=0 by omega)];have HS:=qH (qly hS (by omega) hk h0);subst hw;clear hS h0 hz0 hW3;go_wp2_with fail
  go_ret2
  exact⟨hg3.out,qan ⟨HS.out,rfl⟩⟩
 ·refine HZ.out.mono ?_;rintro e w4 ⟨rfl,hw⟩;have hz0:=hS.nz;rw [qU (show ¬z.natAbs=0 by omega)];have hmk:=qhT R (by omega) W3;obtain⟨W5,hW5⟩:=qY (W3.alloc (.cells (madeCells #[.string ⟨#[]⟩,.string ⟨#[]⟩] (R*2)) 44));rw [<-hW5] at hmk;have hfr:FRow W5 W3.heap.size R []:=hW5▸FRow.made W3 R;have hb5:Below W3.heap.size W3 W5:=hW5▸qbS qB qN;clear hW5;have hr3:W3.heap[w2.heap.size]? = some (.cells #[.slice a m d,.bool b] 242 (0,0)):=by rw [hW3];exact qM _ _ _ rfl
  have hbx3:=(HAL.out.block _ (by exact hsb)).trans HBX.out;have hbx5:=(hb5.block _ (qG hbx3).1).trans hbx3;have bx5:=qC _ _ 0 _ _ _ hbx5;have H5:=qH (qA hfr (qA hb5 hbx5));have HS:=qH (qA hfz (qA (hMt.below HAL.out) (qA hS hfM)));have H3:=qH (qA hr3 (qA hbx3 (qA (Hv.out.below HAL.out) (HX.out.1.below HAL.out))));have Hz0:=qH hz0;have hs3:W3.heap.size=w2.heap.size+1:=by rw [hW3,qab]
  have Hs3:=qH hs3;subst hw;clear hS hz0 hW3 hMt hfM hfz hr3 hbx3 bx0 hs3 hfr hb5 hbx5;have bx4:=qC _ _ 0 _ _ _ H3.out.2.1;go_wp2_with fail
  go_loopw [26] (fun x26 W=>∃(i:Nat),i<=R/\x26=.int .i64 i/\Hid (qbY i (fun i=>(M i R:Rat) / z))/\Hid (FRow W w4.heap.size R (told i (fun i=>(M i R:Rat) / z)))/\Hid (Below w4.heap.size w4 W)) (fun x26 _=>R-(intOf x26).toNat)
  case atStart=>exact⟨0,qam _,rfl,qH (fun i hi=>absurd hi (by omega)),qH H5.out.1,qH H5.out.2.1⟩
  case round =>
   obtain⟨i,hiR,rfl,hA,hF,hB⟩:=hrel
   by_cases hi:i<R
   ·have hii:(i:Int)<R:=by omega
    have hRi:(R:Int)<R+1:=by omega
    have hMr:=HS.out.2.1.below hB.out;obtain⟨ci,fi⟩:=hMr.cell hi;obtain⟨a2,m2,d2,b2,p0,p1,hin⟩:=(hMr.rows i hi).pair (show R<R+1 by omega);have hr:=(hB.out.block _ (qG H3.out.1).1).trans H3.out.1;have hbx:=(hB.out.block _ (qG H3.out.2.1).1).trans H3.out.2.1;have C0:∀W,Below wr.heap.size wr W->W.cell? ⟨w.heap.size,0,none⟩=some (.slice (some ⟨tb,0,none⟩) R R):=fun W h=>(h.cell (p:=⟨w.heap.size,0,none⟩) (qG hbx).1).trans (qC _ _ 0 _ _ _ hbx)
    have C1:∀W,Below wr.heap.size wr W->W.cell? ⟨gs' i,R*2,none⟩=some (.slice a2 m2 d2):=fun W h=>(h.cell (qac wr _ p0)).trans p0
    have C2:∀W,Below wr.heap.size wr W->W.cell? ⟨gs' i,R*2+1,none⟩=some (.bool b2):=fun W h=>(h.cell (qac wr _ p1)).trans p1
    have C3:∀W,Below wr.heap.size wr W->W.cell? ⟨w2.heap.size,0,none⟩=some (.slice a m d):=fun W h=>(h.cell (p:=⟨w2.heap.size,0,none⟩) (qG hr).1).trans (qC _ _ 0 _ _ _ hr)
    have C4:∀W,Below wr.heap.size wr W->W.cell? ⟨w2.heap.size,1,none⟩=some (.bool b):=fun W h=>(h.cell (p:=⟨w2.heap.size,1,none⟩) (qG hr).1).trans (qC _ _ 1 _ _ _ hr)
    have hvi:=H3.out.2.2.1.below hB.out;have hTi:=H3.out.2.2.2.below hB.out;have hfR:=HS.out.2.2.2 i hi R (by omega);have HW:=qH (fun W (h:Below wr.heap.size wr W)=>qhv (M i R) z Hz0.out (KK K R) (fit_pos HS.out.1 Hz0.out) (KK_le hK hR) _ _ W (hin.below h) (hvi.below h) hfR HS.out.1 (hTi.below h));have hst:Below wr.heap.size wr wr:=Below.refl _ _;have hstD:Below wr.heap.size wr wr.drew:=hst.drew;have hstA:Below wr.heap.size wr (wr.alloc (.cells #[.string ⟨#[]⟩,.string ⟨#[]⟩] 44)).drew:=(qbS hst qN).drew;have hFr:=hF.out.at (by rw [qbW];exact hi);have HF:=qH hFr;clear hMr hin p0 p1 hr hbx hvi hTi hfR hFr bx4 bx5 hmk;go_wp2_with fail
    go_cut [9,10] (fun x9 x10 W=>∃(g9:Nat) (x1 x2:ByteArray) (c:Int),x9=.pointer (some ⟨g9,0,none⟩)/\x10=.int .i64 c/\Hid (Short (Rat.divInt (M i R) z)/\(x1,x2)=ftxt (Rat.divInt (M i R) z)/\c=0\/¬Short (Rat.divInt (M i R) z)/\(x1,x2)=fd0/\c=6)/\FOne wr W g9 (x1,x2))
    case first =>
     go_region_held3 (fun W=>Below wr.heap.size wr W) (first | with_reducible exact hst | with_reducible exact hstD | with_reducible exact hstA | with_reducible exact HB6 | exact qbS HB6 qN | exact (HB6.setCell qN _).setCell qN _ | exact (HB6.setCell HB6.size _).setCell HB6.size _) (first | (go_at_call 179;refine (HW.out _ (by first | with_reducible exact hstD | with_reducible exact hstA)).mono ?_;rintro e w6 hx;obtain⟨x1,x2,c6,rfl,hx,hb6⟩:=qgd hx;have HB6:Below wr.heap.size wr w6:=bjoin (by first | with_reducible exact hstD | with_reducible exact hstA) hb6;have HX6:=qH hx;obtain⟨k6,k6f⟩:=bcell hb6;have Z6:=qH (zkeep hb6);clear hx hb6))
     all_goals go_wp2_with fail
     all_goals go_meet
     all_goals refine⟨_,x1,x2,c6,rfl,rfl,HX6,?_⟩
     all_goals first
      | with_reducible exact fone_a HB6
      | exact fone_p HB6 qN (Z6.out _ _ (qM _ _ _ rfl))
    case rest =>
     obtain⟨g9,x1,x2,c,rfl,rfl,hx,ho⟩:=hcut;obtain⟨ho1,hob,hog⟩:=ho;have o0:=qC _ _ 0 _ _ _ ho1;have o1:=qC _ _ 1 _ _ _ ho1;have hFc:=hF.out.below hob;have hat:=hFc.at (by rw [qbW];exact hi);have hset:=hFc.set (by rw [qbW];exact hi) (x1,x2);rw [qbW] at hat hset;obtain⟨⟨q0,q1⟩,qf⟩:=hat;have qf0:=qf (i*2);have qf1:=qf (i*2+1);have hbe:=((hB.out.trans (hob.mono hB.out.size)).setCell (p:=⟨w4.heap.size,i*2,none⟩) qN (.string x1)).setCell (p:=⟨w4.heap.size,i*2+1,none⟩) qN (.string x2);have hbw:=hB.out.trans (hob.mono hB.out.size);have HQ:=qH (qA hset (qA hbe hbw));have HX:=qH hx.out;have hq:=qgF (M i R) z;clear hset hbe hbw ho1 hFc qf C0 C1 C2 C3 C4 ci fi;rcases hx.out with ⟨hsh,hxt,rfl⟩ | ⟨hsh,hxt,rfl⟩
     ·rw [hq] at hsh hxt;have HS2:=qH (qA hsh hxt);clear hsh hxt hq;go_wp2;go_roundw
      case rel=>exact⟨i+1,hi,by go_num,qH (hA.out.snoc HS2.out.1),qH (by rw [qhh,<-HS2.out.2];exact HQ.out.1),qH HQ.out.2.1⟩
      case measure=>simp [intOf];omega
     ·rw [hq] at hsh;have HS2:=qH hsh;clear hsh hxt hq;go_wp2_with fail
      go_ret2
      exact⟨qcd hg3.out HQ.out.2.2,qah ⟨(qgp HS.out.2.2.1).2,_,(qgp HS.out.2.2.1).1,qah ⟨fun h=>HS2.out (h i hi),rfl⟩⟩⟩
   ·obtain rfl:i=R:=by omega
    have hfc:=hF.out.cells (qbW _ _);have HFC:=qH hfc;clear hfc;go_wp2_with fail
    go_ret2
    exact⟨qcd hg3.out hB.out,qah ⟨(qgp HS.out.2.2.1).2,_,(qgp HS.out.2.2.1).1,qan ⟨hA.out,_,rfl,HFC.out⟩⟩⟩
abbrev Tbl:=List (List FT)
structure TCells (W:World) (ao:Option Addr) (b off:Nat) (t:Tbl):Prop where
 addr:0<t.length->ao=some ⟨b,off,none⟩
 row:∀k,k<t.length->∃(ra:Option Addr) (rb ro rc:Nat),W.cell? ⟨b,off+k,none⟩=some (.slice ra (t.getD k []).length rc)/\FCells W ra rb ro (t.getD k [])
theorem TCells.below {W W':World} {ao:Option Addr} {b off:Nat} {t:Tbl} (h:TCells W ao b off t) (hb:Below W.heap.size W W'):TCells W' ao b off t :=
 ⟨h.addr,fun k hk=>by
  obtain⟨ra,rb,ro,rc,h1,h2⟩:=h.row k hk;exact⟨ra,rb,ro,rc,(hb.cell (qac W _ h1)).trans h1,h2.below hb⟩⟩
def wid (t:Tbl):Nat:=(t.getD 0 []).length
structure TOk (t:Tbl):Prop where
 r1:1<=t.length
 r2:t.length<=40
 c1:1<=wid t
 c2:wid t<=10
 rows:∀k,k<t.length->(t.getD k []).length=wid t/\FAll (t.getD k [])
theorem qlk (ao:Option Addr) (b off R c:Nat) (t:Tbl) (w:World) (hR:t.length=R) (hl:R<=4611686018427387904) (hw:∀k,k<R->(t.getD k []).length<=4611686018427387904) (hc:TCells w ao b off t) :
  Calls Tryz.prog 225 #[.slice ao R c] w fun e w'=>qfb w (TOk t) 60 e w':=by
 have HC:=qH (qA hc (qA hR hw))
 by_cases h1:1<=R
 case neg =>
  have hlt:(R:Int)<1:=by omega
  clear hc hR;go_enter Tryz.func225,Tryz.ntmps225;go_wp2;go_ret;exact⟨60,rfl,qah ⟨rfl,fun h=>by have:=h.r1;have:=HC.out.2.1;omega⟩,Below.refl _ _⟩
 have h1i:¬(R:Int)<1:=by omega
 by_cases h2:R<=40
 case neg =>
  have hlt:(40:Int)<R:=by omega
  clear hc hR;go_enter Tryz.func225,Tryz.ntmps225;go_wp2;go_ret;exact⟨60,rfl,qah ⟨rfl,fun h=>by have:=h.r2;have:=HC.out.2.1;omega⟩,Below.refl _ _⟩
 have h2i:¬(40:Int)<R:=by omega
 have h0i:(0:Int)<R:=by omega
 have haw:=hc.addr (by omega);subst haw;obtain⟨ra0,rb0,ro0,rc0,hc0,_⟩:=hc.row 0 (by omega);rw [qbh] at hc0;obtain⟨n,hn⟩:=qX (wid t);have hn':(t.getD 0 []).length=n:=hn;have hnl:=hw 0 (by omega);rw [hn'] at hc0 hnl;have HN:=qH hn;have hw0:b<w.heap.size:=qac w _ hc0;clear hc hR hn hn' hw
 by_cases h3:1<=n
 case neg =>
  have hlt:(n:Int)<1:=by omega
  go_enter Tryz.func225,Tryz.ntmps225;go_wp2;go_ret;exact⟨60,rfl,qah ⟨rfl,fun h=>by have:=h.c1;have:=HN.out;omega⟩,Below.refl _ _⟩
 have h3i:¬(n:Int)<1:=by omega
 by_cases h4:n<=10
 case neg =>
  have hlt:(10:Int)<n:=by omega
  go_enter Tryz.func225,Tryz.ntmps225;go_wp2;go_ret;exact⟨60,rfl,qah ⟨rfl,fun h=>by have:=h.c2;have:=HN.out;omega⟩,Below.refl _ _⟩
 have h4i:¬(10:Int)<n:=by omega
 go_enter Tryz.func225,Tryz.ntmps225;go_wp2_with fail
 go_loopw [31] (fun x31 W=>∃k:Nat,k<=R/\x31=.int .i64 k/\Hid (∀i,i<k->(t.getD i []).length=n/\FAll (t.getD i []))/\Hid (Below w.heap.size w W)) (fun x31 _=>R-(intOf x31).toNat)
 case atStart=>exact⟨0,qam _,rfl,qH (fun i hi=>absurd hi (by omega)),qH qB⟩
 case round =>
  obtain⟨k,hk,rfl,hI,hB⟩:=hrel
  by_cases hkR:k<R
  ·have hki:(k:Int)<R:=by omega
   have hcr:=(hB.out.cell (p:=⟨b,off,none⟩) hw0).trans hc0;obtain⟨ra,rb,ro,rc,hck,hfk⟩:=(HC.out.1.below hB.out).row k (by have:=HC.out.2.1;omega);have HF:=qH hfk;obtain⟨row,hrow⟩:=qX (t.getD k []);obtain⟨l,hl2⟩:=qX row.length;have hll:=HC.out.2.2 k hkR;rw [hrow] at hck HF hll;rw [hl2] at hck hll;have HR:=qH (qA hrow hl2);clear hrow hl2 hfk
   by_cases hln:l=n
   case neg =>
    have hne:((l:Int) != (n:Int))=true:=by rw [bne_iff_ne];omega
    have HL:=qH hln;clear hln;go_wp2;go_ret;exact⟨60,rfl,qah ⟨rfl,fun h=>HL.out (by rw [<-HR.out.2,<-HR.out.1,<-HN.out];exact (h.rows k (by have:=HC.out.2.1;omega)).1)⟩,hB.out⟩
   have hne:((l:Int) != (n:Int))=false:=by simp [hln]
   have HL:=qH hln;clear hln;obtain⟨wo,hwo⟩:=qY wr;subst hwo;go_wp2_with fail
   go_loopw [44] (fun x44 W=>∃j:Nat,j<=l/\x44=.int .i64 j/\Hid (∀i,i<j->FOk (row.getD i fd0).1.data.toList (row.getD i fd0).2.data.toList)/\Hid (Below wo.heap.size wo W)) (fun x44 _=>l-(intOf x44).toNat)
   case atStart=>exact⟨0,qam _,rfl,qH (fun i hi=>absurd hi (by omega)),qH qB⟩
   case round =>
    obtain⟨j,hj,rfl,hJ,hB2⟩:=hrel
    by_cases hjl:j<l
    ·have hji:(j:Int)<l:=by omega
     have har:=HF.out.addr (by have:=HR.out.2;omega);subst har;obtain⟨d0,d1⟩:=(HF.out.below hB2.out).cell j (by have:=HR.out.2;omega);obtain⟨N,hN⟩:=qX ((row.getD j fd0).1);obtain⟨D,hD⟩:=qX ((row.getD j fd0).2);rw [hN] at d0;rw [hD] at d1;have HX:=qH (qA hN hD);clear hN hD;go_wp2_with fail;refine (qfP N D _).mono ?_;rintro e w2 ⟨cc,rfl,hcc,hb2⟩;have HB2:=qH (hB2.out.trans ((qB.alloc qN _ |>.trans (hb2.mono (by simp only [qab];omega))).mono hB2.out.size));clear hb2;rcases hcc with ⟨rfl,hf⟩ | ⟨rfl,hf⟩
     ·have Hf:=qH hf;clear hf;go_wp2;go_roundw
      case rel=>exact⟨j+1,hjl,by go_num,qH (fun i hi=>by
       rcases (show i<j\/i=j by omega) with h | h
       ·exact hJ.out i h
       ·rw [h,HX.out.1,HX.out.2];exact Hf.out),HB2⟩
      case measure=>simp [intOf];omega
     ·have Hf:=qH hf;clear hf;go_wp2;go_ret;exact⟨60,rfl,qah ⟨rfl,fun h=>Hf.out (by
       have:=(h.rows k (by have:=HC.out.2.1;omega)).2 j (by rw [HR.out.1,HR.out.2];exact hjl);rw [HR.out.1,HX.out.1,HX.out.2] at this;exact this)⟩,hB.out.trans (HB2.out.mono hB.out.size)⟩
    ·obtain rfl:j=l:=by omega
     go_wp2;go_roundw
     case rel=>exact⟨k+1,hkR,by go_num,qH (fun i hi=>by
      rcases (show i<k\/i=k by omega) with h | h
      ·exact hI.out i h
      ·rw [h,HR.out.1,HR.out.2];exact⟨HL.out,fun x hx=>hJ.out x (by rw [<-HR.out.2];exact hx)⟩),qH (hB.out.trans (hB2.out.mono hB.out.size))⟩
     case measure=>simp [intOf];omega
  ·obtain rfl:k=R:=by omega
   go_wp2;go_ret;exact⟨0,rfl,qan ⟨rfl,⟨by have:=HC.out.2.1;omega,by have:=HC.out.2.1;omega,by rw [HN.out];exact h3,by rw [HN.out];exact h4,fun i hi=>by rw [HN.out];exact hI.out i (by have:=HC.out.2.1;omega)⟩⟩,hB.out⟩
def CLAs (w:World) (t L:Tbl) (e:Ending) (w':World):Prop :=
 ∃c:Int,e=.returned (.int .i64 c)/\(c=60/\¬TOk t\/c=20/\TOk t/\¬(∀k,k<L.length->FAll (L.getD k []))\/c=0/\TOk t/\∀k,k<L.length->FAll (L.getD k []))/\Below w.heap.size w w'
theorem qeW (ao:Option Addr) (b off R c:Nat) (t:Tbl) (ao2:Option Addr) (b2 off2 R2 c2:Nat) (L:Tbl) (w:World) (hR:t.length=R) (hl:R<=4611686018427387904) (hw:∀k,k<R->(t.getD k []).length<=4611686018427387904) (hc:TCells w ao b off t)
  (hR2:L.length=R2) (hl2:R2<=4611686018427387904) (hw2:∀k,k<R2->(L.getD k []).length<=4611686018427387904) (hc2:TCells w ao2 b2 off2 L) :
  Calls Tryz.prog 164 #[.slice ao R c,.slice ao2 R2 c2] w fun e w'=>CLAs w t L e w':=by
 have HK:=qH (qlk ao b off R c t w hR hl hw hc);have HL:=qH (qA hc2 (qA hR2 hw2));clear hR hw hc hR2 hw2 hc2;go_enter Tryz.func164,Tryz.ntmps164;go_wp2_with fail;refine HK.out.mono ?_;rintro e w2 ⟨cc,rfl,hcc,hb2⟩;have HB:=qH hb2;clear hb2;rcases hcc with ⟨rfl,hT⟩ | ⟨rfl,hT⟩
 case inr =>
  have HT:=qH hT;clear hT;go_wp2;go_ret;exact⟨60,rfl,qan ⟨rfl,HT.out⟩,HB.out⟩
 have HT:=qH hT;clear hT;go_wp2_with fail
 go_loopw [17] (fun x17 W=>∃k:Nat,k<=R2/\x17=.int .i64 k/\Hid (∀i,i<k->FAll (L.getD i []))/\Hid (Below w.heap.size w W)) (fun x17 _=>R2-(intOf x17).toNat)
 case atStart=>exact⟨0,qam _,rfl,qH (fun i hi=>absurd hi (by omega)),HB⟩
 case round =>
  obtain⟨k,hk,rfl,hI,hB⟩:=hrel
  by_cases hkR:k<R2
  ·have hki:(k:Int)<R2:=by omega
   have haw:=HL.out.1.addr (by have:=HL.out.2.1;omega);subst haw;obtain⟨ra,rb,ro,rc,hck,hfk⟩:=(HL.out.1.below hB.out).row k (by have:=HL.out.2.1;omega);have HF:=qH hfk;obtain⟨row,hrow⟩:=qX (L.getD k []);obtain⟨l,hl2⟩:=qX row.length;have hll:=HL.out.2.2 k hkR;rw [hrow] at hck HF hll;rw [hl2] at hck hll;have HR:=qH (qA hrow hl2);clear hrow hl2 hfk;obtain⟨wo,hwo⟩:=qY wr;subst hwo;go_wp2_with fail
   go_loopw [23] (fun x23 W=>∃j:Nat,j<=l/\x23=.int .i64 j/\Hid (∀i,i<j->FOk (row.getD i fd0).1.data.toList (row.getD i fd0).2.data.toList)/\Hid (Below wo.heap.size wo W)) (fun x23 _=>l-(intOf x23).toNat)
   case atStart=>exact⟨0,qam _,rfl,qH (fun i hi=>absurd hi (by omega)),qH qB⟩
   case round =>
    obtain⟨j,hj,rfl,hJ,hB2⟩:=hrel
    by_cases hjl:j<l
    ·have hji:(j:Int)<l:=by omega
     have har:=HF.out.addr (by have:=HR.out.2;omega);subst har;obtain⟨d0,d1⟩:=(HF.out.below hB2.out).cell j (by have:=HR.out.2;omega);obtain⟨N,hN⟩:=qX ((row.getD j fd0).1);obtain⟨D,hD⟩:=qX ((row.getD j fd0).2);rw [hN] at d0;rw [hD] at d1;have HX:=qH (qA hN hD);clear hN hD;go_wp2_with fail;refine (qfP N D _).mono ?_;rintro e w2 ⟨cc,rfl,hcc,hb2⟩;have HB2:=qH (hB2.out.trans ((qB.alloc qN _ |>.trans (hb2.mono (by simp only [qab];omega))).mono hB2.out.size));clear hb2;rcases hcc with ⟨rfl,hf⟩ | ⟨rfl,hf⟩
     ·have Hf:=qH hf;clear hf;go_wp2;go_roundw
      case rel=>exact⟨j+1,hjl,by go_num,qH (fun i hi=>by
       rcases (show i<j\/i=j by omega) with h | h
       ·exact hJ.out i h
       ·rw [h,HX.out.1,HX.out.2];exact Hf.out),HB2⟩
      case measure=>simp [intOf];omega
     ·have Hf:=qH hf;clear hf;go_wp2;go_ret;exact⟨20,rfl,qah (qan ⟨rfl,HT.out,fun h=>Hf.out (by
       have:=h k (by have:=HL.out.2.1;omega) j (by rw [HR.out.1,HR.out.2];exact hjl);rw [HR.out.1,HX.out.1,HX.out.2] at this;exact this)⟩),hB.out.trans (HB2.out.mono hB.out.size)⟩
    ·obtain rfl:j=l:=by omega
     go_wp2;go_roundw
     case rel=>exact⟨k+1,hkR,by go_num,qH (fun i hi=>by
      rcases (show i<k\/i=k by omega) with h | h
      ·exact hI.out i h
      ·rw [h,HR.out.1];exact fun x hx=>hJ.out x (by rw [<-HR.out.2];exact hx)),qH (hB.out.trans (hB2.out.mono hB.out.size))⟩
     case measure=>simp [intOf];omega
  ·obtain rfl:k=R2:=by omega
   go_wp2;go_ret;exact⟨0,rfl,qah (qah ⟨rfl,HT.out,fun i hi=>hI.out i (by have:=HL.out.2.1;omega)⟩),hB.out⟩
def Neg (l:List FT):Prop:=∃k,k<l.length/\ival (l.getD k fd0).1.data.toList<0
def NegAs (w:World) (l:List FT) (e:Ending) (w':World):Prop:=∃x:Bool,e=.returned (.bool x)/\(x=true↔Neg l)/\Below w.heap.size w w'
theorem qgi (ao:Option Addr) (b off n c:Nat) (l:List FT) (w:World) (hn:l.length=n) (hl:n<=4611686018427387904) (hc:FCells w ao b off l) (hf:FAll l) :
  Calls Tryz.prog 165 #[.slice ao n c] w fun e w'=>NegAs w l e w':=by
 have HF:=qH (qA hc (qA hn hf));have hfi:=qfg;clear hc hn hf;go_enter Tryz.func165,Tryz.ntmps165;go_wp2_with fail
 go_loopw [7] (fun x7 W=>∃j:Nat,j<=n/\x7=.int .i64 j/\Hid (∀i,i<j->0<=ival (l.getD i fd0).1.data.toList)/\Hid (Below w.heap.size w W)) (fun x7 _=>n-(intOf x7).toNat)
 case atStart=>exact⟨0,qam _,rfl,qH (fun i hi=>absurd hi (by omega)),qH qB⟩
 case round =>
  obtain⟨j,hj,rfl,hJ,hB2⟩:=hrel
  by_cases hjl:j<n
  ·have hji:(j:Int)<n:=by omega
   have har:=HF.out.1.addr (by have:=HF.out.2.1;omega);subst har;obtain⟨d0,d1⟩:=(HF.out.1.below hB2.out).cell j (by have:=HF.out.2.1;omega);have hok:=(HF.out.2.2 j (by have:=HF.out.2.1;omega)).vn;obtain⟨N,hN⟩:=qX ((l.getD j fd0).1);obtain⟨D,hD⟩:=qX ((l.getD j fd0).2);rw [hN] at d0 hok;rw [hD] at d1;have HX:=qH (qA hN hok);clear hN hD hok;go_wp2_with fail;refine (least.qcy N HX.out.2 _).mono ?_;rintro e w2 ⟨v2,rfl,hb2,hv2⟩;have HB2:=qH (hB2.out.trans ((qB.alloc qN _ |>.trans (hb2.mono (by simp only [qab];omega))).mono hB2.out.size));obtain⟨m2,rfl,hg2⟩:=hv2;have hfb:∀b W,(Instr.field 242 (.agg #[m2,.bool b]) 1).run Tryz.prog W=.ok (.bool b) W:=by
    obtain⟨_,_,_,_,_,_,rfl,_,_⟩:=hg2;intro b W;kernel_rfl
   clear hb2 hg2
   by_cases hz:ival N.data.toList<0
   ·rw [qV hz];have HZ:=qH hz;clear hz;go_wp2;go_ret;exact⟨true,rfl,⟨fun _=>⟨j,by have:=HF.out.2.1;omega,by rw [HX.out.1];exact HZ.out⟩,fun _=>rfl⟩,HB2.out⟩
   ·rw [qU hz];have HZ:=qH (Int.not_lt.1 hz);clear hz;go_wp2;go_roundw
    case rel=>exact⟨j+1,hjl,by go_num,qH (fun i hi=>by
     rcases (show i<j\/i=j by omega) with h | h
     ·exact hJ.out i h
     ·rw [h,HX.out.1];exact HZ.out),HB2⟩
    case measure=>simp [intOf];omega
  ·obtain rfl:j=n:=by omega
   go_wp2;go_ret;exact⟨false,rfl,⟨fun h=>absurd h (by decide),fun⟨k,hk,hz⟩=>absurd hz (Int.not_lt.2 (hJ.out k (by have:=HF.out.2.1;omega)))⟩,hB2.out⟩
def lval (l:List FT) (k:Nat):Rat:=fval (l.getD k fd0).1.data.toList (l.getD k fd0).2.data.toList
def tval (t:Tbl) (i:Nat):Nat->Rat:=lval (t.getD i [])
theorem qhO (n d:List UInt8):fval n d=(ival n:Rat) / ((ival d).natAbs:Rat):=by
 unfold fval;rw [<-Rat.divInt_ofNat,Rat.divInt_eq_div];rfl
theorem flcd_dvd {l:List FT} {k:Nat} (hk:k<l.length):fden (l.getD k fd0)∣flcd l:=by
 have h:=qhR (l.map fden) (l.map fden).length k (by rw [qaw];exact hk) qN;rw [qbi] at h;have e:(l.map fden).getD k 0=fden (l.getD k fd0):=by
  rw [qaa,qaM,qaa,qae hk];rfl
 rw [e] at h;exact h
theorem qls {l:List FT} {j:Nat} (hj:j<(l.map fden).length):(l.map fden).getD j 0=fden (l.getD j fd0):=by
 have hj':j<l.length:=by rw [qaw] at hj;exact hj
 rw [qaa,qaM,qaa,qae hj'];rfl
theorem qjU {l:List FT} (h:FAll l):0<flcd l:=by
 have:=qfo (l.map fden) (fun j hj=>by rw [qls hj];exact (qd1 h (by rw [qaw] at hj;exact hj)).1) (l.map fden).length qN;rw [qbi] at this;exact this
theorem qfh {l:List FT} (h:FAll l) {m:Nat} (hm:l.length<=m):Fit (flcd l) (m*67+1):=by
 have:=qfn (l.map fden) 67 (fun j hj=>by rw [qls hj];exact qd1 h (by rw [qaw] at hj;exact hj)) (l.map fden).length qN;rw [qbi,qaw] at this;exact this.mono (by omega)
theorem qfi {l:List FT} (h:FAll l) {k:Nat} (hk:k<l.length):((ftop l k:Int):Rat)=(flcd l:Rat)*lval l k:=by
 obtain⟨q,hq⟩:=flcd_dvd hk;have hd:=(qd1 h hk).1;have e:flcd l / fden (l.getD k fd0)=q:=by rw [hq];exact qaW _ hd
 unfold ftop lval;rw [qhO,e,hq];have hd':((fden (l.getD k fd0):Nat):Rat)≠0:=by
  have:=qbl hd
  exact_mod_cast this
 show _=_*((ival _:Rat) / ((fden (l.getD k fd0):Nat):Rat))
 push_cast
 grind
theorem qdk {l:List FT} (h:FAll l) {m:Nat} (hm:l.length<=m) {k:Nat} (hk:k<l.length):Fit (ftop l k).natAbs (67+(m*67+1)):=by
 unfold ftop;rw [qaE,qal];exact (h k hk).vn.fit.mul ((qfh h hm).le (qaS _ _))
theorem Sing.scale {R:Nat} {A B:Nat->Nat->Rat} (s:Nat->Rat) (hs:∀i,i<R->s i≠0) (h:∀i,i<R->∀j,j<R->A i j=s i*B i j):Sing R A↔Sing R B:=by
 have key:∀(y:Nat->Rat) i,i<R->sumQ R (fun j=>A i j*y j)=s i*sumQ R (fun j=>B i j*y j):=fun y i hi=>by
  rw [<-qcv];exact qb0 fun j hj=>by rw [h i hi j hj];grind
 constructor
 ·rintro ⟨y,hy,h0⟩;refine⟨y,hy,fun i hi=>?_⟩;have:=h0 i hi;rw [key y i hi] at this;rcases Rat.mul_eq_zero.1 this with e | e
  ·exact absurd e (hs i hi)
  ·exact e
 ·rintro ⟨y,hy,h0⟩;exact⟨y,hy,fun i hi=>by rw [key y i hi,h0 i hi];grind⟩
theorem qc6.scale {R:Nat} {A B:Nat->Nat->Rat} {b c x:Nat->Rat} (s:Nat->Rat) (hs:∀i,i<R->s i≠0) (h:∀i,i<R->∀j,j<R->A i j=s i*B i j) (hb:∀i,i<R->b i=s i*c i) (hx:qc6 R A b x):qc6 R B c x:=fun i hi=>by
 have h1:=hx i hi;have h2:sumQ R (fun j=>A i j*x j)=s i*sumQ R (fun j=>B i j*x j):=by
  rw [<-qcv];exact qb0 fun j hj=>by rw [h i hi j hj];grind
 rw [h2,hb i hi] at h1;have:=hs i hi
 grind
theorem qgL {l:List FT} {x:FT} {k:Nat} (hk:k<l.length):(l++[x]).getD k fd0=l.getD k fd0:=by
 rw [qaa,qaA hk,<-qaa]
theorem qgK {l:List FT} {x:FT}:(l++[x]).getD l.length fd0=x:=by
 rw [qaa,qas qN,qaI];rfl
theorem FAll.snoc {l:List FT} {x:FT} (h:FAll l) (hx:FOk x.1.data.toList x.2.data.toList):FAll (l++[x]):=fun k hk=>by
 rw [qaf,qax] at hk
 by_cases e:k<l.length
 ·rw [qgL e];exact h k e
 ·obtain rfl:k=l.length:=by omega
  rw [qgK];exact hx
theorem qgS {l:List FT} {x:FT} {k:Nat} (hk:k<l.length):lval (l++[x]) k=lval l k:=by unfold lval;rw [qgL hk]
theorem qgR {l:List FT} {x:FT}:lval (l++[x]) l.length=fval x.1.data.toList x.2.data.toList:=by unfold lval;rw [qgK]
structure MatPart (W:World) (tb R k n:Nat) (gs:Nat->Nat) (M:Nat->Nat->Int):Prop where
 row:W.heap[tb]? = some (.cells (rowvs k n gs++List.replicate (R-k) zs0).toArray 237 (0,0))
 rows:∀i,i<k->qcm W (gs i) n (M i)
 le:k<=R
theorem MatPart.below {W W':World} {tb R k n:Nat} {gs:Nat->Nat} {M:Nat->Nat->Int} (h:MatPart W tb R k n gs M) (hb:Below W.heap.size W W'):MatPart W' tb R k n gs M :=
 ⟨(hb.block _ (qG h.row).1).trans h.row,fun i hi=>(h.rows i hi).below hb,h.le⟩
theorem qh1 {R k n:Nat} {gs:Nat->Nat}:∀x∈(rowvs k n gs++List.replicate (R-k) zs0).toArray.toList,∀d,x≠.int .u32 d:=by
 intro x hx d e;rcases qaN.1 (show x∈rowvs k n gs++List.replicate (R-k) zs0 from hx) with h | h
 ·exact qg5 x h d e
 ·rw [(List.mem_replicate.1 h).2] at e;cases e
theorem qcm.keepRows {W W':World} {tb g m':Nat} {cs:Array Value} {m:Nat->Int} (h:qcm W g m' m) (hk:W.grownBy W' (some tb)) (ht:W.heap[tb]? = some (.cells cs 237 (0,0))) (hne:∀x∈cs.toList,∀d,x≠.int .u32 d):qcm W' g m' m:=by
 obtain⟨ps,h1,h2,h3⟩:=h;have hne2:g≠tb:=by
  intro e;subst e;have:=h2.1.symm.trans ht;simp at this
 exact⟨ps,h1,⟨(hk.block _ (qG h2.1).1 (fun e=>hne2 (qai e))).trans h2.1,h2.2⟩,h3.keep hk ht hne⟩
theorem MatPart.at {W:World} {tb R k n:Nat} {gs:Nat->Nat} {M:Nat->Nat->Int} (h:MatPart W tb R k n gs M) (hk:k<R):W.cell? ⟨tb,k,none⟩=some zs0/\W.frozen? ⟨tb,k,none⟩=false:=by
 refine⟨(qC _ _ _ _ _ _ h.row).trans ?_,qF _ _ _ _ _ h.row⟩;rw [qat,qas (by rw [qcM];exact qad _),qcM,qaI,qbc,if_pos (by omega)]
theorem MatPart.done {W:World} {tb R n:Nat} {gs:Nat->Nat} {M:Nat->Nat->Int} (h:MatPart W tb R R n gs M):MatAt W tb R n gs M:=by
 have:=h.row;rw [qaI,List.replicate_zero,List.append_nil] at this;exact⟨this,h.rows⟩
theorem MatPart.made (W:World) (R n:Nat) (gs:Nat->Nat) (M:Nat->Nat->Int):MatPart (W.alloc (.cells (madeCells #[zs0] R) 237)) W.heap.size R 0 n gs M:=by
 refine⟨?_,fun i hi=>absurd hi (by omega),qam _⟩;rw [qM _ _ _ rfl,Nat.sub_zero,show rowvs 0 n gs=[] from rfl,qbq,<-toList_madeCells_one,Array.toArray_toList]
theorem qjX:(Tryz.prog.info? 237).map (fun i=>(i.zero,i.size,i.bytes))=some (some (.slice none 0 0),1,24):=by kernel_rfl
theorem qmg (n:Nat) (hn:n<=1048576) (w:World):(Instr.makeSlice 276 (.int .i64 (n:Int)) (.int .i64 (n:Int))).run Tryz.prog w=.ok (.slice (some ⟨w.heap.size,0,none⟩) n n) (w.alloc (.cells (madeCells #[zs0] n) 237)):=by
 obtain⟨i,hi,hz0,hz1,hz2⟩:=info_parts qjX;have h:=run_make (P:=Tryz.prog) w 276 237 i _ Tryz.underlying276 hi hz0 .i64 .i64 (n:Int) (n:Int) (by omega) (Int.le_refl _) (by rw [hz2];omega) (by omega);rw [hz1,Int.toNat_natCast,Nat.mul_one] at h;exact h
theorem qef {w a b:World} {g:Nat} (h:Below w.heap.size w a) (k:a.grownBy b (some g)) (hg:w.heap.size<=g:=by omega):Below w.heap.size w b :=
 h.trans ⟨k.os,k.tape,k.output,k.size,fun i hi=>k.block i (qag hi h.size) (fun e=>by have:=qai e;omega)⟩
theorem qd6 {a b:World} {g:Nat} (h:a.grownBy b (some g)) {p:Addr} (hp:p.block<a.heap.size) (hne:p.block≠g):b.cell? p=a.cell? p:=World.cell?_of_block (h.block _ hp (fun e=>hne (qai e)))
theorem qex {W:World} {ao:Option Addr} {b off n c:Nat} {l:List FT} (hl:l.length=n) (hn:n<=64) (hcells:FCells W ao b off l) (hf:FAll l) :
  Calls Tryz.prog 166 #[.slice ao n c] W fun e W'=>∃g v,e=.returned (.tuple #[rowv g n,v])/\W.heap.size<=g/\Below W.heap.size W W'/\MagAt W' v (flcd l)/\qcm W' g n (ftop l):=by
 refine (qir ao b off n c l W hl hn hcells hf).mono ?_;rintro e W' ⟨g,v,ps,rfl,hg,hb,hm,hp,hr,hps⟩;exact⟨g,v,rfl,hg,hb,hm,ps,hp,hr,hps⟩
def besides (t:Tbl) (l:List FT) (i:Nat):List FT:=t.getD i []++[l.getD i fd0]
