/- Ad, part 44: Sb -/
import Derived.Test.YtfminfgabiipjaaGreatDoorAd0
import Derived.Test.YtfminfgabiipjaaGreatDoorAd32
set_option maxRecDepth 100000
set_option maxHeartbeats 16000000
namespace Go.Proofs.YtfminfgabiipjaaGreatDoor.p4
open Go.RowKit
theorem qme (x:Int):x=if decide (x<0)=true then -(x.natAbs:Int) else (x.natAbs:Int):=by
 by_cases h:x<0
 ·rw [decide_eq_true h,if_pos rfl];omega
 ·rw [decide_eq_false h,if_neg (by decide)];omega
theorem qhK (x y:Int) (K:Nat) (hK:K≤17592186030000) (v u:Value) (w:World) (hv:qbP w v x) (hu:qbP w u y) (hx:Fit x.natAbs K) (hy:Fit y.natAbs K) :
  Calls Tryz.prog 132 #[v,u] w fun e w'=>∃p,e=.returned p∧Below w.heap.size w w'∧qbP w' p (x+y):=by
 obtain⟨m,rfl,hm⟩:=hv
 obtain⟨o,rfl,ho⟩:=hu
 have hX:=qme x
 have hY:=qme y
 have HS:=qH fun (W:World) (h:Below w.heap.size w W)=>qeZ x.natAbs y.natAbs K (by omega) m o W ((hm.below h).digs hx) ((ho.below h).digs hy)
 have HO:=qH fun (W:World) (h:Below w.heap.size w W)=>qim x.natAbs y.natAbs K (by omega) m o W (hm.below h) (ho.below h) hx hy
 have HD:=qH fun (W:World) (h:Below w.heap.size w W)=>qdQ x.natAbs y.natAbs K (by omega) m o W (hm.below h) (ho.below h) hx
 have HE:=qH fun (W:World) (h:Below w.heap.size w W)=>qdQ y.natAbs x.natAbs K (by omega) o m W (ho.below h) (hm.below h) hy
 generalize decide (x<0)=b at *
 generalize decide (y<0)=c at *
 have HM:=qH fun (W:World) (q:Value) (z:Nat) (h:DigAt W q z (K+1))=>qdq z (K+1) b q W h (by omega)
 have HN:=qH fun (W:World) (q:Value) (z:Nat) (h:DigAt W q z (K+1))=>qdq z (K+1) c q W h (by omega)
 have HXY:=qH (qA hX (qA hY (qA hx hy)))
 obtain⟨am,bm,om,cm,nm,M,rfl,_,_⟩:=hm
 obtain⟨ao,bo,oo,co,no,O,rfl,_,_⟩:=ho
 clear hX hY hx hy
 obtain⟨W1,hW1,K1⟩:=kn3 w #[.bool b,.slice am nm cm] 121 #[.bool c,.slice ao no co] 121 #[.bool false,.slice none 0 0] 121
 have hb:Below (w.heap.size+1+1) W1 W1:=Below.refl _ _
 have lt:=(qG K1.out.2.2.2).1
 have c0:=rowC (B:=w.heap.size+1+1) K1.out.2.1 0
 have c1:=rowC (B:=w.heap.size+1+1) K1.out.2.1 1
 have c2:=rowC (B:=w.heap.size+1+1) K1.out.2.2.1 0
 have c3:=rowC (B:=w.heap.size+1+1) K1.out.2.2.1 1
 by_cases hbc:b=c
 ·subst hbc
  have hbc:(b == b)=true:=beq_self_eq_true b
  go_enter Tryz.func132,Tryz.ntmps132
  go_wp2_with fail
  rw [←hW1]
  clear hW1
  go_wp2_with fail
  refine wp_region_held_drew (S:=fun W=>Below (w.heap.size+1+1) W1 W) (by kernel_rfl) (hb).drew (fun hS0=>?_)
  refine hT 0 (h:=hT 1 (h:=hT 2 (h:=hT 3 (h:=hT 4 (h:=hT 5 (h:=?_))))))
  refine hC 6 (HS.out _ K1.out.1.drew) (h:=?_)
  rintro e w2 ⟨q,rfl,hb2,hq⟩
  obtain⟨aq,cq,nq,rfl⟩:∃a c n,q=Value.slice a n c:=by obtain⟨a,_,_,c,n,_,rfl,_⟩:=hq;exact⟨a,c,n,rfl⟩
  have K2:=K1.ond (q:=fun W=>DigAt W _ _ _) hb2 hq
  have hS2:=hS0.trans (hb2.mono (qar lt))
  refine⟨_,rfl,hS2,hN (h:=?_)⟩
  refine hC 7 (HM.out _ _ _ hq) (h:=?_)
  rintro e w3 ⟨p,rfl,hb3,hp⟩
  obtain⟨b3,a3,n3,c3,rfl⟩:=hp.shape
  have K3:=K2.on (q:=fun W=>qbP W _ _) hb3 hp
  have hS3:=hS2.trans (hb3.mono (qai (qar lt) hb2.size))
  refine⟨_,rfl,hS3,hN (h:=?_)⟩
  refine hSt 8 2 K3.out.1.1.2.2.2 (h:=⟨below_setRow hS3 qN _,?_⟩)
  go_wp2_with fail
  exact bodyPost_ret (v:=.agg #[.bool b3,.slice a3 n3 c3]) (qbN rfl _ _ (w.heap.size+1+1) 121 _ _ rfl (setRow_heap _ _ _ _ _ _ K3.out.1.1.2.2.2) Tryz.underlying121 rfl 2 (by kernel_rfl) rfl) rfl ⟨_,rfl,below_setRow K3.out.1.1.1 (by omega) _,qbV (by have:=HXY.out;rw [this.1,this.2.1];cases b <;> simpa [Int.neg_add] using hp) K3.out.1.1.2.2.2 (nd2 _ _ _ _)⟩
 ·have hbc:(b == c)=false:=by cases b <;> cases c <;> simp at *
  go_enter Tryz.func132,Tryz.ntmps132
  go_wp2_with fail
  rw [←hW1]
  clear hW1
  go_wp2_with fail
  refine (HO.out _ K1.out.1).mono ?_
  rintro e w0 ⟨r,rfl,hb0,hr1,hr2⟩
  have K0:=K1.on (q:=fun _=>(r<0↔x.natAbs<y.natAbs)∧(r=0↔x.natAbs=y.natAbs)) hb0 ⟨hr1,hr2⟩
  have hb':Below (w.heap.size+1+1) W1 w0:=hb0.mono (qar lt)
  have hb:=Below.refl (w.heap.size+1+1) w0
  have c0:=fun W (h:Below (w.heap.size+1+1) w0 W)=>c0 W (hb'.trans h)
  have c1:=fun W (h:Below (w.heap.size+1+1) w0 W)=>c1 W (hb'.trans h)
  have c2:=fun W (h:Below (w.heap.size+1+1) w0 W)=>c2 W (hb'.trans h)
  have c3:=fun W (h:Below (w.heap.size+1+1) w0 W)=>c3 W (hb'.trans h)
  have lt0:=qaj lt hb0.size
  clear hr1 hr2 hb0
  by_cases h0:0≤r
  ·go_wp2_with fail
   refine wp_region_held_drew (S:=fun W=>Below (w.heap.size+1+1) w0 W) (by kernel_rfl) hb.drew (fun hS0=>?_)
   refine hT 0 (h:=hT 1 (h:=hT 2 (h:=hT 3 (h:=hT 4 (h:=hT 5 (h:=?_))))))
   refine hC 6 (HD.out _ K0.out.1.1.drew (by have:=K0.out.2;omega)) (h:=?_)
   rintro e w2 ⟨q,rfl,hb2,hq⟩
   obtain⟨aq,cq,nq,rfl⟩:∃a c n,q=Value.slice a n c:=by obtain⟨a,_,_,c,n,_,rfl,_⟩:=hq;exact⟨a,c,n,rfl⟩
   have K2:=K0.ond (q:=fun W=>MagAt W _ _) hb2 hq
   have hS2:=hS0.trans (hb2.mono (qar lt0))
   refine⟨_,rfl,hS2,hN (h:=?_)⟩
   refine hC 7 (HM.out _ _ _ (hq.digs ((HXY.out.2.2.1.le (Nat.sub_le _ _)).mono (qbi K)))) (h:=?_)
   rintro e w3 ⟨p,rfl,hb3,hp⟩
   obtain⟨b3,a3,n3,c3,rfl⟩:=hp.shape
   have K3:=K2.on (q:=fun W=>qbP W _ _) hb3 hp
   have hS3:=hS2.trans (hb3.mono (qai (qar lt0) hb2.size))
   refine⟨_,rfl,hS3,hN (h:=?_)⟩
   refine hSt 8 2 K3.out.1.1.1.2.2.2 (h:=⟨below_setRow hS3 qN _,?_⟩)
   go_wp2_with fail
   exact bodyPost_ret (v:=.agg #[.bool b3,.slice a3 n3 c3]) (qbN rfl _ _ (w.heap.size+1+1) 121 _ _ rfl (setRow_heap _ _ _ _ _ _ K3.out.1.1.1.2.2.2) Tryz.underlying121 rfl 2 (by kernel_rfl) rfl) rfl ⟨_,rfl,below_setRow K3.out.1.1.1.1 (by omega) _,qbV (by have h:=HXY.out;have:=K0.out.2;have e:(if b=true then -((x.natAbs-y.natAbs:Nat):Int) else ((x.natAbs-y.natAbs:Nat):Int))=x+y:=(by rw [h.1,h.2.1];clear hp;revert hbc;cases b <;> cases c <;> simp <;> omega);rw [←e];exact hp) K3.out.1.1.1.2.2.2 (nd2 _ _ _ _)⟩
  ·go_wp2_with fail
   refine wp_region_held_drew (S:=fun W=>Below (w.heap.size+1+1) w0 W) (by kernel_rfl) hb.drew (fun hS0=>?_)
   refine hT 0 (h:=hT 1 (h:=hT 2 (h:=hT 3 (h:=hT 4 (h:=hT 5 (h:=?_))))))
   refine hC 6 (HE.out _ K0.out.1.1.drew (by have:=K0.out.2;omega)) (h:=?_)
   rintro e w2 ⟨q,rfl,hb2,hq⟩
   obtain⟨aq,cq,nq,rfl⟩:∃a c n,q=Value.slice a n c:=by obtain⟨a,_,_,c,n,_,rfl,_⟩:=hq;exact⟨a,c,n,rfl⟩
   have K2:=K0.ond (q:=fun W=>MagAt W _ _) hb2 hq
   have hS2:=hS0.trans (hb2.mono (qar lt0))
   refine⟨_,rfl,hS2,hN (h:=?_)⟩
   refine hC 7 (HN.out _ _ _ (hq.digs ((HXY.out.2.2.2.le (Nat.sub_le _ _)).mono (qbi K)))) (h:=?_)
   rintro e w3 ⟨p,rfl,hb3,hp⟩
   obtain⟨b3,a3,n3,c3,rfl⟩:=hp.shape
   have K3:=K2.on (q:=fun W=>qbP W _ _) hb3 hp
   have hS3:=hS2.trans (hb3.mono (qai (qar lt0) hb2.size))
   refine⟨_,rfl,hS3,hN (h:=?_)⟩
   refine hSt 8 2 K3.out.1.1.1.2.2.2 (h:=⟨below_setRow hS3 qN _,?_⟩)
   go_wp2_with fail
   exact bodyPost_ret (v:=.agg #[.bool b3,.slice a3 n3 c3]) (qbN rfl _ _ (w.heap.size+1+1) 121 _ _ rfl (setRow_heap _ _ _ _ _ _ K3.out.1.1.1.2.2.2) Tryz.underlying121 rfl 2 (by kernel_rfl) rfl) rfl ⟨_,rfl,below_setRow K3.out.1.1.1.1 (by omega) _,qbV (by have h:=HXY.out;have:=K0.out.2;have e:(if c=true then -((y.natAbs-x.natAbs:Nat):Int) else ((y.natAbs-x.natAbs:Nat):Int))=x+y:=(by rw [h.1,h.2.1];clear hp;revert hbc;cases b <;> cases c <;> simp <;> omega);rw [←e];exact hp) K3.out.1.1.1.2.2.2 (nd2 _ _ _ _)⟩
end Go.Proofs.YtfminfgabiipjaaGreatDoor.p4
