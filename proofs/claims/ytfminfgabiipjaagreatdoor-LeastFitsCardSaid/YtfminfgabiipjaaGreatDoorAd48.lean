/- Ad, part 48: Sm0 Sn Sm So Sp Sq -/
import Derived.Test.YtfminfgabiipjaaGreatDoorAd0
import Derived.Test.YtfminfgabiipjaaGreatDoorAd23
import Derived.Test.YtfminfgabiipjaaGreatDoorAd25
import Derived.Test.YtfminfgabiipjaaGreatDoorAd47
set_option maxRecDepth 100000
set_option maxHeartbeats 16000000
namespace Go.Proofs.YtfminfgabiipjaaGreatDoor.p4
open Go.RowKit
instance stays_own {B e n:Nat} {v:Value} {xs:List Value}:Stays fun W=>W.ownsRow B e 1 v n xs:=⟨fun h hb=>own_below h hb qN⟩
theorem qgK {W:World} {B e n:Nat} {v:Value} {xs:List Value} (h:W.ownsRow B e 1 v n xs):∃(ao:Option Addr) (c:Nat),v=.slice ao n c:=by
 rcases h.2 with ⟨rfl,rfl⟩ | ⟨g,cap,cur,rfl,_⟩
 ·exact⟨none,0,rfl⟩
 ·exact⟨_,_,rfl⟩
def RedW (w:World) (B T R C:Nat) (gs cp:Nat→Nat) (M:Nat→Nat→Rat) (x6:Value) (k:Nat) (S:List Nat) (W:World):Prop :=
 QTab W B T R C gs cp x6.ownBlock M∧W.ownsRow w.heap.size 3 1 x6 k (row64 S)∧Below B w W∧w.heap.size≤W.heap.size∧B≤w.heap.size
instance stays_redw {w:World} {B T R C:Nat} {gs cp:Nat→Nat} {M:Nat→Nat→Rat} {x6:Value} {k:Nat} {S:List Nat}:Stays fun W=>RedW w B T R C gs cp M x6 k S W:=⟨fun {_W _W'} h hb=>⟨h.1.below hb,own_below h.2.1 hb qN,h.2.2.1.trans (hb.mono (qai h.2.2.2.2 h.2.2.2.1)),qai h.2.2.2.1 hb.size,h.2.2.2.2⟩⟩
theorem qlN {W W':World} {B e n g:Nat} {v:Value} {xs:List Value} {cs:Array Value} {t:TypeId} (h:W.ownsRow B e 1 v n xs) (hk:W.grownBy W' (some g)) (hg:W.heap[g]? = some (.cells cs t (0,0))) (ht:e≠t):W'.ownsRow B e 1 v n xs:=by
 refine⟨h.1,?_⟩
 rcases h.2 with h2 | ⟨g',c,cur,rfl,h3,h4,h5⟩
 ·exact qau h2
 ·refine qaq ⟨g',c,cur,rfl,h3,(hk.block _ (qG h4).1 fun e2=>?_).trans h4,h5⟩
  cases e2
  rw [hg] at h4
  simp at h4
  exact ht h4.2.symm
theorem RedW.step {w W W':World} {B T R C:Nat} {gs cp gs' cp':Nat→Nat} {M M':Nat→Nat→Rat} {x6:Value} {k g:Nat} {S:List Nat} {cs:Array Value} {t:TypeId} (h:RedW w B T R C gs cp M x6 k S W) (hk:W.grownBy W' (some g)) (hg:W.heap[g]? = some (.cells cs t (0,0))) (ht:3≠t) (hB:B≤g)
  (hQ:QTab W' B T R C gs' cp' x6.ownBlock M'):RedW w B T R C gs' cp' M' x6 k S W' :=
 ⟨hQ,qlN h.2.1 hk hg ht,h.2.2.1.trans ⟨hk.os,hk.tape,hk.output,hk.size,fun i hi=>hk.block i (qaj hi (qai h.2.2.2.2 h.2.2.2.1)) fun e=>by cases e;omega⟩,qai h.2.2.2.1 hk.size,h.2.2.2.2⟩
theorem RedW.swap {w W:World} {B T R C:Nat} {gs cp:Nat→Nat} {M:Nat→Nat→Rat} {x6:Value} {k:Nat} {S:List Nat} (h:RedW w B T R C gs cp M x6 k S W) {i a:Nat} (hi:i<R) (ha:a<R) :
  RedW w B T R C (qbW gs i a) (qbW cp i a) (qbW M i a) x6 k S ((W.setCell ⟨T,i,none⟩ (.slice (some ⟨gs a,0,none⟩) C (cp a))).setCell ⟨T,a,none⟩ (.slice (some ⟨gs i,0,none⟩) C (cp i))):=by
 obtain⟨cur,h1,h2,h3⟩:=h.1.hdr
 exact h.step (qbL (qbO _ _ _ _) (qbO _ _ _ _)) h1 (by decide) h.1.hb (h.1.swap hi ha)
theorem RedW.put {w W:World} {B T R C:Nat} {gs cp:Nat→Nat} {M:Nat→Nat→Rat} {x6:Value} {k:Nat} {S:List Nat} (h:RedW w B T R C gs cp M x6 k S W) {i j:Nat} (hi:i<R) (hj:j<C) {u:QV} {q:Rat} (hu:qbK W (qagg u) q) (ha:AvQ x6.ownBlock u) :
  RedW w B T R C gs cp (fun r c=>if r=i∧c=j then q else M r c) x6 k S (set4 W (gs i) (j*4) u):=by
 obtain⟨cur,qr,h1,h2,h3⟩:=h.1.rows i hi
 exact h.step (qde _ _ _ _) h1 (by decide) (h.1.low i hi) (h.1.set hi hj hu ha)
theorem RedW.congr {w W:World} {B T R C:Nat} {gs cp:Nat→Nat} {M M':Nat→Nat→Rat} {x6:Value} {k:Nat} {S:List Nat} (h:RedW w B T R C gs cp M x6 k S W) (e:∀r,r<R→∀i,i<C→M r i=M' r i):RedW w B T R C gs cp M' x6 k S W:=⟨h.1.congr e,h.2⟩
theorem qhn {o:Oper} {ev:Operand→Value} {W:World} {x y:Operand} {g off:Nat} {u:QV} {cur:Array Value} {t:TypeId} (ho:o.op=.store 123 x y) (hx:ev x=.pointer (some ⟨g,off,none⟩)) (hy:ev y=qagg u) (hg:W.heap[g]? = some (.cells cur t (0,0))) (hs:off+3<cur.size) :
  (execOp ev o).run Tryz.prog W=.ok .skip (set4 W g off u):=by
 have c0:=(cell_of_row W g off _ _ _ hg).trans (Array.getElem?_eq_getElem (show off<cur.size by omega))
 have c1:=(cell_of_row W g (off+1) _ _ _ hg).trans (Array.getElem?_eq_getElem (show off+1<cur.size by omega))
 have c2:=(cell_of_row W g (off+2) _ _ _ hg).trans (Array.getElem?_eq_getElem (show off+2<cur.size by omega))
 have c3:=(cell_of_row W g (off+3) _ _ _ hg).trans (Array.getElem?_eq_getElem (show off+3<cur.size by omega))
 have f0:=frozen_of_row W g off _ _ hg
 have f1:=frozen_of_row W g (off+1) _ _ hg
 have f2:=frozen_of_row W g (off+2) _ _ hg
 have f3:=frozen_of_row W g (off+3) _ _ hg
 generalize cur[off]=y0 at *
 unfold set4
 go_simp
theorem own_ne {W:World} {B e n g:Nat} {v:Value} {xs:List Value} {cs:Array Value} {t:TypeId} (h:W.ownsRow B e 1 v n xs) (hg:W.heap[g]? = some (.cells cs t (0,0))) (ht:e≠t):v.ownBlock≠some g:=by
 rcases h.2 with ⟨rfl,_⟩ | ⟨g',c,cur,rfl,_,h4,_⟩
 ·intro e;cases e
 ·intro e
  have e:g'=g:=qah e
  subst e
  rw [hg] at h4
  simp at h4
  exact ht h4.2.symm
theorem QRowA.push {W W':World} {g C:Nat} {so so':Option Nat} {f:Nat→Rat} (h:QRowA W g C so f) (hk:W.grownBy W' so) (hne:so≠some g) (hso:so'=so∨so'=some W.heap.size):QRowA W' g C so' f:=by
 obtain⟨cur,q,h1,h2,h3⟩:=h
 refine⟨cur,q,(hk.block _ (qG h1).1 (fun e=>hne e.symm)).trans h1,h2,fun j hj=>?_⟩
 obtain⟨a1,a2,a3⟩:=h3 j hj
 refine⟨a1,qbK.keepA a2 hk a3,?_⟩
 rcases hso with rfl | rfl
 ·exact a3
 ·exact a2.avNew qN
theorem qje {ops:Array Oper} {rest:List Oper} {o:Oper} {a:Act} {w:World} {Q:Exit→Act→World→Prop} (hgd:o.guard=none) (s x:Operand)
  (ho:o.op=.call { callee:=.builtin .append,args:=#[s,x],argTypes:=#[86,86] }) {w0:World} {B T R C:Nat} {gs cp:Nat→Nat} {M:Nat→Nat→Rat} {v:Value} {k:Nat} {S:List Nat} {d:Nat}
  (h0:RedW w0 B T R C gs cp M v k S w) (hs:a.eval s=v) (hx:a.eval x=.slice (some ⟨w.heap.size,0,none⟩) 1 1) (hk:k<1000000) {z:Int} (hz:z=(d:Int))
  (h:∀v' w',RedW w0 B T R C gs cp M v' (k+1) (S++[d]) w'→wpList Tryz.prog ops Q rest (a.put o.dst v') w') :
  wpList Tryz.prog ops Q (o :: rest) a (w.alloc (.cells #[.int .i64 z] 3)):=by
 subst hz
 obtain⟨i0,hi,hz0,hz1,hz2⟩:=info_parts qeW
 have hba:Below w.heap.size w (w.alloc (.cells #[.int .i64 (d:Int)] 3)):=qB.alloc qN _
 have hg:=heap_alloc_new w (.cells #[.int .i64 (d:Int)] 3)
 have h1:=Stays.go (p:=fun W=>RedW w0 B T R C gs cp M v k S W) h0 hba
 generalize w.alloc (.cells #[.int .i64 (d:Int)] 3)=wa at *
 refine wpList_append_own_at _ hgd s x 86 ho w0.heap.size 3 i0 (.int .i64 0) 1 8 Tryz.underlying86 hi hz0 hz1 hz2 rfl (by decide) v k (row64 S) hs h1.2.1 ⟨w.heap.size,0,none⟩ 1 1 [.int .i64 (d:Int)] hx rfl ?c1 ?c2 (by unfold maxLen;omega) (by omega) h1.2.2.2.1 ?_
 case c1 =>
  intro j u hj
  rw [Addr.add_mid]
  match j,hj with
  | 0,hj=>exact (cell_of_row _ _ _ _ _ _ hg).trans hj
 case c2=>intro u hu;rw [qap.1 hu];rfl
 intro v' w' hown' hgrow _ hat
 refine h v' w' ⟨⟨h1.1.hb,?_,fun i hi=>?_,h1.1.low,h1.1.inj⟩,?_,h1.2.2.1.trans ⟨hgrow.os,hgrow.tape,hgrow.output,hgrow.size,fun i hi=>hgrow.block i (qaj hi (qai h1.2.2.2.2 h1.2.2.2.1)) fun e=>?_⟩,qai h1.2.2.2.1 hgrow.size,h1.2.2.2.2⟩
 ·obtain⟨cur,c1,c2,c3⟩:=h1.1.hdr
  exact⟨cur,(hgrow.block _ (qG c1).1 (fun e=>own_ne h1.2.1 c1 (by decide) e.symm)).trans c1,c2,c3⟩
 ·obtain⟨cur,q,c1,_⟩:=h1.1.rows i hi
  exact (h1.1.rows i hi).push hgrow (own_ne h1.2.1 c1 (by decide)) hat
 ·rw [qhl];exact hown'
 ·have:=(h1.2.1.lt i e.symm).1
  have:=h1.2.2.2.2
  omega
theorem qhN (n d:Int) (hd:d≠0) (K:Nat) (fn:Fit n.natAbs K) (fd:Fit d.natAbs K):RFit (Rat.divInt n d) K:=by
 obtain⟨h1,h2⟩:=qgO n d hd
 refine⟨fn.le ?_,fd.le ?_⟩
 ·rw [h1]
  have:=qa5 n.natAbs (n.natAbs.gcd d.natAbs)
  generalize n.natAbs / n.natAbs.gcd d.natAbs=y at this
  split
  ·rw [qbg];exact this
  ·exact this
 ·rw [h2];exact qa5 _ _
theorem RFit.mulR {p q:Rat} {K J:Nat} (h:RFit p K) (k:RFit q J):RFit (p*q) (K+J):=by
 rw [←qk3 p q]
 exact qhN _ _ (Int.mul_ne_zero (by have:=p.den_pos;omega) (by have:=q.den_pos;omega)) _ (h.mul k).1 (h.mul k).2
theorem RFit.divR {p q:Rat} {K J:Nat} (h:RFit p K) (k:RFit q J) (hq:q≠0):RFit (p / q) (K+J):=by
 rw [←qjm p q]
 exact qhN _ _ (Int.mul_ne_zero (by have:=p.den_pos;omega) (fun e=>hq (Rat.num_eq_zero.1 e))) _ (h.over k).1 (h.over k).2
theorem RFit.addR {p q:Rat} {K J:Nat} (h:RFit p K) (k:RFit q J):RFit (p+q) (K+J+1):=by
 rw [←qjn p q]
 have f2:Fit (q.num*p.den).natAbs (K+J):=by have:=(k.over h).1;rwa [Nat.add_comm] at this
 exact qhN _ _ (Int.mul_ne_zero (by have:=p.den_pos;omega) (by have:=q.den_pos;omega)) _ (((h.over k).1.add f2).le (Int.natAbs_add_le _ _)) ((h.mul k).2.mono (qbi _))
theorem RFit.subR {p q:Rat} {K J:Nat} (h:RFit p K) (k:RFit q J):RFit (p-q) (K+J+1):=by
 rw [Rat.sub_eq_add_neg];exact h.addR k.neg
theorem qgQ (T cap R C last B K:Nat) (gs0 cp0:Nat→Nat) (f:Nat→Nat→Rat) (w:World) (hR0:0<R) (hR:R≤1000) (hC:C≤1000) (hl:last≤C) (hK1:1≤K) (hK:5 ^ (C+1)*K≤17592186000000) (hB:B≤w.heap.size) (hQ:QTab w B T R C gs0 cp0 none f) (hf:∀i,i<R→∀j,j<C→RFit (f i j) K) :
  Calls Tryz.prog 52 #[.slice (some ⟨T,0,none⟩) R cap,.int .i64 (last:Int)] w fun e w'=>∃(v:Value) (k:Nat) (M:Nat→Nat→Rat) (τ gs cp:Nat→Nat) (S:List Nat),e=.returned (.tuple #[.slice (some ⟨T,0,none⟩) R cap,v]) ∧
   RedW w B T R C gs cp M v k S w'∧RedSt R C k (C-last) M f τ∧∀i,i<R→∀j,j<C→RFit (M i j) (5 ^ C*K):=by
 obtain⟨D,hD⟩:∃D,C=D+last:=⟨C-last,by omega⟩
 have hDi:(C:Int)-(last:Int)=D:=by omega
 have hDC:D≤C:=by omega
 have HD:=qH hD
 clear hD
 have HQ:=qH (qA hQ (qA hf hB))
 have KB:∀j,j≤C→5 ^ j*K+5 ^ j*K≤17592186000000:=fun j hj=>by
  have h1:5 ^ j*K≤5 ^ C*K:=qaR _ (qaC (by decide) hj)
  have h2:5 ^ (C+1)*K=5*(5 ^ C*K):=by rw [qaA,qaw (5 ^ C) 5,qat]
  omega
 have KB:=qH KB
 clear hQ hf hl hK
 go_enter Tryz.func52,Tryz.ntmps52
 go_wp2_with fail
 go_loopw [6,7,8,9,10,11,12,13,14] (fun x6 x7 _ _ _ _ _ _ _ W=>∃(j k:Nat) (M:Nat→Nat→Rat) (τ gs cp:Nat→Nat) (S:List Nat),x7=.int .i64 j∧j≤D∧Kn (RedW w B T R C gs cp M x6 k S) W∧Hid (RedSt R C k j M f τ∧∀i,i<R→∀c,c<C→RFit (M i c) (5 ^ j*K))) (fun _ x7 _ _ _ _ _ _ _ _=>D-(intOf x7).toNat)
 case atStart=>exact⟨0,0,f,fun _=>0,gs0,cp0,[],rfl,qam _,.of ⟨HQ.out.1,⟨rfl,qau ⟨rfl,rfl⟩⟩,Below.refl _ _,qae _,hB⟩,qH ⟨RedSt.start R C f,fun i hi c hc=>by simpa using HQ.out.2.1 i hi c hc⟩⟩
 case round =>
  obtain⟨j,k,M,τ,gs,cp,S,rfl,hj,K1,HM⟩:=hrel
  have c0:=(K1.out.1.head hR0).1
  by_cases hjD:j<D
  ·have hji:(j:Int)<D:=by omega
   have hjC:j<C:=by omega
   obtain⟨ao6,c6,rfl⟩:=qgK K1.out.2.1
   have hkR:=HM.out.1.le
   obtain⟨wo,hwo⟩:∃wo:World,wo=wr:=⟨_,rfl⟩
   subst hwo
   go_wp2_with fail
   go_loopw [9] (fun x9 W=>∃a:Nat,x9=.int .i64 a∧k≤a∧a≤R∧Hid (∀i,k≤i→i<a→M i j=0)∧Hid (Below wo.heap.size wo W)) (fun x9 _=>R-(intOf x9).toNat)
   case atStart=>exact⟨k,rfl,qae _,hkR,qH (fun i h1 h2=>absurd h1 (by omega)),qH qB⟩
   case round =>
    obtain⟨a,rfl,hka,haR,hZ,hB2⟩:=hrel
    clear c0
    by_cases hlt:a<R
    ·have hai:(a:Int)<R:=by omega
     have K2:=K1.below hB2.out
     have e0:=(K2.out.1.head hlt).1
     obtain⟨u,hu,d0,d1,d2,d3⟩:=(K2.out.1.rows a hlt).row.cells j hjC
     have HZ:=qH (ql8 (M a j) (qagg u) wr hu)
     clear hu
     go_wp2_with fail
     refine HZ.out.mono ?_
     rintro e w2 ⟨rfl,hb⟩
     by_cases h0:M a j=0
     ·have hz:decide (M a j=0)=true:=decide_eq_true h0
      have HN:=qH (qA h0 (hB2.out.trans (hb.mono hB2.out.size)))
      clear hb h0
      go_wp2_with fail
      go_roundw
      case rel=>exact⟨a+1,by go_num,by omega,hlt,qH (fun i h1 h2=>by
       rcases (show i<a∨i=a by omega) with h | h
       ·exact hZ.out i h1 h
       ·rw [h];exact HN.out.1),qH HN.out.2⟩
      case measure=>simp [intOf];omega
     ·have hz:decide (M a j=0)=false:=decide_eq_false h0
      have haR':((a:Int) == (R:Int))=false:=by rw [beq_eq_false_iff_ne];omega
      have K3:=K2.below hb
      have H0:=qH h0
      clear hb h0 e0 d0 d1 d2 d3 hB2 K2
      go_wp2_with fail
      have hkR':k<R:=by omega
      have hki:(k:Int)<R:=by omega
      refine wp_region_held_drew (S:=fun _=>True) (by kernel_rfl) trivial (fun hS0=>?_)
      refine hT 0 (h:=hT 1 (h:=hT 2 (h:=hT 3 (h:=hT 4 (h:=hT 5 (h:=hT 6 (h:=hT 8 (h:=hT 9 (h:=hT 10 (h:=?_))))))))))
      refine gr [(7,55),(11,59),(12,60)] [] [0,1,2,3,4,5,6,8,9,10] [7,11,12] [] 13 16 (fl2 [(7,fun x _=>x=.slice (some ⟨gs a,0,none⟩) C (cp a)),(11,fun x _=>x=.slice (some ⟨gs k,0,none⟩) C (cp k)),(12,fun x _=>x=.pointer (some ⟨T,k,none⟩))]) _ 3
       (hS:=fun _ _=>trivial) (hstep:=⟨⟨_,rfl,fun v w3 hb hF K hK=>?_⟩,⟨_,rfl,fun v w3 hb hF K hK=>?_⟩,⟨_,rfl,fun v w3 hb hF K hK=>?_⟩,trivial⟩) (hend:=fun v w3 hb hF _ fu=>?_)
      ·have h0:=((K3.below (qbU hb)).out.1.head hlt).1
       exact gV hK rfl
      ·have h0:=((K3.below (qbU hb)).out.1.head hkR').1
       exact gV hK rfl
      ·exact gV hK rfl
      have e7:v 7=_:=hF 7 (by decide) (by decide)
      have e11:v 11=_:=hF 11 (by decide) (by decide)
      have e12:v 12=_:=hF 12 (by decide) (by decide)
      rw [e7,e11,e12]
      have K4:=K3.below (qbU hb)
      obtain⟨h0,h1⟩:=K4.out.1.head hkR'
      obtain⟨h2,h3⟩:=K4.out.1.head hlt
      refine hSg 13 (h:=⟨trivial,?_⟩)
      obtain⟨W5,hW5⟩:∃W5,W5=w3.setCell ⟨T,k,none⟩ (.slice (some ⟨gs a,0,none⟩) C (cp a)):=⟨_,rfl⟩
      have K6:Kn (RedW w B T R C (qbW gs k a) (qbW cp k a) (qbW M k a) (.slice ao6 k c6) k S) (W5.setCell ⟨T,a,none⟩ (.slice (some ⟨gs k,0,none⟩) C (cp k))):=.of (hW5▸K4.out.swap hkR' hlt)
      obtain⟨y,h2,h3⟩:∃y,W5.cell? ⟨T,a,none⟩=some y∧W5.frozen? ⟨T,a,none⟩=false:=by
       obtain⟨cur,q1,q2,q3⟩:=K4.out.1.hdr
       have hh:=heap_setCell_same _ T k _ _ (.slice (some ⟨gs a,0,none⟩) C (cp a)) q1
       rw [←hW5] at hh
       exact⟨_,(cell_of_row _ _ _ _ _ _ hh).trans (Array.getElem?_eq_getElem (by rw [Array.size_setIfInBounds];exact (qG (q3 a hlt)).1)),frozen_of_row _ _ _ _ _ hh⟩
      rw [←hW5]
      clear hW5 h0 h1 hb hF e7 e11 e12 K4 K3
      refine hT 14 (hS:=trivial) (h:=?_)
      refine hSg 15 (h:=⟨trivial,?_⟩)
      refine wpAnyH_done (by kernel_rfl) ?_ _
      obtain⟨W6,hW6⟩:∃W6,W6=W5.setCell ⟨T,a,none⟩ (.slice (some ⟨gs k,0,none⟩) C (cp k)):=⟨_,rfl⟩
      rw [←hW6] at K6 ⊢
      clear hW6 h2 h3 K1
      obtain⟨gs1,hgs1⟩:∃g,g=qbW gs k a:=⟨_,rfl⟩
      obtain⟨cp1,hcp1⟩:∃g,g=qbW cp k a:=⟨_,rfl⟩
      obtain⟨N,hN⟩:∃g,g=qbW M k a:=⟨_,rfl⟩
      rw [←hgs1,←hcp1,←hN] at K6
      have HN:Hid (RedSt R C k j N f τ∧N k j≠0∧∀i,i<R→∀c,c<C→RFit (N i c) (5 ^ j*K)):=qH ⟨hN▸HM.out.1.swap hka hlt,by rw [hN];unfold qbW;rw [if_pos rfl];exact H0.out,fun i hi c hc=>by
       rw [hN];unfold qbW
       by_cases e:i=k
       ·rw [if_pos e];exact HM.out.2 a hlt c hc
       ·by_cases e2:i=a
        ·rw [if_neg e,if_pos e2];exact HM.out.2 k hkR' c hc
        ·rw [if_neg e,if_neg e2];exact HM.out.2 i hi c hc⟩
      clear hgs1 hcp1 hN HM H0 hZ
      have h0:=(K6.out.1.head hkR').1
      obtain⟨uf,hu,d0,d1,d2,d3⟩:=(K6.out.1.rows k hkR').row.cells j hjC
      obtain⟨gf,hgf⟩:∃gf,gf=W6.heap.size:=⟨_,rfl⟩
      obtain⟨W7,hW7⟩:∃W7,W7=W6.alloc (.cells #[.bool uf.1,.slice uf.2.1.1 uf.2.1.2.1 uf.2.1.2.2,.bool false,.slice uf.2.2.1 uf.2.2.2.1 uf.2.2.2.2] 123):=⟨_,rfl⟩
      have K7:Kn (fun W=>(RedW w B T R C gs1 cp1 N (.slice ao6 k c6) k S W∧qbK W (qagg uf) (N k j))∧W.heap[gf]? = some (.cells #[.bool uf.1,.slice uf.2.1.1 uf.2.1.2.1 uf.2.1.2.2,.bool false,.slice uf.2.2.1 uf.2.2.2.1 uf.2.2.2.2] 123 (0,0))) W7:=by
       rw [hW7,hgf]
       exact (K6.also (q:=fun W=>qbK W (qagg uf) (N k j)) hu).on (q:=fun W=>W.heap[W6.heap.size]? = some (.cells #[.bool uf.1,.slice uf.2.1.1 uf.2.1.2.1 uf.2.1.2.2,.bool false,.slice uf.2.2.1 uf.2.2.2.1 uf.2.2.2.2] 123 (0,0))) (qbI (Below.refl _ W6) qN) (heap_alloc_new W6 (.cells #[.bool uf.1,.slice uf.2.1.1 uf.2.1.2.1 uf.2.1.2.2,.bool false,.slice uf.2.2.1 uf.2.2.2.1 uf.2.2.2.2] 123))
      have lts:∀i,i<R→gs1 i≠gf:=fun i hi=>by
       have:=(K6.out.1.rows i hi).row.lt
       omega
      clear hu
      go_wp2_with (first | ((with_reducible refine qb1 rfl 123 _ _ rfl #[.bool false,.slice none 0 0,.bool false,.slice none 0 0] #[.bool uf.1,.slice uf.2.1.1 uf.2.1.2.1 uf.2.1.2.2,.bool false,.slice uf.2.2.1 uf.2.2.2.1 uf.2.2.2.2] ?_ ?_ 4 ?_ ?_ ?_ ?_ ?_);(next=>rfl);(next=>rfl);(next=>kernel_rfl);(next=>rfl);(next=>rfl);(next=>rfl)) | fail)
      rw [←hgf,←hW7]
      clear hW7 hgf h0 d0 d1 d2 d3 K6
      go_loopw [11] (fun x11 W=>∃c:Nat,x11=.int .i64 c∧c≤C∧Kn (fun W=>(RedW w B T R C gs1 cp1 (fun r i=>if r=k∧i<c then N k i / N k j else N r i) (.slice ao6 k c6) k S W∧qbK W (qagg uf) (N k j))∧W.heap[gf]? = some (.cells #[.bool uf.1,.slice uf.2.1.1 uf.2.1.2.1 uf.2.1.2.2,.bool false,.slice uf.2.2.1 uf.2.2.2.1 uf.2.2.2.2] 123 (0,0))) W) (fun x11 _=>C-(intOf x11).toNat)
      case atStart=>exact⟨0,rfl,qam _,by rw [show (fun r i=>if r=k∧i<0 then N k i / N k j else N r i)=N from by funext r i;rw [if_neg (by omega)]];exact K7⟩
      case round =>
       obtain⟨c,rfl,hcC,K8⟩:=hrel
       have h0:=(K8.out.1.1.1.head hkR').1
       by_cases hlc:c<C
       ·have hci:(c:Int)<C:=by omega
        obtain⟨uc,hu,d0,d1,d2,d3⟩:=(K8.out.1.1.1.rows k hkR').row.cells c hlc
        rw [if_neg (show ¬(k=k∧c<c) by omega)] at hu
        have hne:=lts k hkR'
        have hTne:=K8.out.1.1.1.tne hkR'
        have q0:∀W,wr.grownBy W (some (gs1 k))→W.cell? ⟨T,k,none⟩=some (.slice (some ⟨gs1 k,0,none⟩) C (cp1 k)):=fun W h=>h.cell h0 (fun e=>hTne (qah e))
        have q1:=rowG (g0:=gs1 k) K8.out.2 0 rfl (Ne.symm hne)
        have q2:=rowG (g0:=gs1 k) K8.out.2 1 rfl (Ne.symm hne)
        have q3:=rowG (g0:=gs1 k) K8.out.2 2 rfl (Ne.symm hne)
        have q4:=rowG (g0:=gs1 k) K8.out.2 3 rfl (Ne.symm hne)
        have HV:=qH (fun (W:World) (h:Below wr.heap.size wr W)=>qlZ (N k c) (N k j) HN.out.2.1 (5 ^ j*K) (5 ^ j*K) (KB.out j (by omega)) (qagg uc) (qagg uf) W (hu.below h) (K8.out.1.2.below h) (HN.out.2.2 k hkR' c hlc) (HN.out.2.2 k hkR' j hjC))
        clear hu
        go_wp2_with fail
        refine wp_region_held_drew (S:=fun W=>wr.grownBy W (some (gs1 k))) (by kernel_rfl) (qbR (qb3 _ _) qB.drew) (fun hS0=>?_)
        refine hT 0 (h:=hT 1 (h:=hT 2 (h:=hT 3 (h:=hT 4 (h:=hT 5 (h:=hT 6 (h:=hT 7 (h:=hT 8 (h:=hT 9 (h:=hT 10 (h:=hT 12 (h:=?_))))))))))))
        refine gr [(11,89),(13,91),(14,92)] [(13,[11])] [0,1,2,3,4,5,6,7,8,9,10,12] [11,13,14] [] 15 16 (fl2 [(11,fun x _=>x=qagg uc),(13,fun x W=>qbK W x (N k c / N k j)∧HiR wr.heap.size x),(14,fun x _=>x=.pointer (some ⟨gs1 k,c*4,none⟩))]) _ 1
         (hS:=fun w' h=>qbR hS0 h) (hstep:=⟨⟨_,rfl,fun v w3 hb hF K hK=>?_⟩,⟨_,rfl,fun v w3 hb hF K hK=>?_⟩,⟨_,rfl,fun v w3 hb hF K hK=>?_⟩,trivial⟩) (hend:=fun v w3 hb hF _ fu=>?_)
        ·have hb':=qbU hb
         have k0:=(hb'.cell (p:=⟨gs1 k,c*4,none⟩) (K8.out.1.1.1.rows k hkR').row.lt).trans d0
         have k1:=(hb'.cell (p:=⟨gs1 k,c*4+1,none⟩) (K8.out.1.1.1.rows k hkR').row.lt).trans d1
         have k2:=(hb'.cell (p:=⟨gs1 k,c*4+2,none⟩) (K8.out.1.1.1.rows k hkR').row.lt).trans d2
         have k3:=(hb'.cell (p:=⟨gs1 k,c*4+3,none⟩) (K8.out.1.1.1.rows k hkR').row.lt).trans d3
         exact gV hK rfl
        ·have e11:v 11=_:=hF.1
         exact gC hK (HV.out w3 (qbU hb)) (h:=fun e w4 ⟨u,e1,h1,h2,h3⟩=>⟨u,e1,⟨h2,h3.mono (qbU hb).size⟩,h1⟩)
        ·exact gV hK rfl
        have e14:v 14=_:=hF 14 (by decide) (by decide)
        have i13:qbK w3 (v 13) (N k c / N k j)∧HiR wr.heap.size (v 13):=hF 13 (by decide) (by decide)
        obtain⟨ux,e13⟩:=i13.1.qv
        rw [e13] at i13
        rw [e13,e14]
        have K9:=K8.below (qbU hb)
        obtain⟨cur,qr,r1,r2,r3⟩:=K9.out.1.1.1.rows k hkR'
        have hsz:c*4+3<cur.size:=(qG ((r3 c hlc).1 3 (by decide))).1
        have hav:AvQ (Value.slice ao6 k c6).ownBlock ux:=AvQ.hi i13.2 (fun s hs=>(K8.out.1.1.2.1.lt s hs).2)
        refine hSg 15 (he:=by exact qhn rfl rfl rfl r1 hsz) (h:=⟨qbL (qbR hS0 hb) (qde _ _ _ _),?_⟩)
        refine wpAnyH_done (by kernel_rfl) ?_ _
        have K10:Kn (fun W=>(RedW w B T R C gs1 cp1 (fun r i=>if r=k∧i<c+1 then N k i / N k j else N r i) (.slice ao6 k c6) k S W∧qbK W (qagg uf) (N k j))∧W.heap[gf]? = some (.cells #[.bool uf.1,.slice uf.2.1.1 uf.2.1.2.1 uf.2.1.2.2,.bool false,.slice uf.2.2.1 uf.2.2.2.1 uf.2.2.2.2] 123 (0,0))) (set4 w3 (gs1 k) (c*4) ux) :=
         .of ⟨⟨by
          have h:=K9.out.1.1.put hkR' hlc i13.1 hav
          exact h.congr fun r _ i _=>by
           by_cases e1:r=k <;> by_cases e2:i=c
           ·rw [if_pos ⟨e1,e2⟩,if_pos ⟨e1,by omega⟩,e2]
           ·rw [if_neg (fun h=>e2 h.2)]
            by_cases e3:i<c
            ·rw [if_pos ⟨e1,e3⟩,if_pos ⟨e1,by omega⟩]
            ·rw [if_neg (fun h=>e3 h.2),if_neg (by omega)]
           ·rw [if_neg (fun h=>e1 h.1),if_neg (fun h=>e1 h.1),if_neg (fun h=>e1 h.1)]
           ·rw [if_neg (fun h=>e1 h.1),if_neg (fun h=>e1 h.1),if_neg (fun h=>e1 h.1)],qcN K9.out.1.2 (qde _ _ _ _) r1 (qfE r2)⟩,
          ((qde w3 (gs1 k) (c*4) ux).block gf (qG K9.out.2).1 (fun e=>hne (qah e).symm)).trans K9.out.2⟩
        obtain⟨W9,hW9⟩:∃W9,W9=set4 w3 (gs1 k) (c*4) ux:=⟨_,rfl⟩
        rw [←hW9] at K10 ⊢
        clear hW9 hb hF e13 e14 i13 K9 r1 r2 r3 hsz hav hS0 q0 q1 q2 q3 q4 d0 d1 d2 d3 h0
        go_wp2_with fail
        go_roundw
        case rel=>exact⟨c+1,by go_num,hlc,K10⟩
        case measure=>simp [intOf];omega
       ·obtain rfl:C=c:=by omega
        have K11:Kn (fun W=>RedW w B T R C gs1 cp1 (qfp N k j) (.slice ao6 k c6) k S W) wr:=.of (K8.out.1.1.congr fun r _ i hi=>by
         unfold qfp
         by_cases e:r=k
         ·rw [if_pos ⟨e,hi⟩,if_pos e]
         ·rw [if_neg (fun h=>e h.1),if_neg e])
        obtain⟨P,hP⟩:∃P,P=qfp N k j:=⟨_,rfl⟩
        rw [←hP] at K11
        have HP:Hid ((∀c,c<C→RFit (P k c) (2*(5 ^ j*K)))∧(∀i,i<R→i≠k→∀c,c<C→RFit (P i c) (5 ^ j*K))∧RedSt R C (k+1) (j+1) (qc7 P k j) f (fun s=>if s=k then j else τ s)):=qH ⟨fun c hc=>by
          rw [hP,Nat.two_mul];unfold qfp;rw [if_pos rfl]
          exact (HN.out.2.2 k hkR' c hc).divR (HN.out.2.2 k hkR' j hjC) HN.out.2.1,fun i hi hne c hc=>by
          rw [hP];unfold qfp;rw [if_neg hne]
          exact HN.out.2.2 i hi c hc,hP▸HN.out.1.next hkR' HN.out.2.1⟩
        obtain⟨wm,hwm⟩:∃wm:World,wm=wr:=⟨_,rfl⟩
        subst hwm
        clear hP HN K8 K7 lts
        go_wp2_with fail
        clear h0
        go_loopw [12,13,14] (fun x12 _ _ W=>∃i:Nat,x12=.int .i64 i∧i≤R∧Kn (fun W=>RedW w B T R C gs1 cp1 (fun r c=>if r<i then qc7 P k j r c else P r c) (.slice ao6 k c6) k S W) W) (fun x12 _ _ _=>R-(intOf x12).toNat)
        case atStart=>exact⟨0,rfl,qam _,by
         have e:(fun r c=>if r<0 then qc7 P k j r c else P r c)=P:=by funext r c;rw [if_neg (by omega)]
         rw [e];exact K11⟩
        case round =>
         obtain⟨i,rfl,hiR,K12⟩:=hrel
         by_cases hli:i<R
         ·have hii:(i:Int)<R:=by omega
          have h0:=(K12.out.1.head hli).1
          obtain⟨ug,hu,d0,d1,d2,d3⟩:=(K12.out.1.rows i hli).row.cells j hjC
          rw [if_neg (qbu i)] at hu
          obtain⟨gg,hgg⟩:∃gg,gg=wr.heap.size:=⟨_,rfl⟩
          obtain⟨W7,hW7⟩:∃W7,W7=wr.alloc (.cells #[.bool ug.1,.slice ug.2.1.1 ug.2.1.2.1 ug.2.1.2.2,.bool false,.slice ug.2.2.1 ug.2.2.2.1 ug.2.2.2.2] 123):=⟨_,rfl⟩
          have K7:Kn (fun W=>(RedW w B T R C gs1 cp1 (fun r c=>if r<i then qc7 P k j r c else P r c) (.slice ao6 k c6) k S W∧qbK W (qagg ug) (P i j))∧W.heap[gg]? = some (.cells #[.bool ug.1,.slice ug.2.1.1 ug.2.1.2.1 ug.2.1.2.2,.bool false,.slice ug.2.2.1 ug.2.2.2.1 ug.2.2.2.2] 123 (0,0))) W7:=by
           rw [hW7,hgg]
           exact (K12.also (q:=fun W=>qbK W (qagg ug) (P i j)) hu).on (q:=fun W=>W.heap[wr.heap.size]? = some (.cells #[.bool ug.1,.slice ug.2.1.1 ug.2.1.2.1 ug.2.1.2.2,.bool false,.slice ug.2.2.1 ug.2.2.2.1 ug.2.2.2.2] 123 (0,0))) (qbI (Below.refl _ wr) qN) (heap_alloc_new wr (.cells #[.bool ug.1,.slice ug.2.1.1 ug.2.1.2.1 ug.2.1.2.2,.bool false,.slice ug.2.2.1 ug.2.2.2.1 ug.2.2.2.2] 123))
          have hne:gs1 i≠gg:=by have:=(K12.out.1.rows i hli).row.lt;omega
          have HH:=qH hne
          clear hu
          go_wp2_with (first | ((with_reducible refine qb1 rfl 123 _ _ rfl #[.bool false,.slice none 0 0,.bool false,.slice none 0 0] #[.bool ug.1,.slice ug.2.1.1 ug.2.1.2.1 ug.2.1.2.2,.bool false,.slice ug.2.2.1 ug.2.2.2.1 ug.2.2.2.2] ?_ ?_ 4 ?_ ?_ ?_ ?_ ?_);(next=>rfl);(next=>rfl);(next=>kernel_rfl);(next=>rfl);(next=>rfl);(next=>rfl)) | fail)
          rw [←hgg,←hW7]
          clear hW7 hgg h0 d0 d1 d2 d3 K12 hne
          go_loopw [14] (fun x14 W=>∃c:Nat,x14=.int .i64 c∧c≤C∧Kn (fun W=>(RedW w B T R C gs1 cp1 (fun r c1=>if r=i∧c1<c∧i≠k then P i c1-P i j*P k c1 else if r<i then qc7 P k j r c1 else P r c1) (.slice ao6 k c6) k S W∧qbK W (qagg ug) (P i j))∧W.heap[gg]? = some (.cells #[.bool ug.1,.slice ug.2.1.1 ug.2.1.2.1 ug.2.1.2.2,.bool false,.slice ug.2.2.1 ug.2.2.2.1 ug.2.2.2.2] 123 (0,0))) W) (fun x14 _=>C-(intOf x14).toNat)
          case atStart=>exact⟨0,rfl,qam _,by
           have e:(fun r c1=>if r=i∧c1<0∧i≠k then P i c1-P i j*P k c1 else if r<i then qc7 P k j r c1 else P r c1)=fun r c=>if r<i then qc7 P k j r c else P r c:=by funext r c;rw [if_neg (by omega)]
           rw [e];exact K7⟩
          case round =>
           obtain⟨c,rfl,hcC,K8⟩:=hrel
           have h0:=(K8.out.1.1.1.head hli).1
           have h0k:=(K8.out.1.1.1.head hkR').1
           have next:(∀c1,c1<C→i=k∨c1<c)→Kn (fun W=>RedW w B T R C gs1 cp1 (fun r c=>if r<i+1 then qc7 P k j r c else P r c) (.slice ao6 k c6) k S W) wr:=fun hc=>.of (K8.out.1.1.congr fun r _ c1 hc1=>by
            by_cases e:r=i
            ·subst e
             rw [if_pos (Nat.lt_succ_self r)]
             unfold qc7
             by_cases e2:r=k
             ·rw [if_neg (fun h=>h.2.2 e2),if_neg (qbu r),if_pos e2,e2]
             ·rw [if_pos ⟨rfl,(hc c1 hc1).resolve_left e2,e2⟩,if_neg e2]
            ·rw [if_neg (fun h=>e h.1)]
             by_cases e2:r<i
             ·rw [if_pos e2,if_pos (by omega)]
             ·rw [if_neg e2,if_neg (by omega)])
           by_cases hlc:c<C
           ·have hci:(c:Int)<C:=by omega
            by_cases hik:i=k
            ·have hb1:((i:Int) != (k:Int))=false:=by simp [hik]
             have K9:=next fun _ _=>qau hik
             have Hik:=qH hik
             clear hik next
             go_wp2_with fail
             go_roundw
             case rel=>exact⟨i+1,by go_num,hli,K9⟩
             case measure=>simp [intOf];omega
            ·have hb1:((i:Int) != (k:Int))=true:=by rw [bne_iff_ne];omega
             obtain⟨uc,hu,d0,d1,d2,d3⟩:=(K8.out.1.1.1.rows i hli).row.cells c hlc
             obtain⟨uk,hu2,m0,m1,m2,m3⟩:=(K8.out.1.1.1.rows k hkR').row.cells c hlc
             rw [if_neg (fun h=>qbu c h.2.1),if_neg (qbu i)] at hu
             have hu2:qbK wr (qagg uk) (P k c):=by
              rw [if_neg (fun h=>hik h.1.symm)] at hu2
              by_cases e:k<i
              ·rw [if_pos e] at hu2;unfold qc7 at hu2;rwa [if_pos rfl] at hu2
              ·rwa [if_neg e] at hu2
             have hTne:=K8.out.1.1.1.tne hli
             have hgne:gs1 k≠gs1 i:=fun e=>hik (K8.out.1.1.1.inj k hkR' i hli e).symm
             have q0:∀W,wr.grownBy W (some (gs1 i))→W.cell? ⟨T,i,none⟩=some (.slice (some ⟨gs1 i,0,none⟩) C (cp1 i)):=fun W h=>h.cell h0 (fun e=>hTne (qah e))
             have q5:∀W,wr.grownBy W (some (gs1 i))→W.cell? ⟨T,k,none⟩=some (.slice (some ⟨gs1 k,0,none⟩) C (cp1 k)):=fun W h=>h.cell h0k (fun e=>hTne (qah e))
             have q1:=rowG (g0:=gs1 i) K8.out.2 0 rfl (Ne.symm HH.out)
             have q2:=rowG (g0:=gs1 i) K8.out.2 1 rfl (Ne.symm HH.out)
             have q3:=rowG (g0:=gs1 i) K8.out.2 2 rfl (Ne.symm HH.out)
             have q4:=rowG (g0:=gs1 i) K8.out.2 3 rfl (Ne.symm HH.out)
             have n0:∀W,wr.grownBy W (some (gs1 i))→W.cell? ⟨gs1 k,c*4,none⟩=some (.bool uk.1):=fun W h=>h.cell m0 (fun e=>hgne (qah e))
             have n1:∀W,wr.grownBy W (some (gs1 i))→W.cell? ⟨gs1 k,c*4+1,none⟩=some (.slice uk.2.1.1 uk.2.1.2.1 uk.2.1.2.2):=fun W h=>h.cell m1 (fun e=>hgne (qah e))
             have n2:∀W,wr.grownBy W (some (gs1 i))→W.cell? ⟨gs1 k,c*4+2,none⟩=some (.bool false):=fun W h=>h.cell m2 (fun e=>hgne (qah e))
             have n3:∀W,wr.grownBy W (some (gs1 i))→W.cell? ⟨gs1 k,c*4+3,none⟩=some (.slice uk.2.2.1 uk.2.2.2.1 uk.2.2.2.2):=fun W h=>h.cell m3 (fun e=>hgne (qah e))
             have hX:=KB.out (j+1) (by omega)
             have hX1:5 ^ (j+1)*K=5*(5 ^ j*K):=by rw [qaA,qaw (5 ^ j) 5,qat]
             have hX0:1≤5 ^ j*K:=qbx (Nat.pow_pos (by decide)) hK1
             have fi:=HP.out.2.1 i hli hik
             have fk:=HP.out.1 c hlc
             have HTi:=qH (fun (W:World) (h:Below wr.heap.size wr W)=>qdv (P i j) (P k c) (5 ^ j*K) (2*(5 ^ j*K)) (by omega) (qagg ug) (qagg uk) W (K8.out.1.2.below h) (hu2.below h) (fi j hjC) fk)
             have HMi:=qH (fun (W:World) (x:Value) (h:Below wr.heap.size wr W) (hx:qbK W x (P i j*P k c))=>qhk (P i c) (P i j*P k c) (5 ^ j*K) (5 ^ j*K+2*(5 ^ j*K)) (by omega) (qagg uc) x W (hu.below h) hx (fi c hlc) ((fi j hjC).mulR fk))
             clear hu hu2 m0 m1 m2 m3 hX hX1 hX0 fi fk
             go_wp2_with fail
             refine wp_region_held_drew (S:=fun W=>wr.grownBy W (some (gs1 i))) (by kernel_rfl) (qbR (qb3 _ _) qB.drew) (fun hS0=>?_)
             refine hT 0 (h:=hT 1 (h:=hT 2 (h:=hT 3 (h:=hT 4 (h:=hT 5 (h:=hT 6 (h:=hT 7 (h:=hT 8 (h:=hT 9 (h:=hT 10 (h:=hT 12 (h:=hT 13 (h:=hT 14 (h:=hT 15 (h:=hT 16 (h:=hT 17 (h:=hT 18 (h:=hT 19 (h:=?_)))))))))))))))))))
             refine gr [(11,131),(20,140),(21,141),(22,142)] [(21,[11,20])] [0,1,2,3,4,5,6,7,8,9,10,12,13,14,15,16,17,18,19] [11,20,21,22] [] 23 24 (fl2 [(11,fun x _=>x=qagg uc),(20,fun x W=>qbK W x (P i j*P k c)),(21,fun x W=>qbK W x (P i c-P i j*P k c)∧HiR wr.heap.size x),(22,fun x _=>x=.pointer (some ⟨gs1 i,c*4,none⟩))]) _ 1
              (hS:=fun w' h=>qbR hS0 h) (hstep:=⟨⟨_,rfl,fun v w3 hb hF K hK=>?_⟩,⟨_,rfl,fun v w3 hb hF K hK=>?_⟩,⟨_,rfl,fun v w3 hb hF K hK=>?_⟩,⟨_,rfl,fun v w3 hb hF K hK=>?_⟩,trivial⟩) (hend:=fun v w3 hb hF _ fu=>?_)
             ·have hb':=qbU hb
              have k0:=(hb'.cell (p:=⟨gs1 i,c*4,none⟩) (K8.out.1.1.1.rows i hli).row.lt).trans d0
              have k1:=(hb'.cell (p:=⟨gs1 i,c*4+1,none⟩) (K8.out.1.1.1.rows i hli).row.lt).trans d1
              have k2:=(hb'.cell (p:=⟨gs1 i,c*4+2,none⟩) (K8.out.1.1.1.rows i hli).row.lt).trans d2
              have k3:=(hb'.cell (p:=⟨gs1 i,c*4+3,none⟩) (K8.out.1.1.1.rows i hli).row.lt).trans d3
              exact gV hK rfl
             ·exact gC hK (HTi.out w3 (qbU hb)) (h:=fun e w4 ⟨u,e1,h1,h2,_⟩=>⟨u,e1,h2,h1⟩)
             ·have e11:v 11=_:=hF.1
              have i20:qbK w3 (v 20) _:=hF.2.1
              exact gC hK (HMi.out w3 _ (qbU hb) i20) (h:=fun e w4 ⟨u,e1,h1,h2,h3⟩=>⟨u,e1,⟨h2,h3.mono (qbU hb).size⟩,h1⟩)
             ·exact gV hK rfl
             have e22:v 22=_:=hF 22 (by decide) (by decide)
             have i21:qbK w3 (v 21) (P i c-P i j*P k c)∧HiR wr.heap.size (v 21):=hF 21 (by decide) (by decide)
             obtain⟨ux,e21⟩:=i21.1.qv
             rw [e21] at i21
             rw [e21,e22]
             have K9:=K8.below (qbU hb)
             obtain⟨cur,qr,r1,r2,r3⟩:=K9.out.1.1.1.rows i hli
             have hsz:c*4+3<cur.size:=(qG ((r3 c hlc).1 3 (by decide))).1
             have hav:AvQ (Value.slice ao6 k c6).ownBlock ux:=AvQ.hi i21.2 (fun s hs=>(K8.out.1.1.2.1.lt s hs).2)
             refine hSg 23 (he:=by exact qhn rfl rfl rfl r1 hsz) (h:=⟨qbL (qbR hS0 hb) (qde _ _ _ _),?_⟩)
             refine wpAnyH_done (by kernel_rfl) ?_ _
             have K10:Kn (fun W=>(RedW w B T R C gs1 cp1 (fun r c1=>if r=i∧c1<c+1∧i≠k then P i c1-P i j*P k c1 else if r<i then qc7 P k j r c1 else P r c1) (.slice ao6 k c6) k S W∧qbK W (qagg ug) (P i j))∧W.heap[gg]? = some (.cells #[.bool ug.1,.slice ug.2.1.1 ug.2.1.2.1 ug.2.1.2.2,.bool false,.slice ug.2.2.1 ug.2.2.2.1 ug.2.2.2.2] 123 (0,0))) (set4 w3 (gs1 i) (c*4) ux) :=
              .of ⟨⟨by
               have h:=K9.out.1.1.put hli hlc i21.1 hav
               exact h.congr fun r _ c1 _=>by
                by_cases e1:r=i
                ·subst e1
                 by_cases e2:c1=c
                 ·subst e2;simp [hik]
                 ·by_cases e3:c1<c
                  ·have:c1<c+1:=by omega
                   simp [hik,e2,e3,this]
                  ·have:¬c1<c+1:=by omega
                   simp [e2,e3,this]
                ·simp [e1],qcN K9.out.1.2 (qde _ _ _ _) r1 (qfE r2)⟩,
               ((qde w3 (gs1 i) (c*4) ux).block gg (qG K9.out.2).1 (fun e=>HH.out (qah e).symm)).trans K9.out.2⟩
             obtain⟨W9,hW9⟩:∃W9,W9=set4 w3 (gs1 i) (c*4) ux:=⟨_,rfl⟩
             rw [←hW9] at K10 ⊢
             clear hW9 hb hF e21 e22 i21 K9 r1 r2 r3 hsz hav hS0 q0 q1 q2 q3 q4 q5 n0 n1 n2 n3 d0 d1 d2 d3 h0 h0k next
             go_wp2_with fail
             go_roundw
             case rel=>exact⟨c+1,by go_num,hlc,K10⟩
             case measure=>simp [intOf];omega
           ·obtain rfl:C=c:=by omega
            have K9:=next fun _ h=>qaq h
            clear next
            go_wp2_with fail
            go_roundw
            case rel=>exact⟨i+1,by go_num,hli,K9⟩
            case measure=>simp [intOf];omega
         ·obtain rfl:R=i:=by omega
          have K13:Kn (fun W=>RedW w B T R C gs1 cp1 (qc7 P k j) (.slice ao6 k c6) k S W) wr:=.of (K12.out.congr fun r hr c _=>by rw [if_pos hr])
          have hX1:5 ^ (j+1)*K=5*(5 ^ j*K):=by rw [qaA,qaw (5 ^ j) 5,qat]
          have hX0:1≤5 ^ j*K:=qbx (Nat.pow_pos (by decide)) hK1
          have HF:Hid (∀i,i<R→∀c,c<C→RFit (qc7 P k j i c) (5 ^ (j+1)*K)):=qH fun i hi c hc=>by
           unfold qc7
           by_cases e:i=k
           ·rw [if_pos e];exact (HP.out.1 c hc).mono (by omega)
           ·rw [if_neg e];exact ((HP.out.2.1 i hi e c hc).subR ((HP.out.2.1 i hi e j hjC).mulR (HP.out.1 c hc))).mono (by omega)
          clear hX1 hX0
          go_wp2_with (first | (at_builtin;refine qje rfl _ _ rfl K13.out rfl rfl (by omega) rfl ?_;intro v' w' h1;have K14:=Kn.of (p:=fun W=>RedW w B T R C gs1 cp1 (qc7 P k j) v' (k+1) (S++[j]) W) h1;clear h1) | fail)
          go_roundw
          case rel=>exact⟨j+1,k+1,qc7 P k j,fun s=>if s=k then j else τ s,gs1,cp1,S++[j],by go_num,hjD,K14,qH ⟨HP.out.2.2,HF.out⟩⟩
          case measure=>simp [intOf];omega
    ·obtain rfl:a=R:=by omega
     have K2:=K1.below hB2.out
     go_wp2_with fail
     go_roundw
     case rel=>exact⟨j+1,k,M,τ,gs,cp,S,by go_num,hjD,K2,qH ⟨HM.out.1.none fun i h1 h2=>hZ.out i h1 h2,fun i hi c hc=>(HM.out.2 i hi c hc).mono (qaR _ (qaC (by decide) (qbi j)))⟩⟩
     case measure=>simp [intOf];omega
  ·obtain rfl:j=D:=by omega
   go_wp2_with fail
   go_ret2
   refine⟨_,k,M,τ,gs,cp,S,rfl,K1.out,by rw [show C-last=j by have:=HD.out;omega];exact HM.out.1,fun i hi c hc=>(HM.out.2 i hi c hc).mono (qaR _ (qaC (by decide) (by omega)))⟩
theorem QRows.tab {W:World} {B R C:Nat} {v:Value} {f:Nat→Nat→Rat} (h:QRows W B v R C f) (hR:0<R):∃(T cap:Nat) (gs cp:Nat→Nat),v=.slice (some ⟨T,0,none⟩) R cap∧QTab W B T R C gs cp none f:=by
 obtain⟨hs,gs,cp,h1,h2,h3⟩:=h
 rcases h1.2 with ⟨_,h0⟩ | ⟨T,cap,cur,rfl,k1,k2,k3,_,_,k4,k5⟩
 ·omega
 refine⟨T,cap,gs,cp,rfl,k1,⟨cur,k2,k5,fun i hi=>?_⟩,fun i hi=>(h2 i hi).2.1.free,fun i hi=>(h2 i hi).2.2.1,fun i hi k hk e=>?_⟩
 ·rw [←(h2 i hi).1,←k4,qaV (by omega),Array.getElem?_toList]
 ·rcases Nat.lt_trichotomy i k with h | h | h
  ·have:=h3 i k h hk;omega
  ·exact h
  ·have:=h3 k i h hi;omega
theorem QRow.list {W:World} {g n:Nat} {f:Nat→Rat} (h:QRow W g n f):∃L:List QV,L.length=n∧QsAt W L f∧∀k u,(qflat L)[k]? = some u→W.cell? ⟨g,k,none⟩=some u:=by
 obtain⟨cur,q,h1,h2,h3⟩:=h
 have hl:((List.range n).map q).length=n:=by rw [qaD,List.length_range]
 have hg:∀j,j<n→((List.range n).map q).getD j qd=q j:=fun j hj=>by rw [qaa,qaN,qbp hj];rfl
 refine⟨(List.range n).map q,hl,fun k hk=>?_,fun k u hk=>?_⟩
 ·rw [hl] at hk
  rw [hg k hk];exact (h3 k hk).2
 ·have hlt:=(List.getElem?_eq_some_iff.1 hk).1
  rw [qit,hl] at hlt
  have e:k=k / 4*4+k % 4:=by omega
  have hj:k / 4<n:=by omega
  have hr:k % 4<4:=qa9 _ (by decide)
  rw [e,qgN _ _ _ (by rw [hl];exact hj) hr,hg _ hj] at hk
  rw [e]
  exact (cell_of_row _ _ _ _ _ _ h1).trans (((h3 _ hj).1 _ hr).trans hk)
theorem qlS (L:List QV):∀x∈qflat L,qcg x:=fun x hx=>by
 obtain⟨v,_,hv⟩:=List.mem_flatMap.1 hx
 exact qdu v x hv
theorem qlT (L:List QV):∀x∈qflat L,x.oneCell'=true:=fun x hx=>by
 obtain⟨v,_,hv⟩:=List.mem_flatMap.1 hx
 exact qfJ v x hv
theorem QsAt.below {W W':World} {L:List QV} {f:Nat→Rat} (h:QsAt W L f) (hb:Below W.heap.size W W'):QsAt W' L f:=fun k hk=>(h k hk).below hb
theorem ql6 {w:World} {g n c:Nat} {f:Nat→Rat} (ty:TypeId) (h:QRow w g n f) (h0:0<n) (hn:n<1000000) :
  ∃v' w',(Builtin.append_ #[96,96] ty #[.slice none 0 0,.slice (some ⟨g,0,none⟩) n c]).run Tryz.prog w=.ok v' w'∧QList w' w.heap.size v' n f∧Below w.heap.size w w':=by
 obtain⟨i0,hi,hz0,hz1,hz2⟩:=info_parts infoQ
 obtain⟨L,h1,h2,h3⟩:=h.list
 obtain⟨v',w',hr,h4,h5,_⟩:=qcl (P:=Tryz.prog) w w.heap.size 96 ty 123 i0 _ 4 64 Tryz.underlying96 hi hz0 hz1 hz2 rfl (by decide) (qdu qd) (.slice none 0 0) 0 [] (Rws.nil _ _ _ _) ⟨g,0,none⟩ n c (qflat L) (by rw [qit,h1]) (fun j z hj=>by rw [Addr.add_mid,qa2];exact h3 j z hj) (qlT L) (qlS L) h0 (by unfold maxLen;omega) (by omega) qN
 have hb:=qdt h5
 rw [qa2,qbv] at h4
 exact⟨v',w',hr,⟨L,h1,h4,h2.below hb⟩,hb⟩
theorem ql7 {w:World} {B:Nat} {v:Value} {n:Nat} {f:Nat→Rat} {u:QV} {g:Nat} (ty:TypeId) (h:QList w B v n f) (hB:B≤w.heap.size) (hg:w.heap[g]? = some (.cells (qcR u).toArray 123 (0,0))) (hu:qbK w (qagg u) (f n)) (hn:n<1000000) :
  ∃v' w',(Builtin.append_ #[96,96] ty #[v,.slice (some ⟨g,0,none⟩) 1 1]).run Tryz.prog w=.ok v' w'∧QList w' B v' (n+1) f∧w.grownBy w' v.ownBlock:=by
 obtain⟨L,h1,h2,h3⟩:=h
 obtain⟨v',w',hr,h4,h5⟩:=qiA ty h2 hB hg hn
 exact⟨v',w',hr,⟨L++[u],by rw [qag,h1];rfl,h4,(QsAt.keep h2 h5 h3).snoc (Rws.ratio h2 h5 hu) (by rw [h1])⟩,h5⟩
theorem QList.mono {W:World} {B D:Nat} {v:Value} {n:Nat} {f:Nat→Rat} (h:QList W D v n f) (hB:B≤D):QList W B v n f:=by
 obtain⟨L,h1,h2,h3⟩:=h
 refine⟨L,h1,⟨h2.1,?_⟩,h3⟩
 rcases h2.2 with h | ⟨g,cap,cur,e,hb,hr⟩
 ·exact qau h
 ·exact qaq ⟨g,cap,cur,e,qai hB hb,hr⟩
def OnlyAs (w:World) (n K:Nat) (a:Nat→Nat→Rat) (b:Nat→Rat) (e:Ending) (w':World):Prop :=
  ((Sing n a∧e=.returned (.tuple #[.slice none 0 0,.bool false])) ∨
   (¬Sing n a∧∃(x:Nat→Rat) (v:Value),qcq n a b x∧e=.returned (.tuple #[v,.bool true])∧QList w' w.heap.size v n x∧∀i,i<n→RFit (x i) (5 ^ (n+1)*K)))∧Below w.heap.size w w'
def qc3 (n:Nat) (a:Nat→Nat→Rat) (b:Nat→Rat):Nat→Nat→Rat:=fun i j=>if j<n then a i j else b i
theorem qjG (n K B1 B2:Nat) (va vb:Value) (a:Nat→Nat→Rat) (b:Nat→Rat) (w:World) (hn0:0<n) (hn:n≤900) (hK1:1≤K) (hK:5 ^ (n+2)*K≤17592186000000) (ha:QRows w B1 va n n a) (hb:QList w B2 vb n b) (fa:∀i,i<n→∀j,j<n→RFit (a i j) K) (fb:∀i,i<n→RFit (b i) K) :
  Calls Tryz.prog 58 #[va,vb] w fun e w'=>OnlyAs w n K a b e w':=by
 obtain⟨Ta,ca,gs,cp,rfl,hQ⟩:=ha.tab hn0
 obtain⟨gb,cb,rfl,_,_,hrb⟩:=hb.row hn0
 have hf:∀i,i<n→∀j,j<n+1→RFit (qc3 n a b i j) K:=fun i hi j hj=>by
  unfold qc3
  by_cases e:j<n
  ·rw [if_pos e];exact fa i hi j e
  ·rw [if_neg e];exact fb i hi
 have hsing:Sing n (qc3 n a b)→Sing n a:=fun h=>h.congr fun i _ j hj=>by unfold qc3;rw [if_pos hj]
 have hsing2:Sing n a→Sing n (qc3 n a b):=fun h=>h.congr fun i _ j hj=>by unfold qc3;rw [if_pos hj]
 have hsol:∀x,qcq n (qc3 n a b) (fun i=>qc3 n a b i n) x→qcq n a b x:=fun x h=>h.congr (fun i _ j hj=>by unfold qc3;rw [if_pos hj]) (fun i _=>by unfold qc3;rw [if_neg (qbu n)]) fun _ _=>rfl
 have hrow:∀i,i<n→∀j,j<n→qc3 n a b i j=a i j:=fun i _ j hj=>by unfold qc3;rw [if_pos hj]
 have hlast:∀i,qc3 n a b i n=b i:=fun i=>by unfold qc3;rw [if_neg (qbu n)]
 obtain⟨F,hF⟩:∃F,qc3 n a b=F:=⟨_,rfl⟩
 rw [hF] at hf hsing hsing2 hsol hrow hlast
 have HX:=qH (qA hQ (qA hrb (qA hf (qA hsing (qA hsing2 (qA hsol (qA hrow hlast)))))))
 have HK:=qH hK
 clear ha hb hQ hrb hf hsing hsing2 hsol hrow hlast hF fa fb hK
 go_enter Tryz.func58,Tryz.ntmps58
 go_wp2_with fail
 go_loopw [6,7,8] (fun x6 x7 _ W=>∃i:Nat,x7=.int .i64 i∧i≤n∧Kn (fun W=>Below w.heap.size w W∧QRows W w.heap.size x6 i (n+1) F) W) (fun _ x7 _ _=>n-(intOf x7).toNat)
 case atStart=>exact⟨0,rfl,qam _,.of ⟨Below.refl _ _,QRows.nil _ _ _ _⟩⟩
 case round =>
  obtain⟨i,rfl,hi,K1⟩:=hrel
  by_cases hlt:i<n
  ·have hii:(i:Int)<n:=by omega
   have K0:=K1.also (q:=fun W=>QTab W B1 Ta n n gs cp none a∧QRow W gb n b) ⟨HX.out.1.below K1.out.1,HX.out.2.1.below K1.out.1⟩
   have h0:=(K0.out.2.1.head hlt).1
   have hrow:=((K0.out.2.1.rows i hlt).congr fun j hj=>(HX.out.2.2.2.2.2.2.1 i hlt j hj).symm).row
   obtain⟨ub,hub,d0,d1,d2,d3⟩:=K0.out.2.2.cells i hlt
   rw [←HX.out.2.2.2.2.2.2.2 i] at hub
   have hown:=K1.out.2.own
   have old:∀g,g<w.heap.size→some g≠u6.ownBlock:=fun g hg e=>by have:=hown g e.symm;omega
   have hTa:Ta<w.heap.size:=by obtain⟨cur,h1,_⟩:=HX.out.1.hdr;exact (qG h1).1
   have hgb:=HX.out.2.1.lt
   have q0:∀W,wr.grownBy W u6.ownBlock→W.cell? ⟨Ta,i,none⟩=some (.slice (some ⟨gs i,0,none⟩) n (cp i)):=fun W h=>h.cell h0 (old _ hTa)
   have q1:∀W,wr.grownBy W u6.ownBlock→W.cell? ⟨gb,i*4,none⟩=some (.bool ub.1):=fun W h=>h.cell d0 (old _ hgb)
   have q2:∀W,wr.grownBy W u6.ownBlock→W.cell? ⟨gb,i*4+1,none⟩=some (.slice ub.2.1.1 ub.2.1.2.1 ub.2.1.2.2):=fun W h=>h.cell d1 (old _ hgb)
   have q3:∀W,wr.grownBy W u6.ownBlock→W.cell? ⟨gb,i*4+2,none⟩=some (.bool false):=fun W h=>h.cell d2 (old _ hgb)
   have q4:∀W,wr.grownBy W u6.ownBlock→W.cell? ⟨gb,i*4+3,none⟩=some (.slice ub.2.2.1 ub.2.2.2.1 ub.2.2.2.2):=fun W h=>h.cell d3 (old _ hgb)
   have HR:=qH (qA hrow hub)
   have HO:=qH hown
   clear h0 hrow hub d0 d1 d2 d3 hown
   go_wp2_with fail
   refine wp_region_held_drew (S:=fun W=>wr.grownBy W u6.ownBlock) (by kernel_rfl) (qbR (qb3 _ _) qB.drew) (fun hS0=>?_)
   refine hT 0 (h:=hT 1 (h:=hT 2 (h:=hT 3 (h:=hT 4 (h:=hT 5 (h:=hT 7 (h:=hT 8 (h:=hT 9 (h:=hT 10 (h:=?_))))))))))
   refine gr [(6,24),(11,29)] [] [0,1,2,3,4,5,7,8,9,10] [6,11] [6,11] 12 16 (fl2 [(6,fun x W=>QList W wr.heap.size x n (F i)),(11,fun x W=>∃g,W.heap[g]? = some (.cells (qcR ub).toArray 123 (0,0))∧x=.slice (some ⟨g,0,none⟩) 1 1)]) _ 4
    (hS:=fun w' h=>qbR hS0 h) (hstep:=⟨⟨_,rfl,fun v w3 hb hF K hK=>?_⟩,⟨_,rfl,fun v w3 hb hF K hK=>?_⟩,trivial⟩) (hend:=fun v w3 hb hF hEE fu=>?_)
   ·obtain⟨v',w',hr,h1,h2⟩:=ql6 (c:=cp i) 96 (HR.out.1.below (qbU hb)) hn0 (by omega)
    obtain⟨g,c,e,hg,_,hgr⟩:=h1.row hn0
    exact gW hK (he:=qfN rfl rfl rfl rfl hr) (hE:=fun _=>by rw [e];exact⟨hg,hgr.lt⟩) (h:=⟨h1.mono hb.size,h2⟩)
   ·exact gW hK (h:=⟨⟨w3.heap.size,qM _ _ _ rfl,rfl⟩,qbI qB qN⟩)
   have i6:QList w3 wr.heap.size (v 6) n (F i):=hF 6 (by decide) (by decide)
   obtain⟨g6,c6,e6,hg6,_,hr6⟩:=i6.row hn0
   obtain⟨g11,hg11,e11⟩:∃g,_:=hF 11 (by decide) (by decide)
   have hb:Below wr.heap.size wr w3:=qbU hb
   have hub3:=HR.out.2.below hb
   obtain⟨v12,w4,hr4,h41,h42⟩:=ql7 96 i6 hb.size hg11 hub3 (by omega)
   obtain⟨gr4,cr4,e12,hgr4,hcr4,hrow4⟩:=h41.row (Nat.succ_pos n)
   have hb4:Below wr.heap.size wr w4:=hb.trans ⟨h42.os,h42.tape,h42.output,h42.size,fun k hk=>h42.block k (qaj hk hb.size) fun e=>by rw [e6] at e;have e:k=g6:=qah e;omega⟩
   rw [e11]
   refine hE 12 (he:=by exact qfN rfl rfl rfl rfl hr4) (h:=⟨qbR (qb3 _ _) hb4,hN (h:=?_)⟩)
   rw [e12]
   obtain⟨w5,hw5⟩:∃w5,w5=w4.alloc (.cells #[.slice (some ⟨gr4,0,none⟩) (n+1) cr4] 96):=⟨_,rfl⟩
   have hb45:Below w4.heap.size w4 w5:=hw5▸qbI qB qN
   have hb5:Below wr.heap.size wr w5:=hb4.trans (hb45.mono hb4.size)
   have hg5:w5.heap[w4.heap.size]? = some (.cells #[.slice (some ⟨gr4,0,none⟩) (n+1) cr4] 96 (0,0)):=hw5▸qM _ _ _ rfl
   refine hE 13 (w':=w5) (v:=.slice (some ⟨w4.heap.size,0,none⟩) 1 1) (he:=by rw [hw5];go_simp) (h:=⟨qbR (qb3 _ _) hb5,hN (h:=?_)⟩)
   obtain⟨v14,w6,hr6,h61,h62,_⟩:=qjR 85 K1.out.2 hb5 K1.out.1.size hg5 (by omega) (hrow4.below hb45) hgr4 hcr4
   have hS6:wr.grownBy w6 u6.ownBlock:=qbL (qbR (qb3 _ _) hb5) h62
   refine hE 14 (he:=by exact qfN rfl rfl rfl rfl hr6) (h:=⟨hS6,hN (h:=?_)⟩)
   refine hT 15 (h:=?_)
   refine wpAnyH_done (by kernel_rfl) ?_ _
   have hb6:Below w.heap.size w w6:=(K1.out.1.trans (hb5.mono K1.out.1.size)).trans ⟨h62.os,h62.tape,h62.output,h62.size,fun k hk=>h62.block k (qaj hk (qai K1.out.1.size hb5.size)) fun e=>by have:=HO.out k e.symm;omega⟩
   have K6:=Kn.of (p:=fun W=>Below w.heap.size w W∧QRows W w.heap.size v14 (i+1) (n+1) F) ⟨hb6,h61⟩
   clear hS6 hb6 h61 h62 hr6 hg5 hb5 hb45 hw5 hb4 e12 hgr4 hrow4 h41 h42 hr4 hub3 hb hg11 e11 i6 e6 hg6 hF hEE q0 q1 q2 q3 q4
   go_wp2_with fail
   go_roundw
   case rel=>exact⟨i+1,by go_num,hlt,K6⟩
   case measure=>simp [intOf];omega
  ·obtain rfl:n=i:=by omega
   obtain⟨T,cap,gt,ct,rfl,hQT⟩:=K1.out.2.tab hn0
   have HD:=qH (qgQ T cap n (n+1) 1 w.heap.size K gt ct F wr hn0 (by omega) (by omega) (by omega) hK1 HK.out K1.out.1.size hQT HX.out.2.2.1)
   clear hQT
   go_wp2_with fail
   refine HD.out.mono ?_
   rintro e w2 ⟨v,k,M,τ,g2,c2,S,rfl,hW,hR,hfit⟩
   rw [qbD] at hR
   obtain⟨ao,cv,rfl⟩:=qgK hW.2.1
   have hbw:Below w.heap.size w w2:=K1.out.1.trans hW.2.2.1
   have HM:=qH (qA hR (qA hfit (qA hW.1 hbw)))
   have hkn:=hR.le
   clear hW hR hfit hbw K1 HD
   by_cases hk:k<n
   ·have hki:(k:Int)<n:=by omega
    have HS:=qH (HX.out.2.2.2.1 (HM.out.1.sing hk))
    go_wp2_with fail
    go_ret2
    exact⟨qau ⟨HS.out,rfl⟩,HM.out.2.2.2⟩
   ·obtain rfl:n=k:=by omega
    have HS:=qH HM.out.1.sol
    go_wp2_with fail
    go_loopw [10,11] (fun x10 x11 W=>∃i:Nat,x11=.int .i64 i∧i≤n∧Kn (fun W=>Below w2.heap.size w2 W∧QList W w2.heap.size x10 i (fun i=>M i n)) W) (fun _ x11 _=>n-(intOf x11).toNat)
    case atStart=>exact⟨0,rfl,qam _,.of ⟨Below.refl _ _,QList.nil _ _ _⟩⟩
    case round =>
     obtain⟨i,rfl,hi,K3⟩:=hrel
     by_cases hlt:i<n
     ·have hii:(i:Int)<n:=by omega
      have hnn:(n:Int)<(n:Int)+1:=by omega
      have hQ:=HM.out.2.2.1.below K3.out.1
      have h0:=(hQ.head hlt).1
      obtain⟨u,hu,d0,d1,d2,d3⟩:=(hQ.rows i hlt).row.cells n (Nat.lt_succ_self n)
      have HU:=qH hu
      clear hQ hu
      go_wp2_with (first | (at_builtin;refine qey rfl _ _ rfl K3.out.2 K3.out.1.size rfl rfl rfl (by omega) HU.out rfl ?_;intro v' w' h1 h2 _;have K4:=qH (qA h1 h2);clear h1 h2) | fail)
      go_roundw
      case rel=>exact⟨i+1,by go_num,hlt,.of ⟨K3.out.1.trans K4.out.2,K4.out.1⟩⟩
      case measure=>simp [intOf];omega
     ·obtain rfl:n=i:=by omega
      go_wp2_with fail
      go_ret2
      exact⟨qaq ⟨fun h=>HS.out.1 (HX.out.2.2.2.2.1 h),fun i=>M i n,_,HX.out.2.2.2.2.2.1 _ HS.out.2,rfl,K3.out.2.mono HM.out.2.2.2.size,fun i hi=>HM.out.2.1 i hi n (Nat.lt_succ_self n)⟩,HM.out.2.2.2.trans (K3.out.1.mono HM.out.2.2.2.size)⟩
theorem qda {l:List FT} (h:FAll l) {k:Nat} (hk:k<l.length):RFit (lval l k) 150:=by
 obtain⟨h1,h2⟩:=(h k hk).val
 unfold lval
 exact⟨by rw [h1];exact qdy (h k hk).vn,by rw [h2];exact qdy (h k hk).vd⟩
theorem qeH {t:Tbl} (h:TOk t) {i j:Nat} (hi:i<t.length) (hj:j<wid t):RFit (tval t i j) 150:=qda (h.rows i hi).2 (by rw [(h.rows i hi).1];exact hj)
theorem pow5 {n:Nat} (h:n≤12):5 ^ n*150≤17592186000000:=qai (qaR 150 (qaC (by decide) h)) (by decide)
theorem ql4 (ao:Option Addr) (b off R c:Nat) (t:Tbl) (w:World) (hl:t.length=R) (hR:R≤1000) (hC:∀k,k<R→(t.getD k []).length≤1000) (hs:qgr t) (hT:TCells w ao b off t) :
  Calls Tryz.prog 17 #[.slice ao R c] w fun e w'=>qeR w t e w':=by
 have HR:=qH (qdw ao b off R c t w hl hR hC hs hT)
 have HI:=qH (fun (h:TOk t) (W:World) (hb:Below w.heap.size w W)=>qgB ao b off R c (wid t) t W hl hR h.c1 (qai h.c2 (by decide)) (fun k hk=>h.rows k (by omega)) (hT.below hb))
 have HL:=qH hl
 clear hl hC hs hT
 go_enter Tryz.func17,Tryz.ntmps17
 go_wp2_with fail
 refine HR.out.mono ?_
 rintro e w2 ⟨r,rfl,hr,hb⟩
 have HX:=qH (qA hr hb)
 clear hr hb
 cases r with
 | false =>
  go_wp2_with fail
  go_ret2
  exact⟨qaq ⟨fun h=>absurd (HX.out.1.2 h) (by decide),rfl⟩,HX.out.2⟩
 | true =>
  have ht:=HX.out.1.1 (by first | exact rfl | trivial)
  have HT:=qH ht
  clear ht
  go_wp2_with fail
  refine (HI.out HT.out w2 HX.out.2).mono ?_
  rintro e w3 ⟨v,rfl,hq,hb⟩
  have hR0:0<R:=by have:=HT.out.r1;have:=HL.out;omega
  obtain⟨T,cap,gs,cp,rfl,hQ⟩:=hq.tab hR0
  have HD:=qH (qgQ T cap R (wid t) 0 w2.heap.size 150 gs cp (tval t) w3 hR0 hR (by have:=HT.out.c2;omega) (qam _) (by decide) (pow5 (by have:=HT.out.c2;omega)) hb.size hQ (fun i hi j hj=>qeH HT.out (by have:=HL.out;omega) hj))
  have HB:=qH (HX.out.2.trans (hb.mono HX.out.2.size))
  clear hq hQ hb
  go_wp2_with fail
  refine HD.out.mono ?_
  rintro e w4 ⟨v,k,M,τ,g2,c2,S,rfl,hW,hRd,hfit⟩
  obtain⟨ao,cv,rfl⟩:=qgK hW.2.1
  rw [Nat.sub_zero] at hRd
  have HY:=qH (qA hRd.rank (HB.out.trans (hW.2.2.1.mono HX.out.2.size)))
  clear hW hRd hfit
  go_wp2_with fail
  go_ret2
  exact⟨qau ⟨HT.out,k,by rw [HL.out];exact HY.out.1,rfl⟩,HY.out.2⟩
def qjh (w:World) (t:Tbl) (l:List FT) (e:Ending) (w':World):Prop :=
  ((¬TOk t∧e=.returned (.tuple #[.slice none 0 0,.int .i64 60])) ∨
   (TOk t∧¬FAll l∧e=.returned (.tuple #[.slice none 0 0,.int .i64 20])) ∨
   (TOk t∧FAll l∧¬(l.length=t.length∧t.length=wid t)∧e=.returned (.tuple #[.slice none 0 0,.int .i64 2])) ∨
   (TOk t∧FAll l∧l.length=t.length∧t.length=wid t ∧
     ((Sing t.length (tval t)∧e=.returned (.tuple #[.slice none 0 0,.int .i64 7])) ∨
      (¬Sing t.length (tval t)∧∃x,qcq t.length (tval t) (lval l) x∧qh0 t.length x e w'))))∧Below w.heap.size w w'
def qgq (l:List FT):Prop:=∀k,k<l.length→(l.getD k fd0).1.size≤140737488355328∧(l.getD k fd0).2.size≤140737488355328
theorem qkw (ao:Option Addr) (b off R c:Nat) (t:Tbl) (ao2:Option Addr) (b2 off2 n2 c2:Nat) (l:List FT) (w:World) (hl:t.length=R) (hR:R≤1000) (hC:∀k,k<R→(t.getD k []).length≤1000) (hs:qgr t) (hT:TCells w ao b off t)
  (hl2:l.length=n2) (hn2:n2≤1000) (hs2:qgq l) (hF:FCells w ao2 b2 off2 l) :
  Calls Tryz.prog 19 #[.slice ao R c,.slice ao2 n2 c2] w fun e w'=>qjh w t l e w':=by
 have HR:=qH (qdw ao b off R c t w hl hR hC hs hT)
 have HLi:=qH (fun (W:World) (hb:Below w.heap.size w W)=>qdD ao2 b2 off2 n2 c2 l W hl2 (by omega) (fun k hk=>hs2 k (by omega)) (hF.below hb))
 have HV:=qH (fun (h:FAll l) (W:World) (hb:Below w.heap.size w W)=>qdx ao2 b2 off2 n2 c2 l W hl2 hn2 h (hF.below hb))
 have HI:=qH (fun (h:TOk t) (W:World) (hb:Below w.heap.size w W)=>qgB ao b off R c (wid t) t W hl hR h.c1 (qai h.c2 (by decide)) (fun k hk=>h.rows k (by omega)) (hT.below hb))
 have HL:=qH (qA hl (qA hl2 hT))
 clear hl hC hs hT hl2 hs2 hF
 go_enter Tryz.func19,Tryz.ntmps19
 go_wp2_with fail
 refine HR.out.mono ?_
 rintro e w2 ⟨r,rfl,hr,hb⟩
 have HX:=qH (qA hr hb)
 clear hr hb
 cases r with
 | false =>
  go_wp2_with fail
  go_ret2
  exact⟨qau ⟨fun h=>absurd (HX.out.1.2 h) (by decide),rfl⟩,HX.out.2⟩
 | true =>
  have ht:=HX.out.1.1 (by first | exact rfl | trivial)
  have HT:=qH ht
  clear ht
  go_wp2_with fail
  refine (HLi.out w2 HX.out.2).mono ?_
  rintro e w3 ⟨r2,rfl,hr2,hb⟩
  have HY:=qH (qA hr2 (HX.out.2.trans (hb.mono HX.out.2.size)))
  clear hr2 hb
  cases r2 with
  | false =>
   go_wp2_with fail
   go_ret2
   exact⟨qaq (qau ⟨HT.out,fun h=>absurd (HY.out.1.2 h) (by decide),rfl⟩),HY.out.2⟩
  | true =>
   have hA:=HY.out.1.1 (by first | exact rfl | trivial)
   have hR0:0<R:=by have:=HT.out.r1;have:=HL.out.1;omega
   have har:=HL.out.2.2.addr (by have:=HL.out.1;omega)
   subst har
   obtain⟨ra,rb,ro,rc,d0,_⟩:=(HL.out.2.2.below HY.out.2).row 0 (by have:=HL.out.1;omega)
   rw [←qmn,qba] at d0
   obtain⟨n,hn⟩:∃n,wid t=n:=⟨_,rfl⟩
   rw [hn] at d0
   have HA:=qH (qA hA hn)
   clear hA hn
   by_cases h1:R=n
   case neg =>
    have hb1:((R:Int) != (n:Int))=true:=by rw [bne_iff_ne];omega
    have HN:=qH h1
    clear h1
    go_wp2_with fail
    go_ret2
    exact⟨qaq (qaq (qau ⟨HT.out,HA.out.1,fun h=>HN.out (by have:=HL.out.1;have:=HA.out.2;omega),rfl⟩)),HY.out.2⟩
   subst h1
   have hb1:((R:Int) != (R:Int))=false:=by simp
   by_cases h2:n2=R
   case neg =>
    have hb2:((n2:Int) != (R:Int))=true:=by rw [bne_iff_ne];omega
    have HN:=qH h2
    clear h2
    go_wp2_with fail
    go_ret2
    exact⟨qaq (qaq (qau ⟨HT.out,HA.out.1,fun h=>HN.out (by have:=HL.out.1;have:=HL.out.2.1;omega),rfl⟩)),HY.out.2⟩
   subst h2
   go_wp2_with fail
   refine (HI.out HT.out w3 HY.out.2).mono ?_
   rintro e w4 ⟨va,rfl,hqa,hb4⟩
   rw [HA.out.2] at hqa
   have HB4:=qH (qA hqa (HY.out.2.trans (hb4.mono HY.out.2.size)))
   obtain⟨T,cap,gs,cp,rfl,_⟩:=hqa.tab hR0
   clear hqa hb4
   go_wp2_with fail
   refine (HV.out HA.out.1 w4 HB4.out.2).mono ?_
   rintro e w5 ⟨vb,rfl,hqb,hb5⟩
   have HB5:=qH (HB4.out.2.trans (hb5.mono HB4.out.2.size))
   have HO:=qH (qjG n2 150 w3.heap.size w4.heap.size _ vb (tval t) (lval l) w5 hR0 (by have:=HT.out.r2;have:=HL.out.1;omega) (by decide) (pow5 (by have:=HT.out.c2;have:=HA.out.2;omega)) (HB4.out.1.below hb5) hqb (fun i hi j hj=>qeH HT.out (by have:=HL.out.1;omega) (by rw [HA.out.2];exact hj)) (fun i hi=>qda HA.out.1 (by have:=HL.out.2.1;omega)))
   obtain⟨gb,cb,rfl,_,_,_⟩:=hqb.row hR0
   clear hqb hb5
   go_wp2_with fail
   refine HO.out.mono ?_
   rintro e w6 ⟨h6,hb6⟩
   have HB6:=qH (HB5.out.trans (hb6.mono HB5.out.size))
   clear hb6
   have e1:=HL.out.1
   rcases h6 with ⟨hs,rfl⟩ | ⟨hs,x,v,hx,rfl,hq,hfx⟩
   ·have HS:=qH hs
    clear hs e1
    go_wp2_with fail
    go_ret2
    exact⟨qaq (qaq (qaq ⟨HT.out,HA.out.1,by have:=HL.out.1;have:=HL.out.2.1;omega,by have:=HL.out.1;have:=HA.out.2;omega,qau ⟨by rw [HL.out.1];exact HS.out,rfl⟩⟩)),HB6.out⟩
   ·obtain⟨gx,cx,rfl,_,_,hrx⟩:=hq.row hR0
    have HTo:=qH (qj0 gx n2 cx x (5 ^ (n2+1)*150) (by have:=Nat.pow_pos (n:=n2+1) (show 0<5 by decide);omega) (pow5 (by have:=HT.out.c2;have:=HA.out.2;omega)) w6 (by have:=HT.out.r2;omega) hrx hfx)
    have HS:=qH (qA hs hx)
    clear hs hx hq hrx hfx e1
    go_wp2_with fail
    refine HTo.out.mono ?_
    rintro e w7 ⟨ht,hb7⟩
    have HB7:=qH (HB6.out.trans (hb7.mono HB6.out.size))
    clear hb7
    rcases ht with ⟨hs,ao3,g3,c3,rfl,hc⟩ | ⟨hs,rfl⟩
    ·have HZ:=qH (qA hs hc)
     clear hs hc
     go_wp2_with fail
     go_ret2
     exact⟨qaq (qaq (qaq ⟨HT.out,HA.out.1,by have:=HL.out.1;have:=HL.out.2.1;omega,by have:=HL.out.1;have:=HA.out.2;omega,qaq ⟨by rw [HL.out.1];exact HS.out.1,x,by rw [HL.out.1];exact HS.out.2,by rw [HL.out.1];exact qau ⟨HZ.out.1,ao3,g3,c3,rfl,HZ.out.2⟩⟩⟩)),HB7.out⟩
    ·have HZ:=qH hs
     clear hs
     go_wp2_with fail
     go_ret2
     exact⟨qaq (qaq (qaq ⟨HT.out,HA.out.1,by have:=HL.out.1;have:=HL.out.2.1;omega,by have:=HL.out.1;have:=HA.out.2;omega,qaq ⟨by rw [HL.out.1];exact HS.out.1,x,by rw [HL.out.1];exact HS.out.2,by rw [HL.out.1];exact qaq ⟨HZ.out,rfl⟩⟩⟩)),HB7.out⟩
end Go.Proofs.YtfminfgabiipjaaGreatDoor.p4
