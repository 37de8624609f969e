/- Ae, part 14: Frac14 Frac16 Fr1 Fr2 Fr4 Fr6 Fr8 -/
import Derived.Deep.DeepCutAuto
import Derived.Deep.QuietTactic
import Derived.Deep.RegionHeld3
import Derived.Test.YtfminfgabiipjaaGreatDoorAe0
import Derived.Test.YtfminfgabiipjaaGreatDoorAe10
import Derived.Test.YtfminfgabiipjaaGreatDoorAe13
import Derived.Test.YtfminfgabiipjaaGreatDoorAe8
set_option maxRecDepth 100000
set_option maxHeartbeats 16000000
namespace Go.Proofs.YtfminfgabiipjaaGreatDoor.frac
open Go.RowKit
theorem qbt {W:World} {v:Value} {z:Int} (h:IntAt W v z):∃(a:Option Addr) (n c:Nat) (b:Bool),v=.agg #[.slice a n c,.bool b]:=by
 obtain⟨m,rfl,am,bm,om,cm,n,M,rfl,Im,hMx⟩:=h
 exact⟨am,n,cm,_,rfl⟩
theorem qbv (W:World) (g k:Nat) (v:Value):W.grownBy (W.setCell ⟨g,k,none⟩ v) (some g) :=
 ⟨rfl,rfl,rfl,by simp [World.setCell],fun i _ hr=>Below.heap_setCell _ _ _ _ (fun e=>hr (by rw [e]))⟩
theorem qcX {W:World} {g:Nat} {t:TypeId} (h:W.heap[g]? = some (.cells #[.slice none 0 0,.bool false] t (0,0))) (a:Option Addr) (n c:Nat) (b:Bool) :
  ((W.setCell ⟨g,0,none⟩ (.slice a n c)).setCell ⟨g,1,none⟩ (.bool b)).heap[g]? = some (.cells #[.slice a n c,.bool b] t (0,0)) :=
 heap_setCell_same _ g 1 _ t _ (heap_setCell_same _ g 0 _ t _ h)
theorem qcV {W:World} {m:Value} {b0:Bool} {z:Int} {g:Nat} {t:TypeId} (hi:IntAt W (.agg #[m,.bool b0]) z) (h:W.heap[g]? = some (.cells #[.slice none 0 0,.bool false] t (0,0))) (a:Option Addr) (n c:Nat) (b:Bool) :
  IntAt ((W.setCell ⟨g,0,none⟩ (.slice a n c)).setCell ⟨g,1,none⟩ (.bool b)) (.agg #[m,.bool b0]) z:=by
 obtain⟨m',h1,h2⟩:=hi
 refine⟨m',h1,?_⟩
 refine qb2 (qb2 h2 (qbv W g 0 _) h qdv) (qbv _ g 1 _) (heap_setCell_same W g 0 _ t _ h) ?_
 intro x hx d
 rcases qaN.1 (show x∈[Value.slice a n c,Value.bool false] from hx) with rfl | hx
 ·intro h;cases h
 ·rw [qao.1 hx];intro h;cases h
def wtxt (z:Int):ByteArray:=⟨(itxt z).toArray⟩
theorem qgp {z:Int} (h:z<0):wtxt z=⟨#[45]⟩++num z.natAbs:=by
 apply ByteArray.ext
 rw [ByteArray.data_append]
 unfold wtxt itxt num
 rw [if_pos h];simp
theorem qe3 {z:Int} (h:¬z<0):wtxt z=num z.natAbs:=by
 unfold wtxt itxt num;rw [if_neg h]
theorem sign_any (z:Int) (v:Value) (w:World) (hv:IntAt w v z) :
  Calls Tryz.prog 139 #[v] w fun e w'=>e=.returned (.int .i64 (cmp3 z 0))∧Below w.heap.size w w':=by
 obtain⟨m,rfl,hm⟩:=hv
 have hz:=fun (W:World) (h:Below w.heap.size w W)=>qcA z.natAbs m W (hm.below h)
 have HA:Hid (∀cs,Below w.heap.size w (w.alloc (.cells cs 136))):=qH fun cs=>qB.alloc qN _
 obtain⟨am,bm,om,cm,n,M,rfl,Im,hMx⟩:=hm
 clear Im hMx
 rcases Int.lt_trichotomy z 0 with h | h | h
 ·rw [decide_eq_true h,show cmp3 z 0 = -1 by unfold cmp3;rw [if_pos h]]
  rw [decide_eq_false (show ¬z.natAbs=0 by omega)] at hz
  have HZ:=qH hz
  clear hz h
  go_enter Tryz.func139,Tryz.ntmps139
  go_wp2_with fail
  refine (HZ.out _ (HA.out _)).mono ?_
  rintro e w1 ⟨rfl,rfl⟩
  go_wp2_with fail
  go_ret
  exact⟨rfl,HA.out _⟩
 ·subst h
  rw [decide_eq_false (by omega:¬(0:Int)<0),show cmp3 0 0=0 from rfl]
  rw [decide_eq_true (show (0:Int).natAbs=0 from rfl)] at hz
  have HZ:=qH hz
  clear hz
  go_enter Tryz.func139,Tryz.ntmps139
  go_wp2_with fail
  refine (HZ.out _ (HA.out _)).mono ?_
  rintro e w1 ⟨rfl,rfl⟩
  go_wp2_with fail
  go_ret
  exact⟨rfl,HA.out _⟩
 ·rw [decide_eq_false (by omega:¬z<0),show cmp3 z 0=1 by unfold cmp3;rw [if_neg (by omega),if_neg (by omega)]]
  rw [decide_eq_false (show ¬z.natAbs=0 by omega)] at hz
  have HZ:=qH hz
  clear hz h
  go_enter Tryz.func139,Tryz.ntmps139
  go_wp2_with fail
  refine (HZ.out _ (HA.out _)).mono ?_
  rintro e w1 ⟨rfl,rfl⟩
  go_wp2_with fail
  go_ret
  exact⟨rfl,HA.out _⟩
end Go.Proofs.YtfminfgabiipjaaGreatDoor.frac
namespace Go.Proofs.YtfminfgabiipjaaGreatDoor
open Go.RowKit
structure FOk (n d:List UInt8):Prop where
 vn:Valid n
 vd:Valid d
 pos:0<ival d
 cop:(ival n).natAbs.gcd (ival d).natAbs=1
def RatAt (W:World) (v:Value) (z:Int) (d:Nat):Prop:=∃m o,v=.agg #[m,.bool (decide (z<0)),o]∧MagAt W m z.natAbs∧MagAt W o d
theorem RatAt.below {W W':World} {v:Value} {z:Int} {d:Nat} (h:RatAt W v z d) (hb:Below W.heap.size W W'):RatAt W' v z d:=by
 obtain⟨m,o,h1,h2,h3⟩:=h
 exact⟨m,o,h1,h2.below hb,h3.below hb⟩
theorem qbp {B:Nat} {a W:World} {o:Obj} (h:Below B a W) (hB:B≤a.heap.size):Below B a (W.alloc o):=h.alloc (qak hB h.size) o
theorem bjoin {B:Nat} {a W W':World} (h:Below B a W) (k:Below W.heap.size W W') (hB:B=a.heap.size:=by rfl):Below B a W':=h.trans (k.mono (by rw [hB];exact h.size))
theorem zkeep {W W':World} (h:Below W.heap.size W W'):∀(g:Nat) (o:Obj),W.heap[g]? = some o→W'.heap[g]? = some o:=fun g _ hg=>(h.block g (qG hg).1).trans hg
theorem qgg {W:World} {g:Nat} {t:TypeId} (h:W.heap[g]? = some (.cells #[.slice none 0 0,.bool false] t (0,0))) (a:Option Addr) (n c:Nat) (b:Bool) :
  ((W.setCell ⟨g,0,none⟩ (.slice a n c)).setCell ⟨g,1,none⟩ (.bool b)).heap[g]? = some (.cells #[.slice a n c,.bool b] t (0,0)) ∧
  (∀k,k≠g→((W.setCell ⟨g,0,none⟩ (.slice a n c)).setCell ⟨g,1,none⟩ (.bool b)).heap[k]? = W.heap[k]?) ∧
  (∀m b0 z,IntAt W (.agg #[m,.bool b0]) z→IntAt ((W.setCell ⟨g,0,none⟩ (.slice a n c)).setCell ⟨g,1,none⟩ (.bool b)) (.agg #[m,.bool b0]) z) :=
 ⟨frac.qcX h a n c b,fun _k hk=>(Below.heap_setCell _ _ _ _ hk).trans (Below.heap_setCell _ _ _ _ hk),fun _ _ _ hi=>frac.qcV hi h a n c b⟩
theorem zdrew {W:World} {g:Nat} {o:Option Obj} (h:W.heap[g]? = o):W.drew.heap[g]? = o:=h
theorem qhV:∀x∈(#[.slice none 0 0,.bool false,.slice none 0 0]:Array Value).toList,∀d,x≠.int .u32 d:=by
 intro x hx d
 rcases qaN.1 hx with rfl | hx
 ·intro h;cases h
 ·rcases qaN.1 hx with rfl | hx
  ·intro h;cases h
  ·rw [qao.1 hx];intro h;cases h
def Two (W2 W:World) (g3 g4:Nat) (v3:Option Addr×Nat×Nat×Bool) (v4:Option Addr×Nat×Nat×Bool) (z3 z4:Int):Prop :=
 W.heap[g3]? = some (.cells #[.slice v3.1 v3.2.1 v3.2.2.1,.bool v3.2.2.2] 136 (0,0))∧W.heap[g4]? = some (.cells #[.slice v4.1 v4.2.1 v4.2.2.1,.bool v4.2.2.2] 136 (0,0)) ∧
  IntAt W (.agg #[.slice v3.1 v3.2.1 v3.2.2.1,.bool v3.2.2.2]) z3∧IntAt W (.agg #[.slice v4.1 v4.2.1 v4.2.2.1,.bool v4.2.2.2]) z4∧Below W2.heap.size W2 W
section
variable {W2 W:World} {a3:Option Addr} {n3 c3:Nat} {b3:Bool} {a4:Option Addr} {n4 c4:Nat} {b4:Bool} {z3 z4:Int}
theorem two_aa (h:IntAt W (.agg #[.slice a3 n3 c3,.bool b3]) z3∧IntAt W (.agg #[.slice a4 n4 c4,.bool b4]) z4) (hb:Below W2.heap.size W2 W) :
  Two W2 ((W.alloc (.cells #[.slice a3 n3 c3,.bool b3] 136)).alloc (.cells #[.slice a4 n4 c4,.bool b4] 136)) W.heap.size (W.heap.size+1) (a3,n3,c3,b3) (a4,n4,c4,b4) z3 z4 :=
 have k:=qbp (qbp (Below.refl W.heap.size W) qN) qN
 ⟨(qL _ _ _ (by simp only [qab];omega)).trans (qM _ _ _ rfl),qM _ _ _ (by simp only [qab]),h.1.below k,h.2.below k,qbp (qbp hb qN) qN⟩
theorem two_bb (h:IntAt W (.agg #[.slice a3 n3 c3,.bool b3]) z3∧IntAt W (.agg #[.slice a4 n4 c4,.bool b4]) z4) (hb:Below W2.heap.size W2 W) :
  Two W2 ((W.alloc (.cells #[.slice a4 n4 c4,.bool b4] 136)).alloc (.cells #[.slice a3 n3 c3,.bool b3] 136)) (W.heap.size+1) W.heap.size (a3,n3,c3,b3) (a4,n4,c4,b4) z3 z4 :=
 have k:=qbp (qbp (Below.refl W.heap.size W) qN) qN
 ⟨qM _ _ _ (by simp only [qab]),(qL _ _ _ (by simp only [qab];omega)).trans (qM _ _ _ rfl),h.1.below k,h.2.below k,qbp (qbp hb qN) qN⟩
theorem two_pa {g:Nat} (h:IntAt W (.agg #[.slice a3 n3 c3,.bool b3]) z3∧IntAt W (.agg #[.slice a4 n4 c4,.bool b4]) z4) (hb:Below W2.heap.size W2 W) (hg:W2.heap.size≤g) (hz:W.heap[g]? = some (.cells #[.slice none 0 0,.bool false] 136 (0,0))) :
  Two W2 (((W.setCell ⟨g,0,none⟩ (.slice a3 n3 c3)).setCell ⟨g,1,none⟩ (.bool b3)).alloc (.cells #[.slice a4 n4 c4,.bool b4] 136)) g W.heap.size (a3,n3,c3,b3) (a4,n4,c4,b4) z3 z4:=by
 obtain⟨p1,p2,p3⟩:=qgg hz a3 n3 c3 b3
 have lt:=(qG hz).1
 have k:∀V:World,Below V.heap.size V (V.alloc (.cells #[.slice a4 n4 c4,.bool b4] 136)):=fun V=>qbp qB qN
 exact⟨(qL _ _ _ (by simp only [qbm];exact lt)).trans p1,qM _ _ _ (by simp only [qbm]),(p3 _ _ _ h.1).below (k _),(p3 _ _ _ h.2).below (k _),qbp ((hb.setCell (by exact hg) _).setCell (by exact hg) _) qN⟩
theorem two_pb {g:Nat} (h:IntAt W (.agg #[.slice a3 n3 c3,.bool b3]) z3∧IntAt W (.agg #[.slice a4 n4 c4,.bool b4]) z4) (hb:Below W2.heap.size W2 W) (hg:W2.heap.size≤g) (hz:W.heap[g]? = some (.cells #[.slice none 0 0,.bool false] 136 (0,0))) :
  Two W2 (((W.setCell ⟨g,0,none⟩ (.slice a4 n4 c4)).setCell ⟨g,1,none⟩ (.bool b4)).alloc (.cells #[.slice a3 n3 c3,.bool b3] 136)) W.heap.size g (a3,n3,c3,b3) (a4,n4,c4,b4) z3 z4:=by
 obtain⟨p1,p2,p3⟩:=qgg hz a4 n4 c4 b4
 have lt:=(qG hz).1
 have k:∀V:World,Below V.heap.size V (V.alloc (.cells #[.slice a3 n3 c3,.bool b3] 136)):=fun V=>qbp qB qN
 exact⟨qM _ _ _ (by simp only [qbm]),(qL _ _ _ (by simp only [qbm];exact lt)).trans p1,(p3 _ _ _ h.1).below (k _),(p3 _ _ _ h.2).below (k _),qbp ((hb.setCell (by exact hg) _).setCell (by exact hg) _) qN⟩
theorem two_pp {g g':Nat} (h:IntAt W (.agg #[.slice a3 n3 c3,.bool b3]) z3∧IntAt W (.agg #[.slice a4 n4 c4,.bool b4]) z4) (hb:Below W2.heap.size W2 W) (hg:W2.heap.size≤g) (hg':W2.heap.size≤g') (hne:g≠g') (hz:W.heap[g]? = some (.cells #[.slice none 0 0,.bool false] 136 (0,0))) (hz':W.heap[g']? = some (.cells #[.slice none 0 0,.bool false] 136 (0,0))) :
  Two W2 ((((W.setCell ⟨g,0,none⟩ (.slice a3 n3 c3)).setCell ⟨g,1,none⟩ (.bool b3)).setCell ⟨g',0,none⟩ (.slice a4 n4 c4)).setCell ⟨g',1,none⟩ (.bool b4)) g g' (a3,n3,c3,b3) (a4,n4,c4,b4) z3 z4:=by
 obtain⟨p1,p2,p3⟩:=qgg hz a3 n3 c3 b3
 obtain⟨q1,q2,q3⟩:=qgg ((p2 g' (Ne.symm hne)).trans hz') a4 n4 c4 b4
 exact⟨(q2 g hne).trans p1,q1,q3 _ _ _ (p3 _ _ _ h.1),q3 _ _ _ (p3 _ _ _ h.2),(((hb.setCell (by exact hg) _).setCell (by exact hg) _).setCell (by exact hg') _).setCell (by exact hg') _⟩
end
def FReadsAs (w:World) (n d:List UInt8) (e:Ending) (w':World):Prop:=∃v ok,e=.returned (.tuple #[v,.bool ok])∧(ok=true∧FOk n d∧RatAt w' v (ival n) (ival d).natAbs∨ok=false∧¬FOk n d∧v=.agg #[.slice none 0 0,.bool false,.slice none 0 0])∧Below w.heap.size w w'
theorem qiQ (n d:ByteArray) (w:World) :
  Calls Tryz.prog 105 #[.agg #[.string n,.string d]] w fun e w'=>FReadsAs w n.data.toList d.data.toList e w':=by
 have hc1:=fun W=>qfU n W
 have hc2:=fun W=>qfU d W
 obtain⟨W1,hW1⟩:∃W1,W1=(w.alloc (.cells #[.string n,.string d] 46)).alloc (.cells #[.slice none 0 0,.bool false,.slice none 0 0] 138):=⟨_,rfl⟩
 have hb1:Below w.heap.size w W1:=hW1▸(qB.alloc qN _).alloc (by simp only [qab];omega) _
 have hr0:W1.heap[w.heap.size]? = some (.cells #[.string n,.string d] 46 (0,0)):=by rw [hW1,qL _ _ _ (by simp only [qab];omega)];exact qM _ _ _ rfl
 have hr1:W1.heap[w.heap.size+1]? = some (.cells #[.slice none 0 0,.bool false,.slice none 0 0] 138 (0,0)):=by rw [hW1];exact qM _ _ _ (by simp)
 have l1:w.heap.size+1<W1.heap.size:=(qG hr1).1
 have HC1:=qH hc1
 have HC2:=qH hc2
 have HR:=qH (qA hb1 (qA hr0 (qA hr1 l1)))
 clear hc1 hc2 hb1 hr0 hr1 l1
 have HRow:Hid (∀W,Below W1.heap.size W1 W→W.heap[w.heap.size]? = some (.cells #[.string n,.string d] 46 (0,0))∧W.heap[w.heap.size+1]? = some (.cells #[.slice none 0 0,.bool false,.slice none 0 0] 138 (0,0))):=qH fun W h=>⟨(h.block _ (by have:=HR.out.2.2.2;omega)).trans HR.out.2.1,(h.block _ HR.out.2.2.2).trans HR.out.2.2.1⟩
 go_enter Tryz.func105,Tryz.ntmps105
 go_wp2_with fail
 rw [←hW1]
 clear hW1
 refine (HC1.out _).mono ?_
 rintro e w1 ⟨c1,rfl,hk1,hb1⟩
 rcases hk1 with ⟨rfl,hv1⟩ | ⟨rfl,hv1⟩
 ·have d1:=cell_of_row w1 _ 1 _ _ _ (HRow.out w1 hb1).1
  have H1:=qH (qA hb1 hv1)
  clear hb1 hv1
  go_wp2_with fail
  refine (HC2.out _).mono ?_
  rintro e w2 ⟨c2,rfl,hk2,hb2⟩
  have hb2':Below W1.heap.size W1 w2:=H1.out.1.trans (hb2.mono H1.out.1.size)
  clear hb2
  rcases hk2 with ⟨rfl,hv2⟩ | ⟨rfl,hv2⟩
  ·have hst:Below w2.heap.size w2 w2:=Below.refl _ _
   have hstD:Below w2.heap.size w2 w2.drew:=hst.drew
   have hdr2:w2.drew.heap.size=w2.heap.size:=rfl
   have hrow2:=HRow.out w2 hb2'
   have l0:w.heap.size<w2.heap.size:=(qG hrow2.1).1
   have C0:∀W,Below w2.heap.size w2 W→W.cell? ⟨w.heap.size,0,none⟩=some (.string n):=fun W h=>(h.cell (p:=⟨w.heap.size,0,none⟩) l0).trans (cell_of_row _ _ 0 _ _ _ hrow2.1)
   have C1:∀W,Below w2.heap.size w2 W→W.cell? ⟨w.heap.size,1,none⟩=some (.string d):=fun W h=>(h.cell (p:=⟨w.heap.size,1,none⟩) l0).trans (cell_of_row _ _ 1 _ _ _ hrow2.1)
   have hn1:=fun W=>frac.qb9 n H1.out.2 W
   have hn2:=fun W=>frac.qb9 d hv2 W
   have HN1:=qH hn1
   have HN2:=qH hn2
   have H2:=qH (qA hb2' (qA hv2 hrow2))
   clear hn1 hn2 hb2' hv2 hrow2
   go_wp2_with fail
   have hdr3:∀W:World,W.drew.heap.size=W.heap.size:=fun _=>rfl
   go_cut [4,5] (fun x4 x5 W=>∃(g3 g4:Nat) (a3:Option Addr) (n3 c3:Nat) (b3:Bool) (a4:Option Addr) (n4 c4:Nat) (b4:Bool),x4=.pointer (some ⟨g3,0,none⟩)∧x5=.pointer (some ⟨g4,0,none⟩)∧Two w2 W g3 g4 (a3,n3,c3,b3) (a4,n4,c4,b4) (ival n.data.toList) (ival d.data.toList))
   case first =>
    go_region_held3 (fun W=>Below w2.heap.size w2 W) (first | with_reducible exact hst | with_reducible exact hstD | with_reducible exact HB4 | with_reducible exact HB3 | ((repeat (first | refine Below.setCell ?_ (by first | exact qah _ | exact HB3.size | exact HB4.size | exact qar qN | exact qar HB3.size | exact qar HB4.size) _ | refine qbp ?_ qN | refine Below.drew ?_));first | exact HB4 | exact HB3 | exact hst)) (first | (go_at_call_of 152 (Value.string n);refine (HN1.out _).mono ?_;rintro e w3 ⟨p3,rfl,hb3,hp3⟩;have HB3:Below w2.heap.size w2 w3:=bjoin (by ((repeat (first | refine Below.setCell ?_ (by first | exact qah _ | exact HB3.size | exact HB4.size | exact qar qN | exact qar HB3.size | exact qar HB4.size) _ | refine qbp ?_ qN | refine Below.drew ?_));first | exact hst)) hb3;obtain⟨a3,n3,c3,b3,rfl⟩:=frac.qbt hp3;have HP3:=qH hp3;obtain⟨k3,k3f⟩:=bcell hb3;have Z3:=qH (zkeep hb3);have s3:_≤_:=hb3.size;(try simp only [qab,hdr2,hdr3] at s3);(try have q3:w2.heap.size<w3.heap.size:=by omega);(try have r3:w2.heap.size+1<w3.heap.size:=by omega);clear hb3 hp3) | (go_at_call_of 152 (Value.string d);refine (HN2.out _).mono ?_;rintro e w4 ⟨p4,rfl,hb4,hp4⟩;have HB4:Below w2.heap.size w2 w4:=bjoin (by ((repeat (first | refine Below.setCell ?_ (by first | exact qah _ | exact HB3.size | exact HB4.size | exact qar qN | exact qar HB3.size | exact qar HB4.size) _ | refine qbp ?_ qN | refine Below.drew ?_));first | exact HB3)) hb4;obtain⟨a4,n4,c4,b4,rfl⟩:=frac.qbt hp4;have HP4:=qH (qA (show IntAt w4 _ _ from (by first | exact HP3.out.below hb4 | exact (HP3.out.below (qbp qB qN)).below hb4 | exact (HP3.out.below (qbp (qbp qB qN) qN)).below hb4)) hp4);obtain⟨k4,k4f⟩:=bcell hb4;have Z4:=qH (zkeep hb4);have s4:_≤_:=hb4.size;(try simp only [qab] at s4);(try have q4:w2.heap.size<w4.heap.size:=by omega);(try have r4:w2.heap.size+1<w4.heap.size:=by omega);(try have t4:w3.heap.size<w4.heap.size:=by omega);(try have u4:w3.heap.size+1<w4.heap.size:=by omega);clear hb4 hp4))
    all_goals go_wp2_with fail
    all_goals go_meet
    all_goals refine⟨_,_,a3,n3,c3,b3,a4,n4,c4,b4,rfl,rfl,?_⟩
    all_goals first
     | with_reducible exact two_aa HP4.out HB4
     | with_reducible exact two_bb HP4.out HB4
     | (with_reducible refine two_pa HP4.out HB4 ?_ ?_;(first | exact qah _ | exact HB3.size | exact HB4.size | exact Nat.le_succ _ | exact qar HB3.size);(refine Z4.out _ _ ?_;((try with_reducible refine zdrew ?_);first | (refine qM _ _ _ ?_;((try simp only) <;> omega)) | (refine Z3.out _ _ ?_;((try with_reducible refine zdrew ?_);first | (refine qM _ _ _ ?_;((try simp only) <;> omega)) | (refine (qL _ _ _ ?_).trans ?_;((try simp only [qab,hdr3]);omega);(refine qM _ _ _ ?_;((try simp only [qab,hdr3]) <;> omega))))) | (refine (qL _ _ _ ?_).trans ?_;((try simp only [qab,hdr3]);omega);(first | (refine qM _ _ _ ?_;((try simp only [qab,hdr3]) <;> omega)) | (refine Z3.out _ _ ?_;((try with_reducible refine zdrew ?_);first | (refine qM _ _ _ ?_;((try simp only [qab,hdr3]) <;> omega)) | (refine (qL _ _ _ ?_).trans ?_;((try simp only [qab,hdr3]);omega);(refine qM _ _ _ ?_;((try simp only [qab,hdr3]) <;> omega))))))) | (refine (qL _ _ _ ?_).trans ?_;((try simp only [qab,hdr3]);omega);refine (qL _ _ _ ?_).trans ?_;((try simp only [qab,hdr3]);omega);(refine Z3.out _ _ ?_;((try with_reducible refine zdrew ?_);first | (refine qM _ _ _ ?_;((try simp only [qab,hdr3]) <;> omega)) | (refine (qL _ _ _ ?_).trans ?_;((try simp only [qab,hdr3]);omega);(refine qM _ _ _ ?_;((try simp only [qab,hdr3]) <;> omega)))))))))
     | (with_reducible refine two_pb HP4.out HB4 ?_ ?_;(first | exact qah _ | exact HB3.size | exact HB4.size | exact Nat.le_succ _ | exact qar HB3.size);(refine Z4.out _ _ ?_;((try with_reducible refine zdrew ?_);first | (refine qM _ _ _ ?_;((try simp only) <;> omega)) | (refine Z3.out _ _ ?_;((try with_reducible refine zdrew ?_);first | (refine qM _ _ _ ?_;((try simp only) <;> omega)) | (refine (qL _ _ _ ?_).trans ?_;((try simp only [qab,hdr3]);omega);(refine qM _ _ _ ?_;((try simp only [qab,hdr3]) <;> omega))))) | (refine (qL _ _ _ ?_).trans ?_;((try simp only [qab,hdr3]);omega);(first | (refine qM _ _ _ ?_;((try simp only [qab,hdr3]) <;> omega)) | (refine Z3.out _ _ ?_;((try with_reducible refine zdrew ?_);first | (refine qM _ _ _ ?_;((try simp only [qab,hdr3]) <;> omega)) | (refine (qL _ _ _ ?_).trans ?_;((try simp only [qab,hdr3]);omega);(refine qM _ _ _ ?_;((try simp only [qab,hdr3]) <;> omega))))))) | (refine (qL _ _ _ ?_).trans ?_;((try simp only [qab,hdr3]);omega);refine (qL _ _ _ ?_).trans ?_;((try simp only [qab,hdr3]);omega);(refine Z3.out _ _ ?_;((try with_reducible refine zdrew ?_);first | (refine qM _ _ _ ?_;((try simp only [qab,hdr3]) <;> omega)) | (refine (qL _ _ _ ?_).trans ?_;((try simp only [qab,hdr3]);omega);(refine qM _ _ _ ?_;((try simp only [qab,hdr3]) <;> omega)))))))))
     | (with_reducible refine two_pp HP4.out HB4 ?_ ?_ ?_ ?_ ?_;(first | exact qah _ | exact HB3.size | exact HB4.size | exact Nat.le_succ _ | exact qar HB3.size);(first | exact qah _ | exact HB3.size | exact HB4.size | exact Nat.le_succ _ | exact qar HB3.size);omega;(refine Z4.out _ _ ?_;((try with_reducible refine zdrew ?_);first | (refine qM _ _ _ ?_;((try simp only [qab]) <;> omega)) | (refine Z3.out _ _ ?_;((try with_reducible refine zdrew ?_);first | (refine qM _ _ _ ?_;((try simp only [qab]) <;> omega)) | (refine (qL _ _ _ ?_).trans ?_;((try simp only [qab]);omega);(refine qM _ _ _ ?_;((try simp only) <;> omega))))) | (refine (qL _ _ _ ?_).trans ?_;((try simp only [qab]);omega);(first | (refine qM _ _ _ ?_;((try simp only) <;> omega)) | (refine Z3.out _ _ ?_;((try with_reducible refine zdrew ?_);first | (refine qM _ _ _ ?_;((try simp only) <;> omega)) | (refine (qL _ _ _ ?_).trans ?_;((try simp only [qab,hdr3]);omega);(refine qM _ _ _ ?_;((try simp only [qab,hdr3]) <;> omega))))))) | (refine (qL _ _ _ ?_).trans ?_;((try simp only [qab,hdr3]);omega);refine (qL _ _ _ ?_).trans ?_;((try simp only [qab,hdr3]);omega);(refine Z3.out _ _ ?_;((try with_reducible refine zdrew ?_);first | (refine qM _ _ _ ?_;((try simp only [qab,hdr3]) <;> omega)) | (refine (qL _ _ _ ?_).trans ?_;((try simp only [qab,hdr3]);omega);(refine qM _ _ _ ?_;((try simp only [qab,hdr3]) <;> omega))))))));(refine Z4.out _ _ ?_;((try with_reducible refine zdrew ?_);first | (refine qM _ _ _ ?_;((try simp only [qab]) <;> omega)) | (refine Z3.out _ _ ?_;((try with_reducible refine zdrew ?_);first | (refine qM _ _ _ ?_;((try simp only [qab]) <;> omega)) | (refine (qL _ _ _ ?_).trans ?_;((try simp only [qab]);omega);(refine qM _ _ _ ?_;((try simp only) <;> omega))))) | (refine (qL _ _ _ ?_).trans ?_;((try simp only [qab]);omega);(first | (refine qM _ _ _ ?_;((try simp only) <;> omega)) | (refine Z3.out _ _ ?_;((try with_reducible refine zdrew ?_);first | (refine qM _ _ _ ?_;((try simp only) <;> omega)) | (refine (qL _ _ _ ?_).trans ?_;((try simp only [qab,hdr3]);omega);(refine qM _ _ _ ?_;((try simp only [qab,hdr3]) <;> omega))))))) | (refine (qL _ _ _ ?_).trans ?_;((try simp only [qab,hdr3]);omega);refine (qL _ _ _ ?_).trans ?_;((try simp only [qab,hdr3]);omega);(refine Z3.out _ _ ?_;((try with_reducible refine zdrew ?_);first | (refine qM _ _ _ ?_;((try simp only [qab,hdr3]) <;> omega)) | (refine (qL _ _ _ ?_).trans ?_;((try simp only [qab,hdr3]);omega);(refine qM _ _ _ ?_;((try simp only [qab,hdr3]) <;> omega)))))))))
   case rest =>
    obtain⟨g3,g4,a3,n3,c3,b3,a4,n4,c4,b4,rfl,rfl,h3,h4,hi3,hi4,hb⟩:=hcut
    dsimp only at h3 h4 hi3 hi4
    have e30:=cell_of_row wc _ 0 _ _ _ h3
    have e31:=cell_of_row wc _ 1 _ _ _ h3
    have e40:=cell_of_row wc _ 0 _ _ _ h4
    have e41:=cell_of_row wc _ 1 _ _ _ h4
    have hsgn:=frac.sign_any _ _ wc hi4
    have HS:=qH hsgn
    have HH:=qH (qA h3 (qA h4 (qA hi3 (qA hi4 hb))))
    have hrow5:wc.heap[w.heap.size+1]? = some (.cells #[.slice none 0 0,.bool false,.slice none 0 0] 138 (0,0)):=(hb.block _ (qG H2.out.2.2.2).1).trans H2.out.2.2.2
    have H5:=qH (qA hrow5 (HR.out.1.trans ((H2.out.1.trans (hb.mono H2.out.1.size)).mono HR.out.1.size)))
    clear h3 h4 hi3 hi4 hb hsgn hrow5 C0 C1
    go_wp2_with fail
    refine HS.out.mono ?_
    rintro e w5 ⟨rfl,hb5⟩
    have HB5:=qH hb5
    have H6:=qH (qA ((hb5.block _ (qG H5.out.1).1).trans H5.out.1) (H5.out.2.trans (hb5.mono H5.out.2.size)))
    have hi3:=HH.out.2.2.1.below hb5
    have hi4:=HH.out.2.2.2.1.below hb5
    have h3:=(hb5.block _ (qG HH.out.1).1).trans HH.out.1
    have h4:=(hb5.block _ (qG HH.out.2.1).1).trans HH.out.2.1
    clear hb5 e30 e31 e40 e41
    by_cases hpos:0<ival d.data.toList
    ·rw [show cmp3 (ival d.data.toList) 0=1 by unfold cmp3;rw [if_neg (by omega),if_neg (by omega)]]
     have e30:=cell_of_row w5 _ 0 _ _ _ h3
     have e40:=cell_of_row w5 _ 0 _ _ _ h4
     obtain⟨m3,hm3,hg3⟩:=hi3
     obtain⟨m4,hm4,hg4⟩:=hi4
     have hm3':m3=.slice a3 n3 c3:=by simp only [Value.agg.injEq,Array.mk.injEq,List.cons.injEq] at hm3;exact hm3.1.symm
     have hm4':m4=.slice a4 n4 c4:=by simp only [Value.agg.injEq,Array.mk.injEq,List.cons.injEq] at hm4;exact hm4.1.symm
     have hb3v:b3=decide (ival n.data.toList<0):=by simp only [Value.agg.injEq,Array.mk.injEq,List.cons.injEq,Value.bool.injEq] at hm3;exact hm3.2.1
     subst hm3' hm4'
     have hf3:=H1.out.2.fit
     have hf4:=H2.out.2.1.fit
     have hgc:=frac.qfb (ival n.data.toList).natAbs (ival d.data.toList).natAbs 67 (by decide) _ _ w5 hg3 hg4 hf3 hf4
     have HGC:=qH hgc
     have HG:=qH (qA hg3 (qA hg4 (qA h3 (qA h4 hb3v))))
     clear hgc hg3 hg4 h3 h4 hm3 hm4 hb3v
     go_wp2_with fail
     refine HGC.out.mono ?_
     rintro e w7 ⟨vg,rfl,hb7,hvg⟩
     have hk0:Fit 1 67:=Fit.mono (show Fit 1 1 from (by show 1<1000000000 ^ 1;decide)) (by decide)
     have hgf:Fit ((ival n.data.toList).natAbs.gcd (ival d.data.toList).natAbs) 67:=hf4.le (Nat.gcd_le_right _ (by omega))
     have hcp:=frac.qcb ((ival n.data.toList).natAbs.gcd (ival d.data.toList).natAbs) 1 67 (by decide) vg (.slice (some ⟨w7.heap.size,0,none⟩) 1 1) (w7.alloc (.cells #[.int .u32 (1:Int)] 106)) (hvg.below (qB.alloc qN _)) (qdq w7 _ (by decide) (by decide)) hgf hk0
     obtain⟨cr,hcr⟩:∃cr,cmp3 (((ival n.data.toList).natAbs.gcd (ival d.data.toList).natAbs:Nat):Int) ((1:Nat):Int)=cr:=⟨_,rfl⟩
     have hcr0:cr=0↔(ival n.data.toList).natAbs.gcd (ival d.data.toList).natAbs=1:=by
      rw [←hcr];unfold cmp3
      constructor
      ·intro h
       split at h
       ·omega
       ·split at h
        ·omega
        ·omega
      ·intro h
       rw [if_neg (by omega),if_pos (by omega)]
     rw [hcr] at hcp
     have HCP:=qH hcp
     have HCR:=qH hcr0
     have HB7:=qH hb7
     obtain⟨ag,bg,og,cg,ng,Mg,rfl,_,_⟩:=hvg
     clear hcp hcr hcr0 hb7 hk0 hgf e30 e40
     go_wp2_with fail
     refine HCP.out.mono ?_
     rintro e w8 ⟨rfl,hb8⟩
     have hb58:Below w5.heap.size w5 w8:=HB7.out.trans (((qB.alloc qN _:Below w7.heap.size w7 (w7.alloc (.cells #[.int .u32 (1:Int)] 106))).trans (hb8.mono (by simp only [qab];omega))).mono HB7.out.size)
     have H8:=qH (qA ((hb58.block _ (qG H6.out.1).1).trans H6.out.1) (H6.out.2.trans (hb58.mono H6.out.2.size)))
     by_cases hg1:(ival n.data.toList).natAbs.gcd (ival d.data.toList).natAbs=1
     ·have hcr:cr=0:=HCR.out.2 hg1
      have HY:Hid (FOk n.data.toList d.data.toList):=qH ⟨H1.out.2,H2.out.2.1,hpos,hg1⟩
      have h3:=(hb58.block _ (qG HG.out.2.2.1).1).trans HG.out.2.2.1
      have h4:=(hb58.block _ (qG HG.out.2.2.2.1).1).trans HG.out.2.2.2.1
      have e30:=cell_of_row w8 _ 0 _ _ _ h3
      have e31:=cell_of_row w8 _ 1 _ _ _ h3
      have e40:=cell_of_row w8 _ 0 _ _ _ h4
      have HM3:=qH (qdb (cs':=#[.slice a3 n3 c3,.bool b3,.slice a4 n4 c4]) (HG.out.1.below hb58) H8.out.1 qhV)
      have HM4:=qH (qdb (cs':=#[.slice a3 n3 c3,.bool b3,.slice a4 n4 c4]) (HG.out.2.1.below hb58) H8.out.1 qhV)
      subst hcr
      clear h3 h4 hb8 hb58 hg1
      go_wp2_with ((with_reducible refine wpList_store_row rfl 138 _ _ rfl (w.heap.size+1) #[.slice a3 n3 c3,.bool b3,.slice a4 n4 c4] ?_ ?_ 138 _ H8.out.1 3 ?_ ?_ ?_ ?_ ?_);(next=>rfl);(next=>rfl);(next=>kernel_rfl);(next=>rfl);(next=>rfl);(next=>rfl))
      exact bodyPost_ret (v:=.tuple #[.agg #[.slice a3 n3 c3,.bool b3,.slice a4 n4 c4],.bool true]) (qbA rfl _ _ (w.heap.size+1) 138 _ _ rfl (setRow_heap _ _ _ _ _ _ H8.out.1) Tryz.underlying138 rfl 3 (by kernel_rfl) rfl _ rfl) rfl ⟨_,_,rfl,qaJ ⟨rfl,HY.out,_,_,by rw [HG.out.2.2.2.2],HM3.out,HM4.out⟩,below_setRow H8.out.2 (by omega) _⟩
     ·have HN:Hid (¬FOk n.data.toList d.data.toList):=qH (fun h=>hg1 h.cop)
      have hcr:((cr:Int) == 0)=false:=by rw [beq_eq_false_iff_ne];exact fun h=>hg1 (HCR.out.1 h)
      have hcr2:¬cr=0:=fun h=>hg1 (HCR.out.1 h)
      clear hb8 hb58 hg1
      go_wp2_with ((with_reducible refine wpList_store_row rfl 138 _ _ rfl (w.heap.size+1) #[.slice none 0 0,.bool false,.slice none 0 0] ?_ ?_ 138 _ H8.out.1 3 ?_ ?_ ?_ ?_ ?_);(next=>rfl);(next=>rfl);(next=>kernel_rfl);(next=>rfl);(next=>rfl);(next=>rfl))
      exact bodyPost_ret (v:=.tuple #[.agg #[.slice none 0 0,.bool false,.slice none 0 0],.bool false]) (qbA rfl _ _ (w.heap.size+1) 138 _ _ rfl (setRow_heap _ _ _ _ _ _ H8.out.1) Tryz.underlying138 rfl 3 (by kernel_rfl) rfl _ rfl) rfl ⟨_,_,rfl,qaA ⟨rfl,HN.out,rfl⟩,below_setRow H8.out.2 (by omega) _⟩
    ·have HN:Hid (¬FOk n.data.toList d.data.toList):=qH (fun h=>hpos h.pos)
     have hc1:cmp3 (ival d.data.toList) 0<1:=by unfold cmp3;split <;> (try split) <;> omega
     generalize cmp3 (ival d.data.toList) 0=cr at *
     go_wp2_with ((with_reducible refine wpList_store_row rfl 138 _ _ rfl (w.heap.size+1) #[.slice none 0 0,.bool false,.slice none 0 0] ?_ ?_ 138 _ H6.out.1 3 ?_ ?_ ?_ ?_ ?_);(next=>rfl);(next=>rfl);(next=>kernel_rfl);(next=>rfl);(next=>rfl);(next=>rfl))
     exact bodyPost_ret (v:=.tuple #[.agg #[.slice none 0 0,.bool false,.slice none 0 0],.bool false]) (qbA rfl _ _ (w.heap.size+1) 138 _ _ rfl (setRow_heap _ _ _ _ _ _ H6.out.1) Tryz.underlying138 rfl 3 (by kernel_rfl) rfl _ rfl) rfl ⟨_,_,rfl,qaA ⟨rfl,HN.out,rfl⟩,below_setRow H6.out.2 (by omega) _⟩
  ·have HX:=qH (qA ((HRow.out w2 hb2').2) (HR.out.1.trans (hb2'.mono HR.out.1.size)))
   have HN:Hid (¬FOk n.data.toList d.data.toList):=qH (fun h=>hv2 h.vd)
   go_wp2_with ((with_reducible refine wpList_store_row rfl 138 _ _ rfl (w.heap.size+1) #[.slice none 0 0,.bool false,.slice none 0 0] ?_ ?_ 138 _ HX.out.1 3 ?_ ?_ ?_ ?_ ?_);(next=>rfl);(next=>rfl);(next=>kernel_rfl);(next=>rfl);(next=>rfl);(next=>rfl))
   exact bodyPost_ret (v:=.tuple #[.agg #[.slice none 0 0,.bool false,.slice none 0 0],.bool false]) (qbA rfl _ _ (w.heap.size+1) 138 _ _ rfl (setRow_heap _ _ _ _ _ _ HX.out.1) Tryz.underlying138 rfl 3 (by kernel_rfl) rfl _ rfl) rfl ⟨_,_,rfl,qaA ⟨rfl,HN.out,rfl⟩,below_setRow HX.out.2 (by omega) _⟩
 ·have HX:=qH (qA ((HRow.out w1 hb1).2) (HR.out.1.trans (hb1.mono HR.out.1.size)))
  have HN:Hid (¬FOk n.data.toList d.data.toList):=qH (fun h=>hv1 h.vn)
  go_wp2_with ((with_reducible refine wpList_store_row rfl 138 _ _ rfl (w.heap.size+1) #[.slice none 0 0,.bool false,.slice none 0 0] ?_ ?_ 138 _ HX.out.1 3 ?_ ?_ ?_ ?_ ?_);(next=>rfl);(next=>rfl);(next=>kernel_rfl);(next=>rfl);(next=>rfl);(next=>rfl))
  exact bodyPost_ret (v:=.tuple #[.agg #[.slice none 0 0,.bool false,.slice none 0 0],.bool false]) (qbA rfl _ _ (w.heap.size+1) 138 _ _ rfl (setRow_heap _ _ _ _ _ _ HX.out.1) Tryz.underlying138 rfl 3 (by kernel_rfl) rfl _ rfl) rfl ⟨_,_,rfl,qaA ⟨rfl,HN.out,rfl⟩,below_setRow HX.out.2 (by omega) _⟩
def RatV (W:World) (v:Value) (q:Rat):Prop:=RatAt W v q.num q.den
theorem RatV.below {W W':World} {v:Value} {q:Rat} (h:RatV W v q) (hb:Below W.heap.size W W'):RatV W' v q:=RatAt.below h hb
theorem qjm {W:World} {v:Value} {z:Int} {d:Nat} (h:RatAt W v z d):∃(a:Option Addr) (n c:Nat) (b:Bool) (d':Option Addr) (e f:Nat),v=.agg #[.slice a n c,.bool b,.slice d' e f]:=by
 obtain⟨m,o,rfl,⟨am,bm,om,cm,n,M,rfl,_,_⟩,⟨ao,bo,oo,co,no,O,rfl,_,_⟩⟩:=h
 exact⟨am,n,cm,_,ao,no,co,rfl⟩
def RFit (q:Rat) (K:Nat):Prop:=Fit q.num.natAbs K∧Fit q.den K
def fval (n d:List UInt8):Rat:=mkRat (ival n) (ival d).natAbs
theorem FOk.val {n d:List UInt8} (h:FOk n d):(fval n d).num=ival n∧(fval n d).den=(ival d).natAbs:=by
 have h0:(ival d).natAbs≠0:=by have:=h.pos;omega
 exact rat_mk h0 h.cop h0 rfl rfl
theorem FOk.fit {n d:List UInt8} (h:FOk n d):RFit (fval n d) 67:=by
 unfold RFit
 rw [h.val.1,h.val.2];exact⟨h.vn.fit,h.vd.fit⟩
theorem FOk.at {n d:List UInt8} (h:FOk n d) {W:World} {v:Value} (hv:RatAt W v (ival n) (ival d).natAbs):RatV W v (fval n d):=by
 unfold RatV;rw [h.val.1,h.val.2];exact hv
theorem qg6 {W:World} {v:Value} {ok:Bool} {n d:List UInt8} (h:ok=true∧FOk n d∧RatAt W v (ival n) (ival d).natAbs∨ok=false∧¬FOk n d∧v=.agg #[.slice none 0 0,.bool false,.slice none 0 0]):∃(a:Option Addr) (x c:Nat) (b:Bool) (d':Option Addr) (e f:Nat),v=.agg #[.slice a x c,.bool b,.slice d' e f]:=by
 rcases h with ⟨_,_,h⟩ | ⟨_,_,h⟩
 ·exact qjm h
 ·exact⟨_,_,_,_,_,_,_,h⟩
theorem qfG (n d:ByteArray) (w:World) :
  Calls Tryz.prog 47 #[.agg #[.string n,.string d]] w fun e w'=>qfV w (FOk n.data.toList d.data.toList) 20 e w':=by
 have HR:=qH (fun W=>qiQ n d W)
 have HA:Hid (∀cs,Below w.heap.size w (w.alloc (.cells cs 46))):=qH fun cs=>qB.alloc qN _
 go_enter Tryz.func47,Tryz.ntmps47
 go_wp2_with fail
 refine (HR.out _).mono ?_
 rintro e w1 ⟨v,ok,rfl,hok,hb⟩
 obtain⟨a,x,c,b,d',e',f',rfl⟩:=qg6 hok
 have hb0:Below w.heap.size w w1:=(HA.out _).trans (hb.mono (HA.out _).size)
 have HB:=qH (qbp (o:=.cells #[.slice a x c,.bool b,.slice d' e' f'] 138) hb0 qN)
 clear hb hb0
 rcases hok with ⟨rfl,hf,_⟩ | ⟨rfl,hf,_⟩
 ·have HF:=qH hf
  clear hf
  go_wp2_with fail
  go_ret
  exact⟨0,rfl,qaJ ⟨rfl,HF.out⟩,HB.out⟩
 ·have HF:=qH hf
  clear hf
  go_wp2_with fail
  go_ret
  exact⟨20,rfl,qaA ⟨rfl,HF.out⟩,HB.out⟩
def Short (q:Rat):Prop:=(num q.num.natAbs).size≤600∧(num q.den).size≤600
def fstr (q:Rat):Value:=.agg #[.string (frac.wtxt q.num),.string (num q.den)]
def qiu (w:World) (q:Rat) (e:Ending) (w':World):Prop:=(Short q∧e=.returned (.tuple #[fstr q,.int .i64 0])∨¬Short q∧e=.returned (.tuple #[.agg #[.string ⟨#[]⟩,.string ⟨#[]⟩],.int .i64 6]))∧Below w.heap.size w w'
def FCmps (w:World) (n d m c:List UInt8) (e:Ending) (w':World):Prop :=
 ((FOk n d∧FOk m c)∧e=.returned (.tuple #[.int .i64 (cmp3 ((fval n d).num*((fval m c).den:Int) + -((fval m c).num*((fval n d).den:Int))) 0),.int .i64 0]) ∨
  ¬(FOk n d∧FOk m c)∧e=.returned (.tuple #[.int .i64 0,.int .i64 20]))∧Below w.heap.size w w'
theorem RFit.add {p q:Rat} {K:Nat} (hp:RFit p K) (hq:RFit q K):RFit (p+q) (K+K+1):=by
 have h1:Fit (p.num*q.den+q.num*p.den).natAbs (K+K+1):=by
  refine (Fit.add (x:=(p.num*q.den).natAbs) (y:=(q.num*p.den).natAbs) (K:=K+K) ?_ ?_).le (Int.natAbs_add_le _ _)
  ·rw [qaQ,qax];exact hp.1.mul hq.2
  ·rw [qaQ,qax];exact hq.1.mul hp.2
 have h2:Fit (p.den*q.den) (K+K+1):=(hp.2.mul hq.2).mono (by omega)
 rw [Rat.add_def']
 have hne:=Nat.mul_ne_zero p.den_nz q.den_nz
 constructor
 ·rw [Rat.num_mkRat,if_neg hne]
  refine h1.le ?_
  rw [Int.natAbs_ediv_of_dvd (Int.ofNat_dvd_left.2 (Nat.gcd_dvd_right _ _))]
  exact qa5 _ _
 ·rw [Rat.den_mkRat,if_neg hne]
  exact h2.le (qa5 _ _)
theorem RFit.mul {p q:Rat} {K:Nat} (hp:RFit p K) (hq:RFit q K):RFit (p*q) (K+K):=by
 have h1:Fit (p.num*q.num).natAbs (K+K):=by rw [qaQ];exact hp.1.mul hq.1
 have h2:Fit (p.den*q.den) (K+K):=hp.2.mul hq.2
 rw [Rat.mul_def']
 have hne:=Nat.mul_ne_zero p.den_nz q.den_nz
 constructor
 ·rw [Rat.num_mkRat,if_neg hne]
  refine h1.le ?_
  rw [Int.natAbs_ediv_of_dvd (Int.ofNat_dvd_left.2 (Nat.gcd_dvd_right _ _))]
  exact qa5 _ _
 ·rw [Rat.den_mkRat,if_neg hne]
  exact h2.le (qa5 _ _)
theorem FCmps.below {w W:World} {n d m c:List UInt8} {e:Ending} {w':World} (hb:Below w.heap.size w W) (h:FCmps W n d m c e w'):FCmps w n d m c e w':=⟨h.1,hb.trans (h.2.mono hb.size)⟩
end Go.Proofs.YtfminfgabiipjaaGreatDoor
