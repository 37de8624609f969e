import Derived.Test.YtjalhnlhcdfncaaGreatDoorBu19
import Derived.WalkMore
set_option maxRecDepth 100000
set_option maxHeartbeats 0
namespace Go.Proofs.YtjalhnlhcdfncaaGreatDoor
section
variable {lt:Nat->Nat->Prop} [DecidableRel lt]
def InsSt (lt:Nat->Nat->Prop) [DecidableRel lt] (l d:List Nat) (i:Nat):Prop:=d=isort lt (l.take i)++l.drop i
def InsIn (lt:Nat->Nat->Prop) [DecidableRel lt] (l d:List Nat) (i j x:Nat):Prop:=∃A B:List Nat,d=A++x :: (B++l.drop (i+1))/\A.length=j/\A++B=isort lt (l.take i)/\(∀b∈B,lt x b)/\l[i]? = some x
theorem InsSt.start:∀l:List Nat,InsSt lt l l 1
 | []=>rfl
 | _ :: _=>rfl
theorem InsSt.done {l d:List Nat} {i:Nat} (h:InsSt lt l d i) (E:l.length<=i):d=isort lt l:=by
 rw [h,qah E,List.drop_eq_nil_of_le E,qbw]
theorem InsSt.inn {l d:List Nat} {i:Nat} (h:InsSt lt l d i) (E:i<l.length):∃x,InsIn lt l d i i x:=by
 refine⟨l[i],isort lt (l.take i),[],?_,by rw [qgA,qao];omega,qbw _,fun b F=>absurd F (by simp),qad E⟩;rw [h,qbj,<-qbB E]
theorem InsIn.cur {l d:List Nat} {i j x:Nat} (h:InsIn lt l d i j x):d[j]? = some x/\j<d.length/\x∈l:=by
 obtain⟨A,B,rfl,rfl,_,_,hx⟩:=h;exact⟨by rw [qau qN,qaM];rfl,by rw [qaf,qbz];omega,List.mem_of_getElem? hx⟩
theorem InsIn.stop {l d:List Nat} {i j x:Nat} (h:InsIn lt l d i j x) (F:∀a∈d.take j,¬lt x a):InsSt lt l d (i+1):=by
 obtain⟨A,B,rfl,rfl,E,hB,hx⟩:=h;rw [qbV] at F;have G:=(List.getElem?_eq_some_iff.1 hx).1;unfold InsSt;rw [qbJ,hx]
 show _=isort lt (l.take i++[x])++_
 rw [qeH,<-E,qhq x A B F hB,qaE];rfl
theorem InsIn.zero {l d:List Nat} {i x:Nat} (h:InsIn lt l d i 0 x):InsSt lt l d (i+1):=h.stop fun a E=>absurd E (by simp)
theorem InsIn.prev {l d:List Nat} {i j x:Nat} (I:∀a b c,lt a b->¬lt c b->lt a c) (J:∀a b,lt a b->¬lt b a) (h:InsIn lt l d i (j+1) x) :
  ∃y,d[j]? = some y/\y∈l/\(lt x y->InsIn lt l ((d.set (j+1) y).set j x) i j x)/\(¬lt x y->InsSt lt l d (i+1)):=by
 have V:=h;obtain⟨A,B,rfl,E,G,hB,hx⟩:=h;have hne:A≠[]:=fun e=>by rw [e] at E;cases E
 obtain⟨F,y,rfl⟩:∃F y,A=F++[y]:=⟨_,_,(List.dropLast_concat_getLast hne).symm⟩;have Y:F.length=j:=by rw [qaf] at E;exact Nat.succ.inj E
 subst Y;refine⟨y,?_,?_,fun H=>?_,fun H=>V.stop fun a U=>?_⟩
 ·rw [qaE,qau qN,qaM];rfl
 ·have:y∈isort lt (l.take i):=by rw [<-G];simp
  exact qbd ((qdn _).mem_iff.1 this)
 ·refine⟨F,y :: B,?_,rfl,by rw [<-G];simp,fun b O=>?_,hx⟩
  ·rw [qaE,qbb _ _ (by omega),qbb _ _ (by omega),show F.length+1-F.length=1 by omega,qaM];rfl
  ·rcases qav.1 O with rfl | O
   ·exact H
   ·exact hB b O
 ·rw [<-E,qbV] at U;have Z:Ord lt (F++[y]):=by
   have:=qgB I J (l.take i);rw [<-G] at this;exact (List.pairwise_append.1 this).1
  exact ord_last I Z H a U
end
theorem qhp {lt E:Nat->Nat->Prop} [DecidableRel lt] [DecidableRel E] (x:Nat):∀{l:List Nat},(∀y∈l,lt x y↔E x y)->insR lt x l=insR E x l
 | [],_=>rfl
 | y :: ys,h=>by
  unfold insR;rw [qhp x (l:=ys) fun z G=>h z (qbh _ G)]
  by_cases e:lt x y
  ·rw [if_pos e,if_pos ((h y (qa8 ..)).1 e)]
  ·rw [if_neg e,if_neg fun F=>e ((h y (qa8 ..)).2 F)]
theorem qgz {lt E:Nat->Nat->Prop} [DecidableRel lt] [DecidableRel E] {l:List Nat} (h:∀a∈l,∀b∈l,lt a b↔E a b):isort lt l=isort E l:=by
 have F:∀i,i<=l.length->isort lt (l.take i)=isort E (l.take i):=by
  intro i
  induction i with
  | zero=>intro _;rfl
  | succ i ih =>
   intro G;rw [qbJ,qad (show i<l.length by omega)]
   show isort lt (l.take i++[l[i]])=isort E (l.take i++[l[i]])
   rw [qeH,qeH,ih (by omega)];refine qhp _ fun y hy=>h _ (qbM _) _ (qbd ((qdn _).mem_iff.1 hy))
 have:=F l.length qN
 rwa [qbf] at this
open Go.RowKit Go.Proofs.Tryz
theorem qcP {a b c:World} {g:Nat} (h:Below a.heap.size a b) (E:b.grownBy c (some g)) (hg:a.heap.size<=g):Below a.heap.size a c :=
 h.trans ⟨E.os,E.tape,E.output,E.size,fun i F=>E.block i (qak F h.size) fun e=>by have:=qag e;omega⟩
def natI (d:List Nat):List Int:=d.map fun k:Nat=>(k:Int)
theorem qcE (d:List Nat):(natI d).length=d.length:=qaD ..
theorem qjU {d:List Nat} {j x:Nat} (h:d[j]? = some x):(natI d).getD j 0=(x:Int):=by
 unfold natI;rw [qaa,qaN,h];rfl
theorem natI_set (d:List Nat) (j x:Nat):(natI d).set j (x:Int)=natI (d.set j x):=by unfold natI;rw [List.map_set]
structure NatR (W:World) (B g n c:Nat) (d:List Nat):Prop where
 len:d.length=n
 own:IOwn W B (.slice (some ⟨g,0,none⟩) n c) (natI d)
theorem NatR.below {W W':World} {B g n c:Nat} {d:List Nat} (h:NatR W B g n c d) (E:Below W.heap.size W W'):NatR W' B g n c d:=⟨h.len,own_below h.own E⟩
instance stays_natr {B g n c:Nat} {d:List Nat}:Stays fun W=>NatR W B g n c d:=⟨fun h E=>h.below E⟩
theorem NatR.at {W:World} {B g n c:Nat} {d:List Nat} (h:NatR W B g n c d) {j x:Nat} (G:d[j]? = some x):W.cell? ⟨g,j,none⟩=some (.int .i64 (x:Int))/\W.frozen? ⟨g,j,none⟩=false:=by
 have E:=(List.getElem?_eq_some_iff.1 G).1;obtain⟨g',e,_,⟨F,H⟩,_⟩:=IOwn.set h.own (i:=j) (by rw [qcE];exact E) 0;obtain rfl:g=g':=by injection e with e;injection e
 rw [qjU G] at F;exact⟨F,H⟩
theorem NatR.set {W:World} {B g n c:Nat} {d:List Nat} (h:NatR W B g n c d) {j:Nat} (F:j<n) (x:Nat):NatR (W.setCell ⟨g,j,none⟩ (.int .i64 (x:Int))) B g n c (d.set j x):=by
 obtain⟨g',e,_,_,E⟩:=IOwn.set h.own (i:=j) (by rw [qcE,h.len];exact F) (x:Int);obtain rfl:g=g':=by injection e with e;injection e
 rw [natI_set] at E;exact⟨by rw [qa7];exact h.len,E⟩
def CmpOk (F:Nat) (E:Array Value) (g:Nat) (l:List Nat) (G:Nat->Nat->Int) (w:World):Prop :=
 ∀W,w.grownBy W (some g)->∀x∈l,∀y∈l,Calls prog F (#[.int .i64 (x:Int),.int .i64 (y:Int)]++E) W fun e H=>e=.returned (.int .i64 (G x y))/\Below W.heap.size W H
theorem qla (lt:Nat->Nat->Prop) [DecidableRel lt] (aF:∀a b c,lt a b->¬lt c b->lt a c) (az:∀a b,lt a b->¬lt b a) (cf:Nat->Nat->Int) (F:Nat) (cb:Array Value) (B g n c:Nat) (l:List Nat) (w:World) (aA:∀x∈l,∀y∈l,cf x y<0↔lt x y) (hn:n<=1000) (J:NatR w B g n c l)
  (V:∀a b W,(callFunc F (#[a,b]++cb)).run prog W=.ok (.enter F (#[a,b]++cb)) W) (hC:CmpOk F cb g l cf w) :
  Calls prog 203 #[.slice (some ⟨g,0,none⟩) n c,.int .i64 0,.int .i64 (n:Int),.func (.func F) #[] cb] w fun e w'=>e=.returned (.tuple #[])/\w.grownBy w' (some g)/\NatR w' B g n c (isort lt l):=by
 have HC:=qH (qA hC (qA aA (qA aF az)));have H0:Hu (∃d,InsSt lt l d 1/\NatR w B g n c d/\w.grownBy w (some g)):=qH ⟨l,InsSt.start l,J,qcs _ _⟩;have HL:=qH J.len;clear hC aA aF az J;go_enter func203,ntmps203;go_wp2_with fail
 go_loopw [8] (fun x8 W=>∃i:Nat,x8=.int .i64 (i:Int)/\1<=i/\i<=n+1/\Hu (∃d,InsSt lt l d i/\NatR W B g n c d/\w.grownBy W (some g))) (fun x8 _=>n+1-(intOf x8).toNat)
 case atStart=>exact⟨1,rfl,qae _,by omega,H0⟩
 case round =>
  obtain⟨i,rfl,aH,aI,hS⟩:=hrel
  by_cases hi:i<n
  case neg =>
   have aG:¬(i:Int)<(n:Int):=by omega
   have HE:Hu (w.grownBy wr (some g)/\NatR wr B g n c (isort lt l)):=qH (by
    obtain⟨d,h1,h2,h3⟩:=hS.o;rw [<-h1.done (by rw [HL.o];omega)];exact⟨h3,h2⟩)
   go_wp2_with fail
   go_end0
   exact⟨rfl,HE.o⟩
  have aG:(i:Int)<(n:Int):=by omega
  have HI:Hu (∃d x,InsIn lt l d i i x/\NatR wr B g n c d/\w.grownBy wr (some g)):=qH (by
   obtain⟨d,h1,h2,h3⟩:=hS.o;obtain⟨x,hx⟩:=h1.inn (by rw [HL.o];exact hi);exact⟨d,x,hx,h2,h3⟩)
  clear hS;go_wp2_with fail
  go_loopw [9] (fun x9 W=>∃j:Nat,x9=.int .i64 (j:Int)/\j<=i/\Hu (∃d x,InsIn lt l d i j x/\NatR W B g n c d/\w.grownBy W (some g))) (fun x9 _=>(intOf x9).toNat)
  case atStart=>exact⟨i,rfl,qae _,HI⟩
  case round =>
   obtain⟨j,rfl,hj,hI⟩:=hrel;obtain⟨d,x,hd,J,hG⟩:=hI.o;rcases j with _ | E
   ·have HE:=qH (qA hd.zero (qA (J.below qB.drew) (qbX hG (keepB qB.drew))));clear hI hd J hG;go_wp2_with fail;refine wp_region_held_drew (S:=fun _=>True) (by kernel_rfl) trivial (fun hS0=>?_);refine hT 0 (h:=hT 1 (h:=hT 2 (h:=hT 3 (h:=hU 4 (h:=hU 5 (h:=hU 6 (h:=hU 7 (h:=hU 8 (h:=hU 9 (h:=hU 10 (h:=hU 11 (h:=hU 12 (h:=hU 13 (h:=hU 14 (h:=hU 15 (h:=hT 16 (h:=?_)))))))))))))))));refine wpAnyH_done (by kernel_rfl) ?_ _;go_wp2;go_roundw
    case rel=>exact⟨i+1,by go_num,by omega,by omega,qH ⟨d,HE.o⟩⟩
    case measure=>simp [intOf] <;> omega
   ·obtain⟨y,hy,ai,aD,Y⟩:=hd.prev HC.o.2.2.1 HC.o.2.2.2;obtain⟨hx,aC,ah⟩:=hd.cur;rw [J.len] at aC;obtain⟨cx,fx⟩:=J.at hx;obtain⟨cy,fy⟩:=J.at hy;have aB:=qac wr _ cx;have bx:∀W,Below wr.heap.size wr W->W.cell? ⟨g,E+1,none⟩=some (.int .i64 (x:Int)):=fun W I=>(I.cell (p:=⟨g,E+1,none⟩) aB).trans cx
    have bY:∀W,Below wr.heap.size wr W->W.cell? ⟨g,E,none⟩=some (.int .i64 (y:Int)):=fun W I=>(I.cell (p:=⟨g,E,none⟩) aB).trans cy
    have HK:=qH (HC.o.1 wr.drew (qbX hG (keepB qB.drew)) x ah y ai);have H:=qH (qA aD (qA Y (qA J (qA hG (qA aC (qA (HC.o.2.1 x ah y ai) (qA hx hy)))))));have aJ:IntKind.i64.wrap (E:Int)=(E:Int):=by rw [IntKind.wrap_i64];omega
    have jz:(E:Int)+1<(n:Int):=by omega
    have aK:(E:Int)<(n:Int):=by omega
    have p0:(0:Int)<=(E:Int)+1:=by omega
    have e0:((E:Int)+1).toNat=E+1:=by omega
    have Z:(0:Int)<(E:Int)+1:=by omega
    clear hI hd J hG cx fx cy fy aD Y hy hx ai ah;go_wp2_with fail;refine wp_region_held_drew (S:=fun W=>Below wr.heap.size wr W) (by kernel_rfl) qB.drew (fun hS0=>?_);refine hT 0 (h:=hT 1 (h:=hT 2 (h:=hT 3 (h:=hT 4 (h:=hT 5 (h:=hT 6 (h:=hT 7 (h:=hT 8 (h:=hT 9 (h:=hT 10 (h:=hT 11 (h:=hT 12 (h:=hT 13 (h:=?_))))))))))))));refine hC 14 HK.o (h:=?_);rintro e w2 ⟨rfl,ag⟩;have G:=qcg ag;refine⟨_,rfl,G,hN (h:=?_)⟩;have HR:=qH (qA (H.o.2.2.1.below G) (qbX H.o.2.2.2.1 (keepB G)))
    by_cases U:cf x y<0
    ·refine hT 15 (hS:=G) (h:=hT 16 (hS:=G) (h:=?_));refine wpAnyH_done (by kernel_rfl) ?_ _;have aa:Hu (InsIn lt l ((d.set (E+1) y).set E x) i E x):=qH (H.o.1 (H.o.2.2.2.2.2.1.1 U));clear G ag hS0 bx bY U HK Z;go_wp2_with fail;refine wp_region_held_drew (S:=fun _=>True) (by kernel_rfl) trivial (fun hS0=>?_);refine hT 0 (h:=hT 1 (h:=hT 2 (h:=hT 3 (h:=hT 4 (h:=hT 5 (h:=hT 6 (h:=hT 7 (h:=hT 8 (h:=hT 10 (h:=hT 11 (h:=hT 12 (h:=?_))))))))))));refine Go.Proofs.YtjalhnlhcdfncaaGreatDoor.gr [(9,46),(13,50),(14,51)] [] [0,1,2,3,4,5,6,7,8,10,11,12] [9,13,14] [] 15 18 (fl2 [(9,fun z _=>z=.int .i64 (y:Int)),(13,fun z _=>z=.int .i64 (x:Int)),(14,fun z _=>z=.pointer (some ⟨g,E+1,none⟩))]) _ 3
      (hS:=fun _ _=>trivial) (hstep:=⟨⟨_,rfl,fun v w3 I V K hK=>?_⟩,⟨_,rfl,fun v w3 I V K hK=>?_⟩,⟨_,rfl,fun v w3 I V K hK=>?_⟩,trivial⟩) (hend:=fun v w3 I V _ fu=>?_)
     ·have h0:=((HR.o.1.below (qcg I)).at H.o.2.2.2.2.2.2.2).1;exact gV hK rfl
     ·have h0:=((HR.o.1.below (qcg I)).at H.o.2.2.2.2.2.2.1).1;exact gV hK rfl
     ·exact gV hK rfl
     have e9:v 9=_:=V 9 (by decide) (by decide);have aj:v 13=_:=V 13 (by decide) (by decide);have ak:v 14=_:=V 14 (by decide) (by decide);rw [e9,aj,ak];have af:=HR.o.1.below (qcg I);have au:=qbX HR.o.2 (keepB (qcg I));obtain⟨h0,h1⟩:=af.at H.o.2.2.2.2.2.2.1;have O:=af.set H.o.2.2.2.2.1 y;have ae:=qbX au (qb0 w3 g (E+1) (.int .i64 (y:Int)));refine hSg 15 (h:=⟨trivial,?_⟩);obtain⟨W5,ay⟩:=qY (w3.setCell ⟨g,E+1,none⟩ (.int .i64 (y:Int)));rw [<-ay] at O ae ⊢;have hne:(d.set (E+1) y)[E]? = some y:=by rw [qbL (by omega)];exact H.o.2.2.2.2.2.2.2
     obtain⟨h2,h3⟩:=O.at hne;have ax:=O.set (j:=E) (by have:=H.o.2.2.2.2.1;omega) x;have av:=qbX ae (qb0 W5 g E (.int .i64 (x:Int)));have HE:=qH (qA ax av);clear ay h0 h1 af au O ae ax av hne e9 aj ak I V;refine hT 16 (hS:=trivial) (h:=?_);refine hSg 17 (h:=⟨trivial,?_⟩);refine wpAnyH_done (by kernel_rfl) ?_ _;clear h2 h3 hS0;go_wp2;go_roundw
     case rel=>exact⟨E,by go_num,by omega,qH ⟨_,x,aa.o,HE.o.1,HE.o.2⟩⟩
     case measure=>simp [intOf] <;> omega
    ·refine hT 15 (hS:=G) (h:=hT 16 (hS:=G) (h:=?_));refine wpAnyH_done (by kernel_rfl) ?_ _;have aa:Hu (InsSt lt l d (i+1)):=qH (H.o.2.1 fun h=>U (H.o.2.2.2.2.2.1.2 h));clear G ag hS0 bx bY U HK Z;go_wp2;go_roundw
     case rel=>exact⟨i+1,by go_num,by omega,by omega,qH ⟨d,aa.o,HR.o.1,HR.o.2⟩⟩
     case measure=>simp [intOf] <;> omega
theorem qlI (lt:Nat->Nat->Prop) [DecidableRel lt] (J:∀a b c,lt a b->¬lt c b->lt a c) (H:∀a b,lt a b->¬lt b a) (O:Nat->Nat->Int) (F:Nat) (E:Array Value) (B g n c:Nat) (l:List Nat) (w:World) (I:∀x∈l,∀y∈l,O x y<0↔lt x y) (hn:n<20) (hO:NatR w B g n c l)
  (Z:∀a b W,(callFunc F (#[a,b]++E)).run prog W=.ok (.enter F (#[a,b]++E)) W) (hC:CmpOk F E g l O w) :
  Calls prog 136 #[.slice (some ⟨g,0,none⟩) n c,.int .i64 (n:Int),.func (.func F) #[] E] w fun e w'=>e=.returned (.tuple #[])/\w.grownBy w' (some g)/\NatR w' B g n c (isort lt l):=by
 have U:=qH (qla lt J H O F E B g n c l w I (by omega) hO Z hC);have ae:¬(20:Int)<=(n:Int):=by omega
 have aa:¬(20:Int)<(n:Int):=by omega
 clear I hO Z hC J H;go_enter func136,ntmps136;go_wp2_with fail
 go_loopw [7,8] (fun x7 x8 W=>x7=.int .i64 0/\x8=.int .i64 20/\Hu (W=w)) (fun _ _ _=>0)
 case atStart=>exact⟨rfl,rfl,qH rfl⟩
 case round =>
  obtain⟨rfl,rfl,G⟩:=hrel;have e:=G.o;subst e;go_wp2_with fail;refine U.o.mono ?_;rintro e w2 ⟨rfl,V,Y⟩;have HE:=qH (qA V Y);clear V Y U G;go_wp2_with fail
  go_loopw [6] (fun x6 W=>x6=.int .i64 20/\Hu (W=w2)) (fun _ _=>0)
  case atStart=>exact⟨rfl,qH rfl⟩
  case round =>
   obtain⟨rfl,G⟩:=hrel;have e:=G.o;subst e;clear G;go_wp2_with fail
   go_end0
   exact⟨rfl,HE.o⟩
theorem qj1 (lt:Nat->Nat->Prop) [DecidableRel lt] (I:∀a b c,lt a b->¬lt c b->lt a c) (G:∀a b,lt a b->¬lt b a) (J:Nat->Nat->Int) (F:Nat) (E:Array Value) (B g n c:Nat) (l:List Nat) (w:World) (H:∀x∈l,∀y∈l,J x y<0↔lt x y) (hn:n<20) (Z:NatR w B g n c l)
  (Y:∀a b W,(callFunc F (#[a,b]++E)).run prog W=.ok (.enter F (#[a,b]++E)) W) (hC:CmpOk F E g l J w) :
  Calls prog 81 #[.slice (some ⟨g,0,none⟩) n c,.func (.func F) #[] E] w fun e w'=>e=.returned (.tuple #[])/\w.grownBy w' (some g)/\NatR w' B g n c (isort lt l):=by
 have O:=qH (qlI lt I G J F E B g n c l w H hn Z Y hC);clear H Z Y hC I G;go_enter func81,ntmps81;go_wp2_with fail;refine O.o.mono ?_;rintro e w2 ⟨rfl,U,V⟩;have HE:=qH (qA U V);clear U V O;go_wp2_with fail
 go_end0
 exact⟨rfl,HE.o⟩
theorem qhH (lt:Nat->Nat->Prop) [DecidableRel lt] (av:∀a b c,lt a b->¬lt c b->lt a c) (ai:∀a b,lt a b->¬lt b a) (cf:Nat->Nat->Int) (F:Nat) (cb:Array Value) (ao:Option Addr) (b ax n c:Nat) (l:List Nat) (w:World) (aj:∀x∈l,∀y∈l,cf x y<0↔lt x y) (hn:n<20) (hl:l.length=n) (hN:NCells w ao b ax (natI l))
  (hF:∀a b W,(callFunc F (#[a,b]++cb)).run prog W=.ok (.enter F (#[a,b]++cb)) W)
  (hC:∀W,Below w.heap.size w W->∀x∈l,∀y∈l,Calls prog F (#[.int .i64 (x:Int),.int .i64 (y:Int)]++cb) W fun e w'=>e=.returned (.int .i64 (cf x y))/\Below W.heap.size W w') :
  Calls prog 38 #[.slice ao n c,.func (.func F) #[] cb] w fun e w'=>∃g,e=.returned (.slice (some ⟨g,0,none⟩) n n)/\NatR w' w.heap.size g n n (isort lt l)/\Below w.heap.size w w':=by
 have az:=fun W=>qhY n (by omega) W
 obtain⟨W1,ag,N1⟩:=nw1 w (madeCells #[.int .i64 0] n) 3;obtain⟨Z,hZ⟩:=qY ((madeCells #[.int .i64 0] n).toList);obtain⟨C,G⟩:=qY ((natI l).map fun z=>Value.int .i64 z);have ah:Z.length=n:=by
  rw [hZ,toList_madeCells_one,qaS]
 have V:C.length=n:=by rw [G,qaD,qcE,hl]
 have ak:W1.heap[w.heap.size]? = some (.cells Z.toArray 3 (0,0)):=by rw [hZ,Array.toArray_toList];exact N1.o.2
 have O:0<C.length->some (⟨w.heap.size,0,none⟩:Addr)=some ⟨w.heap.size,0,none⟩/\∃ad,ao=some ad/\∀j v,C[j]? = some v->W1.cell? (ad.add j)=some v:=fun h0=>by
  have ha:=hN.addr (by rw [qcE];omega);refine⟨rfl,⟨b,ax,none⟩,ha,fun j v hj=>?_⟩;rw [G,qaN] at hj;have aa:j<(natI l).length:=by
   rcases qaB j (natI l).length with h | h
   ·exact h
   ·rw [qaO h] at hj;cases hj
  rw [qad aa] at hj;have hc:=(hN.below N1.o.1).cell j aa;rw [Addr.add_mid,hc,qaa,qad aa];exact hj
 have J:∀v∈C,v.oneCell'=true:=fun v hv=>by rw [G] at hv;exact qkp _ v hv
 have I:C.length=Nat.min n n:=by rw [V];exact (Nat.min_self n).symm
 have H:0+C.length<=Z.length:=by omega
 have U:=qH (qA O (qA J (qA I (qA H (qA ak N1.o.1)))));have HS:=qH (fun (W:World) (hb:Below w.heap.size w W) (hO:NatR W w.heap.size w.heap.size n n l)=>qj1 lt av ai cf F cb w.heap.size w.heap.size n n l W aj hn hO hF (fun W' hk=>hC W' (qcP hb hk qN)));have E:=qH (qA G (qA ah (qA V hl)));clear aj av ai hN hF hC O J I H ak N1 G ah V hl hZ;go_enter func38,ntmps38;go_upto_region 2 with fail;rw [<-ag];clear ag az
 go_wp2_with (first | (refine wpList_copy_splice rfl (.tmp 9) (.tmp 10) 30 30 rfl 3 underlying30 (by kernel_rfl) (some ⟨w.heap.size,0,none⟩) ao n n n c rfl rfl w.heap.size 0 Z 3 U.o.2.2.2.2.1 C U.o.2.2.1 U.o.1 U.o.2.2.2.1 U.o.2.1 w.heap.size w U.o.2.2.2.2.2 qN ?_) | fail)
 intro w3 au Y;have af:NatR w3 w.heap.size w.heap.size n n l:=⟨E.o.2.2.2,by
  have h:=Hu.o au;have e:splice Z 0 C=C:=by
   unfold splice;rw [List.take_zero,qbj,qaR,List.drop_eq_nil_of_le (by rw [E.o.2.1,E.o.2.2.1];exact qae _),qbw]
  rw [e] at h;have:=qe8 (B:=w.heap.size) (n:=n) h qN (by show C.length=n;exact E.o.2.2.1) (by unfold maxLen;omega);unfold IOwn;rw [qcE,E.o.2.2.2];have e2:C.toArray.toList=(natI l).map fun z=>Value.int .i64 z:=E.o.1
  rw [e2] at this;exact this⟩
 have ae:=qH (HS.o w3 Y af);have ay:=qH Y;clear af au Y HS U;go_wp2_with fail;refine ae.o.mono ?_;rintro e w4 ⟨rfl,h1,h2⟩;have HE:=qH (qA h2 (qcP ay.o h1 qN));clear h1 h2 ae;go_wp2;go_ret;exact⟨_,rfl,HE.o.1,HE.o.2⟩
theorem ql5 (kind:Int) (k n:Nat) (E:qdi kind k) (F:1<=n) (G:n<=4) (w:World):Calls prog 208 #[.int .i64 kind,.int .i64 (n:Int)] w fun e H=>e=.returned (.int .i64 (many k n:Nat))/\w=H:=by
 rcases qhr E with ⟨rfl,rfl⟩ | ⟨rfl,rfl⟩ | ⟨rfl,rfl⟩
 all_goals
  rcases (show n=1\/n=2\/n=3\/n=4 by omega) with rfl | rfl | rfl | rfl
  all_goals
   clear F G E;go_enter func208,ntmps208;go_wp2;go_ret;exact⟨rfl,rfl⟩
def qeo (m:Md):Prop:=∃k n,MdOk m k n
theorem MdAt.parts {W:World} {v:Value} {m:Md} (h:MdAt W v m):∃(a:Nat->Option Addr) (b o c:Nat->Nat),v=.agg #[.int .i64 m.kind,.int .i64 m.inn,.slice (a 0) (m.row 0).length (c 0),.slice (a 1) (m.row 1).length (c 1),.slice (a 2) (m.row 2).length (c 2)]/\∀q,q<3->FCells W (a q) (b q) (o q) (m.row q):=by
 obtain⟨a0,a1,a2,b0,o0,c0,b1,o1,c1,b2,o2,c2,rfl,E,F,G⟩:=h;refine⟨fun q=>if q=0 then a0 else if q=1 then a1 else a2,fun q=>if q=0 then b0 else if q=1 then b1 else b2,fun q=>if q=0 then o0 else if q=1 then o1 else o2,fun q=>if q=0 then c0 else if q=1 then c1 else c2,rfl,fun q H=>?_⟩;rcases (show q=0\/q=1\/q=2 by omega) with rfl | rfl | rfl
 ·exact E
 ·exact F
 ·exact G
theorem qlk (m:Md) (v:Value) (w:World) (hM:MdAt w v m) (hl:∀q,q<3->(m.row q).length<=4611686018427387904):Calls prog 142 #[v] w fun e w'=>qfb w (qeo m) 320 e w':=by
 obtain⟨a,b,o,c,rfl,hF⟩:=hM.parts;obtain⟨kind,G⟩:∃z,m.kind=z:=⟨_,rfl⟩;obtain⟨inn,U⟩:∃z,m.inn=z:=⟨_,rfl⟩;rw [G,U];obtain⟨L,hL⟩:∃L:Nat->Nat,∀q,(m.row q).length=L q:=⟨_,fun _=>rfl⟩;rw [hL,hL,hL];obtain⟨W1,av,J⟩:=nw1 w #[.int .i64 kind,.int .i64 inn,.slice (a 0) (L 0) (c 0),.slice (a 1) (L 1) (c 1),.slice (a 2) (L 2) (c 2)] 46;have c0:=qC _ _ 0 _ _ _ J.o.2;have c1:=qC _ _ 1 _ _ _ J.o.2;have c2:=qC _ _ 2 _ _ _ J.o.2;have c3:=qC _ _ 3 _ _ _ J.o.2;have c4:=qC _ _ 4 _ _ _ J.o.2;have I:=qH (qA G (qA U (qA hl (fun q hq=>(hF q hq).below J.o.1))));have aD:=qH hL;have E:=qH J.o.1;clear hM hF hl G U hL;go_enter func142,ntmps142;go_upto_region 1 with fail;rw [<-av];clear av
 go_step3
 go_wp2_with fail;refine (qiD kind W1).mono ?_;rintro e w2 ⟨rfl,hw⟩;subst hw
 by_cases V:1<=kind/\kind<=3
 case neg =>
  rw [qU V];have HN:=qH V;clear V;go_wp2;go_ret;exact⟨320,rfl,qam ⟨rfl,fun⟨k,n,h⟩=>HN.o (by have:=h.kind.1;have:=h.kind.2;have:=I.o.1;omega)⟩,E.o⟩
 obtain⟨k,aA⟩:∃k,qdi kind k:=⟨kind.toNat,by omega,by omega,by omega⟩;rw [qV V];have Hk:=qH aA;clear aA V
 by_cases ah:1<=inn/\inn<=4
 case neg =>
  have HN:=qH ah
  by_cases h1:inn<1
  ·clear ah;go_wp2;go_ret;exact⟨320,rfl,qam ⟨rfl,fun⟨k,n,h⟩=>HN.o (by have:=h.inn;have:=I.o.2.1;omega)⟩,E.o⟩
  ·have h2:4<inn:=by omega
   clear ah;go_wp2;go_ret;exact⟨320,rfl,qam ⟨rfl,fun⟨k,n,h⟩=>HN.o (by have:=h.inn;have:=I.o.2.1;omega)⟩,E.o⟩
 obtain⟨n,hn⟩:∃n:Nat,inn=n:=⟨inn.toNat,by omega⟩;subst hn;have aO:¬(n:Int)<1:=by omega
 have aQ:¬4<(n:Int):=by omega
 by_cases ae:kind=3/\n=4
 ·obtain⟨h3,h4⟩:=ae;subst h3 h4;go_wp2;go_ret;exact⟨320,rfl,qam ⟨rfl,fun⟨k',n',h⟩=>h.both ⟨by have:=h.kind.1;have:=I.o.1;omega,by have:=h.inn;have:=I.o.2.1;omega⟩⟩,E.o⟩
 have aF:=qH ae;go_upto_region 3 with fail
 go_cut [29] (fun x29 W=>x29=.bool false/\Hu (W=W1))
 case first =>
  by_cases h3:kind=3
  ·have aP:¬(3:Int)<n:=fun h=>ae ⟨h3,by omega⟩
   subst h3;go_wp2;go_meet;exact⟨rfl,qH rfl⟩
  ·go_wp2;go_meet;exact⟨rfl,qH rfl⟩
 case rest =>
  obtain⟨rfl,ag⟩:=hcut;have ag:=ag.o.symm;subst ag;clear ae;go_wp2_with fail
  go_step3
  go_wp2_with fail
  go_loopw [3,32] (fun x3 x32 W=>x3=.bool true/\∃j:Nat,x32=.int .i64 j/\j<=3/\Hu ((∀q,q<j->(m.row q).length=many k n/\FAll (m.row q))/\Below W1.heap.size W1 W)) (fun _ x32 _=>3-(intOf x32).toNat)
  case atStart=>exact⟨rfl,0,rfl,qaj _,qH ⟨fun q hq=>absurd hq (Nat.not_lt_zero _),Below.refl _ _⟩⟩
  case round =>
   obtain⟨rfl,j,rfl,hj,hI⟩:=hrel
   by_cases ai:j<3
   ·have aM:(j:Int)<3:=by omega
    obtain⟨row,F⟩:∃r,m.row j=r:=⟨_,rfl⟩;obtain⟨aj,O⟩:∃r,a j=r:=⟨_,rfl⟩;obtain⟨bj,ay⟩:∃r,b j=r:=⟨_,rfl⟩;obtain⟨oj,aB⟩:∃r,o j=r:=⟨_,rfl⟩;obtain⟨cj,af⟩:∃r,c j=r:=⟨_,rfl⟩;obtain⟨H,Y⟩:∃r,L j=r:=⟨_,rfl⟩;have hF:=I.o.2.2.2 j ai;rw [F,O,ay,aB] at hF;have ak:row.length=H:=by rw [<-F,aD.o,Y]
    have aN:H<=4611686018427387904:=by rw [<-ak,<-F];exact I.o.2.2.1 j ai
    have HR:=qH (qA F ak);have HF:=qH hF;have HI:=qH hI.o;obtain⟨wo,aJ⟩:=qY wr;have hB:=hI.o.2;have d0:=(rowC (B:=W1.heap.size) J.o.2 0 (hg:=by have:=(qG J.o.2).1;exact this)) _ hB;have d1:=(rowC (B:=W1.heap.size) J.o.2 1 (hg:=by have:=(qG J.o.2).1;exact this)) _ hB;have az:(j=0/\a 0=aj/\L 0=H/\c 0=cj)\/(j=1/\a 1=aj/\L 1=H/\c 1=cj)\/(j=2/\a 2=aj/\L 2=H/\c 2=cj):=by
     rcases (show j=0\/j=1\/j=2 by omega) with rfl | rfl | rfl
     ·exact qax ⟨rfl,O,Y,af⟩
     ·exact qam (qax ⟨rfl,O,Y,af⟩)
     ·exact qam (qam ⟨rfl,O,Y,af⟩)
    have HJ:=qH ai;have aR:∀W,(Instr.index 44 (.agg #[.slice (a 0) (L 0) (c 0),.slice (a 1) (L 1) (c 1),.slice (a 2) (L 2) (c 2)]) (.int .i64 (j:Int))).run prog W=.ok (.slice aj H cj) W:=fun W=>by
     rcases az with ⟨rfl,h1,h2,h3⟩ | ⟨rfl,h1,h2,h3⟩ | ⟨rfl,h1,h2,h3⟩
     all_goals
      rw [<-h1,<-h2,<-h3]
      kernel_rfl
    clear hI hF F ak O ay aB af Y hB az;subst aJ;go_wp2_with fail;refine (ql5 kind k n Hk.o (by omega) (by omega) _).mono ?_;rintro e w5 ⟨rfl,hw⟩;subst hw
    by_cases Z:H=many k n
    case neg =>
     have hne:((H:Int) != ((many k n:Nat):Int))=true:=by rw [bne_iff_ne];omega
     have aG:=qH Z;clear Z;go_wp2;go_ret;exact⟨320,rfl,qam ⟨rfl,fun⟨k',n',h⟩=>aG.o (by
      have h1:=(h.rows j HJ.o).1;have h2:=h.kind.1;have h3:=h.inn.1;have h4:=I.o.1;have h5:=I.o.2.1;have h6:=Hk.o.1;obtain rfl:k'=k:=by omega
      obtain rfl:n'=n:=by omega
      rw [<-h1,HR.o.1,HR.o.2])⟩,E.o.trans (HI.o.2.mono E.o.size)⟩
    have hne:((H:Int) != ((many k n:Nat):Int))=false:=by simp [Z]
    have aC:=qH Z;clear Z;go_wp2_with fail
    go_loopw [3,45] (fun x3 x45 W=>x3=.bool true/\∃i:Nat,x45=.int .i64 i/\i<=H/\Hu ((∀q,q<i->FOk (row.getD q fd0).1.data.toList (row.getD q fd0).2.data.toList)/\Below wo.heap.size wo W)) (fun _ x45 _=>H-(intOf x45).toNat)
    case atStart=>exact⟨rfl,0,rfl,qaj _,qH ⟨fun q hq=>absurd hq (Nat.not_lt_zero _),Below.refl _ _⟩⟩
    case round =>
     obtain⟨rfl,i,rfl,aL,hJ⟩:=hrel
     by_cases hi:i<H
     ·have aK:(i:Int)<H:=by omega
      have aH:=HF.o.addr (by have:=HR.o.2;omega);subst aH;obtain⟨e0,e1⟩:=(HF.o.below (HI.o.2.trans (hJ.o.2.mono HI.o.2.size))).cell i (by have:=HR.o.2;omega);obtain⟨N,hN⟩:=qX ((row.getD i fd0).1);obtain⟨D,hD⟩:=qX ((row.getD i fd0).2);rw [hN] at e0;rw [hD] at e1;have aa:=qH (qA hN hD);clear hN hD;go_wp2_with fail;refine (qeF N D _).mono ?_;rintro e w5 ⟨cc,rfl,aI,ax⟩;have au:=qH (hJ.o.2.trans ((qB.alloc qN _ |>.trans (ax.mono (by simp only [qab];omega))).mono hJ.o.2.size));clear ax;rcases aI with ⟨rfl,hf⟩ | ⟨rfl,hf⟩
      ·have Hf:=qH hf;clear hf;go_wp2;go_roundw
       case rel =>
        refine⟨rfl,i+1,by go_num,hi,qH ⟨fun q hq=>?_,au.o⟩⟩;rcases qaB q i with h | h
        ·exact hJ.o.1 q h
        ·obtain rfl:q=i:=by omega
         rw [aa.o.1,aa.o.2];exact Hf.o
       case measure=>simp [intOf];omega
      ·have Hf:=qH hf;clear hf;go_wp2;go_ret;exact⟨320,rfl,qam ⟨rfl,fun⟨k',n',h⟩=>Hf.o (by
        have h1:=(h.rows j HJ.o).2 i (by rw [HR.o.1,HR.o.2];exact hi);rw [HR.o.1,aa.o.1,aa.o.2] at h1;exact h1)⟩,E.o.trans ((HI.o.2.trans (au.o.mono HI.o.2.size)).mono E.o.size)⟩
     ·obtain rfl:i=H:=by omega
      go_wp2;go_roundw
      case rel =>
       refine⟨rfl,j+1,by go_num,HJ.o,qH ⟨fun q hq=>?_,HI.o.2.trans (hJ.o.2.mono HI.o.2.size)⟩⟩;rcases qaB q j with h | h
       ·exact HI.o.1 q h
       ·obtain rfl:q=j:=by omega
        rw [HR.o.1];exact⟨HR.o.2.trans aC.o,fun x hx=>hJ.o.1 x (by rw [HR.o.2] at hx;exact hx)⟩
      case measure=>simp [intOf];omega
   ·obtain rfl:j=3:=by omega
    go_wp2;go_ret;exact⟨0,rfl,qax ⟨rfl,k,n,⟨by rw [I.o.1];exact Hk.o,⟨I.o.2.1,by omega,by omega⟩,fun h=>aF.o ⟨by have:=Hk.o.1;omega,h.2⟩,fun q hq=>hI.o.1 q hq⟩⟩,E.o.trans (hI.o.2.mono E.o.size)⟩
