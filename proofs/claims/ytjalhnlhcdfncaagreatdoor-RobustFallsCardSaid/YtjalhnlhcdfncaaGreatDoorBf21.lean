import Derived.Test.YtjalhnlhcdfncaaGreatDoorBf20
import Derived.WalkMore
set_option maxRecDepth 100000
set_option maxHeartbeats 0
namespace Go.Proofs.YtjalhnlhcdfncaaGreatDoor
section
variable {lt:Nat->Nat->Prop} [DecidableRel lt]
def InsSt (lt:Nat->Nat->Prop) [DecidableRel lt] (l d:List Nat) (i:Nat):Prop:=d=isort lt (l.take i)++l.drop i
def InsIn (lt:Nat->Nat->Prop) [DecidableRel lt] (l d:List Nat) (i j x:Nat):Prop:=∃A B:List Nat,d=A++x :: (B++l.drop (i+1))/\A.length=j/\A++B=isort lt (l.take i)/\(∀b∈B,lt x b)/\l[i]? = some x
theorem InsSt.start:∀l:List Nat,InsSt lt l l 1
 | []=>rfl
 | _ :: _=>rfl
theorem InsSt.done {l d:List Nat} {i:Nat} (h:InsSt lt l d i) (F:l.length<=i):d=isort lt l:=by
 rw [h,qal F,List.drop_eq_nil_of_le F,qbB]
theorem InsSt.inn {l d:List Nat} {i:Nat} (h:InsSt lt l d i) (F:i<l.length):∃x,InsIn lt l d i i x:=by
 refine⟨l[i],isort lt (l.take i),[],?_,by rw [qf5,qas];omega,qbB _,fun b G=>absurd G (by simp),qad F⟩;rw [h,qbk,<-List.drop_eq_getElem_cons F]
theorem InsIn.cur {l d:List Nat} {i j x:Nat} (h:InsIn lt l d i j x):d[j]? = some x/\j<d.length/\x∈l:=by
 obtain⟨A,B,rfl,rfl,_,_,F⟩:=h;exact⟨by rw [qar qN,qaK];rfl,by rw [qae,qbJ];omega,List.mem_of_getElem? F⟩
theorem InsIn.stop {l d:List Nat} {i j x:Nat} (h:InsIn lt l d i j x) (G:∀a∈d.take j,¬lt x a):InsSt lt l d (i+1):=by
 obtain⟨A,B,rfl,rfl,F,I,H⟩:=h;rw [qbL] at G;have J:=(List.getElem?_eq_some_iff.1 H).1;unfold InsSt;rw [List.take_add_one,H]
 show _=isort lt (l.take i++[x])++_
 rw [qep,<-F,qgV x A B G I,qaB];rfl
theorem InsIn.zero {l d:List Nat} {i x:Nat} (h:InsIn lt l d i 0 x):InsSt lt l d (i+1):=h.stop fun a F=>absurd F (by simp)
theorem InsIn.prev {l d:List Nat} {i j x:Nat} (J:∀a b c,lt a b->¬lt c b->lt a c) (O:∀a b,lt a b->¬lt b a) (h:InsIn lt l d i (j+1) x) :
  ∃y,d[j]? = some y/\y∈l/\(lt x y->InsIn lt l ((d.set (j+1) y).set j x) i j x)/\(¬lt x y->InsSt lt l d (i+1)):=by
 have Y:=h;obtain⟨A,B,rfl,F,H,Z,hx⟩:=h;have hne:A≠[]:=fun e=>by rw [e] at F;cases F
 obtain⟨G,y,rfl⟩:∃G y,A=G++[y]:=⟨_,_,(List.dropLast_concat_getLast hne).symm⟩;have hl:G.length=j:=by rw [qae] at F;exact Nat.succ.inj F
 subst hl;refine⟨y,?_,?_,fun I=>?_,fun I=>Y.stop fun a V=>?_⟩
 ·rw [qaB,qar qN,qaK];rfl
 ·have:y∈isort lt (l.take i):=by rw [<-H];simp
  exact qbg ((qdm _).mem_iff.1 this)
 ·refine⟨G,y :: B,?_,rfl,by rw [<-H];simp,fun b U=>?_,hx⟩
  ·rw [qaB,qa6 _ _ (by omega),qa6 _ _ (by omega),show G.length+1-G.length=1 by omega,qaK];rfl
  ·rcases qaz.1 U with rfl | U
   ·exact I
   ·exact Z b U
 ·rw [<-F,qbL] at V;have ho:Ord lt (G++[y]):=by
   have:=qh9 J O (l.take i);rw [<-H] at this;exact (List.pairwise_append.1 this).1
  exact ord_last J ho I a V
end
theorem qgU {lt F:Nat->Nat->Prop} [DecidableRel lt] [DecidableRel F] (x:Nat):∀{l:List Nat},(∀y∈l,lt x y↔F x y)->insR lt x l=insR F x l
 | [],_=>rfl
 | y :: ys,h=>by
  unfold insR;rw [qgU x (l:=ys) fun z H=>h z (qbn _ H)]
  by_cases e:lt x y
  ·rw [if_pos e,if_pos ((h y (qa7 ..)).1 e)]
  ·rw [if_neg e,if_neg fun G=>e ((h y (qa7 ..)).2 G)]
theorem qf4 {lt F:Nat->Nat->Prop} [DecidableRel lt] [DecidableRel F] {l:List Nat} (h:∀a∈l,∀b∈l,lt a b↔F a b):isort lt l=isort F l:=by
 have G:∀i,i<=l.length->isort lt (l.take i)=isort F (l.take i):=by
  intro i
  induction i with
  | zero=>intro _;rfl
  | succ i ih =>
   intro I;rw [List.take_add_one,qad (show i<l.length by omega)]
   show isort lt (l.take i++[l[i]])=isort F (l.take i++[l[i]])
   rw [qep,qep,ih (by omega)];refine qgU _ fun y H=>h _ (qbx _) _ (qbg ((qdm _).mem_iff.1 H))
 have:=G l.length qN
 rwa [qbd] at this
open Go.RowKit Go.Proofs.Tryz
theorem qdz {a b c:World} {g:Nat} (h:Below a.heap.size a b) (F:b.grownBy c (some g)) (hg:a.heap.size<=g):Below a.heap.size a c :=
 h.trans ⟨F.os,F.tape,F.output,F.size,fun i G=>F.block i (qai G h.size) fun e=>by have:=qag e;omega⟩
def natI (d:List Nat):List Int:=d.map fun k:Nat=>(k:Int)
theorem qcw (d:List Nat):(natI d).length=d.length:=qay ..
theorem qeh {d:List Nat} {j x:Nat} (h:d[j]? = some x):(natI d).getD j 0=(x:Int):=by
 unfold natI;rw [qab,qaL,h];rfl
theorem natI_set (d:List Nat) (j x:Nat):(natI d).set j (x:Int)=natI (d.set j x):=by unfold natI;rw [List.map_set]
structure NatR (W:World) (B g n c:Nat) (d:List Nat):Prop where
 len:d.length=n
 own:IOwn W B (.slice (some ⟨g,0,none⟩) n c) (natI d)
theorem NatR.below {W W':World} {B g n c:Nat} {d:List Nat} (h:NatR W B g n c d) (F:Below W.heap.size W W'):NatR W' B g n c d:=⟨h.len,own_below h.own F⟩
instance stays_natr {B g n c:Nat} {d:List Nat}:Stays fun W=>NatR W B g n c d:=⟨fun h F=>h.below F⟩
theorem NatR.at {W:World} {B g n c:Nat} {d:List Nat} (h:NatR W B g n c d) {j x:Nat} (H:d[j]? = some x):W.cell? ⟨g,j,none⟩=some (.int .i64 (x:Int))/\W.frozen? ⟨g,j,none⟩=false:=by
 have F:=(List.getElem?_eq_some_iff.1 H).1;obtain⟨g',e,_,⟨G,I⟩,_⟩:=IOwn.set h.own (i:=j) (by rw [qcw];exact F) 0;obtain rfl:g=g':=by injection e with e;injection e
 rw [qeh H] at G;exact⟨G,I⟩
theorem NatR.set {W:World} {B g n c:Nat} {d:List Nat} (h:NatR W B g n c d) {j:Nat} (G:j<n) (x:Nat):NatR (W.setCell ⟨g,j,none⟩ (.int .i64 (x:Int))) B g n c (d.set j x):=by
 obtain⟨g',e,_,_,F⟩:=IOwn.set h.own (i:=j) (by rw [qcw,h.len];exact G) (x:Int);obtain rfl:g=g':=by injection e with e;injection e
 rw [natI_set] at F;exact⟨by rw [qbb];exact h.len,F⟩
def CmpOk (F:Nat) (G:Array Value) (g:Nat) (l:List Nat) (H:Nat->Nat->Int) (w:World):Prop :=
 ∀W,w.grownBy W (some g)->∀x∈l,∀y∈l,Calls prog F (#[.int .i64 (x:Int),.int .i64 (y:Int)]++G) W fun e w'=>e=.returned (.int .i64 (H x y))/\Below W.heap.size W w'
theorem qkB (lt:Nat->Nat->Prop) [DecidableRel lt] (aG:∀a b c,lt a b->¬lt c b->lt a c) (aA:∀a b,lt a b->¬lt b a) (cf:Nat->Nat->Int) (F:Nat) (cb:Array Value) (B g n c:Nat) (l:List Nat) (w:World) (aB:∀x∈l,∀y∈l,cf x y<0↔lt x y) (hn:n<=1000) (O:NatR w B g n c l)
  (Y:∀a b W,(callFunc F (#[a,b]++cb)).run prog W=.ok (.enter F (#[a,b]++cb)) W) (hC:CmpOk F cb g l cf w) :
  Calls prog 203 #[.slice (some ⟨g,0,none⟩) n c,.int .i64 0,.int .i64 (n:Int),.func (.func F) #[] cb] w fun e w'=>e=.returned (.tuple #[])/\w.grownBy w' (some g)/\NatR w' B g n c (isort lt l):=by
 have HC:=qH (qA hC (qA aB (qA aG aA)));have H0:Hu (∃d,InsSt lt l d 1/\NatR w B g n c d/\w.grownBy w (some g)):=qH ⟨l,InsSt.start l,O,qcA _ _⟩;have HL:=qH O.len;clear hC aB aG aA O;go_enter func203,ntmps203;go_wp2_with fail
 go_loopw [8] (fun x8 W=>∃i:Nat,x8=.int .i64 (i:Int)/\1<=i/\i<=n+1/\Hu (∃d,InsSt lt l d i/\NatR W B g n c d/\w.grownBy W (some g))) (fun x8 _=>n+1-(intOf x8).toNat)
 case atStart=>exact⟨1,rfl,qaf _,by omega,H0⟩
 case round =>
  obtain⟨i,rfl,aI,aJ,hS⟩:=hrel
  by_cases hi:i<n
  case neg =>
   have aH:¬(i:Int)<(n:Int):=by omega
   have HE:Hu (w.grownBy wr (some g)/\NatR wr B g n c (isort lt l)):=qH (by
    obtain⟨d,h1,h2,h3⟩:=hS.o;rw [<-h1.done (by rw [HL.o];omega)];exact⟨h3,h2⟩)
   go_wp2_with fail
   go_end0
   exact⟨rfl,HE.o⟩
  have aH:(i:Int)<(n:Int):=by omega
  have HI:Hu (∃d x,InsIn lt l d i i x/\NatR wr B g n c d/\w.grownBy wr (some g)):=qH (by
   obtain⟨d,h1,h2,h3⟩:=hS.o;obtain⟨x,hx⟩:=h1.inn (by rw [HL.o];exact hi);exact⟨d,x,hx,h2,h3⟩)
  clear hS;go_wp2_with fail
  go_loopw [9] (fun x9 W=>∃j:Nat,x9=.int .i64 (j:Int)/\j<=i/\Hu (∃d x,InsIn lt l d i j x/\NatR W B g n c d/\w.grownBy W (some g))) (fun x9 _=>(intOf x9).toNat)
  case atStart=>exact⟨i,rfl,qaf _,HI⟩
  case round =>
   obtain⟨j,rfl,hj,hI⟩:=hrel;obtain⟨d,x,hd,O,hG⟩:=hI.o;rcases j with _ | G
   ·have HE:=qH (qA hd.zero (qA (O.below qB.drew) (qbR hG (keepB qB.drew))));clear hI hd O hG;go_wp2_with fail;refine wp_region_held_drew (S:=fun _=>True) (by kernel_rfl) trivial (fun hS0=>?_);refine hT 0 (h:=hT 1 (h:=hT 2 (h:=hT 3 (h:=hU 4 (h:=hU 5 (h:=hU 6 (h:=hU 7 (h:=hU 8 (h:=hU 9 (h:=hU 10 (h:=hU 11 (h:=hU 12 (h:=hU 13 (h:=hU 14 (h:=hU 15 (h:=hT 16 (h:=?_)))))))))))))))));refine wpAnyH_done (by kernel_rfl) ?_ _;go_wp2;go_roundw
    case rel=>exact⟨i+1,by go_num,by omega,by omega,qH ⟨d,HE.o⟩⟩
    case measure=>simp [intOf] <;> omega
   ·obtain⟨y,hy,aj,aF,Z⟩:=hd.prev HC.o.2.2.1 HC.o.2.2.2;obtain⟨hx,aD,ai⟩:=hd.cur;rw [O.len] at aD;obtain⟨cx,fx⟩:=O.at hx;obtain⟨cy,fy⟩:=O.at hy;have aC:=qac wr _ cx;have bx:∀W,Below wr.heap.size wr W->W.cell? ⟨g,G+1,none⟩=some (.int .i64 (x:Int)):=fun W J=>(J.cell (p:=⟨g,G+1,none⟩) aC).trans cx
    have bY:∀W,Below wr.heap.size wr W->W.cell? ⟨g,G,none⟩=some (.int .i64 (y:Int)):=fun W J=>(J.cell (p:=⟨g,G,none⟩) aC).trans cy
    have HK:=qH (HC.o.1 wr.drew (qbR hG (keepB qB.drew)) x ai y aj);have I:=qH (qA aF (qA Z (qA O (qA hG (qA aD (qA (HC.o.2.1 x ai y aj) (qA hx hy)))))));have aK:IntKind.i64.wrap (G:Int)=(G:Int):=by rw [IntKind.wrap_i64];omega
    have jz:(G:Int)+1<(n:Int):=by omega
    have aL:(G:Int)<(n:Int):=by omega
    have p0:(0:Int)<=(G:Int)+1:=by omega
    have e0:((G:Int)+1).toNat=G+1:=by omega
    have aa:(0:Int)<(G:Int)+1:=by omega
    clear hI hd O hG cx fx cy fy aF Z hy hx aj ai;go_wp2_with fail;refine wp_region_held_drew (S:=fun W=>Below wr.heap.size wr W) (by kernel_rfl) qB.drew (fun hS0=>?_);refine hT 0 (h:=hT 1 (h:=hT 2 (h:=hT 3 (h:=hT 4 (h:=hT 5 (h:=hT 6 (h:=hT 7 (h:=hT 8 (h:=hT 9 (h:=hT 10 (h:=hT 11 (h:=hT 12 (h:=hT 13 (h:=?_))))))))))))));refine hC 14 HK.o (h:=?_);rintro e w2 ⟨rfl,ah⟩;have H:=qch ah;refine⟨_,rfl,H,hN (h:=?_)⟩;have HR:=qH (qA (I.o.2.2.1.below H) (qbR I.o.2.2.2.1 (keepB H)))
    by_cases V:cf x y<0
    ·refine hT 15 (hS:=H) (h:=hT 16 (hS:=H) (h:=?_));refine wpAnyH_done (by kernel_rfl) ?_ _;have ae:Hu (InsIn lt l ((d.set (G+1) y).set G x) i G x):=qH (I.o.1 (I.o.2.2.2.2.2.1.1 V));clear H ah hS0 bx bY V HK aa;go_wp2_with fail;refine wp_region_held_drew (S:=fun _=>True) (by kernel_rfl) trivial (fun hS0=>?_);refine hT 0 (h:=hT 1 (h:=hT 2 (h:=hT 3 (h:=hT 4 (h:=hT 5 (h:=hT 6 (h:=hT 7 (h:=hT 8 (h:=hT 10 (h:=hT 11 (h:=hT 12 (h:=?_))))))))))));refine Go.Proofs.YtjalhnlhcdfncaaGreatDoor.gr [(9,46),(13,50),(14,51)] [] [0,1,2,3,4,5,6,7,8,10,11,12] [9,13,14] [] 15 18 (fl2 [(9,fun z _=>z=.int .i64 (y:Int)),(13,fun z _=>z=.int .i64 (x:Int)),(14,fun z _=>z=.pointer (some ⟨g,G+1,none⟩))]) _ 3
      (hS:=fun _ _=>trivial) (hstep:=⟨⟨_,rfl,fun v w3 J Y K hK=>?_⟩,⟨_,rfl,fun v w3 J Y K hK=>?_⟩,⟨_,rfl,fun v w3 J Y K hK=>?_⟩,trivial⟩) (hend:=fun v w3 J Y _ fu=>?_)
     ·have h0:=((HR.o.1.below (qch J)).at I.o.2.2.2.2.2.2.2).1;exact gV hK rfl
     ·have h0:=((HR.o.1.below (qch J)).at I.o.2.2.2.2.2.2.1).1;exact gV hK rfl
     ·exact gV hK rfl
     have e9:v 9=_:=Y 9 (by decide) (by decide);have ak:v 13=_:=Y 13 (by decide) (by decide);have au:v 14=_:=Y 14 (by decide) (by decide);rw [e9,ak,au];have ag:=HR.o.1.below (qch J);have av:=qbR HR.o.2 (keepB (qch J));obtain⟨h0,h1⟩:=ag.at I.o.2.2.2.2.2.2.1;have U:=ag.set I.o.2.2.2.2.1 y;have af:=qbR av (qbP w3 g (G+1) (.int .i64 (y:Int)));refine hSg 15 (h:=⟨trivial,?_⟩);obtain⟨W5,az⟩:=qY (w3.setCell ⟨g,G+1,none⟩ (.int .i64 (y:Int)));rw [<-az] at U af ⊢;have hne:(d.set (G+1) y)[G]? = some y:=by rw [List.getElem?_set_ne (by omega)];exact I.o.2.2.2.2.2.2.2
     obtain⟨h2,h3⟩:=U.at hne;have ay:=U.set (j:=G) (by have:=I.o.2.2.2.2.1;omega) x;have ax:=qbR af (qbP W5 g G (.int .i64 (x:Int)));have HE:=qH (qA ay ax);clear az h0 h1 ag av U af ay ax hne e9 ak au J Y;refine hT 16 (hS:=trivial) (h:=?_);refine hSg 17 (h:=⟨trivial,?_⟩);refine wpAnyH_done (by kernel_rfl) ?_ _;clear h2 h3 hS0;go_wp2;go_roundw
     case rel=>exact⟨G,by go_num,by omega,qH ⟨_,x,ae.o,HE.o.1,HE.o.2⟩⟩
     case measure=>simp [intOf] <;> omega
    ·refine hT 15 (hS:=H) (h:=hT 16 (hS:=H) (h:=?_));refine wpAnyH_done (by kernel_rfl) ?_ _;have ae:Hu (InsSt lt l d (i+1)):=qH (I.o.2.1 fun h=>V (I.o.2.2.2.2.2.1.2 h));clear H ah hS0 bx bY V HK aa;go_wp2;go_roundw
     case rel=>exact⟨i+1,by go_num,by omega,by omega,qH ⟨d,ae.o,HR.o.1,HR.o.2⟩⟩
     case measure=>simp [intOf] <;> omega
theorem qkY (lt:Nat->Nat->Prop) [DecidableRel lt] (O:∀a b c,lt a b->¬lt c b->lt a c) (I:∀a b,lt a b->¬lt b a) (U:Nat->Nat->Int) (F:Nat) (G:Array Value) (B g n c:Nat) (l:List Nat) (w:World) (J:∀x∈l,∀y∈l,U x y<0↔lt x y) (hn:n<20) (hO:NatR w B g n c l)
  (hF:∀a b W,(callFunc F (#[a,b]++G)).run prog W=.ok (.enter F (#[a,b]++G)) W) (hC:CmpOk F G g l U w) :
  Calls prog 136 #[.slice (some ⟨g,0,none⟩) n c,.int .i64 (n:Int),.func (.func F) #[] G] w fun e w'=>e=.returned (.tuple #[])/\w.grownBy w' (some g)/\NatR w' B g n c (isort lt l):=by
 have V:=qH (qkB lt O I U F G B g n c l w J (by omega) hO hF hC);have ae:¬(20:Int)<=(n:Int):=by omega
 have aa:¬(20:Int)<(n:Int):=by omega
 clear J hO hF hC O I;go_enter func136,ntmps136;go_wp2_with fail
 go_loopw [7,8] (fun x7 x8 W=>x7=.int .i64 0/\x8=.int .i64 20/\Hu (W=w)) (fun _ _ _=>0)
 case atStart=>exact⟨rfl,rfl,qH rfl⟩
 case round =>
  obtain⟨rfl,rfl,H⟩:=hrel;have e:=H.o;subst e;go_wp2_with fail;refine V.o.mono ?_;rintro e w2 ⟨rfl,Y,Z⟩;have HE:=qH (qA Y Z);clear Y Z V H;go_wp2_with fail
  go_loopw [6] (fun x6 W=>x6=.int .i64 20/\Hu (W=w2)) (fun _ _=>0)
  case atStart=>exact⟨rfl,qH rfl⟩
  case round =>
   obtain⟨rfl,H⟩:=hrel;have e:=H.o;subst e;clear H;go_wp2_with fail
   go_end0
   exact⟨rfl,HE.o⟩
theorem qjp (lt:Nat->Nat->Prop) [DecidableRel lt] (J:∀a b c,lt a b->¬lt c b->lt a c) (H:∀a b,lt a b->¬lt b a) (O:Nat->Nat->Int) (F:Nat) (G:Array Value) (B g n c:Nat) (l:List Nat) (w:World) (I:∀x∈l,∀y∈l,O x y<0↔lt x y) (hn:n<20) (hO:NatR w B g n c l)
  (Z:∀a b W,(callFunc F (#[a,b]++G)).run prog W=.ok (.enter F (#[a,b]++G)) W) (hC:CmpOk F G g l O w) :
  Calls prog 81 #[.slice (some ⟨g,0,none⟩) n c,.func (.func F) #[] G] w fun e w'=>e=.returned (.tuple #[])/\w.grownBy w' (some g)/\NatR w' B g n c (isort lt l):=by
 have U:=qH (qkY lt J H O F G B g n c l w I hn hO Z hC);clear I hO Z hC J H;go_enter func81,ntmps81;go_wp2_with fail;refine U.o.mono ?_;rintro e w2 ⟨rfl,V,Y⟩;have HE:=qH (qA V Y);clear V Y U;go_wp2_with fail
 go_end0
 exact⟨rfl,HE.o⟩
theorem qhg (lt:Nat->Nat->Prop) [DecidableRel lt] (ax:∀a b c,lt a b->¬lt c b->lt a c) (aj:∀a b,lt a b->¬lt b a) (cf:Nat->Nat->Int) (F:Nat) (cb:Array Value) (ao:Option Addr) (b ay n c:Nat) (l:List Nat) (w:World) (ak:∀x∈l,∀y∈l,cf x y<0↔lt x y) (hn:n<20) (hl:l.length=n) (hN:NCells w ao b ay (natI l))
  (hF:∀a b W,(callFunc F (#[a,b]++cb)).run prog W=.ok (.enter F (#[a,b]++cb)) W)
  (hC:∀W,Below w.heap.size w W->∀x∈l,∀y∈l,Calls prog F (#[.int .i64 (x:Int),.int .i64 (y:Int)]++cb) W fun e w'=>e=.returned (.int .i64 (cf x y))/\Below W.heap.size W w') :
  Calls prog 38 #[.slice ao n c,.func (.func F) #[] cb] w fun e w'=>∃g,e=.returned (.slice (some ⟨g,0,none⟩) n n)/\NatR w' w.heap.size g n n (isort lt l)/\Below w.heap.size w w':=by
 have aA:=fun W=>qhC n (by omega) W
 obtain⟨W1,ah,N1⟩:=nw1 w (madeCells #[.int .i64 0] n) 3;obtain⟨Z,hZ⟩:=qY ((madeCells #[.int .i64 0] n).toList);obtain⟨C,H⟩:=qY ((natI l).map fun z=>Value.int .i64 z);have ai:Z.length=n:=by
  rw [hZ,toList_madeCells_one,qa5]
 have Y:C.length=n:=by rw [H,qay,qcw,hl]
 have au:W1.heap[w.heap.size]? = some (.cells Z.toArray 3 (0,0)):=by rw [hZ,Array.toArray_toList];exact N1.o.2
 have U:0<C.length->some (⟨w.heap.size,0,none⟩:Addr)=some ⟨w.heap.size,0,none⟩/\∃ad,ao=some ad/\∀j v,C[j]? = some v->W1.cell? (ad.add j)=some v:=fun h0=>by
  have ha:=hN.addr (by rw [qcw];omega);refine⟨rfl,⟨b,ay,none⟩,ha,fun j v hj=>?_⟩;rw [H,qaL] at hj;have ae:j<(natI l).length:=by
   rcases qaT j (natI l).length with h | h
   ·exact h
   ·rw [qaX h] at hj;cases hj
  rw [qad ae] at hj;have hc:=(hN.below N1.o.1).cell j ae;rw [Addr.add_mid,hc,qab,qad ae];exact hj
 have O:∀v∈C,v.oneCell'=true:=fun v hv=>by rw [H] at hv;exact qjN _ v hv
 have J:C.length=Nat.min n n:=by rw [Y];exact (Nat.min_self n).symm
 have I:0+C.length<=Z.length:=by omega
 have V:=qH (qA U (qA O (qA J (qA I (qA au N1.o.1)))));have HS:=qH (fun (W:World) (hb:Below w.heap.size w W) (hO:NatR W w.heap.size w.heap.size n n l)=>qjp lt ax aj cf F cb w.heap.size w.heap.size n n l W ak hn hO hF (fun W' hk=>hC W' (qdz hb hk qN)));have G:=qH (qA H (qA ai (qA Y hl)));clear ak ax aj hN hF hC U O J I au N1 H ai Y hl hZ;go_enter func38,ntmps38;go_upto_region 2 with fail;rw [<-ah];clear ah aA
 go_wp2_with (first | (refine wpList_copy_splice rfl (.tmp 9) (.tmp 10) 30 30 rfl 3 underlying30 (by kernel_rfl) (some ⟨w.heap.size,0,none⟩) ao n n n c rfl rfl w.heap.size 0 Z 3 V.o.2.2.2.2.1 C V.o.2.2.1 V.o.1 V.o.2.2.2.1 V.o.2.1 w.heap.size w V.o.2.2.2.2.2 qN ?_) | fail)
 intro w3 av aa;have ag:NatR w3 w.heap.size w.heap.size n n l:=⟨G.o.2.2.2,by
  have h:=Hu.o av;have e:splice Z 0 C=C:=by
   unfold splice;rw [List.take_zero,qbk,qaM,List.drop_eq_nil_of_le (by rw [G.o.2.1,G.o.2.2.1];exact qaf _),qbB]
  rw [e] at h;have:=qfr (B:=w.heap.size) (n:=n) h qN (by show C.length=n;exact G.o.2.2.1) (by unfold maxLen;omega);unfold IOwn;rw [qcw,G.o.2.2.2];have e2:C.toArray.toList=(natI l).map fun z=>Value.int .i64 z:=G.o.1
  rw [e2] at this;exact this⟩
 have af:=qH (HS.o w3 aa ag);have az:=qH aa;clear ag av aa HS V;go_wp2_with fail;refine af.o.mono ?_;rintro e w4 ⟨rfl,h1,h2⟩;have HE:=qH (qA h2 (qdz az.o h1 qN));clear h1 h2 af;go_wp2;go_ret;exact⟨_,rfl,HE.o.1,HE.o.2⟩
theorem qli (kind:Int) (k n:Nat) (F:qcN kind k) (G:1<=n) (H:n<=4) (w:World):Calls prog 208 #[.int .i64 kind,.int .i64 (n:Int)] w fun e w'=>e=.returned (.int .i64 (many k n:Nat))/\w=w':=by
 rcases qgY F with ⟨rfl,rfl⟩ | ⟨rfl,rfl⟩ | ⟨rfl,rfl⟩
 all_goals
  rcases (show n=1\/n=2\/n=3\/n=4 by omega) with rfl | rfl | rfl | rfl
  all_goals
   clear G H F;go_enter func208,ntmps208;go_wp2;go_ret;exact⟨rfl,rfl⟩
def qd7 (m:Md):Prop:=∃k n,MdOk m k n
theorem MdAt.parts {W:World} {v:Value} {m:Md} (h:MdAt W v m):∃(a:Nat->Option Addr) (b o c:Nat->Nat),v=.agg #[.int .i64 m.kind,.int .i64 m.inn,.slice (a 0) (m.row 0).length (c 0),.slice (a 1) (m.row 1).length (c 1),.slice (a 2) (m.row 2).length (c 2)]/\∀q,q<3->FCells W (a q) (b q) (o q) (m.row q):=by
 obtain⟨a0,a1,a2,b0,o0,c0,b1,o1,c1,b2,o2,c2,rfl,F,G,H⟩:=h;refine⟨fun q=>if q=0 then a0 else if q=1 then a1 else a2,fun q=>if q=0 then b0 else if q=1 then b1 else b2,fun q=>if q=0 then o0 else if q=1 then o1 else o2,fun q=>if q=0 then c0 else if q=1 then c1 else c2,rfl,fun q I=>?_⟩;rcases (show q=0\/q=1\/q=2 by omega) with rfl | rfl | rfl
 ·exact F
 ·exact G
 ·exact H
theorem qkJ (m:Md) (v:Value) (w:World) (hM:MdAt w v m) (hl:∀q,q<3->(m.row q).length<=4611686018427387904):Calls prog 142 #[v] w fun e w'=>qeQ w (qd7 m) 320 e w':=by
 obtain⟨a,b,o,c,rfl,hF⟩:=hM.parts;obtain⟨kind,H⟩:∃z,m.kind=z:=⟨_,rfl⟩;obtain⟨inn,V⟩:∃z,m.inn=z:=⟨_,rfl⟩;rw [H,V];obtain⟨L,hL⟩:∃L:Nat->Nat,∀q,(m.row q).length=L q:=⟨_,fun _=>rfl⟩;rw [hL,hL,hL];obtain⟨W1,ax,O⟩:=nw1 w #[.int .i64 kind,.int .i64 inn,.slice (a 0) (L 0) (c 0),.slice (a 1) (L 1) (c 1),.slice (a 2) (L 2) (c 2)] 46;have c0:=qC _ _ 0 _ _ _ O.o.2;have c1:=qC _ _ 1 _ _ _ O.o.2;have c2:=qC _ _ 2 _ _ _ O.o.2;have c3:=qC _ _ 3 _ _ _ O.o.2;have c4:=qC _ _ 4 _ _ _ O.o.2;have J:=qH (qA H (qA V (qA hl (fun q hq=>(hF q hq).below O.o.1))));have aF:=qH hL;have F:=qH O.o.1;clear hM hF hl H V hL;go_enter func142,ntmps142;go_upto_region 1 with fail;rw [<-ax];clear ax
 go_step3
 go_wp2_with fail;refine (qia kind W1).mono ?_;rintro e w2 ⟨rfl,hw⟩;subst hw
 by_cases Y:1<=kind/\kind<=3
 case neg =>
  rw [qU Y];have HN:=qH Y;clear Y;go_wp2;go_ret;exact⟨320,rfl,qak ⟨rfl,fun⟨k,n,h⟩=>HN.o (by have:=h.kind.1;have:=h.kind.2;have:=J.o.1;omega)⟩,F.o⟩
 obtain⟨k,aB⟩:∃k,qcN kind k:=⟨kind.toNat,by omega,by omega,by omega⟩;rw [qV Y];have Hk:=qH aB;clear aB Y
 by_cases ai:1<=inn/\inn<=4
 case neg =>
  have HN:=qH ai
  by_cases h1:inn<1
  ·clear ai;go_wp2;go_ret;exact⟨320,rfl,qak ⟨rfl,fun⟨k,n,h⟩=>HN.o (by have:=h.inn;have:=J.o.2.1;omega)⟩,F.o⟩
  ·have h2:4<inn:=by omega
   clear ai;go_wp2;go_ret;exact⟨320,rfl,qak ⟨rfl,fun⟨k,n,h⟩=>HN.o (by have:=h.inn;have:=J.o.2.1;omega)⟩,F.o⟩
 obtain⟨n,hn⟩:∃n:Nat,inn=n:=⟨inn.toNat,by omega⟩;subst hn;have aP:¬(n:Int)<1:=by omega
 have aR:¬4<(n:Int):=by omega
 by_cases af:kind=3/\n=4
 ·obtain⟨h3,h4⟩:=af;subst h3 h4;go_wp2;go_ret;exact⟨320,rfl,qak ⟨rfl,fun⟨k',n',h⟩=>h.both ⟨by have:=h.kind.1;have:=J.o.1;omega,by have:=h.inn;have:=J.o.2.1;omega⟩⟩,F.o⟩
 have aG:=qH af;go_upto_region 3 with fail
 go_cut [29] (fun x29 W=>x29=.bool false/\Hu (W=W1))
 case first =>
  by_cases h3:kind=3
  ·have aQ:¬(3:Int)<n:=fun h=>af ⟨h3,by omega⟩
   subst h3;go_wp2;go_meet;exact⟨rfl,qH rfl⟩
  ·go_wp2;go_meet;exact⟨rfl,qH rfl⟩
 case rest =>
  obtain⟨rfl,ah⟩:=hcut;have ah:=ah.o.symm;subst ah;clear af;go_wp2_with fail
  go_step3
  go_wp2_with fail
  go_loopw [3,32] (fun x3 x32 W=>x3=.bool true/\∃j:Nat,x32=.int .i64 j/\j<=3/\Hu ((∀q,q<j->(m.row q).length=many k n/\FAll (m.row q))/\Below W1.heap.size W1 W)) (fun _ x32 _=>3-(intOf x32).toNat)
  case atStart=>exact⟨rfl,0,rfl,qam _,qH ⟨fun q hq=>absurd hq (Nat.not_lt_zero _),Below.refl _ _⟩⟩
  case round =>
   obtain⟨rfl,j,rfl,hj,hI⟩:=hrel
   by_cases ak:j<3
   ·have aN:(j:Int)<3:=by omega
    obtain⟨row,G⟩:∃r,m.row j=r:=⟨_,rfl⟩;obtain⟨aj,U⟩:∃r,a j=r:=⟨_,rfl⟩;obtain⟨bj,az⟩:∃r,b j=r:=⟨_,rfl⟩;obtain⟨oj,aC⟩:∃r,o j=r:=⟨_,rfl⟩;obtain⟨cj,ag⟩:∃r,c j=r:=⟨_,rfl⟩;obtain⟨I,Z⟩:∃r,L j=r:=⟨_,rfl⟩;have hF:=J.o.2.2.2 j ak;rw [G,U,az,aC] at hF;have au:row.length=I:=by rw [<-G,aF.o,Z]
    have aO:I<=4611686018427387904:=by rw [<-au,<-G];exact J.o.2.2.1 j ak
    have HR:=qH (qA G au);have HF:=qH hF;have HI:=qH hI.o;obtain⟨wo,aK⟩:=qY wr;have hB:=hI.o.2;have d0:=(rowC (B:=W1.heap.size) O.o.2 0 (hg:=by have:=(qG O.o.2).1;exact this)) _ hB;have d1:=(rowC (B:=W1.heap.size) O.o.2 1 (hg:=by have:=(qG O.o.2).1;exact this)) _ hB;have aA:(j=0/\a 0=aj/\L 0=I/\c 0=cj)\/(j=1/\a 1=aj/\L 1=I/\c 1=cj)\/(j=2/\a 2=aj/\L 2=I/\c 2=cj):=by
     rcases (show j=0\/j=1\/j=2 by omega) with rfl | rfl | rfl
     ·exact qaw ⟨rfl,U,Z,ag⟩
     ·exact qak (qaw ⟨rfl,U,Z,ag⟩)
     ·exact qak (qak ⟨rfl,U,Z,ag⟩)
    have HJ:=qH ak;have aS:∀W,(Instr.index 44 (.agg #[.slice (a 0) (L 0) (c 0),.slice (a 1) (L 1) (c 1),.slice (a 2) (L 2) (c 2)]) (.int .i64 (j:Int))).run prog W=.ok (.slice aj I cj) W:=fun W=>by
     rcases aA with ⟨rfl,h1,h2,h3⟩ | ⟨rfl,h1,h2,h3⟩ | ⟨rfl,h1,h2,h3⟩
     all_goals
      rw [<-h1,<-h2,<-h3]
      kernel_rfl
    clear hI hF G au U az aC ag Z hB aA;subst aK;go_wp2_with fail;refine (qli kind k n Hk.o (by omega) (by omega) _).mono ?_;rintro e w5 ⟨rfl,hw⟩;subst hw
    by_cases aa:I=many k n
    case neg =>
     have hne:((I:Int) != ((many k n:Nat):Int))=true:=by rw [bne_iff_ne];omega
     have aH:=qH aa;clear aa;go_wp2;go_ret;exact⟨320,rfl,qak ⟨rfl,fun⟨k',n',h⟩=>aH.o (by
      have h1:=(h.rows j HJ.o).1;have h2:=h.kind.1;have h3:=h.inn.1;have h4:=J.o.1;have h5:=J.o.2.1;have h6:=Hk.o.1;obtain rfl:k'=k:=by omega
      obtain rfl:n'=n:=by omega
      rw [<-h1,HR.o.1,HR.o.2])⟩,F.o.trans (HI.o.2.mono F.o.size)⟩
    have hne:((I:Int) != ((many k n:Nat):Int))=false:=by simp [aa]
    have aD:=qH aa;clear aa;go_wp2_with fail
    go_loopw [3,45] (fun x3 x45 W=>x3=.bool true/\∃i:Nat,x45=.int .i64 i/\i<=I/\Hu ((∀q,q<i->FOk (row.getD q fd0).1.data.toList (row.getD q fd0).2.data.toList)/\Below wo.heap.size wo W)) (fun _ x45 _=>I-(intOf x45).toNat)
    case atStart=>exact⟨rfl,0,rfl,qam _,qH ⟨fun q hq=>absurd hq (Nat.not_lt_zero _),Below.refl _ _⟩⟩
    case round =>
     obtain⟨rfl,i,rfl,aM,hJ⟩:=hrel
     by_cases hi:i<I
     ·have aL:(i:Int)<I:=by omega
      have aI:=HF.o.addr (by have:=HR.o.2;omega);subst aI;obtain⟨e0,e1⟩:=(HF.o.below (HI.o.2.trans (hJ.o.2.mono HI.o.2.size))).cell i (by have:=HR.o.2;omega);obtain⟨N,hN⟩:=qX ((row.getD i fd0).1);obtain⟨D,hD⟩:=qX ((row.getD i fd0).2);rw [hN] at e0;rw [hD] at e1;have ae:=qH (qA hN hD);clear hN hD;go_wp2_with fail;refine (qeo N D _).mono ?_;rintro e w5 ⟨cc,rfl,aJ,ay⟩;have av:=qH (hJ.o.2.trans ((qB.alloc qN _ |>.trans (ay.mono (by simp only [qaa];omega))).mono hJ.o.2.size));clear ay;rcases aJ with ⟨rfl,hf⟩ | ⟨rfl,hf⟩
      ·have Hf:=qH hf;clear hf;go_wp2;go_roundw
       case rel =>
        refine⟨rfl,i+1,by go_num,hi,qH ⟨fun q hq=>?_,av.o⟩⟩;rcases qaT q i with h | h
        ·exact hJ.o.1 q h
        ·obtain rfl:q=i:=by omega
         rw [ae.o.1,ae.o.2];exact Hf.o
       case measure=>simp [intOf];omega
      ·have Hf:=qH hf;clear hf;go_wp2;go_ret;exact⟨320,rfl,qak ⟨rfl,fun⟨k',n',h⟩=>Hf.o (by
        have h1:=(h.rows j HJ.o).2 i (by rw [HR.o.1,HR.o.2];exact hi);rw [HR.o.1,ae.o.1,ae.o.2] at h1;exact h1)⟩,F.o.trans ((HI.o.2.trans (av.o.mono HI.o.2.size)).mono F.o.size)⟩
     ·obtain rfl:i=I:=by omega
      go_wp2;go_roundw
      case rel =>
       refine⟨rfl,j+1,by go_num,HJ.o,qH ⟨fun q hq=>?_,HI.o.2.trans (hJ.o.2.mono HI.o.2.size)⟩⟩;rcases qaT q j with h | h
       ·exact HI.o.1 q h
       ·obtain rfl:q=j:=by omega
        rw [HR.o.1];exact⟨HR.o.2.trans aD.o,fun x hx=>hJ.o.1 x (by rw [HR.o.2] at hx;exact hx)⟩
      case measure=>simp [intOf];omega
   ·obtain rfl:j=3:=by omega
    go_wp2;go_ret;exact⟨0,rfl,qaw ⟨rfl,k,n,⟨by rw [J.o.1];exact Hk.o,⟨J.o.2.1,by omega,by omega⟩,fun h=>aG.o ⟨by have:=Hk.o.1;omega,h.2⟩,fun q hq=>hI.o.1 q hq⟩⟩,F.o.trans (hI.o.2.mono F.o.size)⟩
