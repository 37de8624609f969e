import Derived.Maps.Own
import Derived.Maps.OwnOps
import Derived.Maps.Views
import Derived.Test.YtjalhnlhcdfncaaGreatDoorBk15
set_option maxRecDepth 100000
set_option maxHeartbeats 0
namespace Go.Proofs.YtjalhnlhcdfncaaGreatDoor
open Go.RowKit Go.Maps
def rawR (v:Value):Option (DataW Value×List MemPlace):=some (.held v,[])
def MapAt (W:World) (P:Program) (k:TypeId) (b n:Nat) (z:Value) (f:Lit->Value):Prop :=
 ∃D,W.ownsMap P k rawR b n D/\IsMap D/\∀F,WideAt.IsKeyLit F->D.atKey F (.held z)=.held (f F)
theorem MapAt.made (w:World) (P:Program) (k:TypeId) (z:Value):MapAt (w.alloc (.map #[] 0)) P k w.heap.size 0 z fun _=>z :=
 ⟨_,World.ownsMap_made _ _ _ _,isMap_empty,fun _ _=>rfl⟩
theorem MapAt.lt {W:World} {P:Program} {k:TypeId} {b n:Nat} {z:Value} {f:Lit->Value} (h:MapAt W P k b n z f):b<W.heap.size:=by
 obtain⟨D,h,_⟩:=h;exact h.lt
theorem MapAt.kept {W W':World} {P:Program} {k:TypeId} {b n:Nat} {z:Value} {f:Lit->Value} {row:Option Nat} (h:MapAt W P k b n z f) (hg:W.grownBy W' row) (hne:some b≠row):MapAt W' P k b n z f:=by
 obtain⟨D,h,F,G⟩:=h;exact⟨D,h.kept hg hne,F,G⟩
theorem MapAt.below {W W':World} {P:Program} {k:TypeId} {b n:Nat} {z:Value} {f:Lit->Value} (h:MapAt W P k b n z f) (F:Below W.heap.size W W'):MapAt W' P k b n z f :=
 h.kept (row:=none) ⟨F.os,F.tape,F.output,F.size,fun i G _=>F.block i G⟩ (by simp)
theorem MapAt.congr {W:World} {P:Program} {k:TypeId} {b n:Nat} {z:Value} {f g:Lit->Value} (h:MapAt W P k b n z f) (e:∀F,WideAt.IsKeyLit F->f F=g F):MapAt W P k b n z g:=by
 obtain⟨D,h,H,I⟩:=h;exact⟨D,h,H,fun F G=>by rw [I F G,e F G]⟩
theorem MapAt.look {W:World} {P:Program} {k t e:TypeId} {b n:Nat} {z:Value} {f:Lit->Value} (h:MapAt W P k b n z f) (K:Keyed P k) (J:P.underlying t=some (.map k e)) (O:(zeroValue e).run P W=.ok z W) {key:Value} {H:Lit} (F:keyOf P k key=some H) :
  (Instr.lookup t (.map (some b)) key false).run P W=.ok (f H) W:=by
 obtain⟨D,h,_,I⟩:=h;obtain⟨v,ps,hr,G⟩:=h.lookup K J O (zd:=.held z) (zp:=[]) rfl F;rw [I H (K.key F)] at G;unfold rawR at G;simp only [Option.some.injEq,Prod.mk.injEq,DataW.held.injEq] at G;rw [<-G.1];exact hr
theorem MapAt.store {W:World} {P:Program} {k t e:TypeId} {b n:Nat} {z:Value} {f:Lit->Value} (h:MapAt W P k b n z f) (K:Keyed P k) (ht:P.underlying t=some (.map k e)) (hn:n<maxLen) {H:Value} {J:Lit} (F:keyOf P k H=some J) (val:Value) :
  ∃W',(Instr.mapUpdate t (.map (some b)) H val).run P W=.ok () W'/\(∀I:Lit->Value,I J=val->(∀x,x≠J->I x=f x)->MapAt W' P k b (n+1) z I)/\W.grownBy W' (some b):=by
 obtain⟨D,h,O,Z⟩:=h;obtain⟨W',hr,G,hg⟩:=h.update K ht hn F (show rawR val=some (.held val,[]) from rfl);refine⟨W',hr,fun I V Y=>⟨_,G,O.put _ _,fun x U=>?_⟩,hg⟩
 by_cases e:x=J
 ·subst e;rw [V];exact atKey_put_same O U _ _
 ·rw [Y x e,atKey_put_other e];exact Z x U
end Go.Proofs.YtjalhnlhcdfncaaGreatDoor
namespace Go.Proofs.YtjalhnlhcdfncaaGreatDoor
open Go Go.RowKit
instance stays_int {v:Value} {z:Int}:Stays fun W=>IntAt W v z:=⟨fun h F=>h.below F⟩
instance stays_fc {G:Option Addr} {b F:Nat} {l:List FT}:Stays fun W=>FCells W G b F l:=⟨fun h H=>h.below H⟩
instance stays_nc {G:Option Addr} {b F:Nat} {l:List Int}:Stays fun W=>NCells W G b F l:=⟨fun h H=>h.below H⟩
instance stays_pc {G:Option Addr} {b F:Nat} {l:List Pt}:Stays fun W=>PCells W G b F l:=⟨fun h H=>h.below H⟩
instance stays_rws {B F:Nat} {e:TypeId} {v:Value} {n:Nat} {H:List Value}:Stays fun W=>Rws W B e F v n H:=⟨fun h G=>h.below G⟩
instance stays_tab:Stays fun W=>HasT W:=⟨fun h F=>h.below F⟩
instance stays_md {v:Value} {m:Md}:Stays fun W=>MdAt W v m:=⟨fun h F=>h.below F⟩
instance stays_mp {P:Program} {k:TypeId} {b n:Nat} {z:Value} {f:Lit->Value}:Stays fun W=>MapAt W P k b n z f:=⟨fun h F=>h.below F⟩
open Go.Proofs.Tryz
theorem qdC {a b c:World} {g:Nat} (h:Below a.heap.size a b) (F:b.grownBy c (some g)) (hg:a.heap.size<=g):Below a.heap.size a c :=
 h.trans ⟨F.os,F.tape,F.output,F.size,fun i G=>F.block i (qai G h.size) fun e=>by have:=qag e;omega⟩
def natI (d:List Nat):List Int:=d.map fun k:Nat=>(k:Int)
theorem qc8 (d:List Nat):(natI d).length=d.length:=qaF ..
theorem qjn {d:List Nat} {j x:Nat} (h:d[j]? = some x):(natI d).getD j 0=(x:Int):=by
 unfold natI;rw [qab,qaS,h];rfl
theorem natI_set (d:List Nat) (j x:Nat):(natI d).set j (x:Int)=natI (d.set j x):=by unfold natI;rw [List.map_set]
structure NatR (W:World) (B g n c:Nat) (d:List Nat):Prop where
 len:d.length=n
 own:IOwn W B (.slice (some ⟨g,0,none⟩) n c) (natI d)
theorem NatR.below {W W':World} {B g n c:Nat} {d:List Nat} (h:NatR W B g n c d) (F:Below W.heap.size W W'):NatR W' B g n c d:=⟨h.len,own_below h.own F⟩
instance stays_natr {B g n c:Nat} {d:List Nat}:Stays fun W=>NatR W B g n c d:=⟨fun h F=>h.below F⟩
theorem NatR.at {W:World} {B g n c:Nat} {d:List Nat} (h:NatR W B g n c d) {j x:Nat} (H:d[j]? = some x):W.cell? ⟨g,j,none⟩=some (.int .i64 (x:Int))/\W.frozen? ⟨g,j,none⟩=false:=by
 have F:=(List.getElem?_eq_some_iff.1 H).1;obtain⟨g',e,_,⟨G,I⟩,_⟩:=IOwn.set h.own (i:=j) (by rw [qc8];exact F) 0;obtain rfl:g=g':=by injection e with e;injection e
 rw [qjn H] at G;exact⟨G,I⟩
theorem NatR.set {W:World} {B g n c:Nat} {d:List Nat} (h:NatR W B g n c d) {j:Nat} (G:j<n) (x:Nat):NatR (W.setCell ⟨g,j,none⟩ (.int .i64 (x:Int))) B g n c (d.set j x):=by
 obtain⟨g',e,_,_,F⟩:=IOwn.set h.own (i:=j) (by rw [qc8,h.len];exact G) (x:Int);obtain rfl:g=g':=by injection e with e;injection e
 rw [natI_set] at F;exact⟨by rw [qa9];exact h.len,F⟩
def CmpOk (F:Nat) (G:Array Value) (g:Nat) (l:List Nat) (H:Nat->Nat->Int) (w:World):Prop :=
 ∀W,w.grownBy W (some g)->∀x∈l,∀y∈l,Calls prog F (#[.int .i64 (x:Int),.int .i64 (y:Int)]++G) W fun e w'=>e=.returned (.int .i64 (H x y))/\Below W.heap.size W w'
theorem qkB (lt:Nat->Nat->Prop) [DecidableRel lt] (aG:∀a b c,lt a b->¬lt c b->lt a c) (aA:∀a b,lt a b->¬lt b a) (cf:Nat->Nat->Int) (F:Nat) (cb:Array Value) (B g n c:Nat) (l:List Nat) (w:World) (aB:∀x∈l,∀y∈l,cf x y<0↔lt x y) (hn:n<=1000) (O:NatR w B g n c l)
  (Y:∀a b W,(callFunc F (#[a,b]++cb)).run prog W=.ok (.enter F (#[a,b]++cb)) W) (hC:CmpOk F cb g l cf w) :
  Calls prog 203 #[.slice (some ⟨g,0,none⟩) n c,.int .i64 0,.int .i64 (n:Int),.func (.func F) #[] cb] w fun e w'=>e=.returned (.tuple #[])/\w.grownBy w' (some g)/\NatR w' B g n c (isort lt l):=by
 have HC:=qH (qA hC (qA aB (qA aG aA)));have H0:Hu (∃d,InsSt lt l d 1/\NatR w B g n c d/\w.grownBy w (some g)):=qH ⟨l,InsSt.start l,O,qcy _ _⟩;have HL:=qH O.len;clear hC aB aG aA O;go_enter func203,ntmps203;go_wp2_with fail
 go_loopw [8] (fun x8 W=>∃i:Nat,x8=.int .i64 (i:Int)/\1<=i/\i<=n+1/\Hu (∃d,InsSt lt l d i/\NatR W B g n c d/\w.grownBy W (some g))) (fun x8 _=>n+1-(intOf x8).toNat)
 case atStart=>exact⟨1,rfl,qae _,by omega,H0⟩
 case round =>
  obtain⟨i,rfl,aI,aJ,hS⟩:=hrel
  by_cases hi:i<n
  case neg =>
   have aH:¬(i:Int)<(n:Int):=by omega
   have HE:Hu (w.grownBy wr (some g)/\NatR wr B g n c (isort lt l)):=qH (by
    obtain⟨d,h1,h2,h3⟩:=hS.o;rw [<-h1.done (by rw [HL.o];omega)];exact⟨h3,h2⟩)
   go_wp2_with fail
   go_end0
   exact⟨rfl,HE.o⟩
  have aH:(i:Int)<(n:Int):=by omega
  have HI:Hu (∃d x,InsIn lt l d i i x/\NatR wr B g n c d/\w.grownBy wr (some g)):=qH (by
   obtain⟨d,h1,h2,h3⟩:=hS.o;obtain⟨x,hx⟩:=h1.inn (by rw [HL.o];exact hi);exact⟨d,x,hx,h2,h3⟩)
  clear hS;go_wp2_with fail
  go_loopw [9] (fun x9 W=>∃j:Nat,x9=.int .i64 (j:Int)/\j<=i/\Hu (∃d x,InsIn lt l d i j x/\NatR W B g n c d/\w.grownBy W (some g))) (fun x9 _=>(intOf x9).toNat)
  case atStart=>exact⟨i,rfl,qae _,HI⟩
  case round =>
   obtain⟨j,rfl,hj,hI⟩:=hrel;obtain⟨d,x,hd,O,hG⟩:=hI.o;rcases j with _ | G
   ·have HE:=qH (qA hd.zero (qA (O.below qB.drew) (qbR hG (keepB qB.drew))));clear hI hd O hG;go_wp2_with fail;refine wp_region_held_drew (S:=fun _=>True) (by kernel_rfl) trivial (fun hS0=>?_);refine hT 0 (h:=hT 1 (h:=hT 2 (h:=hT 3 (h:=hU 4 (h:=hU 5 (h:=hU 6 (h:=hU 7 (h:=hU 8 (h:=hU 9 (h:=hU 10 (h:=hU 11 (h:=hU 12 (h:=hU 13 (h:=hU 14 (h:=hU 15 (h:=hT 16 (h:=?_)))))))))))))))));refine wpAnyH_done (by kernel_rfl) ?_ _;go_wp2;go_roundw
    case rel=>exact⟨i+1,by go_num,by omega,by omega,qH ⟨d,HE.o⟩⟩
    case measure=>simp [intOf] <;> omega
   ·obtain⟨y,hy,aj,aF,Z⟩:=hd.prev HC.o.2.2.1 HC.o.2.2.2;obtain⟨hx,aD,ai⟩:=hd.cur;rw [O.len] at aD;obtain⟨cx,fx⟩:=O.at hx;obtain⟨cy,fy⟩:=O.at hy;have aC:=qac wr _ cx;have bx:∀W,Below wr.heap.size wr W->W.cell? ⟨g,G+1,none⟩=some (.int .i64 (x:Int)):=fun W J=>(J.cell (p:=⟨g,G+1,none⟩) aC).trans cx
    have bY:∀W,Below wr.heap.size wr W->W.cell? ⟨g,G,none⟩=some (.int .i64 (y:Int)):=fun W J=>(J.cell (p:=⟨g,G,none⟩) aC).trans cy
    have HK:=qH (HC.o.1 wr.drew (qbR hG (keepB qB.drew)) x ai y aj);have I:=qH (qA aF (qA Z (qA O (qA hG (qA aD (qA (HC.o.2.1 x ai y aj) (qA hx hy)))))));have aK:IntKind.i64.wrap (G:Int)=(G:Int):=by rw [IntKind.wrap_i64];omega
    have jz:(G:Int)+1<(n:Int):=by omega
    have aL:(G:Int)<(n:Int):=by omega
    have p0:(0:Int)<=(G:Int)+1:=by omega
    have e0:((G:Int)+1).toNat=G+1:=by omega
    have aa:(0:Int)<(G:Int)+1:=by omega
    clear hI hd O hG cx fx cy fy aF Z hy hx aj ai;go_wp2_with fail;refine wp_region_held_drew (S:=fun W=>Below wr.heap.size wr W) (by kernel_rfl) qB.drew (fun hS0=>?_);refine hT 0 (h:=hT 1 (h:=hT 2 (h:=hT 3 (h:=hT 4 (h:=hT 5 (h:=hT 6 (h:=hT 7 (h:=hT 8 (h:=hT 9 (h:=hT 10 (h:=hT 11 (h:=hT 12 (h:=hT 13 (h:=?_))))))))))))));refine hC 14 HK.o (h:=?_);rintro e w2 ⟨rfl,ah⟩;have H:=qcf ah;refine⟨_,rfl,H,hN (h:=?_)⟩;have HR:=qH (qA (I.o.2.2.1.below H) (qbR I.o.2.2.2.1 (keepB H)))
    by_cases V:cf x y<0
    ·refine hT 15 (hS:=H) (h:=hT 16 (hS:=H) (h:=?_));refine wpAnyH_done (by kernel_rfl) ?_ _;have ae:Hu (InsIn lt l ((d.set (G+1) y).set G x) i G x):=qH (I.o.1 (I.o.2.2.2.2.2.1.1 V));clear H ah hS0 bx bY V HK aa;go_wp2_with fail;refine wp_region_held_drew (S:=fun _=>True) (by kernel_rfl) trivial (fun hS0=>?_);refine hT 0 (h:=hT 1 (h:=hT 2 (h:=hT 3 (h:=hT 4 (h:=hT 5 (h:=hT 6 (h:=hT 7 (h:=hT 8 (h:=hT 10 (h:=hT 11 (h:=hT 12 (h:=?_))))))))))));refine Go.Proofs.YtjalhnlhcdfncaaGreatDoor.gr [(9,46),(13,50),(14,51)] [] [0,1,2,3,4,5,6,7,8,10,11,12] [9,13,14] [] 15 18 (fl2 [(9,fun z _=>z=.int .i64 (y:Int)),(13,fun z _=>z=.int .i64 (x:Int)),(14,fun z _=>z=.pointer (some ⟨g,G+1,none⟩))]) _ 3
      (hS:=fun _ _=>trivial) (hstep:=⟨⟨_,rfl,fun v w3 J Y K hK=>?_⟩,⟨_,rfl,fun v w3 J Y K hK=>?_⟩,⟨_,rfl,fun v w3 J Y K hK=>?_⟩,trivial⟩) (hend:=fun v w3 J Y _ fu=>?_)
     ·have h0:=((HR.o.1.below (qcf J)).at I.o.2.2.2.2.2.2.2).1;exact gV hK rfl
     ·have h0:=((HR.o.1.below (qcf J)).at I.o.2.2.2.2.2.2.1).1;exact gV hK rfl
     ·exact gV hK rfl
     have e9:v 9=_:=Y 9 (by decide) (by decide);have ak:v 13=_:=Y 13 (by decide) (by decide);have au:v 14=_:=Y 14 (by decide) (by decide);rw [e9,ak,au];have ag:=HR.o.1.below (qcf J);have av:=qbR HR.o.2 (keepB (qcf J));obtain⟨h0,h1⟩:=ag.at I.o.2.2.2.2.2.2.1;have U:=ag.set I.o.2.2.2.2.1 y;have af:=qbR av (qbO w3 g (G+1) (.int .i64 (y:Int)));refine hSg 15 (h:=⟨trivial,?_⟩);obtain⟨W5,az⟩:=qY (w3.setCell ⟨g,G+1,none⟩ (.int .i64 (y:Int)));rw [<-az] at U af ⊢;have hne:(d.set (G+1) y)[G]? = some y:=by rw [List.getElem?_set_ne (by omega)];exact I.o.2.2.2.2.2.2.2
     obtain⟨h2,h3⟩:=U.at hne;have ay:=U.set (j:=G) (by have:=I.o.2.2.2.2.1;omega) x;have ax:=qbR af (qbO W5 g G (.int .i64 (x:Int)));have HE:=qH (qA ay ax);clear az h0 h1 ag av U af ay ax hne e9 ak au J Y;refine hT 16 (hS:=trivial) (h:=?_);refine hSg 17 (h:=⟨trivial,?_⟩);refine wpAnyH_done (by kernel_rfl) ?_ _;clear h2 h3 hS0;go_wp2;go_roundw
     case rel=>exact⟨G,by go_num,by omega,qH ⟨_,x,ae.o,HE.o.1,HE.o.2⟩⟩
     case measure=>simp [intOf] <;> omega
    ·refine hT 15 (hS:=H) (h:=hT 16 (hS:=H) (h:=?_));refine wpAnyH_done (by kernel_rfl) ?_ _;have ae:Hu (InsSt lt l d (i+1)):=qH (I.o.2.1 fun h=>V (I.o.2.2.2.2.2.1.2 h));clear H ah hS0 bx bY V HK aa;go_wp2;go_roundw
     case rel=>exact⟨i+1,by go_num,by omega,by omega,qH ⟨d,ae.o,HR.o.1,HR.o.2⟩⟩
     case measure=>simp [intOf] <;> omega
theorem qkV (lt:Nat->Nat->Prop) [DecidableRel lt] (O:∀a b c,lt a b->¬lt c b->lt a c) (I:∀a b,lt a b->¬lt b a) (U:Nat->Nat->Int) (F:Nat) (G:Array Value) (B g n c:Nat) (l:List Nat) (w:World) (J:∀x∈l,∀y∈l,U x y<0↔lt x y) (hn:n<20) (hO:NatR w B g n c l)
  (hF:∀a b W,(callFunc F (#[a,b]++G)).run prog W=.ok (.enter F (#[a,b]++G)) W) (hC:CmpOk F G g l U w) :
  Calls prog 136 #[.slice (some ⟨g,0,none⟩) n c,.int .i64 (n:Int),.func (.func F) #[] G] w fun e w'=>e=.returned (.tuple #[])/\w.grownBy w' (some g)/\NatR w' B g n c (isort lt l):=by
 have V:=qH (qkB lt O I U F G B g n c l w J (by omega) hO hF hC);have ae:¬(20:Int)<=(n:Int):=by omega
 have aa:¬(20:Int)<(n:Int):=by omega
 clear J hO hF hC O I;go_enter func136,ntmps136;go_wp2_with fail
 go_loopw [7,8] (fun x7 x8 W=>x7=.int .i64 0/\x8=.int .i64 20/\Hu (W=w)) (fun _ _ _=>0)
 case atStart=>exact⟨rfl,rfl,qH rfl⟩
 case round =>
  obtain⟨rfl,rfl,H⟩:=hrel;have e:=H.o;subst e;go_wp2_with fail;refine V.o.mono ?_;rintro e w2 ⟨rfl,Y,Z⟩;have HE:=qH (qA Y Z);clear Y Z V H;go_wp2_with fail
  go_loopw [6] (fun x6 W=>x6=.int .i64 20/\Hu (W=w2)) (fun _ _=>0)
  case atStart=>exact⟨rfl,qH rfl⟩
  case round =>
   obtain⟨rfl,H⟩:=hrel;have e:=H.o;subst e;clear H;go_wp2_with fail
   go_end0
   exact⟨rfl,HE.o⟩
theorem qjs (lt:Nat->Nat->Prop) [DecidableRel lt] (J:∀a b c,lt a b->¬lt c b->lt a c) (H:∀a b,lt a b->¬lt b a) (O:Nat->Nat->Int) (F:Nat) (G:Array Value) (B g n c:Nat) (l:List Nat) (w:World) (I:∀x∈l,∀y∈l,O x y<0↔lt x y) (hn:n<20) (hO:NatR w B g n c l)
  (Z:∀a b W,(callFunc F (#[a,b]++G)).run prog W=.ok (.enter F (#[a,b]++G)) W) (hC:CmpOk F G g l O w) :
  Calls prog 81 #[.slice (some ⟨g,0,none⟩) n c,.func (.func F) #[] G] w fun e w'=>e=.returned (.tuple #[])/\w.grownBy w' (some g)/\NatR w' B g n c (isort lt l):=by
 have U:=qH (qkV lt J H O F G B g n c l w I hn hO Z hC);clear I hO Z hC J H;go_enter func81,ntmps81;go_wp2_with fail;refine U.o.mono ?_;rintro e w2 ⟨rfl,V,Y⟩;have HE:=qH (qA V Y);clear V Y U;go_wp2_with fail
 go_end0
 exact⟨rfl,HE.o⟩
theorem qhl (lt:Nat->Nat->Prop) [DecidableRel lt] (ax:∀a b c,lt a b->¬lt c b->lt a c) (aj:∀a b,lt a b->¬lt b a) (cf:Nat->Nat->Int) (F:Nat) (cb:Array Value) (ao:Option Addr) (b ay n c:Nat) (l:List Nat) (w:World) (ak:∀x∈l,∀y∈l,cf x y<0↔lt x y) (hn:n<20) (hl:l.length=n) (hN:NCells w ao b ay (natI l))
  (hF:∀a b W,(callFunc F (#[a,b]++cb)).run prog W=.ok (.enter F (#[a,b]++cb)) W)
  (hC:∀W,Below w.heap.size w W->∀x∈l,∀y∈l,Calls prog F (#[.int .i64 (x:Int),.int .i64 (y:Int)]++cb) W fun e w'=>e=.returned (.int .i64 (cf x y))/\Below W.heap.size W w') :
  Calls prog 38 #[.slice ao n c,.func (.func F) #[] cb] w fun e w'=>∃g,e=.returned (.slice (some ⟨g,0,none⟩) n n)/\NatR w' w.heap.size g n n (isort lt l)/\Below w.heap.size w w':=by
 have aA:=fun W=>qje n (by omega) W
 obtain⟨W1,ah,N1⟩:=nw1 w (madeCells #[.int .i64 0] n) 3;obtain⟨Z,hZ⟩:=qY ((madeCells #[.int .i64 0] n).toList);obtain⟨C,H⟩:=qY ((natI l).map fun z=>Value.int .i64 z);have ai:Z.length=n:=by
  rw [hZ,toList_madeCells_one,qbm]
 have Y:C.length=n:=by rw [H,qaF,qc8,hl]
 have au:W1.heap[w.heap.size]? = some (.cells Z.toArray 3 (0,0)):=by rw [hZ,Array.toArray_toList];exact N1.o.2
 have U:0<C.length->some (⟨w.heap.size,0,none⟩:Addr)=some ⟨w.heap.size,0,none⟩/\∃ad,ao=some ad/\∀j v,C[j]? = some v->W1.cell? (ad.add j)=some v:=fun h0=>by
  have ha:=hN.addr (by rw [qc8];omega);refine⟨rfl,⟨b,ay,none⟩,ha,fun j v hj=>?_⟩;rw [H,qaS] at hj;have ae:j<(natI l).length:=by
   rcases qaV j (natI l).length with h | h
   ·exact h
   ·rw [qa8 h] at hj;cases hj
  rw [qad ae] at hj;have hc:=(hN.below N1.o.1).cell j ae;rw [Addr.add_mid,hc,qab,qad ae];exact hj
 have O:∀v∈C,v.oneCell'=true:=fun v hv=>by rw [H] at hv;exact ints_one _ v hv
 have J:C.length=Nat.min n n:=by rw [Y];exact (Nat.min_self n).symm
 have I:0+C.length<=Z.length:=by omega
 have V:=qH (qA U (qA O (qA J (qA I (qA au N1.o.1)))));have HS:=qH (fun (W:World) (hb:Below w.heap.size w W) (hO:NatR W w.heap.size w.heap.size n n l)=>qjs lt ax aj cf F cb w.heap.size w.heap.size n n l W ak hn hO hF (fun W' hk=>hC W' (qdC hb hk qN)));have G:=qH (qA H (qA ai (qA Y hl)));clear ak ax aj hN hF hC U O J I au N1 H ai Y hl hZ;go_enter func38,ntmps38;go_upto_region 2 with fail;rw [<-ah];clear ah aA
 go_wp2_with (first | (refine wpList_copy_splice rfl (.tmp 9) (.tmp 10) 30 30 rfl 3 underlying30 (by kernel_rfl) (some ⟨w.heap.size,0,none⟩) ao n n n c rfl rfl w.heap.size 0 Z 3 V.o.2.2.2.2.1 C V.o.2.2.1 V.o.1 V.o.2.2.2.1 V.o.2.1 w.heap.size w V.o.2.2.2.2.2 qN ?_) | fail)
 intro w3 av aa;have ag:NatR w3 w.heap.size w.heap.size n n l:=⟨G.o.2.2.2,by
  have h:=Hu.o av;have e:splice Z 0 C=C:=by
   unfold splice;rw [List.take_zero,qbw,qaL,List.drop_eq_nil_of_le (by rw [G.o.2.1,G.o.2.2.1];exact qae _),qbE]
  rw [e] at h;have:=qfA (B:=w.heap.size) (n:=n) h qN (by show C.length=n;exact G.o.2.2.1) (by unfold maxLen;omega);unfold IOwn;rw [qc8,G.o.2.2.2];have e2:C.toArray.toList=(natI l).map fun z=>Value.int .i64 z:=G.o.1
  rw [e2] at this;exact this⟩
 have af:=qH (HS.o w3 aa ag);have az:=qH aa;clear ag av aa HS V;go_wp2_with fail;refine af.o.mono ?_;rintro e w4 ⟨rfl,h1,h2⟩;have HE:=qH (qA h2 (qdC az.o h1 qN));clear h1 h2 af;go_wp2;go_ret;exact⟨_,rfl,HE.o.1,HE.o.2⟩
theorem itoa_int (z:Int) (F:-9223372036854775808<=z) (G:z<=9223372036854775807) (w:World) (hT:HasT w) :
  Calls prog 124 #[.int .i64 z] w fun e w'=>e=.returned (.string (qcb z))/\Below w.heap.size w w':=by
 refine (Tryz.strconv_Itoa z F G w hT).mono ?_;rintro e w' ⟨rfl,k,os,rfl⟩;refine⟨?_,Lib.below_grow _ _ qN _ _⟩;have:Lib.itoa z=itxt z:=by
  unfold Lib.itoa itxt
  by_cases h:z<0
  ·rw [if_pos h,if_pos h]
   try (first | rfl | (congr 2;omega) | (congr 1;omega))
  ·rw [if_neg h,if_neg h]
   try (first | rfl | (congr 1;omega))
 rw [this];rfl
theorem qmV (z:Int) (F:-9223372036854775808<=z) (G:z<=9223372036854775807) (w:World) (hT:HasT w) :
  Calls prog 75 #[.int .i64 z] w fun e w'=>e=.returned (.string (qcb z))/\Below w.heap.size w w':=by
 have J:=qH (itoa_int z F G w hT);clear F G hT;go_enter func75,ntmps75;go_wp2_with fail;refine J.o.mono ?_;rintro e O ⟨rfl,H⟩;have I:=qH H;clear H;go_wp2;go_ret;exact⟨rfl,I.o⟩
theorem red_val {z:Int} {d:Nat} (F:0<d) {q:Rat} (V:q=mkRat z d):q.num=(if decide (z<0)=true then -((z.natAbs / z.natAbs.gcd d:Nat):Int) else ((z.natAbs / z.natAbs.gcd d:Nat):Int))/\q.den=d / z.natAbs.gcd d:=by
 have hg:0<z.natAbs.gcd d:=qa5 _ F;have U:d / z.natAbs.gcd d≠0:=qbf (Nat.div_pos (qbD F (qaR _ _)) hg);have J:(z.natAbs / z.natAbs.gcd d)*z.natAbs.gcd d=z.natAbs:=Nat.div_mul_cancel (qbI _ _);have O:(d / z.natAbs.gcd d)*z.natAbs.gcd d=d:=Nat.div_mul_cancel (qaR _ _);have G:(z.natAbs / z.natAbs.gcd d).Coprime (d / z.natAbs.gcd d):=Nat.coprime_div_gcd_div_gcd hg;generalize z.natAbs.gcd d=g at *;generalize Y:z.natAbs / g=A at *;generalize Z:d / g=D at *;have H:((A:Nat):Int)*(d:Int)=((z.natAbs:Nat):Int)*(D:Int):=by
  rw [<-J,<-O];push_cast;rw [qbv,qbd (D:Int)]
 refine qiC U ?_ (qbf F) ?_ V
 ·split
  ·rw [qbu,qaq];exact G
  ·rw [qaq];exact G
 ·by_cases I:z<0
  ·rw [if_pos (by simpa using I),qbx,H,show ((z.natAbs:Nat):Int) = -z by omega,qbx,Int.neg_neg]
  ·rw [if_neg (by simpa using I),H,show ((z.natAbs:Nat):Int)=z by omega]
theorem qdx {W:World} {v:Value} {x:Nat} (h:MagAt W v x):∃(a:Option Addr) (n c:Nat),v=.slice a n c:=by
 obtain⟨a,b,o,c,n,L,rfl,_⟩:=h;exact⟨a,n,c,rfl⟩
theorem qjp (z:Int) (d K:Nat) (hK:K<=137438953472) (v vm:Value) (w:World) (hv:IntAt w v z) (hm:MagAt w vm d) (hz:Fit z.natAbs K) (hd:Fit d K) (h0:0<d) :
  Calls prog 122 #[v,vm] w fun e w'=>∃u,e=.returned u/\Below w.heap.size w w'/\RatV w' u (mkRat z d):=by
 obtain⟨m,rfl,ah⟩:=hv;obtain⟨am,nm,cm,rfl⟩:=qdx ah;obtain⟨ad,nd,cd,rfl⟩:=qdx hm;have Y:=red_val h0 (q:=mkRat z d) rfl;have hg:0<z.natAbs.gcd d:=qa5 _ h0;have az:Fit (z.natAbs.gcd d) K:=hd.le (qbD h0 (qaR _ _));obtain⟨b0,Z⟩:=qX (decide (z<0));rw [Z] at Y;have HV:=qH (qA Y Z);rw [Z];obtain⟨W1,I⟩:=qY ((w.alloc (.cells #[.slice am nm cm,.bool b0] 125)).alloc (.cells #[.slice none 0 0,.bool false,.slice none 0 0] 127));have aa:Below w.heap.size w W1:=I▸qbM (qbM qB qN) qN;have aA:W1.heap[w.heap.size]? = some (.cells #[.slice am nm cm,.bool b0] 125 (0,0)):=by rw [I,qL _ _ _ (by simp only [qaa];omega)];exact qM _ _ _ rfl
 have aB:W1.heap[w.heap.size+1]? = some (.cells #[.slice none 0 0,.bool false,.slice none 0 0] 127 (0,0)):=by rw [I];exact qM _ _ _ (by simp)
 have H1:=qH (qA aa (qA aA aB));have HM:=qH (qA ah hm);have HF:=qH (qA hz (qA hd (qA hg az)));have HK:=qH hK;have HG:=qH ((qcD .f) z.natAbs d K hK _ _ W1 (ah.below aa) (hm.below aa) hz hd);clear Y Z ah hm hz hd hg az hK aa aA aB h0;go_enter func122,ntmps122;go_wp2_with fail;rw [<-I];clear I;refine HG.o.mono ?_;rintro e w2 ⟨vg,rfl,ae,ai⟩;obtain⟨ag,ng,cg,rfl⟩:=qdx ai;have J:=H1.o.1.trans (ae.mono H1.o.1.size);have H2:=qH (qA J (qA (zkeep ae _ _ H1.o.2.1) (zkeep ae _ _ H1.o.2.2)));have HD:=qH ((qbV .f) z.natAbs (z.natAbs.gcd d) K HK.o _ _ w2 (HM.o.1.below J) ai HF.o.1 HF.o.2.2.2 HF.o.2.2.1);have aF:=qH ai;have k0:=qC w2 _ 0 _ _ _ H2.o.2.1;clear ae ai J;go_wp2_with fail;refine HD.o.mono ?_;rintro e w3 ⟨q,r,rfl,U,hq,hr⟩;obtain⟨aq,nq,cq,rfl⟩:=qdx hq;obtain⟨ar,nr,cr,rfl⟩:=qdx hr;have O:=H2.o.1.trans (U.mono H2.o.1.size);have H3:=qH (qA O (qA (zkeep U _ _ H2.o.2.1) (zkeep U _ _ H2.o.2.2)));have HQ:=qH hq;have HE:=qH ((qbV .f) d (z.natAbs.gcd d) K HK.o _ _ w3 (HM.o.2.below O) (aF.o.below U) HF.o.2.1 HF.o.2.2.2 HF.o.2.2.1);clear U hq hr O k0;go_wp2_with fail;refine HE.o.mono ?_;rintro e w4 ⟨q2,r2,rfl,V,ax,aC⟩;obtain⟨F,H,G,rfl⟩:=qdx ax;obtain⟨aG,aI,aH,rfl⟩:=qdx aC;have aj:=H3.o.1.trans (V.mono H3.o.1.size);have H4:=qH (qA aj (qA (zkeep V _ _ H3.o.2.1) (zkeep V _ _ H3.o.2.2)));have aD:=qH ax;have HS:=qH ((qb2 .f) _ b0 _ w4 (HQ.o.below V));have k1:=qC w4 _ 1 _ _ _ H4.o.2.1;clear V ax aC aj;go_wp2_with fail;refine HS.o.mono ?_;rintro e w5 ⟨u,rfl,af,hu⟩;obtain⟨au,nu,cu,bu,rfl⟩:=qbN hu;have ay:=zkeep af _ _ H4.o.2.2;have ak:=H4.o.1.trans (af.mono H4.o.1.size);have av:RatV (w5.setRow (w.heap.size+1) #[.slice au nu cu,.bool bu,.slice F H G]) (.agg #[.slice au nu cu,.bool bu,.slice F H G]) (mkRat z d):=by
  refine qfC (W:=w5) (cs':=#[.slice au nu cu,.bool bu,.slice F H G]) ?_ ay;unfold RatV;rw [HV.o.1.1,HV.o.1.2];obtain⟨m',e1,e2⟩:=hu;simp only [qa1,qa2,qaU] at e1;obtain⟨rfl,e3,_⟩:=e1;rw [e3];exact⟨_,_,rfl,e2,aD.o.below af⟩
 have H5:=qH (qA ay (qA (qS ak (show w.heap.size<=w.heap.size+1 by omega) #[.slice au nu cu,.bool bu,.slice F H G]) av));clear af ay ak av hu k1
 go_wp2_with ((with_reducible refine sR_ rfl 127 _ _ rfl (w.heap.size+1) #[.slice au nu cu,.bool bu,.slice F H G] H5.o.1 3 ?_))
 exact qR (v:=.agg #[.slice au nu cu,.bool bu,.slice F H G]) (rA_ rfl (w.heap.size+1) (qT _ _ _ _ _ _ H5.o.1) underlying127 3) rfl ⟨_,rfl,H5.o.2.1,H5.o.2.2⟩
theorem qhp {z:Int} (h:z.natAbs<10 ^ 600):Valid (qcb z).data.toList:=qfE (by have:=qeg (x:=z.natAbs) (k:=600) (by decide) h;rw [qdD] at this;exact this)
theorem qiR (z:Int):ival (qcb z).data.toList=z:=qdu z
theorem qe0 {x:Nat} (h:x<1000000000000000000000000000):Fit x 3:=by unfold Fit;exact h
theorem qcs (q:Rat):∃s t,ftxt q=(s,t):=⟨_,_,rfl⟩
theorem mulq {p q:Rat} (G:Short p) (sq:Short q) (H:Short (p*q)) (w:World) (hT:HasT w) :
  Calls prog 114 #[.agg #[.string (ftxt p).1,.string (ftxt p).2],.agg #[.string (ftxt q).1,.string (ftxt q).2]] w fun e w'=>e=.returned (.tuple #[.agg #[.string (ftxt (p*q)).1,.string (ftxt (p*q)).2],.int .i64 0])/\Below w.heap.size w w':=by
 refine (fmul_any _ _ _ _ w hT).mono ?_;rintro e w' ⟨⟨_,h⟩ | ⟨h,_⟩,F⟩
 ·rw [qdN,qdN] at h;rcases h with ⟨_,h⟩ | ⟨h,_⟩
  ·exact⟨h,F⟩
  ·exact absurd H h
 ·exact absurd ⟨qe2 G,qe2 sq⟩ h
theorem ql2 {z d:Int} (H:0<d) (G:z.natAbs<1000000000000000000000) (F:d.natAbs<1000000000000000000000):Valid (qcb z).data.toList/\Valid (qcb d).data.toList/\Fit z.natAbs 3/\Fit d.natAbs 3/\0<d.natAbs :=
 ⟨qhp (qai G (by decide +kernel)),qhp (qai F (by decide +kernel)),qe0 (by omega),qe0 (by omega),by omega⟩
theorem qgx {z d:Int} (G:0<d) (H:z.natAbs<1000000000000000000000) (F:d.natAbs<1000000000000000000000):Short ((z:Rat) / (d:Rat)) :=
 qc9 (qiE (N:=1000000000000000000000) (by omega) (by omega) (by omega) rfl) (by decide +kernel)
theorem quo_mk {z d:Int} (F:0<d):mkRat z d.natAbs=(z:Rat) / (d:Rat):=by
 rw [<-Rat.divInt_ofNat,Rat.divInt_eq_div];have:((d.natAbs:Int):Rat)=(d:Rat):=by rw [Int.natAbs_of_nonneg (by omega)]
 rw [<-this]
theorem quo_fit {z d:Int} (G:0<d) (H:z.natAbs<1000000000000000000000) (F:d.natAbs<1000000000000000000000):RFit ((z:Rat) / (d:Rat)) 3:=by
 have h:Rb ((z:Rat) / (d:Rat)) 1000000000000000000000:=qiE (by omega) (by omega) (by omega) rfl;exact⟨qe0 (qaX h.1 (by decide)),qe0 (qaX h.2 (by decide))⟩
theorem qiP {s:ByteArray} (h:Valid s.data.toList) (w:World):Calls prog 119 #[.string s] w fun e w'=>e=.returned (.int .i64 0)/\Below w.heap.size w w':=by
 refine (qfF s w).mono ?_;rintro e w' ⟨c,rfl,⟨rfl,_⟩ | ⟨_,G⟩,F⟩
 ·exact⟨rfl,F⟩
 ·exact absurd h G
theorem make_int (z d:Int) (hd:0<d) (hz:z.natAbs<1000000000000000000000) (O:d.natAbs<1000000000000000000000) (w:World) (hP:HasT w) :
  Calls prog 74 #[.string (qcb z),.string (qcb d)] w fun e w'=>e=.returned (.tuple #[fstr ((z:Rat) / (d:Rat)),.int .i64 0])/\Below w.heap.size w w':=by
 obtain⟨va,vb,fa,fb,h0⟩:=ql2 hd hz O;have aA:=qgx hd hz O;have V:=quo_fit hd hz O;have ax:=quo_mk (z:=z) hd;have ae:=qiR z;have af:=qiR d;obtain⟨sa,ay⟩:∃s,qcb z=s:=⟨_,rfl⟩;obtain⟨sb,az⟩:∃s,qcb d=s:=⟨_,rfl⟩;rw [ay] at va ae ⊢;rw [az] at vb af ⊢;have HV:=qH (qA va (qA vb (qA ae af)));have U:=qH (qA fa (qA fb (qA h0 (qA aA (qA V (qA ax hP))))));have Hd:=qH hd;clear ay az va vb fa fb h0 aA V ax ae af hP hd hz O;obtain⟨W1,ah,K1⟩:=nw1 w #[.string ⟨#[]⟩,.string ⟨#[]⟩] 27;have aH:=qH (qiP HV.o.1 W1);go_enter func74,ntmps74;go_wp2_with fail;rw [<-ah];clear ah;refine aH.o.mono ?_;rintro e w2 ⟨rfl,F⟩;have K2:=K1.below F;clear F;have aI:=qH (qiP HV.o.2.1 w2);go_wp2_with fail;refine aI.o.mono ?_;rintro e w3 ⟨rfl,F⟩;have K3:=K2.below F;clear F;have HN:=qH ((qb7 .f) sa HV.o.1 w3);go_wp2_with fail;refine HN.o.mono ?_;rintro e w4 ⟨v4,rfl,F,aD⟩;have K4:=K3.on (q:=fun W=>IntAt W v4 z) F (by rw [<-HV.o.2.2.1];exact aD);clear F aD;have aJ:=qH ((qb7 .f) sb HV.o.2.1 w4);obtain⟨a4,n4,c4,b4,rfl⟩:=qbN K4.o.2;go_wp2_with fail;refine aJ.o.mono ?_;rintro e w5 ⟨v5,rfl,F,aF⟩;have K5:=K4.on (q:=fun W=>IntAt W v5 d) F (by rw [<-HV.o.2.2.2];exact aF);clear F aF;obtain⟨a5,n5,c5,b5,rfl⟩:=qbN K5.o.2;have aL:b5=false:=by
  obtain⟨m,e,_⟩:=K5.o.2;simp only [qa1,qa2,qaU,Value.bool.injEq] at e;rw [e.2.1];exact qU (by have:=Hd.o;omega)
 subst aL;have aj:(if b4=true then -(z.natAbs:Int) else (z.natAbs:Int))=z:=by
  obtain⟨m,e,_⟩:=K4.o.2;simp only [qa1,qa2,qaU,Value.bool.injEq] at e;rw [e.2.1]
  by_cases h:z<0
  ·rw [if_pos (by simpa using h)];omega
  ·rw [if_neg (by simpa using h)];omega
 have ak:MagAt w5 (.slice a4 n4 c4) z.natAbs:=by
  obtain⟨m,e,hm⟩:=K5.o.1.2;simp only [qa1,qa2,qaU] at e;rw [e.1];exact hm
 have av:MagAt w5 (.slice a5 n5 c5) d.natAbs:=by
  obtain⟨m,e,hm⟩:=K5.o.2;simp only [qa1,qa2,qaU] at e;rw [e.1];exact hm
 obtain⟨W6,ai,H⟩:=nw2 w5 #[.slice a4 n4 c4,.bool b4] 125 #[.slice a5 n5 c5,.bool false] 125;have HM:=qH (qA ak (qA av aj));have K7:=K5.below H.o.1;have aG:decide (d.natAbs=0)=false:=qU (by have:=U.o.2.2.1;omega);have HZ:=qH ((qcq .f) d.natAbs _ W6 (HM.o.2.1.below H.o.1));rw [aG] at HZ;have aK:=qC W6 _ 0 _ _ _ H.o.2.2;have aQ:w.heap.size<w5.heap.size:=(qG K5.o.1.1.2).1;clear aj ak av aG;go_wp2_with fail;rw [<-ai];clear ai;refine HZ.o.mono ?_;rintro e w7 ⟨rfl,hw⟩;have hw:=hw.symm;subst hw;clear aK;have aM:=rowG (g0:=w.heap.size) H.o.2.1 0;have aN:=rowG (g0:=w.heap.size) H.o.2.1 1;have aO:=rowG (g0:=w.heap.size) H.o.2.2 0;have aP:=rowG (g0:=w.heap.size) H.o.2.2 1;go_wp2_with fail;refine wp_region_held_drew (S:=fun W=>W6.grownBy W (some w.heap.size)) (by kernel_rfl) (keepB qB.drew) (fun hS0=>?_);refine hT 0 (h:=hT 1 (h:=hT 2 (h:=hT 3 (h:=hT 4 (h:=hT 5 (h:=hT 6 (h:=hT 8 (h:=hT 9 (h:=?_)))))))));refine hC 7 (f:=123) ((qb2 .f) z.natAbs b4 _ _ ((HM.o.1.below H.o.1).below qB.drew)) (h:=?_);rintro e w7 ⟨u,rfl,G,hu⟩;rw [HM.o.2.2] at hu;obtain⟨au,nu,cu,bu,rfl⟩:=qbN hu;have K8:=K7.below (qcf G);refine⟨_,rfl,qjT G,hN (h:=?_)⟩;refine hC 10 (qjp z d.natAbs 3 (by decide) _ _ w7 hu ((HM.o.2.1.below H.o.1).below (qcf G)) U.o.1 U.o.2.1 U.o.2.2.1) (h:=?_);rintro e w8 ⟨r,rfl,Z,hr⟩;rw [U.o.2.2.2.2.2.1] at hr;obtain⟨ar,nr,cr,br,er,fr,gr,rfl⟩:=qcV hr;have Y:=qca (qjT (g:=w.heap.size) G) Z;have K9:=K8.below Z;refine⟨_,rfl,Y,hN (h:=?_)⟩;refine hC 11 (qfD _ 3 (by decide) (by decide) _ w8 hr U.o.2.2.2.2.1 (U.o.2.2.2.2.2.2.below K9.o.1.1.1)) (h:=?_);rintro e w9 ⟨h,aa⟩;rcases h with ⟨_,rfl⟩ | ⟨h,_⟩
 case inr=>exact absurd U.o.2.2.2.1 h
 have J:=qca Y aa;have I:=K9.below aa;unfold fstr;obtain⟨t1,aB⟩:∃t,qcb ((z:Rat) / (d:Rat)).num=t:=⟨_,rfl⟩;obtain⟨t2,aC⟩:∃t,num ((z:Rat) / (d:Rat)).den=t:=⟨_,rfl⟩;rw [aB,aC];refine⟨_,rfl,J,hN (h:=?_)⟩;refine hT 12 (h:=hT 13 (h:=?_));refine hSn 14 2 I.o.1.1.2 (h:=⟨qbR J (qb3 _ _ _),?_⟩);have ag:=qbR J (qb3 w9 w.heap.size #[.string t1,.string t2]);refine hT 15 (h:=?_);refine wpAnyH_done (by kernel_rfl) ?_ _;have HE:=qH (qA (qS I.o.1.1.1 qN #[.string t1,.string t2]) I.o.1.1.2);clear I K9 K8 K7 H ag J Y aa Z G hr hu;go_wp2_with fail;exact qR (v:=.tuple #[.agg #[.string t1,.string t2],.int .i64 0]) (rB_ rfl w.heap.size (qT _ _ _ _ _ _ HE.o.2) underlying27 2) rfl ⟨by rw [<-aB,<-aC];rfl,HE.o.1⟩
theorem of_int (z d:Int) (hd:0<d) (Y:-9223372036854775808<=z/\z<=9223372036854775807) (O:d<=9223372036854775807) (w:World) (I:HasT w) :
  Calls prog 31 #[.int .i64 z,.int .i64 d] w fun e w'=>e=.returned (.tuple #[.agg #[.string (ftxt ((z:Rat) / (d:Rat))).1,.string (ftxt ((z:Rat) / (d:Rat))).2],.int .i64 0])/\Below w.heap.size w w':=by
 obtain⟨t1,t2,U⟩:=qcs ((z:Rat) / (d:Rat));rw [U];obtain⟨W1,J,K1⟩:=nw1 w #[.string ⟨#[]⟩,.string ⟨#[]⟩] 27;have HP:=qH I;have Z:=qH (qmV z Y.1 Y.2 W1 (I.below K1.o.1));have HB:=qH (fun (W:World) (h:Below w.heap.size w W)=>qmV d (by omega) O W (I.below h));have HM:=qH (fun (W:World) (h:Below w.heap.size w W)=>make_int z d hd (by omega) (by omega) W (I.below h));have HT:=qH U;obtain⟨sz,H⟩:∃s,qcb z=s:=⟨_,rfl⟩;obtain⟨sd,G⟩:∃s,qcb d=s:=⟨_,rfl⟩;rw [H] at Z;rw [G] at HB;rw [H,G,qfS,U] at HM;clear I U hd Y O H G;go_enter func31,ntmps31;go_wp2_with fail;rw [<-J];clear J;refine Z.o.mono ?_;rintro e w2 ⟨rfl,F⟩;have K2:=K1.below F;clear F;go_wp2_with fail;refine (HB.o w2 K2.o.1).mono ?_;rintro e w3 ⟨rfl,F⟩;have K3:=K2.below F;clear F;go_wp2_with fail;refine (HM.o w3 K3.o.1).mono ?_;rintro e w4 ⟨rfl,F⟩;have V:=K3.below F;clear F
 go_wp2_with ((with_reducible refine sR_ rfl 27 _ _ rfl (w.heap.size) #[.string t1,.string t2] V.o.2 2 ?_))
 exact qR (v:=.tuple #[.agg #[.string t1,.string t2],.int .i64 0]) (rB_ rfl w.heap.size (qT _ _ _ _ _ _ V.o.2) underlying27 2) rfl ⟨rfl,qS V.o.1 qN _⟩
def SaysT (w:World) (P:Prop) (e:Ending) (w':World):Prop:=∃b:Bool,e=.returned (.bool b)/\(b=true↔P)/\Below w.heap.size w w'
theorem SaysT.yes {w w':World} {P:Prop} (h:P) (F:Below w.heap.size w w'):SaysT w P (.returned (.bool true)) w':=⟨true,rfl,⟨fun _=>h,fun _=>rfl⟩,F⟩
theorem SaysT.no {w w':World} {P:Prop} (h:¬P) (F:Below w.heap.size w w'):SaysT w P (.returned (.bool false)) w':=⟨false,rfl,⟨fun e=>(by cases e),fun k=>absurd k h⟩,F⟩
theorem qit (c:UInt8):(c.toNat<45/\qdb c=false)\/(c.toNat=45/\qdb c=true)\/((45<c.toNat/\c.toNat<48)/\qdb c=false)\/((48<=c.toNat/\c.toNat<=57)/\qdb c=true)\/((57<c.toNat/\c.toNat<65)/\qdb c=false) \/
  ((65<=c.toNat/\c.toNat<=90)/\qdb c=true)\/((90<c.toNat/\c.toNat<95)/\qdb c=false)\/(c.toNat=95/\qdb c=true)\/(c.toNat=96/\qdb c=false)\/((97<=c.toNat/\c.toNat<=122)/\qdb c=true)\/(122<c.toNat/\qdb c=false):=by
 have F:qdb c=decide ((65<=c.toNat/\c.toNat<=90)\/(97<=c.toNat/\c.toNat<=122)\/(48<=c.toNat/\c.toNat<=57)\/c.toNat=45\/c.toNat=95):=by
  unfold qdb;rw [Bool.eq_iff_iff];simp only [qaT,decide_eq_true_eq];omega
 rw [F];simp only [decide_eq_true_eq,decide_eq_false_iff_not];omega
theorem qmb (s:ByteArray) (w:World) (hs:s.size<=4611686018427387904) :
    Calls prog 179 #[.string s] w fun e w'=>SaysT w (qjC s) e w':=by
  by_cases Y:1<=s.size
  case neg =>
    have hi:(s.size:Int)<1:=by omega
    go_enter func179,ntmps179;go_wp2;go_ret;exact .no (fun h=>Y h.1) qB
  have ae:¬(s.size:Int)<1:=by omega
  by_cases Z:s.size<=12
  case neg =>
    have hi:(12:Int)<s.size:=by omega
    go_enter func179,ntmps179;go_wp2;go_ret;exact .no (fun h=>Z h.2.1) qB
  have af:¬(12:Int)<s.size:=by omega
  go_enter func179,ntmps179;go_wp2_with fail
  go_loop [16] (fun x16=>∃k:Nat,k<=s.size/\x16=.int .i64 k/\Hu (∀j (h:j<s.size),j<k->qdb s[j]=true)) (fun x16=>s.size-(intOf x16).toNat)
  case atStart=>exact⟨0,qan _,rfl,qH (fun j _ h=>absurd h (by omega))⟩
  case round =>
    obtain⟨k,hk,rfl,hJ⟩:=hrel
    by_cases I:k<s.size
    · have ah:(k:Int)<s.size:=by omega
      have O:=qit s[k];have aa:s[k].toNat<256:=s[k].toNat_lt;rcases O with ⟨h,F⟩ | ⟨h,F⟩ | ⟨h,F⟩ | ⟨h,F⟩ | ⟨h,F⟩ | ⟨h,F⟩ | ⟨h,F⟩ | ⟨h,F⟩ | ⟨h,F⟩ | ⟨h,F⟩ | ⟨h,F⟩
      all_goals
        have V:=qH F;clear F;obtain⟨q1,G⟩:∃q,((s[k].toNat:Int) != 45)=q:=⟨_,rfl⟩;obtain⟨q2,H⟩:∃q,((s[k].toNat:Int) != 95)=q:=⟨_,rfl⟩;obtain rfl:q1=decide ((s[k].toNat:Int)≠45):=by rw [<-G,Bool.eq_iff_iff,bne_iff_ne,decide_eq_true_eq]
        obtain rfl:q2=decide ((s[k].toNat:Int)≠95):=by rw [<-H,Bool.eq_iff_iff,bne_iff_ne,decide_eq_true_eq]
        first | rw [qV (show ((s[k].toNat:Int)≠45) by omega)] at G | rw [qU (show ¬((s[k].toNat:Int)≠45) by omega)] at G
        first | rw [qV (show ((s[k].toNat:Int)≠95) by omega)] at H | rw [qU (show ¬((s[k].toNat:Int)≠95) by omega)] at H
        go_wp2_with fail
        all_goals first
          | (exfalso;omega)
          | (go_ret
             exact .no (fun hn=>by have:=hn.2.2 k I;rw [V.o] at this;cases this) qB)
          | (have U:qdb s[k]=true:=V.o
             go_round
             case rel=>exact⟨k+1,I,by go_num,qH (fun j J ag=>by
               rcases (show j<k\/j=k by omega) with h | h
               · exact hJ.o j J h
               · subst h;exact U)⟩
             case measure=>simp [intOf];omega)
          | (exfalso;omega)
          | (exfalso;rename_i hz;simp at hz;omega)
    · obtain rfl:k=s.size:=by omega
      go_wp2;go_ret;exact .yes ⟨Y,Z,fun j J=>hJ.o j J J⟩ qB
theorem qeN (w:World) :
  Calls prog 180 #[.int .i64 0] w fun e w'=>e=.returned (.tuple #[.int .i64 0,.int .i64 10000])/\w=w':=by
 go_enter func180,ntmps180;go_wp2_with fail
 go_ret2
 exact⟨rfl,rfl⟩
theorem qc4 (i:Int) (h:i≠0) (w:World) :
  Calls prog 180 #[.int .i64 i] w fun e w'=>e=.returned (.tuple #[.int .i64 (-12800),.int .i64 12700])/\w=w':=by
 have F:(i == 0)=false:=by simpa using h
 go_enter func180,ntmps180;go_wp2_with fail
 go_ret2
 exact⟨rfl,rfl⟩
def PtAt (W:World) (v:Value) (p:Pt):Prop:=∃(F:Option Addr) (rb G rc:Nat),v=.agg #[.string p.name,.slice F p.dev.length rc,.int .i64 p.l0,.int .i64 p.l1,.int .i64 p.l2]/\NCells W F rb G p.dev
def qie (k:Nat):Int:=if k=0 then 0 else -12800
def qgf (k:Nat):Int:=if k=0 then 10000 else 12700
theorem qmD (v:Value) (p:Pt) (w:World) (hv:PtAt w v p) (hs:p.name.size<=4611686018427387904) (hd:p.dev.length<=4611686018427387904) :
  Calls prog 103 #[v] w fun e w'=>SaysT w (PtOk p) e w':=by
 obtain⟨ra,rb,ro,rc,rfl,hN⟩:=hv;obtain⟨nm,dev,l0,l1,l2⟩:=p;simp only [] at hs hd hN ⊢;obtain⟨n,hn⟩:=qX dev.length;rw [hn] at hd ⊢;obtain⟨W1,ae,K1⟩:=nw1 w #[.string nm,.slice ra n rc,.int .i64 l0,.int .i64 l1,.int .i64 l2] 72;have G:=qH (qA (hN.below K1.o.1) hn);have af:=qmb nm W1 hs;have ah:=qH af;have c0:=qC W1 _ 0 _ _ _ K1.o.2;have c1:=qC W1 _ 1 _ _ _ K1.o.2;have hl:=(qG K1.o.2).1;clear hN hn af;go_enter func103,ntmps103;go_wp2_with fail;rw [<-ae];clear ae;refine ah.o.mono ?_;rintro e w2 ⟨b,rfl,U,Z⟩;have H:=K1.below Z;have ag:=qH Z;clear c0 c1 Z;have c1:=qC w2 _ 1 _ _ _ H.o.2;cases b with
 | false =>
  have HX:=qH (show ¬qjC nm from fun h=>by have:=U.2 h;cases this);clear U;go_wp2;go_ret;exact .no (fun h=>HX.o h.name) H.o.1
 | true =>
  have HX:=qH (U.1 rfl);clear U
  by_cases h1:1<=n
  case neg =>
   have hi:(n:Int)<1:=by omega
   go_wp2;go_ret;exact .no (fun h=>h1 (by have:=h.n1;have:=G.o.2;simp only [] at *;omega)) H.o.1
  have ak:¬(n:Int)<1:=by omega
  by_cases h2:n<=4
  case neg =>
   have hi:(4:Int)<n:=by omega
   go_wp2;go_ret;exact .no (fun h=>h2 (by have:=h.n4;have:=G.o.2;simp only [] at *;omega)) H.o.1
  have au:¬(4:Int)<n:=by omega
  have ai:=G.o.1.addr (by have:=G.o.2;omega);subst ai;go_wp2_with fail
  go_loop [28] (fun x28=>∃k:Nat,k<=n/\x28=.int .i64 k/\Hu (∀j,j<k->0<=dev.getD j 0/\dev.getD j 0<=10000)) (fun x28=>n-(intOf x28).toNat)
  case atStart=>exact⟨0,qan _,rfl,qH (fun j h=>absurd h (by omega))⟩
  case round =>
   obtain⟨k,hk,rfl,O⟩:=hrel
   by_cases aj:k<n
   ·have ax:(k:Int)<n:=by omega
    have aa:=G.o.1.below ag.o;have d0:=aa.cell k (by have:=G.o.2;omega);obtain⟨x,hx⟩:=qX (dev.getD k 0);rw [hx] at d0;have Y:=qH hx;clear hx aa
    by_cases I:x<0
    ·go_wp2;go_ret;exact .no (fun h=>by have:=h.vals k (by have:=G.o.2;simp only [];omega);have:=Y.o;simp only [] at *;omega) H.o.1
    ·by_cases J:10000<x
     ·go_wp2;go_ret;exact .no (fun h=>by have:=h.vals k (by have:=G.o.2;simp only [];omega);have:=Y.o;simp only [] at *;omega) H.o.1
     ·go_wp2_with fail
      go_round
      case rel=>exact⟨k+1,aj,by go_num,qH (fun j hj=>by
       rcases (show j<k\/j=k by omega) with h | h
       ·exact O.o j h
       ·subst h;rw [Y.o];omega)⟩
      case measure=>simp [intOf];omega
   ·obtain rfl:k=n:=by omega
    have c2:=qC w2 _ 2 _ _ _ H.o.2;have c3:=qC w2 _ 3 _ _ _ H.o.2;have c4:=qC w2 _ 4 _ _ _ H.o.2;have HV:=qH (show qeC dev from fun j hj=>O.o j (by have:=G.o.2;omega));clear O;have ay:∀W,(Instr.index 54 (.agg #[.int .i64 l0,.int .i64 l1,.int .i64 l2]) (.int .i64 0)).run prog W=.ok (.int .i64 l0) W:=fun _=>by kernel_rfl
    have az:∀W,(Instr.index 54 (.agg #[.int .i64 l0,.int .i64 l1,.int .i64 l2]) (.int .i64 1)).run prog W=.ok (.int .i64 l1) W:=fun _=>by kernel_rfl
    have aA:∀W,(Instr.index 54 (.agg #[.int .i64 l0,.int .i64 l1,.int .i64 l2]) (.int .i64 2)).run prog W=.ok (.int .i64 l2) W:=fun _=>by kernel_rfl
    have F:=qH H.o.1;clear H K1;go_wp2_with fail;clear c1 c2 c3 c4
    go_loop [41] (fun x41=>∃k:Nat,k<=3/\x41=.int .i64 k/\Hu (∀j,j<k->qie j<=(Pt.lab ⟨nm,dev,l0,l1,l2⟩ j)/\(Pt.lab ⟨nm,dev,l0,l1,l2⟩ j)<=qgf j)) (fun x41=>3-(intOf x41).toNat)
    case atStart=>exact⟨0,qan _,rfl,qH (fun j h=>absurd h (by omega))⟩
    case round =>
     obtain⟨i,av,rfl,O⟩:=hrel;have bad:Hu (∀j,j<3->¬(qie j<=(Pt.lab ⟨nm,dev,l0,l1,l2⟩ j)/\(Pt.lab ⟨nm,dev,l0,l1,l2⟩ j)<=qgf j)->¬PtOk ⟨nm,dev,l0,l1,l2⟩):=qH (fun j hj hn h=>hn (by
      rcases (show j=0\/j=1\/j=2 by omega) with rfl | rfl | rfl
      ·exact h.l0
      ·exact h.l1
      ·exact h.l2))
     rcases (show i=0\/i=1\/i=2\/i=3 by omega) with rfl | rfl | rfl | rfl
     ·by_cases I:l0<0
      ·go_wp2_with ((go_at_call 180;refine (qeN _).mono ?_;rintro e V ⟨rfl,rfl⟩))
       go_ret;exact .no (bad.o 0 (by decide) (fun h=>by have:=h.1;show False;exact absurd I (by simpa [qie,Pt.lab] using this))) F.o
      ·by_cases J:10000<l0
       ·go_wp2_with ((go_at_call 180;refine (qeN _).mono ?_;rintro e V ⟨rfl,rfl⟩))
        go_ret;exact .no (bad.o 0 (by decide) (fun h=>by have:=h.2;exact absurd J (by simpa [qgf,Pt.lab] using this))) F.o
       ·go_wp2_with ((go_at_call 180;refine (qeN _).mono ?_;rintro e V ⟨rfl,rfl⟩))
        go_round
        case rel=>exact⟨1,by decide,rfl,qH (fun j hj=>by
         obtain rfl:j=0:=by omega
         exact⟨I,J⟩)⟩
        case measure=>simp [intOf]
     ·by_cases I:l1 < -12800
      ·go_wp2_with ((go_at_call 180;refine (qc4 _ (by decide) _).mono ?_;rintro e V ⟨rfl,rfl⟩))
       go_ret;exact .no (bad.o 1 (by decide) (fun h=>by have:=h.1;exact absurd I (by simpa [qie,Pt.lab] using this))) F.o
      ·by_cases J:12700<l1
       ·go_wp2_with ((go_at_call 180;refine (qc4 _ (by decide) _).mono ?_;rintro e V ⟨rfl,rfl⟩))
        go_ret;exact .no (bad.o 1 (by decide) (fun h=>by have:=h.2;exact absurd J (by simpa [qgf,Pt.lab] using this))) F.o
       ·go_wp2_with ((go_at_call 180;refine (qc4 _ (by decide) _).mono ?_;rintro e V ⟨rfl,rfl⟩))
        go_round
        case rel=>exact⟨2,by decide,rfl,qH (fun j hj=>by
         rcases (show j<1\/j=1 by omega) with h | rfl
         ·exact O.o j h
         ·exact⟨I,J⟩)⟩
        case measure=>simp [intOf]
     ·by_cases I:l2 < -12800
      ·go_wp2_with ((go_at_call 180;refine (qc4 _ (by decide) _).mono ?_;rintro e V ⟨rfl,rfl⟩))
       go_ret;exact .no (bad.o 2 (by decide) (fun h=>by have:=h.1;exact absurd I (by simpa [qie,Pt.lab] using this))) F.o
      ·by_cases J:12700<l2
       ·go_wp2_with ((go_at_call 180;refine (qc4 _ (by decide) _).mono ?_;rintro e V ⟨rfl,rfl⟩))
        go_ret;exact .no (bad.o 2 (by decide) (fun h=>by have:=h.2;exact absurd J (by simpa [qgf,Pt.lab] using this))) F.o
       ·go_wp2_with ((go_at_call 180;refine (qc4 _ (by decide) _).mono ?_;rintro e V ⟨rfl,rfl⟩))
        go_round
        case rel=>exact⟨3,by decide,rfl,qH (fun j hj=>by
         rcases (show j<2\/j=2 by omega) with h | rfl
         ·exact O.o j h
         ·exact⟨I,J⟩)⟩
        case measure=>simp [intOf]
     ·go_wp2;go_ret;exact .yes ⟨HX.o,by have:=G.o.2;simp only [];omega,by have:=G.o.2;simp only [];omega,HV.o,O.o 0 (by decide),O.o 1 (by decide),O.o 2 (by decide)⟩ F.o
theorem qgH (w:World):Calls prog 63 #[.int .i64 0] w fun e w'=>e=.returned (.tuple #[])/\w=w':=by
 go_enter func63,ntmps63;go_wp2_with fail
 go_end0
 exact⟨rfl,rfl⟩
theorem qcX (c:Int) (h:c≠0) (w:World):Calls prog 63 #[.int .i64 c] w fun e w'=>e=thrown c/\w=w':=by
 have F:(c != 0)=true:=by rw [bne_iff_ne];exact h
 go_enter func63,ntmps63;go_wp2_with fail;exact⟨rfl,rfl,rfl⟩
theorem qdk (x y:ByteArray) (w:World):Calls prog 70 #[.agg #[.string x,.string y],.int .i64 0] w fun e w'=>e=.returned (.agg #[.string x,.string y])/\Below w.heap.size w w':=by
 obtain⟨H,G,F⟩:=nw2 w #[.string x,.string y] 27 #[.string ⟨#[]⟩,.string ⟨#[]⟩] 27;have I:=qC H _ 0 _ _ _ F.o.2.1;have c1:=qC H _ 1 _ _ _ F.o.2.1;go_enter func70,ntmps70;go_wp2_with fail;rw [<-G];clear G;refine (qgH _).mono ?_;rintro e J ⟨rfl,rfl⟩
 go_wp2_with ((with_reducible refine sR_ rfl 27 _ _ rfl (w.heap.size+1) #[.string x,.string y] F.o.2.2 2 ?_))
 exact qR (v:=.agg #[.string x,.string y]) (rA_ rfl (w.heap.size+1) (qT _ _ _ _ _ _ F.o.2.2) underlying27 2) rfl ⟨rfl,qS F.o.1 (by omega) _⟩
theorem qmc (x y:ByteArray) (c:Int) (h:c≠0) (w:World):Calls prog 70 #[.agg #[.string x,.string y],.int .i64 c] w fun e w'=>e=thrown c/\Below w.heap.size w w':=by
 obtain⟨H,F,G⟩:=nw2 w #[.string x,.string y] 27 #[.string ⟨#[]⟩,.string ⟨#[]⟩] 27;go_enter func70,ntmps70;go_wp2_with fail;rw [<-F];clear F;refine (qcX c h _).mono ?_;rintro e I ⟨rfl,rfl⟩;exact⟨rfl,rfl,G.o.1⟩
theorem needL_ok (F:Option Addr) (n c:Nat) (w:World):Calls prog 116 #[.slice F n c,.int .i64 0] w fun e w'=>e=.returned (.slice F n c)/\w=w':=by
 go_enter func116,ntmps116;go_wp2_with fail;refine (qgH _).mono ?_;rintro e G ⟨rfl,rfl⟩;go_wp2;go_ret;exact⟨rfl,rfl⟩
theorem qiv (F:Option Addr) (n c:Nat) (d:Int) (h:d≠0) (w:World):Calls prog 116 #[.slice F n c,.int .i64 d] w fun e w'=>e=thrown d/\w=w':=by
 go_enter func116,ntmps116;go_wp2_with fail;refine (qcX d h _).mono ?_;rintro e G ⟨rfl,rfl⟩;exact⟨rfl,rfl,rfl⟩
theorem needI_ok (n:Int) (w:World):Calls prog 143 #[.int .i64 n,.int .i64 0] w fun e w'=>e=.returned (.int .i64 n)/\w=w':=by
 go_enter func143,ntmps143;go_wp2_with fail;refine (qgH _).mono ?_;rintro e F ⟨rfl,rfl⟩;go_wp2;go_ret;exact⟨rfl,rfl⟩
theorem qmd (n d:Int) (h:d≠0) (w:World):Calls prog 143 #[.int .i64 n,.int .i64 d] w fun e w'=>e=thrown d/\w=w':=by
 go_enter func143,ntmps143;go_wp2_with fail;refine (qcX d h _).mono ?_;rintro e F ⟨rfl,rfl⟩;exact⟨rfl,rfl,rfl⟩
theorem qg7 {kind:Int} {k:Nat} (h:qcG kind k):kind=1/\k=1\/kind=2/\k=2\/kind=3/\k=3:=by
 obtain⟨rfl,F,G⟩:=h;omega
theorem qid (kind:Int) (w:World):Calls prog 64 #[.int .i64 kind] w fun e w'=>e=.returned (.bool (decide (1<=kind/\kind<=3)))/\w=w':=by
 by_cases F:1<=kind
 ·by_cases G:kind<=3
  ·rw [qV (show 1<=kind/\kind<=3 from ⟨F,G⟩)];go_enter func64,ntmps64;go_wp2;go_ret;exact⟨rfl,rfl⟩
  ·rw [qU (show ¬(1<=kind/\kind<=3) from fun h=>G h.2)];go_enter func64,ntmps64;go_wp2;go_ret;exact⟨rfl,rfl⟩
 ·rw [qU (show ¬(1<=kind/\kind<=3) from fun h=>F h.1)];go_enter func64,ntmps64;go_wp2;go_ret;exact⟨rfl,rfl⟩
def lin (d:List Int):List Rat:=1 :: (List.range d.length).map (dq d)
def sqs (d:List Int) (k:Nat):List Rat:=(List.range k).map fun j=>dq d j*dq d j
theorem qlU (d:List Int):(lin d).length=d.length+1:=by simp [lin]
theorem sqs_succ (d:List Int) (k:Nat):sqs d (k+1)=sqs d k++[dq d k*dq d k]:=by unfold sqs;rw [List.range_succ,qbj];rfl
theorem qmL (d:List Int):termL 2 d=lin d++sqs d d.length:=rfl
theorem qmM (d:List Int):termL 3 d=prods d d.length:=rfl
theorem qhn (kind:Nat) (d:List Int):told (many kind d.length) (termQ kind d)=(termL kind d).map ftxt:=by
 rw [<-qgL];refine List.ext_getElem (by rw [qbQ,qaF]) fun i F H=>?_
 rw [qbQ] at F;have G:=qdB (x:=termQ kind d) F;rw [qab,qad (by rw [qbQ];exact F)] at G;rw [List.getElem_map];refine Eq.trans G ?_;unfold termQ;rw [qab,qad F];rfl
theorem lin_told (d:List Int):(lin d).map ftxt=ftxt 1 :: told d.length (dq d):=by unfold lin told;rw [List.map_cons,List.map_map];rfl
theorem FCells.part {W:World} {G:Option Addr} {b F:Nat} {l l2:List FT} (h:FCells W G b F (l++l2)):FCells W G b F l :=
 ⟨fun I=>h.addr (by rw [qaf];omega),fun k H=>by
  have:=h.cell k (by rw [qaf];omega);rw [qab,qax H,<-qab] at this;exact this⟩
theorem FCells.appended {w w':World} {B:Nat} {v V:Value} {Z g:Nat} {l l2:List FT} {L:List FT} (J:FCells w (some ⟨g,0,none⟩) g 0 L) (h0:0<L.length) (hn:(l++l2).length=Z) (H:Rws w' B 27 2 V Z (fflat (l++l2))) (G:∃U,l=L++U)
  (h:V.ownBlock=v.ownBlock/\w.grownBy w' v.ownBlock\/V.ownBlock=some w.heap.size/\w.grownBy w' none):FCells w' (some ⟨g,0,none⟩) g 0 L:=by
 rcases h with ⟨e,F⟩ | ⟨_,F⟩
 ·by_cases hg:v.ownBlock=some g
  ·obtain⟨ao,g',cap,rfl,I,_⟩:=qdL H hn;have ha:=I.addr (by rw [qaf];obtain⟨U,rfl⟩:=G;rw [qaf];omega);subst ha;have:g'=g:=by
    have Y:some g'=v.ownBlock:=e;rw [hg] at Y;exact qag Y
   subst this;obtain⟨U,rfl⟩:=G;rw [qaA] at I;exact I.part
  ·exact⟨J.addr,fun k O=>by
    obtain⟨c1,c2⟩:=J.cell k O;exact⟨F.cell c1 (fun e=>hg e.symm),F.cell c2 (fun e=>hg e.symm)⟩⟩
 ·exact J.below ⟨F.os,F.tape,F.output,F.size,fun i hi=>F.block i hi (fun e=>by cases e)⟩
theorem qcW {w w':World} {v H:Value} {g:Nat} {o:Obj} (hg:w.heap[g]? = some o) (hne:v.ownBlock≠some g) (h:H.ownBlock=v.ownBlock/\w.grownBy w' v.ownBlock\/H.ownBlock=some w.heap.size/\w.grownBy w' none):w'.heap[g]? = some o/\H.ownBlock≠some g:=by
 have F:=(qG hg).1;rcases h with ⟨e,G⟩ | ⟨e,G⟩
 ·exact⟨(G.block g F (fun e=>hne e.symm)).trans hg,by rw [e];exact hne⟩
 ·exact⟨(G.block g F (fun e=>by cases e)).trans hg,by rw [e];intro I;have:=qag I;omega⟩
theorem qdE {w w' a:World} {B:Nat} {v H:Value} (G:Below B a w) (J:∀k,v.ownBlock=some k->B<=k) (hB:B<=w.heap.size) (h:H.ownBlock=v.ownBlock/\w.grownBy w' v.ownBlock\/H.ownBlock=some w.heap.size/\w.grownBy w' none):Below B a w':=by
 rcases h with ⟨_,F⟩ | ⟨_,F⟩
 ·exact G.trans ⟨F.os,F.tape,F.output,F.size,fun i I=>F.block i (by omega) (fun e=>by have:=J i e.symm;omega)⟩
 ·exact G.trans ⟨F.os,F.tape,F.output,F.size,fun i I=>F.block i (by omega) (fun e=>by cases e)⟩
theorem qfh {W:World} {B:Nat} {y:Value} {n g:Nat} {G:List Value} {cs:Array Value} {t:TypeId} (h:Rws W B 27 2 y n G) (hg:W.heap[g]? = some (.cells cs t (0,0))) (e:y.ownBlock=some g):27=t:=by
 rcases h.2 with ⟨rfl,_⟩ | ⟨g',cap,cur,rfl,_,F,_⟩
 ·cases e
 ·have:g'=g:=qag e;subst this;have:=F.symm.trans hg;simp at this;exact this.2
theorem qmv {W:World} {g F:Nat} {cs cs':Array Value} {t G:TypeId} (h:W.heap[g]? = some (.cells cs t (0,0))) (H:W.heap[F]? = some (.cells cs' G (0,0))) (e:g=F):t=G:=by
 subst e;have:=h.symm.trans H;simp at this;exact this.2
theorem qkX (p:Nat) (y:Value) (w:World) (h:w.heap[p]? = some (.cells #[y] 22 (0,0))) (F:∃a n c,y=.slice a n c) :
  Calls prog 112 #[.pointer (some ⟨p,0,none⟩)] w fun e w'=>e=.returned y/\w=w':=by
 obtain⟨a,n,c,rfl⟩:=F;have G:=qC w _ 0 _ _ _ h;go_enter func112,ntmps112;go_wp2;go_ret;exact⟨rfl,rfl⟩
def T2St (w:World) (B H I F n G:Nat) (d:List Int) (k:Nat) (y:Value) (W:World):Prop :=
 Below B w W/\W.heap[H]? = some (.cells #[.slice (some ⟨F,0,none⟩) n G] 22 (0,0))/\W.heap[I]? = some (.cells #[y] 22 (0,0))/\FRow W F n (told n (dq d))/\Rws W B 27 2 y (n+1+k) (fflat ((lin d++sqs d k).map ftxt))/\y.ownBlock≠some F
theorem T2St.below {w:World} {B I J H n G:Nat} {d:List Int} {k:Nat} {y:Value} {W W':World} (h:T2St w B I J H n G d k y W) (hB:B<=W.heap.size) (F:Below W.heap.size W W'):T2St w B I J H n G d k y W' :=
 ⟨h.1.trans (F.mono hB),zkeep F _ _ h.2.1,zkeep F _ _ h.2.2.1,h.2.2.2.1.below F,h.2.2.2.2.1.below F,h.2.2.2.2.2⟩
theorem qkY (B p5 Z g5 n c5:Nat) (d:List Int) (y0:Value) (w:World) (hB:B<=w.heap.size) (aH:B<=Z) (hp:p5≠Z) (hn:d.length=n) (aL:n<=4) (hV:qeC d) (aj:∀W,Below B w W->HasT W) (hI:T2St w B p5 Z g5 n c5 d 0 y0 w) :
  Calls prog 113 #[.pointer (some ⟨p5,0,none⟩),.pointer (some ⟨Z,0,none⟩)] w fun e w'=>∃y,e=.returned y/\Rws w' B 27 2 y (n+1+n) (fflat ((termL 2 d).map ftxt))/\Below B w w':=by
 have ax:∀k,Short (dq d k):=fun k=>(dq_cd hV k).short (by decide) (by decide +kernel) (by decide +kernel)
 have az:∀k,Short (dq d k*dq d k):=fun k=>((dq_cd hV k).mul (dq_cd hV k) (by decide) (by decide)).short (by decide) (by decide +kernel) (by decide +kernel)
 have HS:=qH (qA ax (qA az hn));have HI:=qH hI;have aA:=qH aj;have aB:=qC w _ 0 _ _ _ hI.2.1;clear ax az hV hI hn aj;go_enter func113,ntmps113;go_wp2_with fail;clear aB
 go_loopw [7] (fun x7 W=>∃(k:Nat) (y:Value),x7=.int .i64 k/\k<=n/\Hu (T2St w B p5 Z g5 n c5 d k y W/\B<=W.heap.size)) (fun x7 _=>n-(intOf x7).toNat)
 case atStart=>exact⟨0,y0,rfl,qan _,qH ⟨HI.o,hB⟩⟩
 case round =>
  obtain⟨k,y,rfl,hk,K⟩:=hrel
  by_cases ah:k<n
  ·have aK:(k:Int)<n:=by omega
   have ak:=K.o.1.2.2.2.1.cells (qbQ _ _);obtain⟨d0,d1⟩:=ak.cell k (by rw [qbQ];exact ah);rw [qdB ah,qaL] at d0 d1;obtain⟨x1,x2,hx⟩:=qcs (dq d k);rw [hx] at d0 d1;have HX:=qH hx;clear hx ak;go_wp2_with fail;obtain⟨W1,Y⟩:=qY (wr.alloc (.cells #[.string x1,.string x2] 27));rw [<-Y];have af:Below wr.heap.size wr W1:=Y▸qbM qB qN;have av:W1.heap[wr.heap.size]? = some (.cells #[.string x1,.string x2] 27 (0,0)):=by rw [Y];exact qM _ _ _ rfl
   have U:=qH (qA (K.o.1.below K.o.2 af) (qA (qak K.o.2 af.size) av));clear Y af av d0 d1;refine wp_region_held_drew (S:=fun _=>True) (by kernel_rfl) trivial (fun hS0=>?_);refine gr [(0,11),(1,12),(2,13),(3,14),(4,15),(5,16),(6,17),(7,18)] [(3,[1,2]),(4,[3]),(5,[3]),(6,[4,5]),(7,[6])] [] [0,1,2,3,4,5,6,7] [] 8 10
    (fl2 [(0,fun z _=>z=y),(1,fun z _=>z=.agg #[.string x1,.string x2]),(2,fun z _=>z=.agg #[.string x1,.string x2]),(3,fun z _=>z=.tuple #[.agg #[.string (ftxt (dq d k*dq d k)).1,.string (ftxt (dq d k*dq d k)).2],.int .i64 0]),(4,fun z _=>z=.agg #[.string (ftxt (dq d k*dq d k)).1,.string (ftxt (dq d k*dq d k)).2]),(5,fun z _=>z=.int .i64 0),(6,fun z _=>z=.agg #[.string (ftxt (dq d k*dq d k)).1,.string (ftxt (dq d k*dq d k)).2]),
     (7,fun z W=>∃g:Nat,W.heap[g]? = some (.cells #[.string (ftxt (dq d k*dq d k)).1,.string (ftxt (dq d k*dq d k)).2] 27 (0,0))/\z=.slice (some ⟨g,0,none⟩) 1 1)]) _ 2
    (hS:=fun _ _=>trivial) (hstep:=⟨⟨_,rfl,fun v J H G Kk I=>?_⟩,⟨_,rfl,fun v J H G Kk I=>?_⟩,⟨_,rfl,fun v J H G Kk I=>?_⟩,⟨_,rfl,fun v J H G Kk I=>?_⟩,⟨_,rfl,fun v J H G Kk I=>?_⟩,⟨_,rfl,fun v J H G Kk I=>?_⟩,⟨_,rfl,fun v J H G Kk I=>?_⟩,⟨_,rfl,fun v J H G Kk I=>?_⟩,trivial⟩) (hend:=fun v J H G _ fu=>?_)
   ·have h0:=qC _ _ 0 _ _ _ (U.o.1.below U.o.2.1 (qcf H)).2.2.1;exact gV I rfl
   ·have q0:=qC _ _ 0 _ _ _ (zkeep (qcf H) _ _ U.o.2.2);have q1:=qC _ _ 1 _ _ _ (zkeep (qcf H) _ _ U.o.2.2);exact gV I rfl
   ·have q0:=qC _ _ 0 _ _ _ (zkeep (qcf H) _ _ U.o.2.2);have q1:=qC _ _ 1 _ _ _ (zkeep (qcf H) _ _ U.o.2.2);exact gV I rfl
   ·have e1:v 1=_:=G.1;have e2:v 2=_:=G.2.1;have hm:=mulq (HS.o.1 k) (HS.o.1 k) (HS.o.2.1 k) J (aA.o J (U.o.1.below U.o.2.1 (qcf H)).1);rw [HX.o] at hm;exact gC I hm (h:=fun e w4 ⟨e1,h2⟩=>⟨_,e1,rfl,h2⟩)
   ·have e1:v 3=_:=G.1;exact gV I rfl
   ·have e1:v 3=_:=G.1;exact gV I rfl
   ·have e1:v 4=_:=G.1;have e2:v 5=_:=G.2.1;exact gC I (qdk _ _ J) (h:=fun e w4 ⟨e1,h2⟩=>⟨_,e1,rfl,h2⟩)
   ·have e1:v 6=_:=G.1;exact gW I (h:=⟨⟨J.heap.size,qM _ _ _ rfl,rfl⟩,qbM qB qN⟩)
   have e0:v 0=_:=G 0 (by decide) (by decide);obtain⟨g7,au,e7⟩:∃g:Nat,_:=G 7 (by decide) (by decide);have O:=U.o.1.below U.o.2.1 (qcf H);have ai:B<=J.heap.size:=qak U.o.2.1 (qcf H).size;obtain⟨y',w4,hr,V,F⟩:=qgC (m:=1) (c:=1) 22 O.2.2.2.2.1 ai (fc_row au) rfl (by decide) (by omega);obtain⟨h5,aF⟩:=qcW O.2.1 (by rintro e;exact absurd (qfh O.2.2.2.2.1 O.2.1 e) (by decide)) F;obtain⟨h9,aG⟩:=qcW O.2.2.1 (by rintro e;exact absurd (qfh O.2.2.2.2.1 O.2.2.1 e) (by decide)) F;obtain⟨ag,aa⟩:=qcW O.2.2.2.1.1 O.2.2.2.2.2 F;have ae:=qdE O.1 (fun k hk=>(O.2.2.2.2.1.lt k hk).1) ai F;have aI:J.heap.size<=w4.heap.size:=by rcases F with ⟨_,h⟩ | ⟨_,h⟩ <;> exact h.size
   rw [<-List.map_singleton (f:=ftxt),<-qbj,qaA,<-sqs_succ] at V;obtain⟨ay,cy,rfl⟩:=V.shape;rw [e0,e7];have aC:=qC w4 _ 0 _ _ _ h9;have aD:=qF w4 _ 0 _ _ h9;refine hE 8 (he:=by exact qmx rfl rfl rfl rfl hr) (h:=⟨trivial,hN (h:=?_)⟩);refine hSg 9 (h:=⟨trivial,?_⟩);refine wpAnyH_done (by kernel_rfl) ?_ _;have K5:Hu (T2St w B p5 Z g5 n c5 d (k+1) (.slice ay (n+1+k+1) cy) (w4.setCell ⟨Z,0,none⟩ (.slice ay (n+1+k+1) cy))/\B<=(w4.setCell ⟨Z,0,none⟩ (.slice ay (n+1+k+1) cy)).heap.size):=by
    refine qH ⟨⟨ae.setCell (by exact aH) _,(qW _ _ _ _ hp).trans h5,heap_setCell_same _ _ 0 _ _ _ h9,⟨(qW _ _ _ _ (fun e=>absurd (qmv ag h9 e) (by decide))).trans ag,O.2.2.2.1.2⟩,?_,aa⟩,by rw [qbt];omega⟩;exact V.kept (qbO w4 Z 0 _) (qaj (fun e=>absurd (qfh V h9 e) (by decide)))
   clear ae V hr h5 aF h9 aG ag aa F aC aD au G H e0 e7 O;go_wp2;go_roundw
   case rel=>exact⟨k+1,_,by go_num,ah,K5⟩
   case measure=>simp [intOf];omega
  ·obtain rfl:k=n:=by omega
   have aJ:=qC wr _ 0 _ _ _ K.o.1.2.2.1;go_wp2;go_ret;exact⟨y,rfl,by rw [qmL,HS.o.2.2];exact K.o.1.2.2.2.2.1,K.o.1.1⟩
def half (d:List Int) (k j:Nat):List Rat:=prods d k++((prods d k).take j).map fun p=>p*dq d k
theorem qlE (d:List Int) (k:Nat):half d k 0=prods d k:=by simp [half]
theorem qlD {d:List Int} {k j:Nat} (h:j<2 ^ k):half d k (j+1)=half d k j++[(prods d k).getD j 0*dq d k]:=by
 unfold half;have F:j<(prods d k).length:=by rw [qej];exact h
 rw [List.take_succ_eq_append_getElem F,qbj,qaA,qab,qad F]
 rfl
theorem half_all (d:List Int) (k:Nat):half d k (2 ^ k)=prods d (k+1):=by
 unfold half;rw [qal (by rw [qej];exact qae _)];rfl
def T3St (w:World) (B H _p8 F n G:Nat) (d:List Int) (L:List Rat) (m:Nat) (y:Value) (W:World):Prop :=
 Below B w W/\B<=W.heap.size/\W.heap[H]? = some (.cells #[.slice (some ⟨F,0,none⟩) n G] 22 (0,0))/\FRow W F n (told n (dq d))/\Rws W B 27 2 y m (fflat (L.map ftxt))/\y.ownBlock≠some F
theorem T3St.below {w:World} {B I J H n G m:Nat} {d:List Int} {L:List Rat} {y:Value} {W W':World} (h:T3St w B I J H n G d L m y W) (F:Below W.heap.size W W'):T3St w B I J H n G d L m y W' :=
 ⟨h.1.trans (F.mono h.2.1),qak h.2.1 F.size,zkeep F _ _ h.2.2.1,h.2.2.2.1.below F,h.2.2.2.2.1.below F,h.2.2.2.2.2⟩
theorem qkZ (B p5 p8 g5 n c5:Nat) (d:List Int) (w:World) (hB:B<=w.heap.size) (hn:d.length=n) (aZ:n<=3) (hV:qeC d) (aA:∀W,Below B w W->HasT W)
  (h5:w.heap[p5]? = some (.cells #[.slice (some ⟨g5,0,none⟩) n c5] 22 (0,0))) (h8:w.heap[p8]? = some (.cells #[.string (ftxt 1).1,.string (ftxt 1).2] 27 (0,0))) (hF:FRow w g5 n (told n (dq d))) :
  Calls prog 115 #[.pointer (some ⟨p8,0,none⟩),.pointer (some ⟨p5,0,none⟩)] w fun e w'=>∃y,e=.returned y/\Rws w' B 27 2 y (2 ^ n) (fflat ((termL 3 d).map ftxt))/\Below B w w':=by
 have aI:∀k,Short (dq d k):=fun k=>(dq_cd hV k).short (by decide) (by decide +kernel) (by decide +kernel)
 have aH:∀k,k<=3->∀p∈prods d k,Short p:=fun k hk p hp=>(qfi (by decide) (dq_cd hV) k p hp).short (qbf (Nat.pow_pos (by decide))) (qaX (qaZ (by decide) hk) qjG) (qaX (qaZ (by decide) hk) qjG)
 have HS:=qH (qA aI (qA aH hn));have aM:=qH aA;obtain⟨s1,s2,Z⟩:=qcs 1;rw [Z] at h8;have Hs:=qH Z;have aO:=qC w _ 0 _ _ _ h8;have aP:=qC w _ 1 _ _ _ h8;have HI:=qH (qA h5 hF);clear aI aH hV hn aA h8 Z h5 hF;obtain⟨W1,aS,K1⟩:=nw1 w #[.string s1,.string s2] 27;have k5:=zkeep K1.o.1 _ _ HI.o.1;have I1:Hu (T3St w B p5 p8 g5 n c5 d (prods d 0) 1 (.slice (some ⟨w.heap.size,0,none⟩) 1 1) W1):=by
  refine qH ⟨K1.o.1.mono hB,qak hB K1.o.1.size,k5,HI.o.2.below K1.o.1,?_,?_⟩
  ·rw [show (prods d 0).map ftxt=[(s1,s2)] by rw [<-Hs.o];rfl];exact qmy K1.o.2 hB
  ·intro e;have e2:w.heap.size=g5:=qag e;have:=(qG HI.o.2.1).1;omega
 have aN:=qC w _ 0 _ _ _ HI.o.1;have aY:=(qG HI.o.1).1;clear k5 K1;go_enter func115,ntmps115;go_wp2_with fail;clear aN aO aP
 go_loopw [3,12] (fun x3 x12 W=>∃(k:Nat),x12=.int .i64 k/\k<=n/\Hu (T3St w B p5 p8 g5 n c5 d (prods d k) (2 ^ k) x3 W)) (fun _ x12 _=>n-(intOf x12).toNat)
 case atStart=>exact⟨0,rfl,qan _,aS▸I1⟩
 case round =>
  obtain⟨k,rfl,hk,K⟩:=hrel;obtain⟨M,hM⟩:=qX (2 ^ k);have aV:M<=8:=by rw [<-hM];exact qaZ (by decide) (show k<=3 by omega)
  have aR:0<M:=by rw [<-hM];exact Nat.pow_pos (by decide)
  have I:((prods d k).map ftxt).length=M:=by rw [qaF,qej];exact hM
  rw [hM] at K;obtain⟨ao,g6,cy,rfl,ak,_⟩:=qdL K.o.2.2.2.2.1 I;have aU:=ak.addr (by omega);subst aU;have HM:=qH (qA hM (qA I ak));clear hM I ak
  by_cases ax:k<n
  ·have aX:(k:Int)<n:=by omega
   obtain⟨d0,d1⟩:=(K.o.2.2.2.1.cells (qbQ _ _)).cell k (by rw [qbQ];exact ax);rw [qdB ax,qaL] at d0 d1;obtain⟨v1,v2,hv⟩:=qcs (dq d k);rw [hv] at d0 d1;have HV:=qH hv;have bf:=qC wr _ 0 _ _ _ K.o.2.2.1;obtain⟨W2,aT,K2⟩:=nw1 wr #[.string v1,.string v2] 27;have ai:=(qG K2.o.2).1;have J0:Hu (T3St w B p5 p8 g5 n c5 d (half d k 0) (M+0) (.slice (some ⟨g6,0,none⟩) M cy) W2/\W2.heap[wr.heap.size]? = some (.cells #[.string v1,.string v2] 27 (0,0))/\FCells W2 (some ⟨g6,0,none⟩) g6 0 ((prods d k).map ftxt)/\(Value.slice (some ⟨g6,0,none⟩) M cy).ownBlock≠some wr.heap.size) :=
    qH ⟨by rw [qlE];exact K.o.below K2.o.1,K2.o.2,HM.o.2.2.below K2.o.1,fun e=>by
     have e2:g6=wr.heap.size:=qag e;have:=(K.o.2.2.2.2.1.lt g6 rfl).2;omega⟩
   clear hv ai K2;go_wp2_with fail;obtain⟨b5,aD⟩:∃b,wr.heap.size=b:=⟨_,rfl⟩;rw [aD] at J0 ⊢;clear aD
   go_loopw [3,18] (fun x3 x18 W=>∃(j:Nat),x18=.int .i64 j/\j<=M/\Hu (T3St w B p5 p8 g5 n c5 d (half d k j) (M+j) x3 W/\W.heap[b5]? = some (.cells #[.string v1,.string v2] 27 (0,0))/\FCells W (some ⟨g6,0,none⟩) g6 0 ((prods d k).map ftxt)/\x3.ownBlock≠some b5)) (fun _ x18 _=>M-(intOf x18).toNat)
   case atStart=>exact⟨0,rfl,qan _,aT▸J0⟩
   case round =>
    obtain⟨j,rfl,hj,J⟩:=hrel;obtain⟨ay,aQ,rfl⟩:=J.o.1.2.2.2.2.1.shape
    by_cases av:j<M
    ·have aW:(j:Int)<M:=by omega
     obtain⟨q0,q1⟩:=J.o.2.2.1.cell j (by rw [HM.o.2.1];exact av);have ae:j<(prods d k).length:=by have:=HM.o.2.1;rw [qaF] at this;omega
     have aG:((prods d k).map ftxt).getD j fd0=ftxt ((prods d k).getD j 0):=by
      rw [qab,qab,qaS,qad ae];rfl
     obtain⟨p,hp⟩:=qX ((prods d k).getD j 0);rw [aG,hp,qaL] at q0 q1;obtain⟨p1,p2,Y⟩:=qcs p;rw [Y] at q0 q1;have az:p∈prods d k:=by rw [<-hp,qab,qad ae];exact qbG ae
     have aj:p*dq d k∈prods d (k+1):=by
      show _∈prods d k++_
      exact qaG.2 (qaj (qbl.2 ⟨p,az,rfl⟩))
     obtain⟨z1,z2,hz⟩:=qcs (p*dq d k);have U:=fun (W:World) (h:Below B w W)=>mulq (HS.o.2.1 k (by omega) p az) (HS.o.1 k) (HS.o.2.1 (k+1) (by omega) _ aj) W (aM.o W h)
     rw [Y,HV.o,hz] at U;have aL:=qH U;have HP:=qH (qA hp hz);have r0:=qC wr _ 0 _ _ _ J.o.2.1;have r1:=qC wr _ 1 _ _ _ J.o.2.1;have ai:=(qG J.o.2.1).1;obtain⟨V1,aB,N1⟩:=nw1 wr #[.string p1,.string p2] 27;have J1:=qH (qA (J.o.1.below N1.o.1) (qA (zkeep N1.o.1 _ _ J.o.2.1) (qA (J.o.2.2.1.below N1.o.1) J.o.2.2.2)));clear ae aG hp Y az aj hz U N1;go_wp2_with fail;rw [<-aB];clear aB r0 r1 q0 q1;refine (aL.o V1 J1.o.1.1).mono ?_;rintro e w3 ⟨rfl,aa⟩;have J2:=qH (qA (J1.o.1.below aa) (qA (zkeep aa _ _ J1.o.2.1) (qA (J1.o.2.2.1.below aa) J1.o.2.2.2)));clear aa;go_wp2_with fail;refine (qdk z1 z2 w3).mono ?_;rintro e w4 ⟨rfl,au⟩;obtain⟨V2,aC,N2⟩:=nw1 w4 #[.string z1,.string z2] 27;have H:=au.trans (N2.o.1.mono au.size);have G:=qH (qA (J2.o.1.below H) (qA (zkeep H _ _ J2.o.2.1) (qA (J2.o.2.2.1.below H) J2.o.2.2.2)));obtain⟨y',w5,hr,af,F⟩:=qgC (m:=1) (c:=1) 22 G.o.1.2.2.2.2.1 G.o.1.2.1 (fc_row N2.o.2) rfl (by decide) (by omega);have O:((half d k j).map ftxt++[(z1,z2)]).length=M+j+1:=by
      have h1:=G.o.1.2.2.2.2.1.1;rw [qce] at h1;rw [qaf];show _+1=_;omega
     have V:=FCells.appended G.o.2.2.1 (by rw [HM.o.2.1];exact aR) O af ⟨(((prods d k).take j).map fun p=>p*dq d k).map ftxt,by unfold half;rw [qbj]⟩ F;obtain⟨r5,_⟩:=qcW G.o.1.2.2.1 (by rintro e;exact absurd (qfh G.o.1.2.2.2.2.1 G.o.1.2.2.1 e) (by decide)) F;obtain⟨rg,aK⟩:=qcW G.o.1.2.2.2.1.1 G.o.1.2.2.2.2.2 F;have aJ:V2.heap.size<=w5.heap.size:=by rcases F with ⟨_,h⟩ | ⟨_,h⟩ <;> exact h.size
     have aF:=qdE G.o.1.1 (fun k hk=>(G.o.1.2.2.2.2.1.lt k hk).1) G.o.1.2.1 F;obtain⟨ag,ah⟩:=qcW G.o.2.1 G.o.2.2.2 F;rw [show (z1,z2)=ftxt ((prods d k).getD j 0*dq d k) by rw [HP.o.1];exact HP.o.2.symm,<-List.map_singleton (f:=ftxt),<-qbj,<-qlD (by rw [HM.o.1];exact av)] at af;have J4:Hu (T3St w B p5 p8 g5 n c5 d (half d k (j+1)) (M+(j+1)) y' w5/\w5.heap[b5]? = some (.cells #[.string v1,.string v2] 27 (0,0))/\FCells w5 (some ⟨g6,0,none⟩) g6 0 ((prods d k).map ftxt)/\y'.ownBlock≠some b5) :=
      qH ⟨⟨aF,qak G.o.1.2.1 aJ,r5,⟨rg,G.o.1.2.2.2.1.2⟩,af,aK⟩,ag,V,ah⟩
     clear au H af F O V r5 rg aK aJ aF ag ah N2;rw [aC] at hr;clear aC
     go_wp2_with ((with_reducible refine qdZ rfl (.tmp 22) (.tmp 29) 22 rfl ?_ ?_ hr ?_);(next=>rfl);(next=>rfl))
     go_roundw
     case rel=>exact⟨j+1,by go_num,av,J4⟩
     case measure=>simp [intOf];omega
    ·obtain rfl:j=M:=by omega
     have J1:Hu (T3St w B p5 p8 g5 n c5 d (prods d (k+1)) (2 ^ (k+1)) (.slice ay (j+j) aQ) wr):=qH (by
      have h:=J.o.1;rw [show half d k j=prods d (k+1) by rw [<-HM.o.1];exact half_all d k] at h;rw [show 2 ^ (k+1)=j+j by rw [qaQ,HM.o.1];omega];exact h)
     go_wp2;go_roundw
     case rel=>exact⟨k+1,by go_num,ax,J1⟩
     case measure=>simp [intOf];omega
  ·obtain rfl:k=n:=by omega
   go_wp2;go_ret;exact⟨_,rfl,by rw [qmM,HS.o.2.2,HM.o.1];exact K.o.2.2.2.2.1,K.o.1⟩
