import Derived.Test.YtplkdeknjghobaaGreatDoorBb22
import Derived.Test.YtplkdeknjghobaaGreatDoorBb24
set_option maxRecDepth 100000
set_option maxHeartbeats 0
namespace Go.Proofs.YtplkdeknjghobaaGreatDoor
open Go.RowKit
theorem apq_mdq {k n m:Nat} {X:Nat->Nat->Rat} {dv:List Int} {F c:Nat} (J:many F dv.length<=m) (H:c<3):apq (mdq k n m X) dv F c=sumQ (many F dv.length) fun j=>termQ F dv j*X c j:=by
 unfold apq;rw [qeo H];exact qbX fun i I=>by rw [qcU (by omega)]
theorem ApAs.only {w:World} {m:Md} {k:Nat} {dv:List Int} {e:Ending} {I:World} (h:ApAs w m dv e I) (H:MdOk m k dv.length) (J:qcJ dv) (U:∀c,c<3->Short (apq m dv k c)):Below w.heap.size w I /\
  e=.returned (.tuple #[.agg #[.string (ftxt (apq m dv k 0)).1,.string (ftxt (apq m dv k 0)).2,.string (ftxt (apq m dv k 1)).1,.string (ftxt (apq m dv k 1)).2,.string (ftxt (apq m dv k 2)).1,.string (ftxt (apq m dv k 2)).2],.int .i64 0]):=by
 refine⟨h.1,?_⟩;rcases h.2 with ⟨v,rfl,_,k',F,_,rfl⟩ | ⟨c,rfl,O⟩
 ·obtain rfl:=(H.uniq F).1;rfl
 ·exfalso;rcases O with ⟨h,_⟩ | ⟨_,h,_⟩ | ⟨_,_,k',F,h⟩
  ·exact h ⟨_,_,H⟩
  ·exact h ⟨H.inn.1.symm,J⟩
  ·obtain rfl:=(H.uniq F).1;exact h U
def ramp:List Pt:=[⟨⟨#[97]⟩,[0],0,0,0⟩,⟨⟨#[98]⟩,[5000],6000,0,0⟩,⟨⟨#[99]⟩,[10000],10000,0,0⟩]
theorem qh8:PtsOk ramp where
 r1:=by decide
 r2:=by decide
 rows:=fun k H=>by
  have H:k<3:=H;rcases (show k=0\/k=1\/k=2 by omega) with rfl | rfl | rfl
  ·exact⟨⟨qh2 (by decide),by decide,by decide,qfJ (by decide),by decide,by decide,by decide⟩,rfl⟩
  ·exact⟨⟨qh2 (by decide),by decide,by decide,qfJ (by decide),by decide,by decide,by decide⟩,rfl⟩
  ·exact⟨⟨qh2 (by decide),by decide,by decide,qfJ (by decide),by decide,by decide,by decide⟩,rfl⟩
 apart:=fun i k I F=>by
  have F:i<3:=F;rcases (show (k=0/\i=1)\/(k=0/\i=2)\/(k=1/\i=2) by omega) with ⟨rfl,rfl⟩ | ⟨rfl,rfl⟩ | ⟨rfl,rfl⟩
  ·exact (by decide:(⟨#[97]⟩:ByteArray)≠⟨#[98]⟩)
  ·exact (by decide:(⟨#[97]⟩:ByteArray)≠⟨#[99]⟩)
  ·exact (by decide:(⟨#[98]⟩:ByteArray)≠⟨#[99]⟩)
def fitX1 (c:Nat):Nat->Rat:=if c=0 then fv [10 / 3,100] else fv [0,0]
def fitX2 (c:Nat):Nat->Rat:=if c=0 then fv [0,140,-40] else fv [0,0,0]
theorem fit1_x:∀c,c<3->FitX ramp 1 [1,1,1] c (fitX1 c)/\qb2 2 (fitX1 c):=fun c F=>by
 rcases (show c=0\/c=1\/c=2 by omega) with rfl | rfl | rfl
 ·exact⟨show ∀i,i<2->_ from by decide +kernel,qcS (by decide +kernel)⟩
 ·exact⟨show ∀i,i<2->_ from by decide +kernel,qcS (by decide +kernel)⟩
 ·exact⟨show ∀i,i<2->_ from by decide +kernel,qcS (by decide +kernel)⟩
theorem fit2_x:∀c,c<3->FitX ramp 2 [1,1,1] c (fitX2 c)/\qb2 3 (fitX2 c):=fun c F=>by
 rcases (show c=0\/c=1\/c=2 by omega) with rfl | rfl | rfl
 ·exact⟨show ∀i,i<3->_ from by decide +kernel,qcS (by decide +kernel)⟩
 ·exact⟨show ∀i,i<3->_ from by decide +kernel,qcS (by decide +kernel)⟩
 ·exact⟨show ∀i,i<3->_ from by decide +kernel,qcS (by decide +kernel)⟩
theorem fit1_one:¬Sing 2 (nq ramp 1 [1,1,1] 0):=qiT (fm [[5 / 6,-1],[-1,2]]) (by decide +kernel)
theorem fit2_one:¬Sing 3 (nq ramp 2 [1,1,1] 0):=qiT (fm [[1,-3,2],[-3,26,-24],[2,-24,24]]) (by decide +kernel)
theorem qmh:Sing 3 (nq ramp 2 [1,1,0] 0):=⟨fv [0,1,-2],⟨1,by decide,by decide +kernel⟩,show ∀i,i<3->_ from by decide +kernel⟩
theorem qnh:WOk [1,1,1]:=show ∀k,k<3->_ from by decide
theorem ones0_ok:WOk [1,1,0]:=show ∀k,k<3->_ from by decide
theorem ex_fit1 {w F:World} {e:Ending} (h:FitAs w ramp 1 [1,1,1] e F):Below w.heap.size w F/\∃v,e=.returned (.tuple #[v,.int .i64 0])/\MdAt F v (mdq 1 1 2 fitX1) :=
 h.only qh8 rfl qnh kind1 (by decide) fit1_one fit1_x
theorem ex_fit2 {w F:World} {e:Ending} (h:FitAs w ramp 2 [1,1,1] e F):Below w.heap.size w F/\∃v,e=.returned (.tuple #[v,.int .i64 0])/\MdAt F v (mdq 2 1 3 fitX2) :=
 h.only qh8 rfl qnh kind2 (by decide) fit2_one fit2_x
theorem ex_fit3 {w F:World} {e:Ending} (h:FitAs w ramp 2 [1,1,0] e F):Below w.heap.size w F/\e=.returned (.tuple #[mdv0,.int .i64 7]) :=
 h.sing qh8 rfl ones0_ok kind2 (by decide) qmh
theorem qiJ:MdOk (mdq 1 1 2 fitX1) 1 1:=qmT (k:=1) (n:=1) (by decide) (by decide) (by decide) (by decide) fun c F=>(fit1_x c F).2
theorem ex_ap {c:Nat} (F:c<3):apq (mdq 1 1 2 fitX1) [5000] 1 c=if c=0 then 160 / 3 else 0:=by
 rw [apq_mdq (by decide) F];rcases (show c=0\/c=1\/c=2 by omega) with rfl | rfl | rfl <;> decide +kernel
theorem ex_apply {w F:World} {e:Ending} (h:ApAs w (mdq 1 1 2 fitX1) [5000] e F):Below w.heap.size w F/\e=.returned (.tuple #[.agg #[.string ⟨#[49,54,48]⟩,.string ⟨#[51]⟩,.string ⟨#[48]⟩,.string ⟨#[49]⟩,.string ⟨#[48]⟩,.string ⟨#[49]⟩],.int .i64 0]):=by
 obtain⟨I,he⟩:=h.only qiJ (qfJ (by decide)) (fun c J=>by
  rw [ex_ap J];rcases (show c=0\/c=1\/c=2 by omega) with rfl | rfl | rfl
  ·exact qdk (N:=1000) ⟨by decide +kernel,by decide +kernel⟩ (by decide +kernel)
  ·exact qdk (N:=1000) ⟨by decide +kernel,by decide +kernel⟩ (by decide +kernel)
  ·exact qdk (N:=1000) ⟨by decide +kernel,by decide +kernel⟩ (by decide +kernel))
 refine⟨I,he.trans ?_⟩;rw [ex_ap (c:=0) (by decide),ex_ap (c:=1) (by decide),ex_ap (c:=2) (by decide),if_pos rfl,if_neg (by decide),if_neg (by decide),ft_0];have H:ftxt (160 / 3)=(⟨#[49,54,48]⟩,⟨#[51]⟩):=by
  unfold ftxt;rw [show ((160 / 3:Rat)).num=160 by decide +kernel,show ((160 / 3:Rat)).den=3 by decide +kernel,qdb (by decide),qev (u:=3) (by decide)];unfold num;rw [show (160:Int).natAbs=160 from rfl,qca (by decide),show 160 / 10=16 from rfl,qca (by decide),qb1 (by decide)]
  rfl
 rw [H]
theorem ex_sq:∀i,i<3->sqq (mdq 1 1 2 fitX1) ramp 1 i=fv [100 / 9,400 / 9,100 / 9] i:=fun i F=>by
 rw [sqq_mdq (by decide)];rcases (show i=0\/i=1\/i=2 by omega) with rfl | rfl | rfl <;> decide +kernel
theorem qkY {w F:World} {e:Ending} (h:SqAs w (mdq 1 1 2 fitX1) ramp e F):Below w.heap.size w F/\∃g,e=.returned (.tuple #[.slice (some ⟨g,0,none⟩) 3 3,.int .i64 0])/\FCells F (some ⟨g,0,none⟩) g 0 (told 3 (fv [100 / 9,400 / 9,100 / 9])):=by
 obtain⟨J,g,he,H⟩:=h.only qh8 qiJ (fun i I=>by rw [ex_sq i I];exact qcS (n:=3) (by decide +kernel) i I);refine⟨J,g,he,?_⟩;have:told ramp.length (sqq (mdq 1 1 2 fitX1) ramp 1)=told 3 (fv [100 / 9,400 / 9,100 / 9]):=qeV ex_sq;rw [this] at H;exact H
open Go.Proofs.Tryz
theorem qnt (k n:Nat) (I:1<=k/\k<=3) (J:1<=n/\n<=4) (w:World):Calls prog 62 #[.int .i64 (k:Int),.int .i64 (n:Int)] w fun e F=>e=.returned (.int .i64 (many k n:Nat))/\F=w:=by
 rcases (show k=1\/k=2\/k=3 by omega) with rfl | rfl | rfl
 ·have H:(n:Int)+1<=9223372036854775807:=by omega
  go_enter func62,ntmps62;go_wp2;go_ret;exact⟨by unfold many;simp;omega,rfl⟩
 ·go_enter func62,ntmps62;go_wp2;go_ret;exact⟨by unfold many;simp;omega,rfl⟩
 ·rcases (show n=1\/n=2\/n=3\/n=4 by omega) with rfl | rfl | rfl | rfl
  all_goals
   go_enter func62,ntmps62;go_wp2;go_ret;exact⟨rfl,rfl⟩
theorem infoI64:(Tryz.prog.info? 3).map (fun i=>(i.zero,i.size,i.bytes))=some (some (.int .i64 0),1,8):=by kernel_rfl
def GivesI (I:FuncId) (H:Array Value) (w:World) (n:Nat) (P:Nat->Int->Prop) (F:Nat->Int->Prop):Prop :=
 ∀i,i<n->∀W,Below w.heap.size w W->Calls prog I (#[.int .i64 (i:Int)]++H) W fun e J=>Below W.heap.size W J/\((∃z,e=.returned (.int .i64 z)/\P i z)\/∃c,e=thrown c/\F i c)
theorem qjG (fc:FuncId) (H:Array Value) (n:Nat) (hn:n<=1000) (P:Nat->Int->Prop) (F:Nat->Int->Prop) (w:World) (ag:∀a W,(callFunc fc (#[a]++H)).run prog W=.ok (.enter fc (#[a]++H)) W) (hf:GivesI fc H w n P F) :
  Calls prog 90 #[.int .i64 (n:Int),.func (.func fc) #[] H] w fun e w'=>Below w.heap.size w w' /\
   ((∃(l:List Int) (g:Nat),l.length=n/\(∀i,i<n->P i (l.getD i 0))/\e=.returned (.slice (some ⟨g,0,none⟩) n n)/\VRow w' g n (.int .i64 0) 3 (l.map fun z=>.int .i64 z)/\w.heap.size<=g)\/∃i c,i<n/\e=thrown c/\F i c):=by
 have af:=run_make_row' (P:=prog) 32 3 (.int .i64 0) 8 underlying32 infoI64 rfl .i64 .i64 n (by omega) (by omega) w;obtain⟨W5,U⟩:=qY (w.alloc (.cells (madeCells #[.int .i64 0] n) 3));rw [<-U] at af;have ae:VRow W5 w.heap.size n (.int .i64 0) 3 []:=U▸VRow.made' w n _ _;have aa:Below w.heap.size w W5:=U▸qB.alloc qN _;have H0:=qH (qA ae (qA aa hf));clear ae aa hf U;go_enter func90,ntmps90;go_wp2_with fail
 go_loopw [10] (fun x10 W=>∃i:Nat,x10=.int .i64 i/\i<=n/\Hu (∃l:List Int,l.length=i/\(∀j,j<i->P j (l.getD j 0))/\VRow W w.heap.size n (.int .i64 0) 3 (l.map fun z=>.int .i64 z)/\Below w.heap.size w W)) (fun x10 _=>n-(intOf x10).toNat)
 case atStart=>exact⟨0,rfl,qal _,qH ⟨[],rfl,fun j hj=>absurd hj (by omega),H0.o.1,H0.o.2.1⟩⟩
 case round =>
  obtain⟨i,rfl,ai,hI⟩:=hrel;obtain⟨l,hl,hP,hV,hB⟩:=hI.o
  by_cases hi:i<n
  ·subst hl;have ah:(l.length:Int)<n:=by omega
   have HC:=qH (H0.o.2.2 l.length hi _ hB);have Z:=qH (qA hP (qA hV hB));clear hI hP hV hB;go_wp2_with fail;refine HC.o.mono ?_;rintro e w2 ⟨J,h⟩;rcases h with ⟨z,rfl,hp⟩ | ⟨c,rfl,hF⟩
   ·have Y:=Z.o.2.1.below J;have I:(l.map fun z=>Value.int .i64 z).length=l.length:=qav _;obtain⟨q0,qf⟩:=Y.at (by rw [I];exact hi);have O:=Y.set (by rw [I];exact hi) (.int .i64 z);rw [I] at q0 O;have aj:=qf l.length;have V:=qH (qA O (qA ((Z.o.2.2.trans (J.mono Z.o.2.2.size)).setCell (p:=⟨w.heap.size,l.length,none⟩) qN (.int .i64 z)) hp));clear Y qf J hp O I;go_wp2;go_roundw
    case rel =>
     refine⟨l.length+1,by go_num,hi,qH ⟨l++[z],by simp,fun j hj=>?_,by rw [qa3];exact V.o.1,V.o.2.1⟩⟩;rcases qaQ j l.length with hj2 | hj2
     ·rw [qaa,qas hj2,<-qaa];exact Z.o.1 j hj2
     ·have:j=l.length:=by omega
      subst this;rw [qaa,qaq qN,qaG];exact V.o.2.2
    case measure=>simp [intOf];omega
   ·have V:=qH (qA (Z.o.2.2.trans (J.mono Z.o.2.2.size)) hF);clear J hF;unfold thrown;go_wp2_with fail;exact⟨rfl,V.o.1,qag ⟨_,c,hi,rfl,V.o.2⟩⟩
  ·obtain rfl:i=n:=by omega
   have V:=qH (qA hl (qA hP (qA hV hB)));clear hI hl hP hV hB;go_wp2;go_ret;obtain⟨h1,h2,h3,h4⟩:=V.o;exact⟨h4,qan ⟨l,_,h1,h2,rfl,h3,qae _⟩⟩
def SameAs (w:World) (l l2:List FT) (e:Ending) (F:World):Prop:=∃ok,e=.returned (.bool ok)/\(ok=true↔l=l2)/\Below w.heap.size w F
theorem qnQ {l l2:List FT} {k:Nat} (F:k<l.length) (H:k<l2.length) (h:l.take k=l2.take k) (e:l.getD k fd0=l2.getD k fd0):l.take (k+1)=l2.take (k+1):=by
 rw [List.take_add_one,List.take_add_one,h]
 congr 1
 rw [qaa,qaa,qad F,qad H] at e;rw [qad F,qad H];exact congrArg (fun x=>(some x).toList) e
theorem qkt {a b:ByteArray} (h:a≠b):¬a.toList=b.toList:=by
 rw [ByteArray.toList_eq,ByteArray.toList_eq];intro e;apply h;obtain⟨⟨x⟩⟩:=a;obtain⟨⟨y⟩⟩:=b;cases e;rfl
theorem qmp {l l2:List FT} {k:Nat} (h:l.getD k fd0≠l2.getD k fd0):¬l=l2:=fun e=>h (by rw [e])
theorem qfC (ao:Option Addr) (b off n c:Nat) (l:List FT) (aa:Option Addr) (b2 af m c2:Nat) (l2:List FT) (w:World) (hn:l.length=n) (ak:n<=1000000) (hc:FCells w ao b off l) (hm:l2.length=m) (ai:m<=1000000) (ae:FCells w aa b2 af l2) :
  Calls prog 36 #[.slice ao n c,.slice aa m c2] w fun e w'=>SameAs w l l2 e w':=by
 have F:=qH (qA hc (qA hn (qA ae hm)));clear hc ae
 by_cases hne:n=m
 ·subst hne;clear hn hm ai;go_enter func36,ntmps36;go_wp2_with fail
  go_loopw [5] (fun x5 W=>∃k:Nat,x5=.int .i64 k/\k<=n/\Hu (l.take k=l2.take k)/\Hu (Below w.heap.size w W)) (fun x5 _=>n-(intOf x5).toNat)
  case atStart=>exact⟨0,rfl,qal _,qH rfl,qH qB⟩
  case round =>
   obtain⟨k,rfl,hk,hI,Y⟩:=hrel
   by_cases H:k<n
   ·have aj:(k:Int)<n:=by omega
    have ah:=F.o.1.addr (by rw [F.o.2.1];omega);subst ah;have ag:=F.o.2.2.1.addr (by rw [F.o.2.2.2];omega);subst ag;obtain⟨h1,h2⟩:=(F.o.1.below Y.o).cell k (by rw [F.o.2.1];exact H);obtain⟨h3,h4⟩:=(F.o.2.2.1.below Y.o).cell k (by rw [F.o.2.2.2];exact H);obtain⟨x1,I⟩:=qX ((l.getD k fd0).1);obtain⟨x2,J⟩:=qX ((l.getD k fd0).2);obtain⟨y1,O⟩:=qX ((l2.getD k fd0).1);obtain⟨y2,U⟩:=qX ((l2.getD k fd0).2);rw [I] at h1;rw [J] at h2;rw [O] at h3;rw [U] at h4;have V:Hu (l.getD k fd0=(x1,x2)/\l2.getD k fd0=(y1,y2)):=qH ⟨by rw [<-I,<-J],by rw [<-O,<-U]⟩;clear I J O U
    by_cases g1:x1=y1
    ·by_cases g2:x2=y2
     ·subst g1;subst g2;have HI:=qH (qnQ (by rw [F.o.2.1];exact H) (by rw [F.o.2.2.2];exact H) hI.o (V.o.1.trans V.o.2.symm));go_wp2_with fail
      go_quiet (fail)
      go_wp2;go_roundw
      case rel=>exact⟨k+1,by go_num,H,HI,qH (below_drewN Y.o _)⟩
      case measure=>simp [intOf];omega
     ·subst g1;have Z:=qH (qmp (l:=l) (l2:=l2) (k:=k) (by rw [V.o.1,V.o.2];exact fun h=>g2 (congrArg Prod.snd h)));have g3:=qkt g2;clear g2;go_wp2_with fail
      go_quiet (fail)
      go_wp2;go_ret;exact⟨false,rfl,qeb Z.o,below_drewN Y.o _⟩
    ·have Z:=qH (qmp (l:=l) (l2:=l2) (k:=k) (by rw [V.o.1,V.o.2];exact fun h=>g1 (congrArg Prod.fst h)));have g3:=qkt g1;clear g1;go_wp2_with fail
     go_quiet (fail)
     go_wp2;go_ret;exact⟨false,rfl,qeb Z.o,below_drewN Y.o _⟩
   ·obtain rfl:k=n:=by omega
    have hE:l=l2:=by have h:=hI.o;rwa [qak (by rw [F.o.2.1];exact qae _),qak (by rw [F.o.2.2.2];exact qae _)] at h
    have HE:=qH hE;clear hE;go_wp2;go_ret;exact⟨true,rfl,qj5 HE.o,Y.o⟩
 ·have hb:((n:Int) != (m:Int))=true:=by rw [bne_iff_ne];omega
  have Z:Hu (¬l=l2):=qH (fun h=>hne (by rw [<-hn,<-hm,h]));go_enter func36,ntmps36;go_wp2;go_ret;exact⟨false,rfl,qeb Z.o,Below.refl _ _⟩
def cutA (s:ByteArray):ByteArray:=⟨(Lib.cut s.data.toList [47]).1.toArray⟩
def cutB (s:ByteArray):ByteArray:=⟨(Lib.cut s.data.toList [47]).2.1.toArray⟩
def cutC (s:ByteArray):Bool:=(Lib.cut s.data.toList [47]).2.2
theorem scut_any (s:ByteArray) (Z:s.size<=65536) (w:World) :
  Calls prog 151 #[.string s,.string ⟨#[47]⟩] w fun e V=>e=.returned (.tuple #[.string (cutA s),.string (cutB s),.bool (cutC s)])/\Below w.heap.size w V:=by
 have O:Hu (∀W:World,_):=fun (W:World)=>Tryz.stringslite_Index_one s 47 W
 have H:Lib.indexB s ⟨#[47]⟩=Lib.indexByte s.data.toList 47:=Lib.index_one s.data.toList 47;rcases Lib.indexB_cases s ⟨#[47]⟩ with F | ⟨i,F,I⟩
 ·obtain⟨e1,e2,e3⟩:=Lib.cutB_miss s ⟨#[47]⟩ F;rw [H] at F;rw [show cutA s=s from e1,show cutB s=ByteArray.empty from e2,show cutC s=false from e3];have J:=qH F;clear F H e1 e2 e3;go_enter func151,ntmps151;go_wp2_with fail;refine (O.o _).mono ?_;rintro e Y ⟨rfl,rfl⟩;rw [J.o];go_wp2_with fail
  go_ret3
  exact⟨rfl,Below.refl _ _⟩
 ·obtain⟨e1,e2,e3⟩:=Lib.cutB_hit s ⟨#[47]⟩ i F;rw [H] at F;rw [show cutA s=_ from e1,show cutB s=_ from e2,show cutC s=true from e3];have U:(⟨#[47]⟩:ByteArray).size=1:=rfl;rw [U] at I ⊢;have J:=qH F;have c1:(0:Int)<=↑i:=by omega
  have c2:(↑i:Int)<=↑s.size:=by omega
  have c3:(0:Int)<=↑i+1:=by omega
  have c4:(↑i+1:Int)<=↑s.size:=by omega
  have c5:IntKind.i64.wrap (↑i+1)=↑i+1:=by simp [IntKind.wrap,IntKind.bits,IntKind.signed];omega
  have mixed:Tryz.prog.follows .mixedOrders=true:=by kernel_rfl
  clear F H e1 e2 e3;go_enter func151,ntmps151;go_wp2_with fail;refine (O.o _).mono ?_;rintro e Y ⟨rfl,rfl⟩;rw [J.o];go_wp2_with fail
  go_region_o
  go_wp2
  go_ret3
  exact⟨rfl,qB.drew⟩
theorem qnA (s:ByteArray) (J:s.size<=65536) (w:World) :
  Calls prog 81 #[.string s,.string ⟨#[47]⟩] w fun e O=>e=.returned (.tuple #[.string (cutA s),.string (cutB s),.bool (cutC s)])/\Below w.heap.size w O:=by
 have I:Hu (∀W:World,_):=fun (W:World)=>scut_any s J W
 generalize cutA s=a at *;generalize cutB s=b at *;generalize cutC s=c at *;go_enter func81,ntmps81;go_wp2_with fail;refine (I.o _).mono ?_;rintro e U ⟨rfl,F⟩;have H:=qH F;clear F;go_wp2_with fail
 go_ret3
 exact⟨rfl,H.o⟩
def qf (s:ByteArray):FT:=(cutA s,if cutC s=true then cutB s else ⟨#[49]⟩)
structure SCells (W:World) (b off:Nat) (L:List ByteArray):Prop where
 cell:∀k,k<L.length->W.cell? ⟨b,off+k,none⟩=some (.string (L.getD k ⟨#[]⟩))
theorem SCells.below {W W':World} {b off:Nat} {L:List ByteArray} (h:SCells W b off L) (H:Below W.heap.size W W'):SCells W' b off L :=
 ⟨fun k F=>(H.cell (qac W _ (h.cell k F))).trans (h.cell k F)⟩
theorem SCells.row {W:World} {g:Nat} {L:List ByteArray} {t:TypeId} {F:Nat×Nat} (h:W.heap[g]? = some (.cells (L.map Value.string).toArray t F)):SCells W g 0 L :=
 ⟨fun k H=>by
  refine (qC _ _ _ _ _ _ h).trans ?_;rw [qaM,qau,qay,qaa,qad H];rfl⟩
theorem q_new (b n c:Nat) (L:List ByteArray) (w:World) (hn:L.length=n) (ag:n<=1000) (hc:SCells w b 0 L) (hL:∀k,(L.getD k ⟨#[]⟩).size<=65536) :
  Calls prog 24 #[.slice (some ⟨b,0,none⟩) n c] w fun e w'=>∃v,e=.returned v/\Rws w' w.heap.size 44 2 v n (fflat (L.map qf))/\Below w.heap.size w w':=by
 have Y:=qH (qA hc (qA hn hL));clear hc hn hL;go_enter func24,ntmps24;go_wp2_with fail
 go_loopw [3,5,6,7,8,11] (fun x3 x5 x6 x7 x8 x11 W=>∃i:Nat,x11=.int .i64 i/\i<=n/\Hu (Rws W w.heap.size 44 2 x3 i (fflat ((L.take i).map qf)))/\Hu (Below w.heap.size w W)) (fun _ _ _ _ _ x11 _=>n-(intOf x11).toNat)
 case atStart=>exact⟨0,rfl,qal _,qH (Rws.nil _ _ _ _),qH qB⟩
 case round =>
  obtain⟨i,rfl,hi,hO,hB⟩:=hrel
  by_cases I:i<n
  ·have af:(i:Int)<n:=by omega
   have aa:=(Y.o.1.below hB.o).cell i (by rw [Y.o.2.1];exact I);rw [qaM] at aa;have hs:=Y.o.2.2 i;have F:(L.take (i+1)).map qf=(L.take i).map qf++[qf (L.getD i ⟨#[]⟩)]:=by
    rw [List.take_add_one,qa3,qaa,qad (by rw [Y.o.2.1];exact I)];rfl
   obtain⟨s,ae⟩:=qX (L.getD i ⟨#[]⟩);rw [ae] at aa hs F;have HS:=qH (fun (W:World)=>qnA s hs W);unfold qf at F;have HT:=qH F;generalize cutA s=ca at *;generalize cutB s=cb at *;generalize cutC s=cc at *;clear ae F hs;go_wp2_with fail;refine (HS.o _).mono ?_;rintro e w2 ⟨rfl,O⟩;have Z:=qH (hO.o.below O);have V:=qH (hB.o.trans (O.mono hB.o.size));clear O;cases cc with
   | true =>
    go_wp2_with (first | (at_builtin;refine qhh rfl _ _ rfl V.o rfl Z.o rfl rfl rfl (by omega) ?_;intro v' w' U J) | fail)
    go_roundw
    case rel=>exact⟨i+1,by go_num,I,qH (by rw [show List.map qf (List.take (i+1) L)=_ from HT.o];exact U.o),J⟩
    case measure=>simp [intOf];omega
   | false =>
    go_wp2_with (first | (at_builtin;refine qhh rfl _ _ rfl V.o rfl Z.o rfl rfl rfl (by omega) ?_;intro v' w' U J) | fail)
    go_roundw
    case rel=>exact⟨i+1,by go_num,I,qH (by rw [show List.map qf (List.take (i+1) L)=_ from HT.o];exact U.o),J⟩
    case measure=>simp [intOf];omega
  ·obtain rfl:i=n:=by omega
   have H:=hO.o;rw [qak (by rw [Y.o.2.1];exact qae _)] at H;have HH:=qH H;obtain⟨ao,cap,rfl⟩:=H.shape;clear H;go_wp2;go_ret;exact⟨_,rfl,HH.o,hB.o⟩
theorem q_any (b n c:Nat) (L:List ByteArray) (w:World) (J:L.length=n) (H:n<=1000) (Z:SCells w b 0 L) (V:∀k,(L.getD k ⟨#[]⟩).size<=65536) :
  Calls prog 24 #[.slice (some ⟨b,0,none⟩) n c] w fun e I=>∃(F:Option Addr) (g cap:Nat),e=.returned (.slice F n cap)/\FCells I F g 0 (L.map qf)/\n<=cap/\Below w.heap.size w I:=by
 refine (q_new b n c L w J H Z V).mono ?_;rintro e I ⟨v,rfl,h,Y⟩;obtain⟨F,g,cap,rfl,O,U⟩:=qd7 h (by rw [qav,J]);exact⟨F,g,cap,rfl,O,U,Y⟩
open Go.Lib
def IsAt (w:World) (b:Nat) (L:List ByteArray):Prop:=∃F,w.heap[b]? = some (.cells #[.slice (some ⟨F,0,none⟩) L.length L.length] 157 (0,0))/\SCells w F 0 L
theorem IsAt.below {w H:World} {b:Nat} {L:List ByteArray} (h:IsAt w b L) (F:Below w.heap.size w H):IsAt H b L:=by
 obtain⟨gs,I,J⟩:=h;exact⟨gs,zkeep F _ _ I,J.below F⟩
theorem qiG (I:Nat) (L:List ByteArray) (w:World) (J:SCells w I 0 L) :
  Calls prog 46 #[.slice (some ⟨I,0,none⟩) L.length L.length] w fun e O=>∃b,e=.returned (.func (.func 120) #[] #[.pointer (some ⟨b,0,none⟩)])/\Below w.heap.size w O/\IsAt O b L:=by
 have F:Below w.heap.size w (w.alloc (.cells #[.slice (some ⟨I,0,none⟩) L.length L.length] 157)):=qbU qB qN;have H:=qH (qA F (show IsAt (w.alloc (.cells #[.slice (some ⟨I,0,none⟩) L.length L.length] 157)) w.heap.size L from ⟨I,qM _ _ _ rfl,J.below F⟩));clear F J;generalize L.length=n at *;go_enter func46,ntmps46;go_wp2;go_ret;exact⟨_,rfl,H.o.1,H.o.2⟩
theorem qld (Y:Option Addr) (g off n c b:Nat) (L:List ByteArray) (w:World) (hb:IsAt w b L) (O:L.length=n) (aa:n<=1000) (hL:∀k,(L.getD k ⟨#[]⟩).size<=65536) (hf:FCells w Y g off (L.map qf)) :
  Calls prog 120 #[.slice Y n c,.int .i64 0,.pointer (some ⟨b,0,none⟩)] w fun r w'=>r=.returned (.bool true)/\Below w.heap.size w w':=by
 obtain⟨gs,Z,h2⟩:=hb;rw [O] at Z;have hc:w.cell? ⟨b,0,none⟩=some (.slice (some ⟨gs,0,none⟩) n n):=qC _ _ 0 _ _ _ Z;have HQ:=qH (q_any gs n n L w O aa h2 hL);have V:=qH (qA hf O);clear Z h2 O hf hL;go_enter func120,ntmps120;go_wp2_with fail;refine HQ.o.mono ?_;rintro e w2 ⟨a2,g2,c2,rfl,I,ae,F⟩;have HS:=qH (qfC Y g off n c (L.map qf) a2 g2 0 n c2 (L.map qf) w2 (by rw [qav,V.o.2]) (by omega) (V.o.1.below F) (by rw [qav,V.o.2]) (by omega) I);have HB:=qH F;clear I F hc;go_wp2_with fail;refine HS.o.mono ?_;rintro e w3 ⟨ok,rfl,J,H⟩;obtain rfl:ok=true:=J.2 rfl;have U:=qH (HB.o.trans (H.mono HB.o.size));clear H J;go_wp2;go_ret;exact⟨rfl,U.o⟩
theorem none_any (n:Int) (w:World) :
  Calls prog 45 #[.int .i64 n] w fun e F=>∃b,e=.returned (.func (.func 119) #[] #[.pointer (some ⟨b,0,none⟩)])/\Below w.heap.size w F/\F.heap[b]? = some (.cells #[.int .i64 n] 39 (0,0)):=by
 have H:=qH (qA (qbU (o:=.cells #[.int .i64 n] 39) (Below.refl w.heap.size w) qN) (qM w (.cells #[.int .i64 n] 39) _ rfl));go_enter func45,ntmps45;go_wp2;go_ret;exact⟨_,rfl,H.o.1,H.o.2⟩
theorem qm4 (n:Int) (b:Nat) (w:World) (F:w.heap[b]? = some (.cells #[.int .i64 n] 39 (0,0))) :
  Calls prog 119 #[.slice none 0 0,.int .i64 n,.pointer (some ⟨b,0,none⟩)] w fun r H=>r=.returned (.bool true)/\H=w:=by
 have I:w.cell? ⟨b,0,none⟩=some (.int .i64 n):=qC _ _ 0 _ _ _ F;clear F;go_enter func119,ntmps119;go_wp2;go_ret;exact⟨rfl,rfl⟩
theorem qid {l:List Rat} {L:List ByteArray} (n:Nat) (F:l.length=n) (h:L.map qf=l.map ftxt):L.map qf=told n (fv l):=by
 rw [h,<-F,qnU]
theorem qdc {W W':World} {o:Obj} (h:Below (W.alloc o).heap.size (W.alloc o) W'):Below W.heap.size W W':=((Below.refl _ W).alloc qN o).trans (h.mono (by simp only [qab];omega))
theorem qg6 {L:List ByteArray} (h:∀s∈L,s.size<=65536):∀k,(L.getD k ⟨#[]⟩).size<=65536:=fun k=>by
 rw [qaa];cases e:L[k]? with
 | none=>exact (by decide:0<=65536)
 | some s=>exact h s (List.mem_of_getElem? e)
theorem q_lit (W:World) (L:List ByteArray) (l:List Rat) (n:Nat) (J:L.length=n) (U:l.length=n) (V:n<=1000) (h:L.map qf=l.map ftxt) (Y:∀s∈L,s.size<=65536) :
  Calls prog 24 #[.slice (some ⟨W.heap.size,0,none⟩) n n] (W.alloc (.cells (L.map Value.string).toArray 9)) fun e H=>∃(F:Option Addr) (g c:Nat),e=.returned (.slice F n c)/\FCells H F g 0 (told n (fv l))/\Below W.heap.size W H:=by
 refine (q_any W.heap.size n n L _ J V (SCells.row (heap_alloc_new W _)) (qg6 Y)).mono ?_;rintro e H ⟨F,g,c,rfl,I,_,O⟩;rw [qid n U h] at I;exact⟨F,g,c,rfl,I,qdc O⟩
theorem qiH (W:World) (L:List ByteArray) (n:Nat) (H:L.length=n) :
  Calls prog 46 #[.slice (some ⟨W.heap.size,0,none⟩) n n] (W.alloc (.cells (L.map Value.string).toArray 9)) fun e F=>∃b,e=.returned (.func (.func 120) #[] #[.pointer (some ⟨b,0,none⟩)])/\IsAt F b L/\Below W.heap.size W F:=by
 subst H;refine (qiG W.heap.size L _ (SCells.row (heap_alloc_new W _))).mono ?_;rintro e F ⟨b,rfl,I,J⟩;exact⟨b,rfl,J,qdc I⟩
theorem qfM {F:Option Addr} {g n c b:Nat} {L:List ByteArray} {l:List Rat} {w:World} (I:IsAt w b L) (H:L.length=n) (O:l.length=n) (U:n<=1000) (h:L.map qf=l.map ftxt) (V:∀s∈L,s.size<=65536) (J:FCells w F g 0 (told n (fv l))) :
  Calls prog 120 #[.slice F n c,.int .i64 0,.pointer (some ⟨b,0,none⟩)] w fun r Y=>r=.returned (.bool true)/\Below w.heap.size w Y :=
 qld F g 0 n c b L w I H U (qg6 V) (by rw [qid n O h];exact J)
theorem q_at (n:Nat) {w:World} {g:Nat} {L:List ByteArray} {l:List Rat} (Y:SCells w g 0 L) (J:L.length=n) (U:l.length=n) (V:n<=1000) (h:L.map qf=l.map ftxt) (Z:∀s∈L,s.size<=65536) :
  Calls prog 24 #[.slice (some ⟨g,0,none⟩) n n] w fun e H=>∃(F:Option Addr) (g c:Nat),e=.returned (.slice F n c)/\FCells H F g 0 (told n (fv l))/\Below w.heap.size w H:=by
 refine (q_any g n n L w J V Y (qg6 Z)).mono ?_;rintro e H ⟨F,g,c,rfl,I,_,O⟩;rw [qid n U h] at I;exact⟨F,g,c,rfl,I,O⟩
theorem md_eq {m F:Md}:m=F↔m.kind=F.kind/\m.inn=F.inn/\m.row 0=F.row 0/\m.row 1=F.row 1/\m.row 2=F.row 2:=by
 obtain⟨k,i,a,b,c⟩:=m;obtain⟨k',i',a',b',c'⟩:=F
 constructor
 ·rintro h;cases h;exact⟨rfl,rfl,rfl,rfl,rfl⟩
 ·rintro ⟨H,I,J,O,U⟩;have J:a=a':=J;have O:b=b':=O;have U:c=c':=U;have H:k=k':=H;have I:i=i':=I;subst H I J O U;rfl
theorem qmX (m m2:Md) (v v2:Value) (w:World) (hM:MdAt w v m) (ae:MdAt w v2 m2) (hl:∀q,q<3->(m.row q).length<=1000000) (aj:∀q,q<3->(m2.row q).length<=1000000) :
  Calls prog 20 #[v,v2] w fun e w'=>∃ok,e=.returned (.bool ok)/\(ok=true↔m=m2)/\Below w.heap.size w w':=by
 obtain⟨a,b,o,c,rfl,hF⟩:=hM.parts;obtain⟨a',b',o',c',rfl,aa⟩:=ae.parts;obtain⟨kind,I⟩:∃z,m.kind=z:=⟨_,rfl⟩;obtain⟨inn,U⟩:∃z,m.inn=z:=⟨_,rfl⟩;obtain⟨kind',F⟩:∃z,m2.kind=z:=⟨_,rfl⟩;obtain⟨V,H⟩:∃z,m2.inn=z:=⟨_,rfl⟩;obtain⟨L,hL⟩:∃L:Nat->Nat,∀q,(m.row q).length=L q:=⟨_,fun _=>rfl⟩;obtain⟨L',J⟩:∃L:Nat->Nat,∀q,(m2.row q).length=L q:=⟨_,fun _=>rfl⟩;have O:=fun (q:Nat) (hq:q<3) (W:World) (hb:Below w.heap.size w W)=>qfC (a q) (b q) (o q) (L q) (c q) (m.row q) (a' q) (b' q) (o' q) (L' q) (c' q) (m2.row q) W (hL q) (by have:=hl q hq;rw [hL] at this;exact this) ((hF q hq).below hb) (J q) (by have:=aj q hq;rw [J] at this;exact this) ((aa q hq).below hb)
 rw [I,U,hL,hL,hL,F,H,J,J,J];obtain⟨W2,af,Y⟩:=nw2 w #[.int .i64 kind,.int .i64 inn,.slice (a 0) (L 0) (c 0),.slice (a 1) (L 1) (c 1),.slice (a 2) (L 2) (c 2)] 38 #[.int .i64 kind',.int .i64 V,.slice (a' 0) (L' 0) (c' 0),.slice (a' 1) (L' 1) (c' 1),.slice (a' 2) (L' 2) (c' 2)] 38;have Z:=qH (qA I (qA U (qA F H)));have HC:=qH O;have c0:=qC _ _ 0 _ _ _ Y.o.2.1;have c1:=qC _ _ 1 _ _ _ Y.o.2.1;have c2:=qC _ _ 2 _ _ _ Y.o.2.1;have d0:=qC _ _ 0 _ _ _ Y.o.2.2;have d1:=qC _ _ 1 _ _ _ Y.o.2.2;have d2:=qC _ _ 2 _ _ _ Y.o.2.2;clear O hM ae hF aa hl aj I U F H hL J;go_enter func20,ntmps20;go_upto_region 1 with fail;rw [<-af];clear af
 by_cases hk:kind=kind'
 case neg =>
  have av:(kind == kind')=false:=beq_eq_false_iff_ne.2 hk;have HK:=qH hk;clear hk;go_wp2;go_ret;exact⟨false,rfl,qeb fun h=>HK.o (by rw [<-Z.o.1,<-Z.o.2.2.1,h]),Y.o.1⟩
 subst hk
 by_cases hi:inn=V
 case neg =>
  have au:(inn == V)=false:=beq_eq_false_iff_ne.2 hi;have HI:=qH hi;clear hi;go_wp2;go_ret;exact⟨false,rfl,qeb fun h=>HI.o (by rw [<-Z.o.2.1,<-Z.o.2.2.2,h]),Y.o.1⟩
 subst hi;go_wp2_with fail;refine (HC.o 0 (by decide) W2 Y.o.1).mono ?_;rintro e w3 ⟨ok0,rfl,h0,ag⟩;have K3:=Y.below ag;have H0:=qH h0;clear h0 ag c0 c1 c2 d0 d1 d2;have c0:=qC _ _ 2 _ _ _ K3.o.2.1;have c1:=qC _ _ 3 _ _ _ K3.o.2.1;have d0:=qC _ _ 2 _ _ _ K3.o.2.2;have d1:=qC _ _ 3 _ _ _ K3.o.2.2;cases ok0 with
 | false =>
  go_wp2;go_ret;exact⟨false,rfl,qeb fun h=>absurd (H0.o.2 (by rw [h])) (by decide),K3.o.1⟩
 | true =>
 go_wp2_with fail;refine (HC.o 1 (by decide) w3 K3.o.1).mono ?_;rintro e w4 ⟨ok1,rfl,h1,ah⟩;have K4:=K3.below ah;have H1:=qH h1;clear h1 ah c0 c1 d0 d1;have c0:=qC _ _ 4 _ _ _ K4.o.2.1;have d0:=qC _ _ 4 _ _ _ K4.o.2.2;cases ok1 with
 | false =>
  go_wp2;go_ret;exact⟨false,rfl,qeb fun h=>absurd (H1.o.2 (by rw [h])) (by decide),K4.o.1⟩
 | true =>
 go_wp2_with fail;refine (HC.o 2 (by decide) w4 K4.o.1).mono ?_;rintro e w5 ⟨ak,rfl,h2,ai⟩;have K5:=K4.below ai;have H2:=qH h2;clear h2 ai c0 d0;go_wp2;go_ret;refine⟨ak,rfl,⟨fun h=>md_eq.2 ⟨by rw [Z.o.1,Z.o.2.2.1],by rw [Z.o.2.1,Z.o.2.2.2],H0.o.1 (by trivial),H1.o.1 (by trivial),H2.o.1 h⟩,fun h=>H2.o.2 (by rw [h])⟩,K5.o.1⟩
theorem md0_at (w:World):MdAt w mdv0 md0 :=
 have h:FCells w none 0 0 []:=⟨fun h=>absurd h (by decide),fun k F=>absurd F (by simp)⟩
 ⟨none,none,none,0,0,0,0,0,0,0,0,0,rfl,h,h,h⟩
theorem qmR:∀q,q<3->(md0.row q).length<=1000000:=fun q F=>by
 rcases (show q=0\/q=1\/q=2 by omega) with rfl | rfl | rfl <;> decide
theorem qma (n:Int) (w:World) :
  Calls prog 47 #[.int .i64 n] w fun e F=>∃b,e=.returned (.func (.func 121) #[] #[.pointer (some ⟨b,0,none⟩)])/\Below w.heap.size w F/\F.heap[b]? = some (.cells #[.int .i64 n] 39 (0,0)):=by
 have H:=qH (qA (qbU (o:=.cells #[.int .i64 n] 39) (Below.refl w.heap.size w) qN) (qM w (.cells #[.int .i64 n] 39) _ rfl));go_enter func47,ntmps47;go_wp2;go_ret;exact⟨_,rfl,H.o.1,H.o.2⟩
theorem qkZ (n:Int) (b:Nat) (w:World) (V:w.heap[b]? = some (.cells #[.int .i64 n] 39 (0,0))) :
  Calls prog 121 #[mdv0,.int .i64 n,.pointer (some ⟨b,0,none⟩)] w fun r Z=>r=.returned (.bool true)/\Below w.heap.size w Z:=by
 obtain⟨U,H,N1⟩:=nw1 w #[.int .i64 0,.int .i64 0,.slice none 0 0,.slice none 0 0,.slice none 0 0] 38;have O:=qH (qmX md0 md0 _ _ U (md0_at U) (md0_at U) qmR qmR);have J:=qH (qA N1.o.1 (zkeep N1.o.1 _ _ V));clear N1 V;unfold mdv0 at O ⊢;go_enter func121,ntmps121;go_wp2_with fail;rw [<-H];clear H;refine O.o.mono ?_;rintro e w2 ⟨ok,rfl,I,F⟩;obtain rfl:ok=true:=I.2 (by trivial);have c0:=qC _ _ 0 _ _ _ (zkeep F _ _ J.o.2);have Y:=qH (J.o.1.trans (F.mono J.o.1.size));clear F I O;go_wp2;go_ret;exact⟨rfl,Y.o⟩
theorem qlt {W:World} {s g:Nat} (H:W.heap[s]? = some (.cells #[.int .i64 0] 3 (0,0))) (I:W.heap[s+1]? = some (.cells #[.int .i64 5000] 3 (0,0))) (J:W.heap[s+1+1]? = some (.cells #[.int .i64 10000] 3 (0,0)))
  (hg:W.heap[g]? = some (.cells #[.string ⟨#[97]⟩,.slice (some ⟨s,0,none⟩) 1 1,.int .i64 0,.int .i64 0,.int .i64 0,.string ⟨#[98]⟩,.slice (some ⟨s+1,0,none⟩) 1 1,.int .i64 6000,.int .i64 0,.int .i64 0,.string ⟨#[99]⟩,.slice (some ⟨s+1+1,0,none⟩) 1 1,.int .i64 10000,.int .i64 0,.int .i64 0] 55 (0,0))):PCells W (some ⟨g,0,none⟩) g 0 ramp:=by
 have one:∀{b:Nat} {z:Int},W.heap[b]? = some (.cells #[.int .i64 z] 3 (0,0))->NCells W (some ⟨b,0,none⟩) b 0 [z]:=fun {b z} h=>⟨fun _=>rfl,fun k F=>by
  obtain rfl:k=0:=by simp at F;omega
  exact qC _ _ 0 _ _ _ h⟩
 refine⟨fun _=>rfl,fun k F=>?_⟩;have F:k<3:=F;rcases (show k=0\/k=1\/k=2 by omega) with rfl | rfl | rfl
 ·exact⟨qC _ _ 0 _ _ _ hg,⟨_,_,_,_,qC _ _ 1 _ _ _ hg,one H⟩,qC _ _ 2 _ _ _ hg,qC _ _ 3 _ _ _ hg,qC _ _ 4 _ _ _ hg⟩
 ·exact⟨qC _ _ 5 _ _ _ hg,⟨_,_,_,_,qC _ _ 6 _ _ _ hg,one I⟩,qC _ _ 7 _ _ _ hg,qC _ _ 8 _ _ _ hg,qC _ _ 9 _ _ _ hg⟩
 ·exact⟨qC _ _ 10 _ _ _ hg,⟨_,_,_,_,qC _ _ 11 _ _ _ hg,one J⟩,qC _ _ 12 _ _ _ hg,qC _ _ 13 _ _ _ hg,qC _ _ 14 _ _ _ hg⟩
theorem qgq (w:World):Calls prog 48 #[] w fun e V=>∃g,e=.returned (.slice (some ⟨g,0,none⟩) 3 3)/\PCells V (some ⟨g,0,none⟩) g 0 ramp/\Below w.heap.size w V:=by
 obtain⟨U,H,N3⟩:=nw3 w #[.int .i64 0] 3 #[.int .i64 5000] 3 #[.int .i64 10000] 3;obtain⟨Y,I,N4⟩:=nw1 U #[.string ⟨#[97]⟩,.slice (some ⟨w.heap.size,0,none⟩) 1 1,.int .i64 0,.int .i64 0,.int .i64 0,.string ⟨#[98]⟩,.slice (some ⟨w.heap.size+1,0,none⟩) 1 1,.int .i64 6000,.int .i64 0,.int .i64 0,.string ⟨#[99]⟩,.slice (some ⟨w.heap.size+1+1,0,none⟩) 1 1,.int .i64 10000,.int .i64 0,.int .i64 0] 55;have F:=N4.o.1;have O:=qH (qA (qlt (zkeep F _ _ N3.o.2.1) (zkeep F _ _ N3.o.2.2.1) (zkeep F _ _ N3.o.2.2.2) N4.o.2) (N3.o.1.trans (F.mono N3.o.1.size)));have J:U.heap.size=w.heap.size+1+1+1:=by rw [H];simp
 rw [H] at I;clear N3 N4 F;go_enter func48,ntmps48;go_wp2_with fail;rw [<-I];clear I H;go_ret;exact⟨_,by rw [J];rfl,O.o.1,O.o.2⟩
section
variable {P:Program}
theorem qdW (w:World) (base:Nat) (t ty e:TypeId) (i:TypeInfo) (z:Value) (size bytes:Nat) (ht:P.underlying t=some (.slice e)) (hi:P.info? e=some i) (hz:i.zero=some z)
  (ae:i.size=size) (ak:i.bytes=bytes) (ah:z.cells.size=size) (az:0<size)
  (v:Value) (n:Nat) (xs:List Value) (H:w.ownsRow base e size v n xs)
  (a:Addr) (m c:Nat) (F:List Value) (Y:F.length=m*size) (J:∀j u,F[j]? = some u->w.cell? (a.add j)=some u) (h1:∀u∈F,u.oneCell'=true) (ax:0<m)
  (Z:n+m<=maxLen) (U:(n+m)*bytes<=140737488355328) (V:base<=w.heap.size) :
  ∃v' w',(Builtin.append_ #[t,t] ty #[v,.slice (some a) m c]).run P w=.ok v' w'/\w'.ownsRow base e size v' (n+m) (xs++F)/\(v'.ownBlock=v.ownBlock/\w.grownBy w' v.ownBlock\/v'.ownBlock=some w.heap.size/\w.grownBy w' none):=by
 subst ae;subst ak;have ai:n+m<=9223372036854775807:=by simp only [maxLen] at Z;omega
 have I:(xs++F).length=(n+m)*i.size:=by rw [qaf,H.1,Y,qaE]
 rcases H.2 with ⟨rfl,rfl⟩ | ⟨g,cap,cur,rfl,aj,hg,ay,au,av,af⟩
 ·have hx:xs=[]:=List.eq_nil_of_length_eq_zero (by simpa using H.1);subst hx;have hr:=run_append_nil (P:=P) w t ty e i z ht hi hz a m c F Y J ax (by omega) (by have hb:=U;simp only [qaM] at hb;omega);have aa:=grownCap_ge w m 0 e;refine⟨_,_,hr,⟨by simpa using I,.inr ⟨w.heap.size,_,_,by rw [qaM],V,heap_alloc_new w.drew _,by rw [qaM];exact aa,grownCap_le_maxLen w m 0 e (by simpa using Z),?_,?_⟩⟩,qag ⟨rfl,rfl,rfl,rfl,by simp,fun k hk _=>qL w.drew _ k hk⟩⟩
  ·simp only [Array.size_append,qbG,size_zeroCells,ah,Y,<-qaE]
   congr 1;omega
  ·rw [qaM,qbq,<-Y,qbf];exact List.take_left
 ·by_cases O:n+m<=cap
  ·have ag:n*i.size+F.length<=cur.size:=by rw [Y,av,<-qaE];exact qaH _ O
   have hr:=run_append_room (P:=P) w t ty e i ht hi g n cap cur hg a m c F Y J h1 O ag;refine⟨_,_,hr,⟨I,.inr ⟨g,cap,_,rfl,aj,qT w g cur _ e _ hg,O,au,?_,?_⟩⟩,qan ⟨rfl,rfl,rfl,rfl,by simp,fun k _ hk=>setRow_other w g k _ (fun e=>hk (by simp [Value.ownBlock,e]))⟩⟩
   ·simp only [qbG,qaf,qax,qbd,qbm];omega
   ·rw [af,<-I];exact List.take_left
  ·have holds:∀j u,xs[j]? = some u->w.cell? ((⟨g,0,none⟩:Addr).add j)=some u:=H.cells (g:=g) rfl;have hr:=run_append_grow (P:=P) w t ty e i z ht hi hz ⟨g,0,none⟩ n cap xs H.1 holds a m c F Y J (by omega) (by omega) (growslice_fits (by omega) U);have aa:=grownCap_ge w (n+m) cap e;refine⟨_,_,hr,⟨I,.inr ⟨w.heap.size,_,_,rfl,V,heap_alloc_new w.drew _,aa,grownCap_le_maxLen w (n+m) cap e Z,?_,?_⟩⟩,qag ⟨rfl,rfl,rfl,rfl,by simp,fun k hk _=>qL w.drew _ k hk⟩⟩
   ·simp only [Array.size_append,qbG,size_zeroCells,ah,H.1,Y,<-qaE]
    congr 1;omega
   ·simp only [qbf,qaI];rw [<-qaI,<-I];exact List.take_left
end
def IOwn (W:World) (B:Nat) (v:Value) (l:List Int):Prop:=W.ownsRow B 3 1 v l.length (l.map fun z=>.int .i64 z)
theorem qmA:(Tryz.prog.info? 3).map (fun i=>(i.zero,i.size,i.bytes))=some (some (.int .i64 0),1,8):=by kernel_rfl
theorem infoR24:(Tryz.prog.info? 32).map (fun i=>(i.zero,i.size,i.bytes))=some (some (.slice none 0 0),1,24):=by kernel_rfl
theorem ints_one (l:List Int):∀u∈l.map (fun z=>Value.int .i64 z),u.oneCell'=true:=fun u F=>by
 obtain⟨z,_,rfl⟩:=qbp.1 F;rfl
theorem qkH {w:World} {B:Nat} {v:Value} {l l2:List Int} {m c b off:Nat} (ty:TypeId) (I:IOwn w B v l) (hB:B<=w.heap.size) (hF:NCells w (some ⟨b,off,none⟩) b off l2) (hm:l2.length=m) (O:0<m) (hn:l.length+m<=1000000) :
  ∃F H,(Builtin.append_ #[32,32] ty #[v,.slice (some ⟨b,off,none⟩) m c]).run prog w=.ok F H/\IOwn H B F (l++l2)/\(F.ownBlock=v.ownBlock/\w.grownBy H v.ownBlock\/F.ownBlock=some w.heap.size/\w.grownBy H none):=by
 obtain⟨i0,hi,U,V,Y⟩:=info_parts qmA;subst hm;obtain⟨F,H,hr,h2,h3⟩:=qdW (P:=prog) w B 32 ty 3 i0 _ 1 8 underlying32 hi U V Y rfl (by decide) v l.length _ I ⟨b,off,none⟩ l2.length c (l2.map fun z=>.int .i64 z) (by simp) (fun j u Z=>by
   rw [qay] at Z;obtain⟨z,hz,rfl⟩:=Option.map_eq_some_iff.1 Z;have J:=(List.getElem?_eq_some_iff.1 hz).1;have:=hF.cell j J;rw [qaa,hz] at this;rw [Addr.add_mid];exact this) (ints_one _) O (by unfold maxLen;omega) (by omega) hB
 exact⟨F,H,hr,by unfold IOwn;rw [qaf,qa3];exact h2,h3⟩
theorem qja {w:World} {B g:Nat} {l2:List Int} {m c b off:Nat} (ty:TypeId) (_hg:w.heap[g]? = some (.cells #[] 3 (0,0))) (hB:B<=w.heap.size) (hF:NCells w (some ⟨b,off,none⟩) b off l2) (hm:l2.length=m) (aa:0<m) (hn:m<=1000000) :
  ∃V Y,(Builtin.append_ #[32,32] ty #[.slice (some ⟨g,0,none⟩) 0 0,.slice (some ⟨b,off,none⟩) m c]).run prog w=.ok V Y/\IOwn Y B V l2/\V.ownBlock=some w.heap.size/\w.grownBy Y none:=by
 obtain⟨i0,hi,J,O,U⟩:=info_parts qmA;subst hm;have Z:=run_append_grow (P:=prog) w 32 ty 3 i0 _ underlying32 hi J ⟨g,0,none⟩ 0 0 [] (by simp) (fun j u F=>by cases F) ⟨b,off,none⟩ l2.length c (l2.map fun z=>Value.int .i64 z) (by rw [O];simp) (fun j u F=>by
   rw [qay] at F;obtain⟨z,hz,rfl⟩:=Option.map_eq_some_iff.1 F;have I:=(List.getElem?_eq_some_iff.1 hz).1;have:=hF.cell j I;rw [qaa,hz] at this;rw [Addr.add_mid];exact this) (by omega) (by omega) (growslice_fits (by omega) (by rw [U];omega))
 rw [qaM] at Z;have H:=grownCap_ge w l2.length 0 3;refine⟨_,_,Z,⟨by simp,.inr ⟨w.heap.size,_,_,rfl,hB,heap_alloc_new w.drew _,H,grownCap_le_maxLen w l2.length 0 3 (by unfold maxLen;omega),?_,?_⟩⟩,rfl,rfl,rfl,rfl,by simp,fun k hk _=>qL w.drew _ k hk⟩
 ·simp only [Array.size_append,qbG,size_zeroCells,List.length_nil,qav,qbO];have:(Value.int .i64 0).cells.size=1:=rfl;rw [this];omega
 ·simp only [qbf,qbq,qbO];exact List.take_left' (by simp)
theorem run_irow {w:World} {B:Nat} {v:Value} {n:Nat} {V:List Value} {u:Value} {g c:Nat} {t:TypeId} (Z:TypeId) (F:w.ownsRow B 32 1 v n V) (hB:B<=w.heap.size) (hg:w.heap[g]? = some (.cells #[u] t (0,0))) (hu:u.oneCell'=true) (hn:n<1000000) :
  ∃H I,(Builtin.append_ #[77,77] Z #[v,.slice (some ⟨g,0,none⟩) 1 c]).run prog w=.ok H I/\I.ownsRow B 32 1 H (n+1) (V++[u])/\(H.ownBlock=v.ownBlock/\w.grownBy I v.ownBlock\/H.ownBlock=some w.heap.size/\w.grownBy I none):=by
 obtain⟨i0,hi,J,O,U⟩:=info_parts infoR24;exact qdW (P:=prog) w B 77 Z 32 i0 _ 1 24 underlying77 hi J O U rfl (by decide) v n V F ⟨g,0,none⟩ 1 c [u] rfl (fun j x Y=>by
   cases j with
   | zero =>
    obtain rfl:u=x:=qah Y;exact qC _ _ 0 _ _ _ hg
   | succ j=>cases Y) (fun x hx=>by rw [qap.1 hx];exact hu) (by decide) (by unfold maxLen;omega) (by omega) hB
theorem qes {w O:World} {U:Nat} {V:TypeId} {s' Z:Nat} {v J x:Value} {F:List Value} (hx:w.ownsRow U V s' x Z F) (hne:x.ownBlock=none\/x.ownBlock≠v.ownBlock) (h:J.ownBlock=v.ownBlock/\w.grownBy O v.ownBlock\/J.ownBlock=some w.heap.size/\w.grownBy O none) :
  O.ownsRow U V s' x Z F/\(x.ownBlock=none\/x.ownBlock≠J.ownBlock):=by
 rcases h with ⟨H,I⟩ | ⟨H,I⟩
 ·exact⟨hx.kept I hne,by rw [H];exact hne⟩
 ·refine⟨hx.kept I ?_,?_⟩
  ·rcases hne with h | h
   ·exact qan h
   ·cases e:x.ownBlock with
    | none=>exact qan rfl
    | some k=>exact qag (by simp)
  ·cases e:x.ownBlock with
   | none=>exact qan rfl
   | some k =>
    refine qag fun Y=>?_
    rw [H] at Y;have:=(hx.lt k e).2;have:=qah Y;omega
theorem own_below {w H:World} {B:Nat} {e:TypeId} {s n:Nat} {x:Value} {I:List Value} (hx:w.ownsRow B e s x n I) (U:Below w.heap.size w H):H.ownsRow B e s x n I:=by
 refine⟨hx.1,?_⟩;rcases hx.2 with h | ⟨g,cap,cur,rfl,J,F,O⟩
 ·exact qan h
 ·exact qag ⟨g,cap,cur,rfl,J,(U.block g (qG F).1).trans F,O⟩
theorem qdU {w:World} {B:Nat} {e:TypeId} {s n:Nat} {x:Value} {H:List Value} (hx:w.ownsRow B e s x n H):∃(F:Option Addr) (cap:Nat),x=.slice F n cap:=by
 rcases hx.2 with ⟨rfl,rfl⟩ | ⟨g,cap,cur,rfl,_⟩
 ·exact⟨none,0,rfl⟩
 ·exact⟨_,_,rfl⟩
end Go.Proofs.YtplkdeknjghobaaGreatDoor
namespace Go.Proofs.YtplkdeknjghobaaGreatDoor
open Go.RowKit Go.Proofs.Tryz
def qhq (w:World) (q:Rat) (n d:Nat) (e:Ending) (F:World):Prop :=
 Below w.heap.size w F/\(((-100000000000<=nearZ q n/\nearZ q n<=100000000000)/\e=.returned (.int .i64 (nearT q n d)))\/(¬(-100000000000<=nearZ q n/\nearZ q n<=100000000000)/\e=thrown 6))
theorem wrapI {t:Int} (F:-9223372036854775808<=t) (H:t<=9223372036854775807):IntKind.i64.wrap t=t:=by simp [IntKind.wrap,IntKind.bits,IntKind.signed];omega
theorem cmpq (p q:Rat) (O:Short p) (U:Short q) (w:World) :
  Calls prog 17 #[.agg #[.string (ftxt p).1,.string (ftxt p).2],.agg #[.string (ftxt q).1,.string (ftxt q).2]] w fun e F=>∃c:Int,e=.returned (.tuple #[.int .i64 c,.int .i64 0])/\(c<0↔p<q)/\Below w.heap.size w F:=by
 refine (qkj _ _ _ _ w).mono ?_;rintro e F ⟨⟨_,rfl⟩ | ⟨h,_⟩,J⟩
 ·have H:fval (ftxt p).1.data.toList (ftxt p).2.data.toList=p:=qcN p;have I:fval (ftxt q).1.data.toList (ftxt q).2.data.toList=q:=qcN q;rw [H,I];exact⟨_,rfl,cmp_lt p q,J⟩
 ·exact absurd ⟨qdh O,qdh U⟩ h
theorem nearest1 (q:Rat) (sq:Short q) (w:World) (hT:HasT w) (hE:HasE w) :
  Calls prog 92 #[.agg #[.string (ftxt q).1,.string (ftxt q).2],.int .i64 10000,.int .i64 1] w fun e w'=>qhq w q 10000 1 e w':=by
 have ag:=fun W hT hE=>near_q q 10000 sq (by decide) (by decide) W hT hE
 have ae:=fun h1 h2=>qfP (q:=q) (n:=10000) (d:=1) (B:=100000000000) (by decide) h1 h2
 have aa:=fun (z:Int)=>qmL (q:=q) (n:=10000) (d:=1) (z:=z) (by decide) (by decide)
 obtain⟨q1,q2,aj⟩:=qcd q;rw [aj] at ag ⊢;unfold qhq;obtain⟨X,hX⟩:=qX (nearZ q 10000);obtain⟨Y,hY⟩:=qX (nearT q 10000 1);rw [hX] at ag ae ⊢;rw [hY] at ae aa ⊢;obtain⟨W1,ay,K1⟩:=nw1 w #[.string q1,.string q2] 44;have HN:=qH (ag W1 (hT.below K1.o.1) (hE.below K1.o.1));have HQ:=qH (qA aj (qA sq (qA aa ae)));have ax:=qH (hT.below K1.o.1);clear ag ae aa aj sq hT hE hX hY;go_enter func92,ntmps92;go_wp2_with fail;rw [<-ay];clear ay;refine HN.o.mono ?_;rintro e w2 ⟨ai,h⟩;have K2:=(K1.below ai).also (q:=fun W=>HasT W) (ax.o.below ai);clear ai HN ax K1;rcases h with ⟨hi,rfl⟩ | ⟨hi,rfl⟩
 case inr =>
  have HI:=qH hi;clear hi;go_wp2_with fail;refine (qgP 0 6 (by decide) _).mono ?_;rintro e w3 ⟨rfl,hw⟩;subst hw;unfold thrown;go_wp2_with fail;refine⟨rfl,K2.o.1.1,qag ⟨fun h=>HI.o ⟨?_,?_⟩,rfl⟩⟩
  ·have:=h.1;omega
  ·have:=h.2;omega
 have HI:=qH hi;clear hi;go_wp2_with fail;refine (qer X _).mono ?_;rintro e w3 ⟨rfl,hw⟩;subst hw
 by_cases aA:X < -100000000000
 ·go_wp2_with fail;refine (qcj 6 (by decide) _).mono ?_;rintro e w3 ⟨rfl,hw⟩;subst hw;unfold thrown;go_wp2_with fail;exact⟨rfl,K2.o.1.1,qag ⟨fun h=>absurd h.1 (by omega),rfl⟩⟩
 by_cases aB:X > 100000000000
 ·go_wp2_with fail;refine (qcj 6 (by decide) _).mono ?_;rintro e w3 ⟨rfl,hw⟩;subst hw;unfold thrown;go_wp2_with fail;exact⟨rfl,K2.o.1.1,qag ⟨fun h=>absurd h.2 (by omega),rfl⟩⟩
 obtain⟨aJ,aK⟩:=HQ.o.2.2.2 (by omega) (by omega);have az:-100000000000<=X.tdiv 1/\X.tdiv 1<=100000000000:=by have:=Int.natAbs_tdiv_le_natAbs X 1;omega
 have aG:=qH (qA aA aB);obtain⟨Q0,aF⟩:=qX (X.tdiv 1);rw [aF] at az;obtain⟨aH,aI⟩:=az;go_upto_region 5 with fail;clear aA aB
 go_loopw [8] (fun x8 W=>∃z:Int,x8=.int .i64 z/\-100000000001<=z/\z<=100000000001/\(Y<=z\/z=Q0)/\Hu (Below w2.heap.size w2 W)) (fun x8 _=>(intOf x8-Y).toNat)
 case atStart=>exact⟨Q0,rfl,by omega,by omega,qag rfl,qH qB⟩
 case round =>
  obtain⟨z,rfl,ak,au,aC,hB⟩:=hrel;have Z:=K2.below hB.o;obtain⟨u1,u2,hu⟩:=qcd ((((2*z-1)*1:Int):Rat) / ((20000:Int):Rat));have V:=fun W hP=>of_int ((2*z-1)*1) 20000 (by decide) (by omega) (by decide) W hP
  rw [hu] at V;have O:=fun W=>cmpq q ((((2*z-1)*1:Int):Rat) / ((20000:Int):Rat)) HQ.o.2.1 (qdV (by decide) (by omega) (by decide)) W
  rw [hu,HQ.o.1] at O;have I:q<(((2*z-1)*1:Int):Rat) / ((20000:Int):Rat)↔Y<z:=HQ.o.2.2.1 z;rw [I] at O;have HO:=qH (qA V O);have lt:=(qG Z.o.1.2).1;have r0:=rowC (B:=wr.heap.size) Z.o.1.2 0;have r1:=rowC (B:=wr.heap.size) Z.o.1.2 1;clear V O I hu;go_upto_region 5 with fail;refine wp_region_held_drew (S:=fun W=>Below wr.heap.size wr W) (by kernel_rfl) qB.drew (fun hS0=>?_);refine hT 0 (h:=hT 1 (h:=hT 2 (h:=hT 3 (h:=hT 4 (h:=hT 5 (h:=hT 6 (h:=hT 7 (h:=?_))))))));refine hC 8 (HO.o.1 _ (Z.o.2.below qB.drew)) (he:=by (go_simp;exact⟨by simp only [wrapI (t:=2*z) (by omega) (by omega),wrapI (t:=2*z-1) (by omega) (by omega)],by decide⟩)) (h:=?_);rintro e w4 ⟨rfl,J⟩;have F:=qH (qb4 J);have K4:=Z.below F.o;clear J;refine⟨_,rfl,F.o,hN (h:=?_)⟩;refine hT 9 (hS:=F.o) (h:=hT 10 (hS:=F.o) (h:=?_));refine hC 11 (qcE u1 u2 w4) (h:=?_);rintro e w5 ⟨rfl,J⟩;have U:=qH (F.o.trans (J.mono F.o.size));have K5:=K4.below J;clear J;refine⟨_,rfl,U.o,hN (h:=?_)⟩;refine hC 12 (HO.o.2 w5) (h:=?_);rintro e w6 ⟨c,rfl,hc,J⟩;have H:=qH (U.o.trans (J.mono U.o.size));have K6:=K5.below J;clear J;refine⟨_,rfl,H.o,hN (h:=?_)⟩;refine hT 13 (hS:=H.o) (h:=hT 14 (hS:=H.o) (h:=?_));refine hC 15 (qer c w6) (h:=?_);rintro e w7 ⟨rfl,hw⟩;subst hw;refine⟨_,rfl,H.o,hN (h:=?_)⟩;refine hT 16 (hS:=H.o) (h:=?_);refine wpAnyH_done (by kernel_rfl) ?_ _;have aD:=qH (hB.o.trans (H.o.mono hB.o.size));clear r0 r1 lt hS0 hB HO Z K4 K5
  by_cases I:Y<z
  ·have af:c<0:=hc.2 I;clear hc;go_wp2;go_roundw
   case rel=>exact⟨z-1,by first | rfl | go_num,by omega,by omega,qan (by omega),aD⟩
   case measure=>simp [intOf];omega
  ·have af:¬c<0:=fun h=>I (hc.1 h)
   have ah:z<=Y:=by omega
   clear hc I aC;go_upto_region 7 with fail
   go_loopw [8] (fun x8 W=>∃z:Int,x8=.int .i64 z/\-100000000001<=z/\z<=100000000001/\z<=Y/\Hu (Below w6.heap.size w6 W)) (fun x8 _=>(Y-intOf x8).toNat)
   case atStart=>exact⟨z,rfl,ak,au,ah,qH qB⟩
   case round =>
    clear ak au ah af;obtain⟨z,rfl,ak,au,aC,hB⟩:=hrel;have Z:=K6.below hB.o;obtain⟨u1,u2,hu⟩:=qcd ((((2*z+1)*1:Int):Rat) / ((20000:Int):Rat));have V:=fun W hP=>of_int ((2*z+1)*1) 20000 (by decide) (by omega) (by decide) W hP
    rw [hu] at V;have O:=fun W=>cmpq q ((((2*z+1)*1:Int):Rat) / ((20000:Int):Rat)) HQ.o.2.1 (qdV (by decide) (by omega) (by decide)) W
    rw [hu,HQ.o.1] at O;have I:q<(((2*z+1)*1:Int):Rat) / ((20000:Int):Rat)↔Y<z+1:=by
     have:=HQ.o.2.2.1 (z+1);rw [show 2*(z+1)-1=2*z+1 by omega] at this;exact this
    rw [I] at O;have HO:=qH (qA V O);have lt:=(qG Z.o.1.2).1;have r0:=rowC (B:=wr.heap.size) Z.o.1.2 0;have r1:=rowC (B:=wr.heap.size) Z.o.1.2 1;clear V O I hu;go_upto_region 7 with fail;refine wp_region_held_drew (S:=fun W=>Below wr.heap.size wr W) (by kernel_rfl) qB.drew (fun hS0=>?_);refine hT 0 (h:=hT 1 (h:=hT 2 (h:=hT 3 (h:=hT 4 (h:=hT 5 (h:=hT 6 (h:=hT 7 (h:=?_))))))));refine hC 8 (HO.o.1 _ (Z.o.2.below qB.drew)) (he:=by (go_simp;exact⟨by simp only [wrapI (t:=2*z) (by omega) (by omega),wrapI (t:=2*z+1) (by omega) (by omega)],by decide⟩)) (h:=?_);rintro e w4 ⟨rfl,J⟩;have F:=qH (qb4 J);have K4:=Z.below F.o;clear J;refine⟨_,rfl,F.o,hN (h:=?_)⟩;refine hT 9 (hS:=F.o) (h:=hT 10 (hS:=F.o) (h:=?_));refine hC 11 (qcE u1 u2 w4) (h:=?_);rintro e w5 ⟨rfl,J⟩;have U:=qH (F.o.trans (J.mono F.o.size));have K5:=K4.below J;clear J;refine⟨_,rfl,U.o,hN (h:=?_)⟩;refine hC 12 (HO.o.2 w5) (h:=?_);rintro e w7 ⟨c,rfl,hc,J⟩;have H:=qH (U.o.trans (J.mono U.o.size));have K7:=K5.below J;clear J;refine⟨_,rfl,H.o,hN (h:=?_)⟩;refine hT 13 (hS:=H.o) (h:=hT 14 (hS:=H.o) (h:=?_));refine hC 15 (qer c w7) (h:=?_);rintro e w8 ⟨rfl,hw⟩;subst hw;refine⟨_,rfl,H.o,hN (h:=?_)⟩;refine hT 16 (hS:=H.o) (h:=?_);refine wpAnyH_done (by kernel_rfl) ?_ _;have av:=qH (hB.o.trans (H.o.mono hB.o.size));clear r0 r1 lt hS0 hB HO Z K4 K5
    by_cases I:Y<z+1
    ·have af:¬c≥0:=by have:=hc.2 I;omega
     obtain rfl:z=Y:=by omega
     clear hc I;go_wp2;go_ret;exact⟨K7.o.1.1,rfl⟩
    ·have af:c≥0:=by
      apply Classical.byContradiction;intro h;exact I (hc.1 (by omega))
     clear hc;go_wp2;go_roundw
     case rel=>exact⟨z+1,by first | rfl | go_num,by omega,by omega,by omega,av⟩
     case measure=>simp [intOf];omega
theorem nearest4 (q:Rat) (sq:Short q) (w:World) (hT:HasT w) (hE:HasE w) :
  Calls prog 92 #[.agg #[.string (ftxt q).1,.string (ftxt q).2],.int .i64 15625,.int .i64 4] w fun e w'=>qhq w q 15625 4 e w':=by
 have ag:=fun W hT hE=>near_q q 15625 sq (by decide) (by decide) W hT hE
 have ae:=fun h1 h2=>qfP (q:=q) (n:=15625) (d:=4) (B:=100000000000) (by decide) h1 h2
 have aa:=fun (z:Int)=>qmL (q:=q) (n:=15625) (d:=4) (z:=z) (by decide) (by decide)
 obtain⟨q1,q2,aj⟩:=qcd q;rw [aj] at ag ⊢;unfold qhq;obtain⟨X,hX⟩:=qX (nearZ q 15625);obtain⟨Y,hY⟩:=qX (nearT q 15625 4);rw [hX] at ag ae ⊢;rw [hY] at ae aa ⊢;obtain⟨W1,ay,K1⟩:=nw1 w #[.string q1,.string q2] 44;have HN:=qH (ag W1 (hT.below K1.o.1) (hE.below K1.o.1));have HQ:=qH (qA aj (qA sq (qA aa ae)));have ax:=qH (hT.below K1.o.1);clear ag ae aa aj sq hT hE hX hY;go_enter func92,ntmps92;go_wp2_with fail;rw [<-ay];clear ay;refine HN.o.mono ?_;rintro e w2 ⟨ai,h⟩;have K2:=(K1.below ai).also (q:=fun W=>HasT W) (ax.o.below ai);clear ai HN ax K1;rcases h with ⟨hi,rfl⟩ | ⟨hi,rfl⟩
 case inr =>
  have HI:=qH hi;clear hi;go_wp2_with fail;refine (qgP 0 6 (by decide) _).mono ?_;rintro e w3 ⟨rfl,hw⟩;subst hw;unfold thrown;go_wp2_with fail;refine⟨rfl,K2.o.1.1,qag ⟨fun h=>HI.o ⟨?_,?_⟩,rfl⟩⟩
  ·have:=h.1;omega
  ·have:=h.2;omega
 have HI:=qH hi;clear hi;go_wp2_with fail;refine (qer X _).mono ?_;rintro e w3 ⟨rfl,hw⟩;subst hw
 by_cases aA:X < -100000000000
 ·go_wp2_with fail;refine (qcj 6 (by decide) _).mono ?_;rintro e w3 ⟨rfl,hw⟩;subst hw;unfold thrown;go_wp2_with fail;exact⟨rfl,K2.o.1.1,qag ⟨fun h=>absurd h.1 (by omega),rfl⟩⟩
 by_cases aB:X > 100000000000
 ·go_wp2_with fail;refine (qcj 6 (by decide) _).mono ?_;rintro e w3 ⟨rfl,hw⟩;subst hw;unfold thrown;go_wp2_with fail;exact⟨rfl,K2.o.1.1,qag ⟨fun h=>absurd h.2 (by omega),rfl⟩⟩
 obtain⟨aJ,aK⟩:=HQ.o.2.2.2 (by omega) (by omega);have az:-100000000000<=X.tdiv 4/\X.tdiv 4<=100000000000:=by have:=Int.natAbs_tdiv_le_natAbs X 4;omega
 have aG:=qH (qA aA aB);obtain⟨Q0,aF⟩:=qX (X.tdiv 4);rw [aF] at az;obtain⟨aH,aI⟩:=az;go_upto_region 5 with fail;clear aA aB
 go_loopw [8] (fun x8 W=>∃z:Int,x8=.int .i64 z/\-100000000001<=z/\z<=100000000001/\(Y<=z\/z=Q0)/\Hu (Below w2.heap.size w2 W)) (fun x8 _=>(intOf x8-Y).toNat)
 case atStart=>exact⟨Q0,rfl,by omega,by omega,qag rfl,qH qB⟩
 case round =>
  obtain⟨z,rfl,ak,au,aC,hB⟩:=hrel;have Z:=K2.below hB.o;obtain⟨u1,u2,hu⟩:=qcd ((((2*z-1)*4:Int):Rat) / ((31250:Int):Rat));have V:=fun W hP=>of_int ((2*z-1)*4) 31250 (by decide) (by omega) (by decide) W hP
  rw [hu] at V;have O:=fun W=>cmpq q ((((2*z-1)*4:Int):Rat) / ((31250:Int):Rat)) HQ.o.2.1 (qdV (by decide) (by omega) (by decide)) W
  rw [hu,HQ.o.1] at O;have I:q<(((2*z-1)*4:Int):Rat) / ((31250:Int):Rat)↔Y<z:=HQ.o.2.2.1 z;rw [I] at O;have HO:=qH (qA V O);have lt:=(qG Z.o.1.2).1;have r0:=rowC (B:=wr.heap.size) Z.o.1.2 0;have r1:=rowC (B:=wr.heap.size) Z.o.1.2 1;clear V O I hu;go_upto_region 5 with fail;refine wp_region_held_drew (S:=fun W=>Below wr.heap.size wr W) (by kernel_rfl) qB.drew (fun hS0=>?_);refine hT 0 (h:=hT 1 (h:=hT 2 (h:=hT 3 (h:=hT 4 (h:=hT 5 (h:=hT 6 (h:=hT 7 (h:=?_))))))));refine hC 8 (HO.o.1 _ (Z.o.2.below qB.drew)) (he:=by (go_simp;exact⟨by simp only [wrapI (t:=2*z) (by omega) (by omega),wrapI (t:=2*z-1) (by omega) (by omega),wrapI (t:=(2*z-1)*4) (by omega) (by omega)],by decide⟩)) (h:=?_);rintro e w4 ⟨rfl,J⟩;have F:=qH (qb4 J);have K4:=Z.below F.o;clear J;refine⟨_,rfl,F.o,hN (h:=?_)⟩;refine hT 9 (hS:=F.o) (h:=hT 10 (hS:=F.o) (h:=?_));refine hC 11 (qcE u1 u2 w4) (h:=?_);rintro e w5 ⟨rfl,J⟩;have U:=qH (F.o.trans (J.mono F.o.size));have K5:=K4.below J;clear J;refine⟨_,rfl,U.o,hN (h:=?_)⟩;refine hC 12 (HO.o.2 w5) (h:=?_);rintro e w6 ⟨c,rfl,hc,J⟩;have H:=qH (U.o.trans (J.mono U.o.size));have K6:=K5.below J;clear J;refine⟨_,rfl,H.o,hN (h:=?_)⟩;refine hT 13 (hS:=H.o) (h:=hT 14 (hS:=H.o) (h:=?_));refine hC 15 (qer c w6) (h:=?_);rintro e w7 ⟨rfl,hw⟩;subst hw;refine⟨_,rfl,H.o,hN (h:=?_)⟩;refine hT 16 (hS:=H.o) (h:=?_);refine wpAnyH_done (by kernel_rfl) ?_ _;have aD:=qH (hB.o.trans (H.o.mono hB.o.size));clear r0 r1 lt hS0 hB HO Z K4 K5
  by_cases I:Y<z
  ·have af:c<0:=hc.2 I;clear hc;go_wp2;go_roundw
   case rel=>exact⟨z-1,by first | rfl | go_num,by omega,by omega,qan (by omega),aD⟩
   case measure=>simp [intOf];omega
  ·have af:¬c<0:=fun h=>I (hc.1 h)
   have ah:z<=Y:=by omega
   clear hc I aC;go_upto_region 7 with fail
   go_loopw [8] (fun x8 W=>∃z:Int,x8=.int .i64 z/\-100000000001<=z/\z<=100000000001/\z<=Y/\Hu (Below w6.heap.size w6 W)) (fun x8 _=>(Y-intOf x8).toNat)
   case atStart=>exact⟨z,rfl,ak,au,ah,qH qB⟩
   case round =>
    clear ak au ah af;obtain⟨z,rfl,ak,au,aC,hB⟩:=hrel;have Z:=K6.below hB.o;obtain⟨u1,u2,hu⟩:=qcd ((((2*z+1)*4:Int):Rat) / ((31250:Int):Rat));have V:=fun W hP=>of_int ((2*z+1)*4) 31250 (by decide) (by omega) (by decide) W hP
    rw [hu] at V;have O:=fun W=>cmpq q ((((2*z+1)*4:Int):Rat) / ((31250:Int):Rat)) HQ.o.2.1 (qdV (by decide) (by omega) (by decide)) W
    rw [hu,HQ.o.1] at O;have I:q<(((2*z+1)*4:Int):Rat) / ((31250:Int):Rat)↔Y<z+1:=by
     have:=HQ.o.2.2.1 (z+1);rw [show 2*(z+1)-1=2*z+1 by omega] at this;exact this
    rw [I] at O;have HO:=qH (qA V O);have lt:=(qG Z.o.1.2).1;have r0:=rowC (B:=wr.heap.size) Z.o.1.2 0;have r1:=rowC (B:=wr.heap.size) Z.o.1.2 1;clear V O I hu;go_upto_region 7 with fail;refine wp_region_held_drew (S:=fun W=>Below wr.heap.size wr W) (by kernel_rfl) qB.drew (fun hS0=>?_);refine hT 0 (h:=hT 1 (h:=hT 2 (h:=hT 3 (h:=hT 4 (h:=hT 5 (h:=hT 6 (h:=hT 7 (h:=?_))))))));refine hC 8 (HO.o.1 _ (Z.o.2.below qB.drew)) (he:=by (go_simp;exact⟨by simp only [wrapI (t:=2*z) (by omega) (by omega),wrapI (t:=2*z+1) (by omega) (by omega),wrapI (t:=(2*z+1)*4) (by omega) (by omega)],by decide⟩)) (h:=?_);rintro e w4 ⟨rfl,J⟩;have F:=qH (qb4 J);have K4:=Z.below F.o;clear J;refine⟨_,rfl,F.o,hN (h:=?_)⟩;refine hT 9 (hS:=F.o) (h:=hT 10 (hS:=F.o) (h:=?_));refine hC 11 (qcE u1 u2 w4) (h:=?_);rintro e w5 ⟨rfl,J⟩;have U:=qH (F.o.trans (J.mono F.o.size));have K5:=K4.below J;clear J;refine⟨_,rfl,U.o,hN (h:=?_)⟩;refine hC 12 (HO.o.2 w5) (h:=?_);rintro e w7 ⟨c,rfl,hc,J⟩;have H:=qH (U.o.trans (J.mono U.o.size));have K7:=K5.below J;clear J;refine⟨_,rfl,H.o,hN (h:=?_)⟩;refine hT 13 (hS:=H.o) (h:=hT 14 (hS:=H.o) (h:=?_));refine hC 15 (qer c w7) (h:=?_);rintro e w8 ⟨rfl,hw⟩;subst hw;refine⟨_,rfl,H.o,hN (h:=?_)⟩;refine hT 16 (hS:=H.o) (h:=?_);refine wpAnyH_done (by kernel_rfl) ?_ _;have av:=qH (hB.o.trans (H.o.mono hB.o.size));clear r0 r1 lt hS0 hB HO Z K4 K5
    by_cases I:Y<z+1
    ·have af:¬c≥0:=by have:=hc.2 I;omega
     obtain rfl:z=Y:=by omega
     clear hc I;go_wp2;go_ret;exact⟨K7.o.1.1,rfl⟩
    ·have af:c≥0:=by
      apply Classical.byContradiction;intro h;exact I (hc.1 (by omega))
     clear hc;go_wp2;go_roundw
     case rel=>exact⟨z+1,by first | rfl | go_num,by omega,by omega,by omega,av⟩
     case measure=>simp [intOf];omega
theorem qjR (N D:Nat) (h:(N=10000/\D=1)\/(N=15625/\D=4)) (q:Rat) (sq:Short q) (w:World) (hT:HasT w) (hE:HasE w) :
  Calls prog 92 #[.agg #[.string (ftxt q).1,.string (ftxt q).2],.int .i64 (N:Int),.int .i64 (D:Int)] w fun e F=>qhq w q N D e F:=by
 rcases h with ⟨rfl,rfl⟩ | ⟨rfl,rfl⟩
 ·exact nearest1 q sq w hT hE
 ·exact nearest4 q sq w hT hE
theorem el11_any (N D:Nat) (V:(N=10000/\D=1)\/(N=15625/\D=4)) (i L rb nb db b off c:Nat) (ao:Option Addr) (l:List FT) (w:World) (hl:l.length=L) (hL:L<=1000) (hi:i<L) (hA:FAll l)
  (O:w.heap[rb]? = some (.cells #[.slice ao L c] 35 (0,0))) (I:w.heap[nb]? = some (.cells #[.int .i64 (N:Int)] 3 (0,0))) (H:w.heap[db]? = some (.cells #[.int .i64 (D:Int)] 3 (0,0))) (hF:FCells w ao b off l) (hT:HasT w) (hE:HasE w) :
  Calls prog 91 #[.int .i64 (i:Int),.pointer (some ⟨rb,0,none⟩),.pointer (some ⟨nb,0,none⟩),.pointer (some ⟨db,0,none⟩)] w fun e w'=>qhq w (lval l i) N D e w':=by
 have aa:=hF.addr (by omega);subst aa;have Z:l.getD i fd0=ftxt (lval l i):=by
  have F:=hA.eq_told;rw [hl] at F;exact (congrArg (fun x=>x.getD i fd0) F).trans (qdr hi)
 have Y:Short (lval l i):=hA.short i (by omega);obtain⟨f1,f2⟩:=hF.cell i (by omega);obtain⟨x1,x2,hx⟩:=qcd (lval l i);rw [Z,hx] at f1 f2;have ae:(i:Int)<L:=by omega
 have lr:=(qG O).1;have ln:=(qG I).1;have ld:=(qG H).1;have r0:=rowC (B:=w.heap.size) O 0;have n0:=rowC (B:=w.heap.size) I 0;have d0:=rowC (B:=w.heap.size) H 0;have g1:∀W,Below w.heap.size w W->W.cell? ⟨b,off+i*2,none⟩=some (.string x1):=fun W h=>(h.cell (qac w _ f1)).trans f1
 have g2:∀W,Below w.heap.size w W->W.cell? ⟨b,off+i*2+1,none⟩=some (.string x2):=fun W h=>(h.cell (qac w _ f2)).trans f2
 have J:=qjR N D V (lval l i) Y w.drew (hT.below qB.drew) (hE.below qB.drew);rw [hx] at J;have HN:=qH J;clear J V hl hA O I H hF hT hE Z Y hx f1 f2;go_enter func91,ntmps91;go_upto_region 1 with fail;refine wp_region_held_drew (S:=fun W=>Below w.heap.size w W) (by kernel_rfl) qB.drew (fun hS0=>?_);refine hT 0 (h:=hT 1 (h:=hT 2 (h:=?_)));refine hT 3 (h:=?_);refine hT 4 (h:=hT 5 (h:=?_));refine hCx 6 HN.o (h:=?_);rintro e w2 ⟨hb,h | h⟩
 ·obtain⟨F,rfl⟩:=h;have U:=qH (qb4 hb);have H1:=qH F;clear hb F;refine qan ⟨_,rfl,U.o,hN (h:=?_)⟩;refine hT 7 (hS:=U.o) (h:=?_);refine wpAnyH_done (by kernel_rfl) ?_ _;go_wp2;go_ret;exact⟨U.o,qan ⟨H1.o,rfl⟩⟩
 ·obtain⟨F,rfl⟩:=h;have U:=qH (qb4 hb);have H1:=qH F;clear hb F;refine qag ⟨_,rfl,?_⟩;go_wp2_with fail;exact⟨rfl,U.o,qag ⟨H1.o,rfl⟩⟩
def elN (c:Nat):Nat:=if c=0 then 10000 else 15625
def elD (c:Nat):Nat:=if c=0 then 1 else 4
def elM (c:Nat):Int:=if c=0 then 0 else 500000
def elz (m:Md) (c k:Nat):Int:=nearT (lval (m.row c) k) (elN c) (elD c)+(if k=0 then elM c else 0)
def qil (z:Int):Prop:=-1000000000<=z/\z<=1000000000
def ElOk (m:Md) (n:Nat):Prop:=∀c,c<3->∀k,k<n+1->qil (elz m c k)
def elOff (m:Md) (j:Nat):List Int:=(List.range j).map fun c=>elz m c 0
def elRow (m:Md) (n c:Nat):List Int:=(List.range n).map fun k=>elz m c (k+1)
theorem elND (c:Nat):(elN c=10000/\elD c=1)\/(elN c=15625/\elD c=4):=by
 unfold elN elD;split
 ·exact qan ⟨rfl,rfl⟩
 ·exact qag ⟨rfl,rfl⟩
theorem qkh (c:Nat):0<=elM c/\elM c<=500000:=by unfold elM;split <;> decide
theorem el_near {q:Rat} {c:Nat} {M:Int} (H:0<=M) (I:M<=500000) (h:qil (nearT q (elN c) (elD c)+M)):-100000000000<=nearZ q (elN c)/\nearZ q (elN c)<=100000000000:=by
 have F:elD c=1\/elD c=4:=by rcases elND c with ⟨_,h⟩ | ⟨_,h⟩ <;> omega
 obtain⟨J,O⟩:=h;have:=qm2 (q:=q) (n:=elN c) (d:=elD c) (B:=1000500000) F (by omega) (by omega);omega
section
variable {W w':World} {B n i j:Nat} {m:Md} {vr vo v':Value} {lo:List Int}
def qfZ (W:World) (B:Nat) (m:Md) (n j:Nat) (I H:Value):Prop :=
 ∃F:List Value,W.ownsRow B 32 1 I j F/\∀c,c<j->IOwn W B (F.getD c undef) (elRow m n c)/\(F.getD c undef).ownBlock≠none/\(F.getD c undef).ownBlock≠H.ownBlock
def ElTo (W:World) (B:Nat) (m:Md) (n i j:Nat) (H F:Value):Prop:=IOwn W B F (elOff m i)/\qfZ W B m n j H F
theorem own_ne {w:World} {B J:Nat} {e H:TypeId} {s V n U:Nat} {x y:Value} {Y Z:List Value} (hx:w.ownsRow B e s x n Y) (hy:w.ownsRow J H V y U Z) (he:e≠H):x.ownBlock=none\/x.ownBlock≠y.ownBlock:=by
 rcases hx.2 with ⟨rfl,_⟩ | ⟨g,cap,cur,rfl,_,O,_⟩
 ·exact qan rfl
 ·refine qag fun I=>?_
  rcases hy.2 with ⟨rfl,_⟩ | ⟨g',cap',cur',rfl,_,F,_⟩
  ·cases I
  ·have:g=g':=qah I;subst this;have:=O.symm.trans F;simp at this;exact he this.2
theorem IOwn.below (h:IOwn W B vo lo) (F:Below W.heap.size W w'):IOwn w' B vo lo:=own_below h F
theorem qfZ.below (h:qfZ W B m n j vr vo) (H:Below W.heap.size W w'):qfZ w' B m n j vr vo:=by
 obtain⟨O,J,F⟩:=h;exact⟨O,own_below J H,fun c I=>⟨(F c I).1.below H,(F c I).2⟩⟩
theorem ElTo.below (h:ElTo W B m n i j vr vo) (F:Below W.heap.size W w'):ElTo w' B m n i j vr vo:=⟨h.1.below F,h.2.below F⟩
instance stays_iown {B:Nat} {v:Value} {l:List Int}:Stays fun W=>IOwn W B v l:=⟨fun h F=>h.below F⟩
theorem qfZ.off (h:qfZ W B m n j vr vo) (O:IOwn W B vo lo) (H:v'.ownBlock=vo.ownBlock/\W.grownBy w' vo.ownBlock\/v'.ownBlock=some W.heap.size/\W.grownBy w' none):qfZ w' B m n j vr v':=by
 obtain⟨U,F,I⟩:=h;refine⟨U,(qes F (own_ne F O (by decide)) H).1,fun c J=>?_⟩;obtain⟨a,b,d⟩:=I c J;obtain⟨e,f⟩:=qes a (qag d) H;exact⟨e,b,f.resolve_left b⟩
theorem own_some {w:World} {B:Nat} {e:TypeId} {s n:Nat} {x:Value} {F:List Value} (hx:w.ownsRow B e s x n F) (H:0<n):x.ownBlock≠none:=by
 rcases hx.2 with ⟨rfl,h⟩ | ⟨g,cap,cur,rfl,_⟩
 ·omega
 ·simp [Value.ownBlock]
theorem ElTo.apart {k:Nat} (h:ElTo W B m n i j vr vo) (I:W.grownBy w' (some k)) (Z:k<B\/W.heap.size<=k):ElTo w' B m n i j vr vo:=by
 have ne:∀{e:TypeId} {s q:Nat} {x:Value} {U:List Value},W.ownsRow B e s x q U->x.ownBlock=none\/x.ownBlock≠some k:=fun {e s q x U} hx=>by
  cases e1:x.ownBlock with
  | none=>exact qan rfl
  | some q =>
   refine qag fun V=>?_
   have:=hx.lt q e1;have:=qah V;omega
 obtain⟨J,Y,O,F⟩:=h;exact⟨World.ownsRow.kept J I (ne J),Y,O.kept I (ne O),fun c H=>⟨World.ownsRow.kept (F c H).1 I (ne (F c H).1),(F c H).2⟩⟩
theorem ElTo.row {F:Value} (h:ElTo W B m n i j vr vo) (Y:0<n) (I:IOwn W B F (elRow m n j)) (J:F.ownBlock≠vo.ownBlock)
  (Z:w'.ownsRow B 32 1 v' (j+1) (Classical.choose h.2++[F])) (O:v'.ownBlock=vr.ownBlock/\W.grownBy w' vr.ownBlock\/v'.ownBlock=some W.heap.size/\W.grownBy w' none):IOwn w' B vo (elOff m i)/\qfZ w' B m n (j+1) v' vo:=by
 obtain⟨H,U⟩:=Classical.choose_spec h.2;generalize Classical.choose h.2=vs at *;have V:vs.length=j:=by have:=H.1;omega
 refine⟨(qes h.1 (own_ne h.1 H (by decide)) O).1,vs++[F],Z,fun c hc=>?_⟩;rcases qaQ c j with hcj | hcj
 ·have e:(vs++[F]).getD c undef=vs.getD c undef:=by
   rw [qaa,qas (by omega),<-qaa]
  rw [e];obtain⟨a,b,d⟩:=U c hcj;exact⟨(qes a (own_ne a H (by decide)) O).1,b,d⟩
 ·obtain rfl:c=j:=by omega
  have e:(vs++[F]).getD c undef=F:=by
   rw [qaa,qaq (by omega),V,qaG];rfl
  rw [e];exact⟨(qes I (own_ne I H (by decide)) O).1,own_some I (by unfold elRow;simpa using Y),J⟩
end
theorem qgw (m:Md) (j:Nat):(elOff m j).length=j:=by unfold elOff;simp
theorem qgx (m:Md) (n c:Nat):(elRow m n c).length=n:=by unfold elRow;simp
theorem elRow_at {m:Md} {n c k:Nat} (h:k<(elRow m n c).length):(elRow m n c)[k]=elz m c (k+1):=by simp [elRow]
def qj9 (n S:Nat) (z:Value):Prop:=(∃a c,z=.slice a n c)/\∃k,z.ownBlock=some k/\S<=k
theorem qkV (m:Md) (j:Nat):elOff m (j+1)=elOff m j++[elz m j 0]:=by unfold elOff;rw [List.range_succ,qa3];rfl
theorem assertE (w:World) (c:Int):(Instr.typeAssert (.iface 203 (.agg #[.int .i64 c])) 20 203 true).run prog w=.ok (.tuple #[.agg #[.int .i64 c],.bool true]) w:=by
 simp [Instr.typeAssert,go_sem]
theorem qjt (p q:Addr) (w:World) :
  CallsD prog 156 #[.pointer (some p),.pointer (some q)] .returning w fun e H I=>e=.returned (.tuple #[])/\H=.returning/\I=w:=by
 refine callsD_of_wpS func156 rfl fun J cs F=>?_
 apply wpS_seq;apply wpS_region;simp [wpOpsS,go_sem,recoverD,F,ntmps156,Exit.thenS,<-qbA,List.replicate];refine wpS_of_wp ?_;go_wp2_with fail;exact⟨rfl,.returning,by rw [<-F],.tuple #[],results_none rfl _ _ _,rfl,rfl,rfl⟩
theorem qkR (gp gq:Nat) (c:Int) (I:List PanicEntry) (w:World) (B:Nat) (O:B<=gp/\B<=gq/\gp≠gq) (hp:w.heap[gp]? = some (.cells #[.int .i64 0,.slice none 0 0,.slice none 0 0,.slice none 0 0,.slice none 0 0,.int .i64 0,.slice none 0 0,.slice none 0 0,.int .i64 0,.int .i64 0] 82 (0,0))) (hq:w.heap[gq]? = some (.cells #[.int .i64 0] 39 (0,0))) :
  CallsD prog 156 #[.pointer (some ⟨gp,0,none⟩),.pointer (some ⟨gq,0,none⟩)] (.panicking ({ v:=.iface 203 (.agg #[.int .i64 c]),recovered:=false } :: I)) w fun e u' w'=>e=.returned (.tuple #[])/\u'=.panicking ({ v:=.iface 203 (.agg #[.int .i64 c]),recovered:=true } :: I) /\
   w'.heap[gp]? = some (.cells #[.int .i64 0,.slice none 0 0,.slice none 0 0,.slice none 0 0,.slice none 0 0,.int .i64 0,.slice none 0 0,.slice none 0 0,.int .i64 0,.int .i64 0] 82 (0,0))/\w'.heap[gq]? = some (.cells #[.int .i64 c] 39 (0,0))/\Below B w w':=by
 have V:=(qG hp).1;have Z:=(qG hq).1;obtain⟨F,U,H⟩:=nw1 w #[.int .i64 0,.slice none 0 0,.slice none 0 0,.slice none 0 0,.slice none 0 0,.int .i64 0,.slice none 0 0,.slice none 0 0,.int .i64 0,.int .i64 0] 82;have Y:=qH (zkeep H.o.1 _ _ hp);have J:(F.setRow gp #[.int .i64 0,.slice none 0 0,.slice none 0 0,.slice none 0 0,.slice none 0 0,.int .i64 0,.slice none 0 0,.slice none 0 0,.int .i64 0,.int .i64 0]).heap[gq]? = some (.cells #[.int .i64 0] 39 (0,0)):=(setRow_other _ _ _ _ (fun e=>O.2.2 e.symm)).trans (zkeep H.o.1 _ _ hq);have cq:=qC (F.setRow gp #[.int .i64 0,.slice none 0 0,.slice none 0 0,.slice none 0 0,.slice none 0 0,.int .i64 0,.slice none 0 0,.slice none 0 0,.int .i64 0,.int .i64 0]) _ 0 _ _ _ J;have fq:=qF (F.setRow gp #[.int .i64 0,.slice none 0 0,.slice none 0 0,.slice none 0 0,.slice none 0 0,.int .i64 0,.slice none 0 0,.slice none 0 0,.int .i64 0,.int .i64 0]) _ 0 _ _ J;have aA:(F.setRow gp #[.int .i64 0,.slice none 0 0,.slice none 0 0,.slice none 0 0,.slice none 0 0,.int .i64 0,.slice none 0 0,.slice none 0 0,.int .i64 0,.int .i64 0]).heap.size=F.heap.size:=by simp [World.setRow]
 have aa:gp<F.heap.size:=qai V H.o.1.size;have ae:gq<F.heap.size:=qai Z H.o.1.size;have az:¬gq=F.heap.size:=by omega
 have HE:=qH (qkd O (qcY (H.o.1.mono (qar (qaL O.1 V))) O.1 #[.int .i64 0,.slice none 0 0,.slice none 0 0,.slice none 0 0,.slice none 0 0,.int .i64 0,.slice none 0 0,.slice none 0 0,.int .i64 0,.int .i64 0]) (qT F gp #[.int .i64 0,.slice none 0 0,.slice none 0 0,.slice none 0 0,.slice none 0 0,.int .i64 0,.slice none 0 0,.slice none 0 0,.int .i64 0,.int .i64 0] #[.int .i64 0,.slice none 0 0,.slice none 0 0,.slice none 0 0,.slice none 0 0,.int .i64 0,.slice none 0 0,.slice none 0 0,.int .i64 0,.int .i64 0] 82 _ Y.o) J c (.cells #[.int .i64 c] 203));clear hp hq O J;have aB:=assertE;refine callsD_of_wpS func156 rfl fun c₀ cs hu=>?_
 apply wpS_seq;apply wpS_region;simp [wpOpsS,go_sem,recoverD,hu,ntmps156,Exit.thenS,<-qbA,List.replicate];refine wpS_of_wp ?_;go_upto_region 3 with fail;rw [<-U];clear U;have af:=qC F _ 0 _ _ _ H.o.2;have ag:=qC F _ 1 _ _ _ H.o.2;have ah:=qC F _ 2 _ _ _ H.o.2;have ai:=qC F _ 3 _ _ _ H.o.2;have aj:=qC F _ 4 _ _ _ H.o.2;have ak:=qC F _ 5 _ _ _ H.o.2;have au:=qC F _ 6 _ _ _ H.o.2;have av:=qC F _ 7 _ _ _ H.o.2;have ax:=qC F _ 8 _ _ _ H.o.2;have ay:=qC F _ 9 _ _ _ H.o.2
 go_wp2_with ((with_reducible refine sR_ rfl 82 _ _ rfl (gp) #[.int .i64 0,.slice none 0 0,.slice none 0 0,.slice none 0 0,.slice none 0 0,.int .i64 0,.slice none 0 0,.slice none 0 0,.int .i64 0,.int .i64 0] Y.o 10 ?_))
 refine⟨rfl,.panicking ({ v:=.iface 203 (.agg #[.int .i64 c]),recovered:=true } :: I),rfl,.tuple #[],results_none rfl _ _ _,rfl,rfl,?_⟩;exact HE.o
theorem qio (fc:FuncId) (H:Array Value) (G:World->Value->Prop) (F:Int->Prop) (w:World) (ag:∀W,(callFunc fc H).run prog W=.ok (.enter fc H) W)
  (hG:∀(W W':World) (v:Value),(∀(g:Nat) (cs:Array Value) (t:TypeId) (fz:Nat×Nat),W.heap[g]? = some (.cells cs t fz)->t≠82->t≠39->W'.heap[g]? = some (.cells cs t fz))->G W v->G W' v)
  (hf:∀V,Below w.heap.size w V->Calls prog fc H V fun e w'=>Below V.heap.size V w'/\((∃(J:Option Addr) (n2 c2:Nat) (O:Option Addr) (I c3:Nat),e=.returned (.agg #[.int .i64 2,.slice none 0 0,.slice J n2 c2,.slice O I c3,.slice none 0 0,.int .i64 0,.slice none 0 0,.slice none 0 0,.int .i64 0,.int .i64 0])/\G w' (.agg #[.int .i64 2,.slice none 0 0,.slice J n2 c2,.slice O I c3,.slice none 0 0,.int .i64 0,.slice none 0 0,.slice none 0 0,.int .i64 0,.int .i64 0]))\/∃c,e=thrown c/\F c)) :
  Calls prog 88 #[.func (.func fc) #[] H] w fun e w'=>Below w.heap.size w w'/\((∃(J:Option Addr) (n2 c2:Nat) (O:Option Addr) (I c3:Nat),e=.returned (.tuple #[(.agg #[.int .i64 2,.slice none 0 0,.slice J n2 c2,.slice O I c3,.slice none 0 0,.int .i64 0,.slice none 0 0,.slice none 0 0,.int .i64 0,.int .i64 0]),.int .i64 0])/\G w' (.agg #[.int .i64 2,.slice none 0 0,.slice J n2 c2,.slice O I c3,.slice none 0 0,.int .i64 0,.slice none 0 0,.slice none 0 0,.int .i64 0,.int .i64 0]))\/∃c,e=.returned (.tuple #[(.agg #[.int .i64 0,.slice none 0 0,.slice none 0 0,.slice none 0 0,.slice none 0 0,.int .i64 0,.slice none 0 0,.slice none 0 0,.int .i64 0,.int .i64 0]),.int .i64 c])/\F c):=by
 have ai:=@hmf_ prog;obtain⟨W2,aa,K2⟩:=nw2 w #[.int .i64 0,.slice none 0 0,.slice none 0 0,.slice none 0 0,.slice none 0 0,.int .i64 0,.slice none 0 0,.slice none 0 0,.int .i64 0,.int .i64 0] 82 #[.int .i64 0] 39;have HF:=qH (hf W2 K2.o.1);clear hf
 go_enter_defers func88,ntmps88
 go_upto_region 1 with fail;rw [<-aa];clear aa;go_wp2_with fail;refine HF.o.mono ?_;rintro e V ⟨Y,h⟩;have U:Kn (fun W=>W.heap[w.heap.size]? = some (.cells #[.int .i64 0,.slice none 0 0,.slice none 0 0,.slice none 0 0,.slice none 0 0,.int .i64 0,.slice none 0 0,.slice none 0 0,.int .i64 0,.int .i64 0] 82 (0,0))/\W.heap[w.heap.size+1]? = some (.cells #[.int .i64 0] 39 (0,0))/\Below w.heap.size w W) V :=
  .of ⟨zkeep Y _ _ K2.o.2.1,zkeep Y _ _ K2.o.2.2,K2.o.1.trans (Y.mono K2.o.1.size)⟩
 clear K2;rcases h with ⟨J,n2,c2,O,I,c3,rfl,hg⟩ | ⟨c,rfl,hF⟩
 ·have HE:=qH (filled (w:=w) (gp:=w.heap.size) (gq:=w.heap.size+1) (B:=w.heap.size) ⟨qae _,by omega,by omega⟩ U.o.1 U.o.2.1 (qT V _ #[.int .i64 0,.slice none 0 0,.slice none 0 0,.slice none 0 0,.slice none 0 0,.int .i64 0,.slice none 0 0,.slice none 0 0,.int .i64 0,.int .i64 0] #[.int .i64 2,.slice none 0 0,.slice J n2 c2,.slice O I c3,.slice none 0 0,.int .i64 0,.slice none 0 0,.slice none 0 0,.int .i64 0,.int .i64 0] _ _ U.o.1) (fun k hk=>setRow_other _ _ _ _ hk) (qcY U.o.2.2 qN _));have ae:=hG _ ((V.setRow w.heap.size #[.int .i64 2,.slice none 0 0,.slice J n2 c2,.slice O I c3,.slice none 0 0,.int .i64 0,.slice none 0 0,.slice none 0 0,.int .i64 0,.int .i64 0]).setCell ⟨w.heap.size+1,0,none⟩ (.int .i64 0)) _ (fun g cs t fz hg h1 h2=>by
   have n1:g≠w.heap.size:=fun e=>h1 (by rw [e] at hg;have:=hg.symm.trans U.o.1;simp at this;exact this.2.1)
   have n2:g≠w.heap.size+1:=fun e=>h2 (by rw [e] at hg;have:=hg.symm.trans U.o.2.1;simp at this;exact this.2.1)
   rw [qW _ _ _ _ n2,setRow_other _ _ _ _ n1];exact hg) hg
  have Z:(V.setRow w.heap.size #[.int .i64 2,.slice none 0 0,.slice J n2 c2,.slice O I c3,.slice none 0 0,.int .i64 0,.slice none 0 0,.slice none 0 0,.int .i64 0,.int .i64 0]).heap[w.heap.size+1]? = some (.cells #[.int .i64 0] 39 (0,0)):=(setRow_other _ _ _ _ (by omega)).trans U.o.2.1;have cq:=qC (V.setRow w.heap.size #[.int .i64 2,.slice none 0 0,.slice J n2 c2,.slice O I c3,.slice none 0 0,.int .i64 0,.slice none 0 0,.slice none 0 0,.int .i64 0,.int .i64 0]) _ 0 _ _ _ Z;have fq:=qF (V.setRow w.heap.size #[.int .i64 2,.slice none 0 0,.slice J n2 c2,.slice O I c3,.slice none 0 0,.int .i64 0,.slice none 0 0,.slice none 0 0,.int .i64 0,.int .i64 0]) _ 0 _ _ Z;have HG:=qH ae;clear hG hg ae HF Y ag Z;rename_i hK;dsimp only;refine hK _ _ ?_
  go_wp2_with ((with_reducible refine sR_ rfl 82 _ _ rfl (w.heap.size) #[.int .i64 2,.slice none 0 0,.slice J n2 c2,.slice O I c3,.slice none 0 0,.int .i64 0,.slice none 0 0,.slice none 0 0,.int .i64 0,.int .i64 0] U.o.1 10 ?_))
  try simp only [bodyPostD]
  refine leaves_cons (f:=156) (args:=#[.pointer (some ⟨w.heap.size,0,none⟩),.pointer (some ⟨w.heap.size+1,0,none⟩)]) (by simp) (by simp [go_sem]) ?_;refine (qjt _ _ _).mono ?_;rintro e u' ah ⟨rfl,rfl,rfl⟩;refine⟨_,qdf rfl _ _ _ _ _ _ rfl rfl ((fun h=>run_loadVar_row _ _ _ 82 _ (0,0) _ h underlying82 rfl (by kernel_rfl)) HE.o.1) (qdu _ underlying39 rfl HE.o.2.1),HE.o.2.2.1,qan ⟨J,n2,c2,O,I,c3,rfl,HG.o⟩⟩
 ·have af:=qH hF;clear hF hG HF;unfold thrown;go_wp2_with fail
  try simp only [bodyPostD]
  refine leaves_cons (f:=156) (args:=#[.pointer (some ⟨w.heap.size,0,none⟩),.pointer (some ⟨w.heap.size+1,0,none⟩)]) (by simp) (by simp [go_sem]) ?_;refine (qkR w.heap.size (w.heap.size+1) c [] _ w.heap.size ⟨qae _,by omega,by omega⟩ U.o.1 U.o.2.1).mono ?_;rintro e u' ah ⟨rfl,rfl,hp,hq,hb⟩;refine⟨_,qdf rfl _ _ _ _ _ _ rfl rfl ((fun h=>run_loadVar_row _ _ _ 82 _ (0,0) _ h underlying82 rfl (by kernel_rfl)) hp) (qdu _ underlying39 rfl hq),U.o.2.2.trans hb,qag ⟨c,rfl,af.o⟩⟩
