import Derived.Test.YtplkdeknjghobaaGreatDoorBe23
import Derived.Test.YtplkdeknjghobaaGreatDoorBe25
set_option maxRecDepth 100000
set_option maxHeartbeats 0
namespace Go.Proofs.YtplkdeknjghobaaGreatDoor
open Go.RowKit
theorem qcC.uniq {z:Int} {k k':Nat} (h:qcC z k) (h':qcC z k'):k'=k:=by have:=h.1;have:=h'.1;omega
theorem qmj {k n m:Nat} {x y:Nat->Nat->Rat} (h:∀c,c<3->told m (x c)=told m (y c)):mdq k n m x=mdq k n m y:=by
 unfold mdq;rw [h 0 (by decide),h 1 (by decide),h 2 (by decide)]
theorem FitAs.only {w:World} {l:List Pt} {kind:Int} {k:Nat} {ws:List Int} {e:Ending} {w':World} {X:Nat->Nat->Rat} (h:FitAs w l kind ws e w') (hP:PtsOk l) (hws:ws.length=l.length) (hW:WOk ws) (hk:qcC kind k) (h3:¬(k=3/\chans l=4))
  (hs:¬Sing (many k (chans l)) (nq l k ws 0)) (hX:∀c,c<3->FitX l k ws c (X c)/\qbY (many k (chans l)) (X c)):Below w.heap.size w w'/\∃v,e=.returned (.tuple #[v,.int .i64 0])/\MdAt w' v (mdq k (chans l) (many k (chans l)) X):=by
 refine⟨h.1,?_⟩;have hsc:∀c,¬Sing (many k (chans l)) (nq l k ws c):=fun c hc=>hs (qhZ hc)
 rcases h.2 with ⟨v,rfl,_,_,_,k',hk',_,_,x,hx,hM⟩ | ⟨c,rfl,hf⟩
 ·obtain rfl:=hk.uniq hk';refine⟨v,rfl,?_⟩;rw [qmj fun c hc=>qeR ((hx c hc).1.uniq (hsc c) (hX c hc).1)] at hM;exact hM
 ·exfalso;rcases hf with ⟨h,_⟩ | ⟨_,h,_⟩ | ⟨_,_,_,k',hk',h⟩
  ·exact h hP
  ·exact h ⟨⟨k,hk⟩,hws,hW⟩
  ·obtain rfl:=hk.uniq hk';rcases h with ⟨a,b,_⟩ | ⟨_,⟨h,_⟩ | ⟨_,c,x,hc,hx,hn,_⟩⟩
   ·exact h3 ⟨a,b⟩
   ·exact hs h
   ·exact hn ((hX c hc).2.congr (qc6.uniq (hsc c) (hX c hc).1 hx))
theorem FitAs.sing {w:World} {l:List Pt} {kind:Int} {k:Nat} {ws:List Int} {e:Ending} {w':World} (h:FitAs w l kind ws e w') (hP:PtsOk l) (hws:ws.length=l.length) (hW:WOk ws) (hk:qcC kind k) (h3:¬(k=3/\chans l=4))
  (hs:Sing (many k (chans l)) (nq l k ws 0)):Below w.heap.size w w'/\e=.returned (.tuple #[mdv0,.int .i64 7]):=by
 refine⟨h.1,?_⟩;rcases h.2 with ⟨v,rfl,_,_,_,k',hk',_,hn,_⟩ | ⟨c,rfl,hf⟩
 ·obtain rfl:=hk.uniq hk';exact absurd hs hn
 ·rcases hf with ⟨h,_⟩ | ⟨_,h,_⟩ | ⟨_,_,_,k',hk',h⟩
  ·exact absurd hP h
  ·exact absurd ⟨⟨k,hk⟩,hws,hW⟩ h
  ·obtain rfl:=hk.uniq hk';rcases h with ⟨a,b,_⟩ | ⟨_,⟨_,rfl⟩ | ⟨h,_⟩⟩
   ·exact absurd ⟨a,b⟩ h3
   ·rfl
   ·exact absurd hs h
theorem mdq_ok {k n:Nat} {X:Nat->Nat->Rat} (hk:1<=k/\k<=3) (h1:1<=n) (h4:n<=4) (h3:¬(k=3/\n=4)) (hX:∀c,c<3->qbY (many k n) (X c)):MdOk (mdq k n (many k n) X) k n :=
 ⟨⟨rfl,hk⟩,⟨rfl,h1,h4⟩,h3,fun c hc=>by rw [qfT hc];exact⟨qbW _ _,qdJ (hX c hc)⟩⟩
theorem MdOk.uniq {m:Md} {k n k' n':Nat} (h:MdOk m k n) (h':MdOk m k' n'):k'=k/\n'=n:=⟨h.kind.uniq h'.kind,by have:=h.inn.1;have:=h'.inn.1;omega⟩
theorem apq_mdq {k n m:Nat} {X:Nat->Nat->Rat} {dv:List Int} {kk c:Nat} (hm:many kk dv.length<=m) (hc:c<3):apq (mdq k n m X) dv kk c=sumQ (many kk dv.length) fun j=>termQ kk dv j*X c j:=by
 unfold apq;rw [qfT hc];exact qb0 fun i hi=>by rw [qcW (by omega)]
theorem ApAs.only {w:World} {m:Md} {k:Nat} {dv:List Int} {e:Ending} {w':World} (h:ApAs w m dv e w') (hM:MdOk m k dv.length) (hV:qcO dv) (hs:∀c,c<3->Short (apq m dv k c)):Below w.heap.size w w' /\
  e=.returned (.tuple #[.agg #[.string (ftxt (apq m dv k 0)).1,.string (ftxt (apq m dv k 0)).2,.string (ftxt (apq m dv k 1)).1,.string (ftxt (apq m dv k 1)).2,.string (ftxt (apq m dv k 2)).1,.string (ftxt (apq m dv k 2)).2],.int .i64 0]):=by
 refine⟨h.1,?_⟩;rcases h.2 with ⟨v,rfl,_,k',hk',_,rfl⟩ | ⟨c,rfl,hf⟩
 ·obtain rfl:=(hM.uniq hk').1;rfl
 ·exfalso;rcases hf with ⟨h,_⟩ | ⟨_,h,_⟩ | ⟨_,_,k',hk',h⟩
  ·exact h ⟨_,_,hM⟩
  ·exact h ⟨hM.inn.1.symm,hV⟩
  ·obtain rfl:=(hM.uniq hk').1;exact h hs
theorem sqq_mdq {k n m:Nat} {X:Nat->Nat->Rat} {l:List Pt} {kk i:Nat} (hm:many kk (chans l)<=m):sqq (mdq k n m X) l kk i=msR 3 (many kk (chans l)) X (fun q=>labq l q i) (fun _=>1) (tqf l kk i):=by
 unfold sqq msR;refine qb0 fun q hq=>?_
 have:(sumQ (many kk (chans l)) fun j=>lval ((mdq k n m X).row q) j*tqf l kk i j)=sumQ (many kk (chans l)) fun j=>X q j*tqf l kk i j:=by
  rw [qfT hq];exact qb0 fun j hj=>by rw [qcW (by omega)]
 have hr:resR (many kk (chans l)) (fun q=>lval ((mdq k n m X).row q)) (fun q=>labq l q i) (tqf l kk i) q=resR (many kk (chans l)) X (fun q=>labq l q i) (tqf l kk i) q:=by
  unfold resR;rw [this]
 rw [hr]
theorem SqAs.only {w:World} {m:Md} {k:Nat} {l:List Pt} {e:Ending} {w':World} (h:SqAs w m l e w') (hP:PtsOk l) (hM:MdOk m k (chans l)) (hs:qbY l.length (sqq m l k)):Below w.heap.size w w' /\
  ∃g,e=.returned (.tuple #[.slice (some ⟨g,0,none⟩) l.length l.length,.int .i64 0])/\FCells w' (some ⟨g,0,none⟩) g 0 (told l.length (sqq m l k)):=by
 refine⟨h.1,?_⟩;rcases h.2 with ⟨v,rfl,_,k',hk',_,g,rfl,hF⟩ | ⟨c,rfl,hf⟩
 ·obtain rfl:=(hM.uniq hk').1;exact⟨g,rfl,hF⟩
 ·exfalso;rcases hf with ⟨h,_⟩ | ⟨_,h,_⟩ | ⟨_,_,h,_⟩ | ⟨_,_,k',hk',h⟩
  ·exact h ⟨_,_,hM⟩
  ·exact h hP
  ·exact h hM.inn.1
  ·obtain rfl:=(hM.uniq hk').1;exact h hs
def ramp:List Pt:=[⟨⟨#[97]⟩,[0],0,0,0⟩,⟨⟨#[98]⟩,[5000],6000,0,0⟩,⟨⟨#[99]⟩,[10000],10000,0,0⟩]
theorem qhX {c:UInt8} (h:qdz c=true):qjI ⟨#[c]⟩:=⟨qad 1,show 1<=12 by decide,fun k hk=>by
 have hk:k<1:=hk;obtain rfl:k=0:=by omega
 exact h⟩
theorem qfM {z:Int} (h:0<=z/\z<=10000):qcO [z]:=fun k hk=>by
 have hk:k<1:=hk;obtain rfl:k=0:=by omega
 exact h
theorem qh4:PtsOk ramp where
 r1:=by decide
 r2:=by decide
 rows:=fun k hk=>by
  have hk:k<3:=hk;rcases (show k=0\/k=1\/k=2 by omega) with rfl | rfl | rfl
  ·exact⟨⟨qhX (by decide),by decide,by decide,qfM (by decide),by decide,by decide,by decide⟩,rfl⟩
  ·exact⟨⟨qhX (by decide),by decide,by decide,qfM (by decide),by decide,by decide,by decide⟩,rfl⟩
  ·exact⟨⟨qhX (by decide),by decide,by decide,qfM (by decide),by decide,by decide,by decide⟩,rfl⟩
 apart:=fun i k h1 h2=>by
  have h2:i<3:=h2;rcases (show (k=0/\i=1)\/(k=0/\i=2)\/(k=1/\i=2) by omega) with ⟨rfl,rfl⟩ | ⟨rfl,rfl⟩ | ⟨rfl,rfl⟩
  ·exact (by decide:(⟨#[97]⟩:ByteArray)≠⟨#[98]⟩)
  ·exact (by decide:(⟨#[97]⟩:ByteArray)≠⟨#[99]⟩)
  ·exact (by decide:(⟨#[98]⟩:ByteArray)≠⟨#[99]⟩)
def fitX1 (c:Nat):Nat->Rat:=if c=0 then fv [10 / 3,100] else fv [0,0]
def fitX2 (c:Nat):Nat->Rat:=if c=0 then fv [0,140,-40] else fv [0,0,0]
theorem fit1_x:∀c,c<3->FitX ramp 1 [1,1,1] c (fitX1 c)/\qbY 2 (fitX1 c):=fun c hc=>by
 rcases (show c=0\/c=1\/c=2 by omega) with rfl | rfl | rfl
 ·exact⟨show ∀i,i<2->_ from by decide +kernel,qcV (by decide +kernel)⟩
 ·exact⟨show ∀i,i<2->_ from by decide +kernel,qcV (by decide +kernel)⟩
 ·exact⟨show ∀i,i<2->_ from by decide +kernel,qcV (by decide +kernel)⟩
theorem fit2_x:∀c,c<3->FitX ramp 2 [1,1,1] c (fitX2 c)/\qbY 3 (fitX2 c):=fun c hc=>by
 rcases (show c=0\/c=1\/c=2 by omega) with rfl | rfl | rfl
 ·exact⟨show ∀i,i<3->_ from by decide +kernel,qcV (by decide +kernel)⟩
 ·exact⟨show ∀i,i<3->_ from by decide +kernel,qcV (by decide +kernel)⟩
 ·exact⟨show ∀i,i<3->_ from by decide +kernel,qcV (by decide +kernel)⟩
theorem fit1_one:¬Sing 2 (nq ramp 1 [1,1,1] 0):=qiG (fm [[5 / 6,-1],[-1,2]]) (by decide +kernel)
theorem fit2_one:¬Sing 3 (nq ramp 2 [1,1,1] 0):=qiG (fm [[1,-3,2],[-3,26,-24],[2,-24,24]]) (by decide +kernel)
theorem qlL:Sing 3 (nq ramp 2 [1,1,0] 0):=⟨fv [0,1,-2],⟨1,by decide,by decide +kernel⟩,show ∀i,i<3->_ from by decide +kernel⟩
theorem qmD:WOk [1,1,1]:=show ∀k,k<3->_ from by decide
theorem ones0_ok:WOk [1,1,0]:=show ∀k,k<3->_ from by decide
theorem kind1:qcC 1 1:=⟨rfl,by decide,by decide⟩
theorem kind2:qcC 2 2:=⟨rfl,by decide,by decide⟩
theorem kind3:qcC 3 3:=⟨rfl,by decide,by decide⟩
theorem ex_fit1 {w w':World} {e:Ending} (h:FitAs w ramp 1 [1,1,1] e w'):Below w.heap.size w w'/\∃v,e=.returned (.tuple #[v,.int .i64 0])/\MdAt w' v (mdq 1 1 2 fitX1) :=
 h.only qh4 rfl qmD kind1 (by decide) fit1_one fit1_x
theorem ex_fit2 {w w':World} {e:Ending} (h:FitAs w ramp 2 [1,1,1] e w'):Below w.heap.size w w'/\∃v,e=.returned (.tuple #[v,.int .i64 0])/\MdAt w' v (mdq 2 1 3 fitX2) :=
 h.only qh4 rfl qmD kind2 (by decide) fit2_one fit2_x
theorem ex_fit3 {w w':World} {e:Ending} (h:FitAs w ramp 2 [1,1,0] e w'):Below w.heap.size w w'/\e=.returned (.tuple #[mdv0,.int .i64 7]) :=
 h.sing qh4 rfl ones0_ok kind2 (by decide) qlL
theorem qiB:MdOk (mdq 1 1 2 fitX1) 1 1:=mdq_ok (k:=1) (n:=1) (by decide) (by decide) (by decide) (by decide) fun c hc=>(fit1_x c hc).2
theorem ex_ap {c:Nat} (hc:c<3):apq (mdq 1 1 2 fitX1) [5000] 1 c=if c=0 then 160 / 3 else 0:=by
 rw [apq_mdq (by decide) hc];rcases (show c=0\/c=1\/c=2 by omega) with rfl | rfl | rfl <;> decide +kernel
theorem ex_apply {w w':World} {e:Ending} (h:ApAs w (mdq 1 1 2 fitX1) [5000] e w'):Below w.heap.size w w'/\e=.returned (.tuple #[.agg #[.string ⟨#[49,54,48]⟩,.string ⟨#[51]⟩,.string ⟨#[48]⟩,.string ⟨#[49]⟩,.string ⟨#[48]⟩,.string ⟨#[49]⟩],.int .i64 0]):=by
 obtain⟨hb,he⟩:=h.only qiB (qfM (by decide)) (fun c hc=>by
  rw [ex_ap hc];rcases (show c=0\/c=1\/c=2 by omega) with rfl | rfl | rfl
  ·exact qdd (N:=1000) ⟨by decide +kernel,by decide +kernel⟩ (by decide +kernel)
  ·exact qdd (N:=1000) ⟨by decide +kernel,by decide +kernel⟩ (by decide +kernel)
  ·exact qdd (N:=1000) ⟨by decide +kernel,by decide +kernel⟩ (by decide +kernel))
 refine⟨hb,he.trans ?_⟩;rw [ex_ap (c:=0) (by decide),ex_ap (c:=1) (by decide),ex_ap (c:=2) (by decide),if_pos rfl,if_neg (by decide),if_neg (by decide),ft_0];have e1:ftxt (160 / 3)=(⟨#[49,54,48]⟩,⟨#[51]⟩):=by
  unfold ftxt;rw [show ((160 / 3:Rat)).num=160 by decide +kernel,show ((160 / 3:Rat)).den=3 by decide +kernel,frac.qdE (by decide),qer (u:=3) (by decide)];unfold num;rw [show (160:Int).natAbs=160 from rfl,qcf (by decide),show 160 / 10=16 from rfl,qcf (by decide),qbZ (by decide)]
  rfl
 rw [e1]
theorem ex_sq:∀i,i<3->sqq (mdq 1 1 2 fitX1) ramp 1 i=fv [100 / 9,400 / 9,100 / 9] i:=fun i hi=>by
 rw [sqq_mdq (by decide)];rcases (show i=0\/i=1\/i=2 by omega) with rfl | rfl | rfl <;> decide +kernel
theorem qkt {w w':World} {e:Ending} (h:SqAs w (mdq 1 1 2 fitX1) ramp e w'):Below w.heap.size w w'/\∃g,e=.returned (.tuple #[.slice (some ⟨g,0,none⟩) 3 3,.int .i64 0])/\FCells w' (some ⟨g,0,none⟩) g 0 (told 3 (fv [100 / 9,400 / 9,100 / 9])):=by
 obtain⟨hb,g,he,hF⟩:=h.only qh4 qiB (fun i hi=>by rw [ex_sq i hi];exact qcV (n:=3) (by decide +kernel) i hi);refine⟨hb,g,he,?_⟩;have:told ramp.length (sqq (mdq 1 1 2 fitX1) ramp 1)=told 3 (fv [100 / 9,400 / 9,100 / 9]):=qeR ex_sq;rw [this] at hF;exact hF
theorem qmN (k n:Nat) (hk:1<=k/\k<=3) (hn:1<=n/\n<=4) (w:World):Calls Tryz.prog 62 #[.int .i64 (k:Int),.int .i64 (n:Int)] w fun e w'=>e=.returned (.int .i64 (many k n:Nat))/\w'=w:=by
 rcases (show k=1\/k=2\/k=3 by omega) with rfl | rfl | rfl
 ·have h1:(n:Int)+1<=9223372036854775807:=by omega
  go_enter Tryz.func62,Tryz.ntmps62;go_wp2;go_ret;exact⟨by unfold many;simp;omega,rfl⟩
 ·go_enter Tryz.func62,Tryz.ntmps62;go_wp2;go_ret;exact⟨by unfold many;simp;omega,rfl⟩
 ·rcases (show n=1\/n=2\/n=3\/n=4 by omega) with rfl | rfl | rfl | rfl
  all_goals
   go_enter Tryz.func62,Tryz.ntmps62;go_wp2;go_ret;exact⟨rfl,rfl⟩
theorem infoI64:(Tryz.prog.info? 3).map (fun i=>(i.zero,i.size,i.bytes))=some (some (.int .i64 0),1,8):=by kernel_rfl
def GivesI (fc:FuncId) (caps:Array Value) (w:World) (n:Nat) (P:Nat->Int->Prop) (F:Nat->Int->Prop):Prop :=
 ∀i,i<n->∀W,Below w.heap.size w W->Calls Tryz.prog fc (#[.int .i64 (i:Int)]++caps) W fun e w'=>Below W.heap.size W w'/\((∃z,e=.returned (.int .i64 z)/\P i z)\/∃c,e=thrown c/\F i c)
theorem qjj (fc:FuncId) (caps:Array Value) (n:Nat) (hn:n<=1000) (P:Nat->Int->Prop) (F:Nat->Int->Prop) (w:World) (hcf:∀a W,(callFunc fc (#[a]++caps)).run Tryz.prog W=.ok (.enter fc (#[a]++caps)) W) (hf:GivesI fc caps w n P F) :
  Calls Tryz.prog 90 #[.int .i64 (n:Int),.func (.func fc) #[] caps] w fun e w'=>Below w.heap.size w w' /\
   ((∃(l:List Int) (g:Nat),l.length=n/\(∀i,i<n->P i (l.getD i 0))/\e=.returned (.slice (some ⟨g,0,none⟩) n n)/\VRow w' g n (.int .i64 0) 3 (l.map fun z=>.int .i64 z)/\w.heap.size<=g)\/∃i c,i<n/\e=thrown c/\F i c):=by
 have hmk:=run_make_row' (P:=Tryz.prog) 32 3 (.int .i64 0) 8 Tryz.underlying32 infoI64 rfl .i64 .i64 n (by omega) (by omega) w;obtain⟨W5,hW5⟩:=qY (w.alloc (.cells (madeCells #[.int .i64 0] n) 3));rw [<-hW5] at hmk;have hfr:VRow W5 w.heap.size n (.int .i64 0) 3 []:=hW5▸VRow.made' w n _ _;have hb5:Below w.heap.size w W5:=hW5▸qB.alloc qN _;have H0:=qH (qA hfr (qA hb5 hf));clear hfr hb5 hf hW5;go_enter Tryz.func90,Tryz.ntmps90;go_wp2_with fail
 go_loopw [10] (fun x10 W=>∃i:Nat,x10=.int .i64 i/\i<=n/\Hid (∃l:List Int,l.length=i/\(∀j,j<i->P j (l.getD j 0))/\VRow W w.heap.size n (.int .i64 0) 3 (l.map fun z=>.int .i64 z)/\Below w.heap.size w W)) (fun x10 _=>n-(intOf x10).toNat)
 case atStart=>exact⟨0,rfl,qam _,qH ⟨[],rfl,fun j hj=>absurd hj (by omega),H0.out.1,H0.out.2.1⟩⟩
 case round =>
  obtain⟨i,rfl,hin,hI⟩:=hrel;obtain⟨l,hl,hP,hV,hB⟩:=hI.out
  by_cases hi:i<n
  ·subst hl;have hiI:(l.length:Int)<n:=by omega
   have HC:=qH (H0.out.2.2 l.length hi _ hB);have HI:=qH (qA hP (qA hV hB));clear hI hP hV hB;go_wp2_with fail;refine HC.out.mono ?_;rintro e w2 ⟨hb2,h⟩;rcases h with ⟨z,rfl,hp⟩ | ⟨c,rfl,hF⟩
   ·have hVc:=HI.out.2.1.below hb2;have hlen:(l.map fun z=>Value.int .i64 z).length=l.length:=qaw _;obtain⟨q0,qf⟩:=hVc.at (by rw [hlen];exact hi);have hset:=hVc.set (by rw [hlen];exact hi) (.int .i64 z);rw [hlen] at q0 hset;have qf0:=qf l.length;have HN:=qH (qA hset (qA ((HI.out.2.2.trans (hb2.mono HI.out.2.2.size)).setCell (p:=⟨w.heap.size,l.length,none⟩) qN (.int .i64 z)) hp));clear hVc qf hb2 hp hset hlen;go_wp2;go_roundw
    case rel =>
     refine⟨l.length+1,by go_num,hi,qH ⟨l++[z],by simp,fun j hj=>?_,by rw [qa5];exact HN.out.1,HN.out.2.1⟩⟩;rcases qaT j l.length with hj2 | hj2
     ·rw [qaa,qaA hj2,<-qaa];exact HI.out.1 j hj2
     ·have:j=l.length:=by omega
      subst this;rw [qaa,qas qN,qaI];exact HN.out.2.2
    case measure=>simp [intOf];omega
   ·have HN:=qH (qA (HI.out.2.2.trans (hb2.mono HI.out.2.2.size)) hF);clear hb2 hF;unfold thrown;go_wp2_with fail;exact⟨rfl,HN.out.1,qah ⟨_,c,hi,rfl,HN.out.2⟩⟩
  ·obtain rfl:i=n:=by omega
   have HN:=qH (qA hl (qA hP (qA hV hB)));clear hI hl hP hV hB;go_wp2;go_ret;obtain⟨h1,h2,h3,h4⟩:=HN.out;exact⟨h4,qan ⟨l,_,h1,h2,rfl,h3,qad _⟩⟩
def SameAs (w:World) (l l2:List FT) (e:Ending) (w':World):Prop:=∃ok,e=.returned (.bool ok)/\(ok=true↔l=l2)/\Below w.heap.size w w'
theorem qm7 {l l2:List FT} {k:Nat} (h1:k<l.length) (h2:k<l2.length) (h:l.take k=l2.take k) (e:l.getD k fd0=l2.getD k fd0):l.take (k+1)=l2.take (k+1):=by
 rw [List.take_add_one,List.take_add_one,h]
 congr 1
 rw [qaa,qaa,qae h1,qae h2] at e;rw [qae h1,qae h2];exact congrArg (fun x=>(some x).toList) e
theorem qj0 {a b:ByteArray} (h:a≠b):¬a.toList=b.toList:=by
 rw [ByteArray.toList_eq,ByteArray.toList_eq];intro e;apply h;obtain⟨⟨x⟩⟩:=a;obtain⟨⟨y⟩⟩:=b;cases e;rfl
theorem qlS {l l2:List FT} {k:Nat} (h:l.getD k fd0≠l2.getD k fd0):¬l=l2:=fun e=>h (by rw [e])
theorem qfE (ao:Option Addr) (b off n c:Nat) (l:List FT) (ao2:Option Addr) (b2 off2 m c2:Nat) (l2:List FT) (w:World) (hn:l.length=n) (hn6:n<=1000000) (hc:FCells w ao b off l) (hm:l2.length=m) (hm6:m<=1000000) (hc2:FCells w ao2 b2 off2 l2) :
  Calls Tryz.prog 36 #[.slice ao n c,.slice ao2 m c2] w fun e w'=>SameAs w l l2 e w':=by
 have HC:=qH (qA hc (qA hn (qA hc2 hm)));clear hc hc2
 by_cases hne:n=m
 ·subst hne;clear hn hm hm6;go_enter Tryz.func36,Tryz.ntmps36;go_wp2_with fail
  go_loopw [5] (fun x5 W=>∃k:Nat,x5=.int .i64 k/\k<=n/\Hid (l.take k=l2.take k)/\Hid (Below w.heap.size w W)) (fun x5 _=>n-(intOf x5).toNat)
  case atStart=>exact⟨0,rfl,qam _,qH rfl,qH qB⟩
  case round =>
   obtain⟨k,rfl,hk,hI,hB⟩:=hrel
   by_cases hkn:k<n
   ·have hki:(k:Int)<n:=by omega
    have haw:=HC.out.1.addr (by rw [HC.out.2.1];omega);subst haw;have hao:=HC.out.2.2.1.addr (by rw [HC.out.2.2.2];omega);subst hao;obtain⟨h1,h2⟩:=(HC.out.1.below hB.out).cell k (by rw [HC.out.2.1];exact hkn);obtain⟨h3,h4⟩:=(HC.out.2.2.1.below hB.out).cell k (by rw [HC.out.2.2.2];exact hkn);obtain⟨x1,hx1⟩:=qX ((l.getD k fd0).1);obtain⟨x2,hx2⟩:=qX ((l.getD k fd0).2);obtain⟨y1,hy1⟩:=qX ((l2.getD k fd0).1);obtain⟨y2,hy2⟩:=qX ((l2.getD k fd0).2);rw [hx1] at h1;rw [hx2] at h2;rw [hy1] at h3;rw [hy2] at h4;have HX:Hid (l.getD k fd0=(x1,x2)/\l2.getD k fd0=(y1,y2)):=qH ⟨by rw [<-hx1,<-hx2],by rw [<-hy1,<-hy2]⟩;clear hx1 hx2 hy1 hy2
    by_cases g1:x1=y1
    ·by_cases g2:x2=y2
     ·subst g1;subst g2;have HI:=qH (qm7 (by rw [HC.out.2.1];exact hkn) (by rw [HC.out.2.2.2];exact hkn) hI.out (HX.out.1.trans HX.out.2.symm));go_wp2_with fail
      go_quiet (fail)
      go_wp2;go_roundw
      case rel=>exact⟨k+1,by go_num,hkn,HI,qH (below_drewN hB.out _)⟩
      case measure=>simp [intOf];omega
     ·subst g1;have HN:=qH (qlS (l:=l) (l2:=l2) (k:=k) (by rw [HX.out.1,HX.out.2];exact fun h=>g2 (congrArg Prod.snd h)));have g3:=qj0 g2;clear g2;go_wp2_with fail
      go_quiet (fail)
      go_wp2;go_ret;exact⟨false,rfl,qd9 HN.out,below_drewN hB.out _⟩
    ·have HN:=qH (qlS (l:=l) (l2:=l2) (k:=k) (by rw [HX.out.1,HX.out.2];exact fun h=>g1 (congrArg Prod.fst h)));have g3:=qj0 g1;clear g1;go_wp2_with fail
     go_quiet (fail)
     go_wp2;go_ret;exact⟨false,rfl,qd9 HN.out,below_drewN hB.out _⟩
   ·obtain rfl:k=n:=by omega
    have hE:l=l2:=by have h:=hI.out;rwa [qak (by rw [HC.out.2.1];exact qad _),qak (by rw [HC.out.2.2.2];exact qad _)] at h
    have HE:=qH hE;clear hE;go_wp2;go_ret;exact⟨true,rfl,qjF HE.out,hB.out⟩
 ·have hb:((n:Int) != (m:Int))=true:=by rw [bne_iff_ne];omega
  have HN:Hid (¬l=l2):=qH (fun h=>hne (by rw [<-hn,<-hm,h]));go_enter Tryz.func36,Tryz.ntmps36;go_wp2;go_ret;exact⟨false,rfl,qd9 HN.out,Below.refl _ _⟩
def cutA (s:ByteArray):ByteArray:=⟨(Lib.cut s.data.toList [47]).1.toArray⟩
def cutB (s:ByteArray):ByteArray:=⟨(Lib.cut s.data.toList [47]).2.1.toArray⟩
def cutC (s:ByteArray):Bool:=(Lib.cut s.data.toList [47]).2.2
theorem scut_any (s:ByteArray) (hs:s.size<=65536) (w:World) :
  Calls Tryz.prog 151 #[.string s,.string ⟨#[47]⟩] w fun e w'=>e=.returned (.tuple #[.string (cutA s),.string (cutB s),.bool (cutC s)])/\Below w.heap.size w w':=by
 have HO:Hid (∀W:World,_):=fun (W:World)=>Tryz.stringslite_Index_one s 47 W
 have hx1:Lib.indexB s ⟨#[47]⟩=Lib.indexByte s.data.toList 47:=Lib.index_one s.data.toList 47;rcases Lib.indexB_cases s ⟨#[47]⟩ with hix | ⟨i,hix,hroom⟩
 ·obtain⟨e1,e2,e3⟩:=Lib.cutB_miss s ⟨#[47]⟩ hix;rw [hx1] at hix;rw [show cutA s=s from e1,show cutB s=ByteArray.empty from e2,show cutC s=false from e3];have HI:=qH hix;clear hix hx1 e1 e2 e3;go_enter Tryz.func151,Tryz.ntmps151;go_wp2_with fail;refine (HO.out _).mono ?_;rintro e w1 ⟨rfl,rfl⟩;rw [HI.out];go_wp2_with fail
  go_ret3
  exact⟨rfl,Below.refl _ _⟩
 ·obtain⟨e1,e2,e3⟩:=Lib.cutB_hit s ⟨#[47]⟩ i hix;rw [hx1] at hix;rw [show cutA s=_ from e1,show cutB s=_ from e2,show cutC s=true from e3];have hz:(⟨#[47]⟩:ByteArray).size=1:=rfl;rw [hz] at hroom ⊢;have HI:=qH hix;have c1:(0:Int)<=↑i:=by omega
  have c2:(↑i:Int)<=↑s.size:=by omega
  have c3:(0:Int)<=↑i+1:=by omega
  have c4:(↑i+1:Int)<=↑s.size:=by omega
  have c5:IntKind.i64.wrap (↑i+1)=↑i+1:=by simp [IntKind.wrap,IntKind.bits,IntKind.signed];omega
  have mixed:Tryz.prog.follows .mixedOrders=true:=by kernel_rfl
  clear hix hx1 e1 e2 e3;go_enter Tryz.func151,Tryz.ntmps151;go_wp2_with fail;refine (HO.out _).mono ?_;rintro e w1 ⟨rfl,rfl⟩;rw [HI.out];go_wp2_with fail
  go_region_o
  go_wp2
  go_ret3
  exact⟨rfl,qB.drew⟩
theorem qmT (s:ByteArray) (hs:s.size<=65536) (w:World) :
  Calls Tryz.prog 81 #[.string s,.string ⟨#[47]⟩] w fun e w'=>e=.returned (.tuple #[.string (cutA s),.string (cutB s),.bool (cutC s)])/\Below w.heap.size w w':=by
 have HO:Hid (∀W:World,_):=fun (W:World)=>scut_any s hs W
 generalize cutA s=a at *;generalize cutB s=b at *;generalize cutC s=c at *;go_enter Tryz.func81,Tryz.ntmps81;go_wp2_with fail;refine (HO.out _).mono ?_;rintro e w1 ⟨rfl,hb⟩;have HB:=qH hb;clear hb;go_wp2_with fail
 go_ret3
 exact⟨rfl,HB.out⟩
def qf (s:ByteArray):FT:=(cutA s,if cutC s=true then cutB s else ⟨#[49]⟩)
structure SCells (W:World) (b off:Nat) (L:List ByteArray):Prop where
 cell:∀k,k<L.length->W.cell? ⟨b,off+k,none⟩=some (.string (L.getD k ⟨#[]⟩))
theorem SCells.below {W W':World} {b off:Nat} {L:List ByteArray} (h:SCells W b off L) (hb:Below W.heap.size W W'):SCells W' b off L :=
 ⟨fun k hk=>(hb.cell (qac W _ (h.cell k hk))).trans (h.cell k hk)⟩
theorem SCells.row {W:World} {g:Nat} {L:List ByteArray} {t:TypeId} {fz:Nat×Nat} (h:W.heap[g]? = some (.cells (L.map Value.string).toArray t fz)):SCells W g 0 L :=
 ⟨fun k hk=>by
  refine (qC _ _ _ _ _ _ h).trans ?_;rw [qaO,qat,qaM,qaa,qae hk];rfl⟩
theorem q_new (b n c:Nat) (L:List ByteArray) (w:World) (hn:L.length=n) (hn6:n<=1000) (hc:SCells w b 0 L) (hL:∀k,(L.getD k ⟨#[]⟩).size<=65536) :
  Calls Tryz.prog 24 #[.slice (some ⟨b,0,none⟩) n c] w fun e w'=>∃v,e=.returned v/\Rws w' w.heap.size 44 2 v n (fflat (L.map qf))/\Below w.heap.size w w':=by
 have HC:=qH (qA hc (qA hn hL));clear hc hn hL;go_enter Tryz.func24,Tryz.ntmps24;go_wp2_with fail
 go_loopw [3,5,6,7,8,11] (fun x3 x5 x6 x7 x8 x11 W=>∃i:Nat,x11=.int .i64 i/\i<=n/\Hid (Rws W w.heap.size 44 2 x3 i (fflat ((L.take i).map qf)))/\Hid (Below w.heap.size w W)) (fun _ _ _ _ _ x11 _=>n-(intOf x11).toNat)
 case atStart=>exact⟨0,rfl,qam _,qH (Rws.nil _ _ _ _),qH qB⟩
 case round =>
  obtain⟨i,rfl,hi,hO,hB⟩:=hrel
  by_cases hlt:i<n
  ·have hii:(i:Int)<n:=by omega
   have hcl:=(HC.out.1.below hB.out).cell i (by rw [HC.out.2.1];exact hlt);rw [qaO] at hcl;have hs:=HC.out.2.2 i;have htake:(L.take (i+1)).map qf=(L.take i).map qf++[qf (L.getD i ⟨#[]⟩)]:=by
    rw [List.take_add_one,qa5,qaa,qae (by rw [HC.out.2.1];exact hlt)];rfl
   obtain⟨s,hss⟩:=qX (L.getD i ⟨#[]⟩);rw [hss] at hcl hs htake;have HS:=qH (fun (W:World)=>qmT s hs W);unfold qf at htake;have HT:=qH htake;generalize cutA s=ca at *;generalize cutB s=cb at *;generalize cutC s=cc at *;clear hss htake hs;go_wp2_with fail;refine (HS.out _).mono ?_;rintro e w2 ⟨rfl,hb2⟩;have HO2:=qH (hO.out.below hb2);have HB2:=qH (hB.out.trans (hb2.mono hB.out.size));clear hb2;cases cc with
   | true =>
    go_wp2_with (first | (at_builtin;refine qhj rfl _ _ rfl HB2.out rfl HO2.out rfl rfl rfl (by omega) ?_;intro v' w' ho' hb') | fail)
    go_roundw
    case rel=>exact⟨i+1,by go_num,hlt,qH (by rw [show List.map qf (List.take (i+1) L)=_ from HT.out];exact ho'.out),hb'⟩
    case measure=>simp [intOf];omega
   | false =>
    go_wp2_with (first | (at_builtin;refine qhj rfl _ _ rfl HB2.out rfl HO2.out rfl rfl rfl (by omega) ?_;intro v' w' ho' hb') | fail)
    go_roundw
    case rel=>exact⟨i+1,by go_num,hlt,qH (by rw [show List.map qf (List.take (i+1) L)=_ from HT.out];exact ho'.out),hb'⟩
    case measure=>simp [intOf];omega
  ·obtain rfl:i=n:=by omega
   have hO2:=hO.out;rw [qak (by rw [HC.out.2.1];exact qad _)] at hO2;have HH:=qH hO2;obtain⟨ao,cap,rfl⟩:=hO2.shape;clear hO2;go_wp2;go_ret;exact⟨_,rfl,HH.out,hB.out⟩
theorem q_any (b n c:Nat) (L:List ByteArray) (w:World) (hn:L.length=n) (hn6:n<=1000) (hc:SCells w b 0 L) (hL:∀k,(L.getD k ⟨#[]⟩).size<=65536) :
  Calls Tryz.prog 24 #[.slice (some ⟨b,0,none⟩) n c] w fun e w'=>∃(ao:Option Addr) (g cap:Nat),e=.returned (.slice ao n cap)/\FCells w' ao g 0 (L.map qf)/\n<=cap/\Below w.heap.size w w':=by
 refine (q_new b n c L w hn hn6 hc hL).mono ?_;rintro e w' ⟨v,rfl,h,hb⟩;obtain⟨ao,g,cap,rfl,h1,h2⟩:=qd2 h (by rw [qaw,hn]);exact⟨ao,g,cap,rfl,h1,h2,hb⟩
open Go.Lib
def IsAt (w:World) (b:Nat) (L:List ByteArray):Prop:=∃gs,w.heap[b]? = some (.cells #[.slice (some ⟨gs,0,none⟩) L.length L.length] 157 (0,0))/\SCells w gs 0 L
theorem IsAt.below {w w':World} {b:Nat} {L:List ByteArray} (h:IsAt w b L) (hb:Below w.heap.size w w'):IsAt w' b L:=by
 obtain⟨gs,h1,h2⟩:=h;exact⟨gs,zkeep hb _ _ h1,h2.below hb⟩
theorem qiy (gs:Nat) (L:List ByteArray) (w:World) (hs:SCells w gs 0 L) :
  Calls Tryz.prog 46 #[.slice (some ⟨gs,0,none⟩) L.length L.length] w fun e w'=>∃b,e=.returned (.func (.func 120) #[] #[.pointer (some ⟨b,0,none⟩)])/\Below w.heap.size w w'/\IsAt w' b L:=by
 have hb1:Below w.heap.size w (w.alloc (.cells #[.slice (some ⟨gs,0,none⟩) L.length L.length] 157)):=qbS qB qN;have H:=qH (qA hb1 (show IsAt (w.alloc (.cells #[.slice (some ⟨gs,0,none⟩) L.length L.length] 157)) w.heap.size L from ⟨gs,qM _ _ _ rfl,hs.below hb1⟩));clear hb1 hs;generalize L.length=n at *;go_enter Tryz.func46,Tryz.ntmps46;go_wp2;go_ret;exact⟨_,rfl,H.out.1,H.out.2⟩
theorem qkI (ao:Option Addr) (g off n c b:Nat) (L:List ByteArray) (w:World) (hb:IsAt w b L) (hn:L.length=n) (hn6:n<=1000) (hL:∀k,(L.getD k ⟨#[]⟩).size<=65536) (hf:FCells w ao g off (L.map qf)) :
  Calls Tryz.prog 120 #[.slice ao n c,.int .i64 0,.pointer (some ⟨b,0,none⟩)] w fun r w'=>r=.returned (.bool true)/\Below w.heap.size w w':=by
 obtain⟨gs,h1,h2⟩:=hb;rw [hn] at h1;have hc:w.cell? ⟨b,0,none⟩=some (.slice (some ⟨gs,0,none⟩) n n):=qC _ _ 0 _ _ _ h1;have HQ:=qH (q_any gs n n L w hn hn6 h2 hL);have HF:=qH (qA hf hn);clear h1 h2 hn hf hL;go_enter Tryz.func120,Tryz.ntmps120;go_wp2_with fail;refine HQ.out.mono ?_;rintro e w2 ⟨a2,g2,c2,rfl,hf2,hc2,hb2⟩;have HS:=qH (qfE ao g off n c (L.map qf) a2 g2 0 n c2 (L.map qf) w2 (by rw [qaw,HF.out.2]) (by omega) (HF.out.1.below hb2) (by rw [qaw,HF.out.2]) (by omega) hf2);have HB:=qH hb2;clear hf2 hb2 hc;go_wp2_with fail;refine HS.out.mono ?_;rintro e w3 ⟨ok,rfl,hok,hb3⟩;obtain rfl:ok=true:=hok.2 rfl;have HB3:=qH (HB.out.trans (hb3.mono HB.out.size));clear hb3 hok;go_wp2;go_ret;exact⟨rfl,HB3.out⟩
theorem none_any (n:Int) (w:World) :
  Calls Tryz.prog 45 #[.int .i64 n] w fun e w'=>∃b,e=.returned (.func (.func 119) #[] #[.pointer (some ⟨b,0,none⟩)])/\Below w.heap.size w w'/\w'.heap[b]? = some (.cells #[.int .i64 n] 39 (0,0)):=by
 have H:=qH (qA (qbS (o:=.cells #[.int .i64 n] 39) (Below.refl w.heap.size w) qN) (qM w (.cells #[.int .i64 n] 39) _ rfl));go_enter Tryz.func45,Tryz.ntmps45;go_wp2;go_ret;exact⟨_,rfl,H.out.1,H.out.2⟩
theorem qmt (n:Int) (b:Nat) (w:World) (hb:w.heap[b]? = some (.cells #[.int .i64 n] 39 (0,0))) :
  Calls Tryz.prog 119 #[.slice none 0 0,.int .i64 n,.pointer (some ⟨b,0,none⟩)] w fun r w'=>r=.returned (.bool true)/\w'=w:=by
 have hc:w.cell? ⟨b,0,none⟩=some (.int .i64 n):=qC _ _ 0 _ _ _ hb;clear hb;go_enter Tryz.func119,Tryz.ntmps119;go_wp2;go_ret;exact⟨rfl,rfl⟩
theorem qh9 {l:List Rat} {L:List ByteArray} (n:Nat) (hn:l.length=n) (h:L.map qf=l.map ftxt):L.map qf=told n (fv l):=by
 rw [h,<-hn,qnb]
theorem qdf {W W':World} {o:Obj} (h:Below (W.alloc o).heap.size (W.alloc o) W'):Below W.heap.size W W':=((Below.refl _ W).alloc qN o).trans (h.mono (by simp only [qab];omega))
theorem qg9 {L:List ByteArray} (h:∀s∈L,s.size<=65536):∀k,(L.getD k ⟨#[]⟩).size<=65536:=fun k=>by
 rw [qaa];cases e:L[k]? with
 | none=>exact (by decide:0<=65536)
 | some s=>exact h s (List.mem_of_getElem? e)
theorem q_lit (W:World) (L:List ByteArray) (l:List Rat) (n:Nat) (hL:L.length=n) (hl:l.length=n) (hn:n<=1000) (h:L.map qf=l.map ftxt) (hz:∀s∈L,s.size<=65536) :
  Calls Tryz.prog 24 #[.slice (some ⟨W.heap.size,0,none⟩) n n] (W.alloc (.cells (L.map Value.string).toArray 9)) fun e w'=>∃(ao:Option Addr) (g c:Nat),e=.returned (.slice ao n c)/\FCells w' ao g 0 (told n (fv l))/\Below W.heap.size W w':=by
 refine (q_any W.heap.size n n L _ hL hn (SCells.row (heap_alloc_new W _)) (qg9 hz)).mono ?_;rintro e w' ⟨ao,g,c,rfl,hf,_,hb⟩;rw [qh9 n hl h] at hf;exact⟨ao,g,c,rfl,hf,qdf hb⟩
theorem qiz (W:World) (L:List ByteArray) (n:Nat) (hL:L.length=n) :
  Calls Tryz.prog 46 #[.slice (some ⟨W.heap.size,0,none⟩) n n] (W.alloc (.cells (L.map Value.string).toArray 9)) fun e w'=>∃b,e=.returned (.func (.func 120) #[] #[.pointer (some ⟨b,0,none⟩)])/\IsAt w' b L/\Below W.heap.size W w':=by
 subst hL;refine (qiy W.heap.size L _ (SCells.row (heap_alloc_new W _))).mono ?_;rintro e w' ⟨b,rfl,hb,hi⟩;exact⟨b,rfl,hi,qdf hb⟩
theorem qfR {ao:Option Addr} {g n c b:Nat} {L:List ByteArray} {l:List Rat} {w:World} (hb:IsAt w b L) (hL:L.length=n) (hl:l.length=n) (hn:n<=1000) (h:L.map qf=l.map ftxt) (hz:∀s∈L,s.size<=65536) (hf:FCells w ao g 0 (told n (fv l))) :
  Calls Tryz.prog 120 #[.slice ao n c,.int .i64 0,.pointer (some ⟨b,0,none⟩)] w fun r w'=>r=.returned (.bool true)/\Below w.heap.size w w' :=
 qkI ao g 0 n c b L w hb hL hn (qg9 hz) (by rw [qh9 n hl h];exact hf)
theorem q_at (n:Nat) {w:World} {g:Nat} {L:List ByteArray} {l:List Rat} (hs:SCells w g 0 L) (hL:L.length=n) (hl:l.length=n) (hn:n<=1000) (h:L.map qf=l.map ftxt) (hz:∀s∈L,s.size<=65536) :
  Calls Tryz.prog 24 #[.slice (some ⟨g,0,none⟩) n n] w fun e w'=>∃(ao:Option Addr) (g c:Nat),e=.returned (.slice ao n c)/\FCells w' ao g 0 (told n (fv l))/\Below w.heap.size w w':=by
 refine (q_any g n n L w hL hn hs (qg9 hz)).mono ?_;rintro e w' ⟨ao,g,c,rfl,hf,_,hb⟩;rw [qh9 n hl h] at hf;exact⟨ao,g,c,rfl,hf,hb⟩
theorem md_eq {m m2:Md}:m=m2↔m.kind=m2.kind/\m.inn=m2.inn/\m.row 0=m2.row 0/\m.row 1=m2.row 1/\m.row 2=m2.row 2:=by
 obtain⟨k,i,a,b,c⟩:=m;obtain⟨k',i',a',b',c'⟩:=m2
 constructor
 ·rintro h;cases h;exact⟨rfl,rfl,rfl,rfl,rfl⟩
 ·rintro ⟨h1,h2,h3,h4,h5⟩;have h3:a=a':=h3;have h4:b=b':=h4;have h5:c=c':=h5;have h1:k=k':=h1;have h2:i=i':=h2;subst h1 h2 h3 h4 h5;rfl
theorem qmn (m m2:Md) (v v2:Value) (w:World) (hM:MdAt w v m) (hM2:MdAt w v2 m2) (hl:∀q,q<3->(m.row q).length<=1000000) (hl2:∀q,q<3->(m2.row q).length<=1000000) :
  Calls Tryz.prog 20 #[v,v2] w fun e w'=>∃ok,e=.returned (.bool ok)/\(ok=true↔m=m2)/\Below w.heap.size w w':=by
 obtain⟨a,b,o,c,rfl,hF⟩:=hM.parts;obtain⟨a',b',o',c',rfl,hF'⟩:=hM2.parts;obtain⟨kind,hkind⟩:∃z,m.kind=z:=⟨_,rfl⟩;obtain⟨inn,hinn⟩:∃z,m.inn=z:=⟨_,rfl⟩;obtain⟨kind',hkind'⟩:∃z,m2.kind=z:=⟨_,rfl⟩;obtain⟨inn',hinn'⟩:∃z,m2.inn=z:=⟨_,rfl⟩;obtain⟨L,hL⟩:∃L:Nat->Nat,∀q,(m.row q).length=L q:=⟨_,fun _=>rfl⟩;obtain⟨L',hL'⟩:∃L:Nat->Nat,∀q,(m2.row q).length=L q:=⟨_,fun _=>rfl⟩;have hcall:=fun (q:Nat) (hq:q<3) (W:World) (hb:Below w.heap.size w W)=>qfE (a q) (b q) (o q) (L q) (c q) (m.row q) (a' q) (b' q) (o' q) (L' q) (c' q) (m2.row q) W (hL q) (by have:=hl q hq;rw [hL] at this;exact this) ((hF q hq).below hb) (hL' q) (by have:=hl2 q hq;rw [hL'] at this;exact this) ((hF' q hq).below hb)
 rw [hkind,hinn,hL,hL,hL,hkind',hinn',hL',hL',hL'];obtain⟨W2,hW2,K2⟩:=nw2 w #[.int .i64 kind,.int .i64 inn,.slice (a 0) (L 0) (c 0),.slice (a 1) (L 1) (c 1),.slice (a 2) (L 2) (c 2)] 38 #[.int .i64 kind',.int .i64 inn',.slice (a' 0) (L' 0) (c' 0),.slice (a' 1) (L' 1) (c' 1),.slice (a' 2) (L' 2) (c' 2)] 38;have HX:=qH (qA hkind (qA hinn (qA hkind' hinn')));have HC:=qH hcall;have c0:=qC _ _ 0 _ _ _ K2.out.2.1;have c1:=qC _ _ 1 _ _ _ K2.out.2.1;have c2:=qC _ _ 2 _ _ _ K2.out.2.1;have d0:=qC _ _ 0 _ _ _ K2.out.2.2;have d1:=qC _ _ 1 _ _ _ K2.out.2.2;have d2:=qC _ _ 2 _ _ _ K2.out.2.2;clear hcall hM hM2 hF hF' hl hl2 hkind hinn hkind' hinn' hL hL';go_enter Tryz.func20,Tryz.ntmps20;go_upto_region 1 with fail;rw [<-hW2];clear hW2
 by_cases hk:kind=kind'
 case neg =>
  have hkb:(kind == kind')=false:=beq_eq_false_iff_ne.2 hk;have HK:=qH hk;clear hk;go_wp2;go_ret;exact⟨false,rfl,qd9 fun h=>HK.out (by rw [<-HX.out.1,<-HX.out.2.2.1,h]),K2.out.1⟩
 subst hk
 by_cases hi:inn=inn'
 case neg =>
  have hib:(inn == inn')=false:=beq_eq_false_iff_ne.2 hi;have HI:=qH hi;clear hi;go_wp2;go_ret;exact⟨false,rfl,qd9 fun h=>HI.out (by rw [<-HX.out.2.1,<-HX.out.2.2.2,h]),K2.out.1⟩
 subst hi;go_wp2_with fail;refine (HC.out 0 (by decide) W2 K2.out.1).mono ?_;rintro e w3 ⟨ok0,rfl,h0,hb3⟩;have K3:=K2.below hb3;have H0:=qH h0;clear h0 hb3 c0 c1 c2 d0 d1 d2;have c0:=qC _ _ 2 _ _ _ K3.out.2.1;have c1:=qC _ _ 3 _ _ _ K3.out.2.1;have d0:=qC _ _ 2 _ _ _ K3.out.2.2;have d1:=qC _ _ 3 _ _ _ K3.out.2.2;cases ok0 with
 | false =>
  go_wp2;go_ret;exact⟨false,rfl,qd9 fun h=>absurd (H0.out.2 (by rw [h])) (by decide),K3.out.1⟩
 | true =>
 go_wp2_with fail;refine (HC.out 1 (by decide) w3 K3.out.1).mono ?_;rintro e w4 ⟨ok1,rfl,h1,hb4⟩;have K4:=K3.below hb4;have H1:=qH h1;clear h1 hb4 c0 c1 d0 d1;have c0:=qC _ _ 4 _ _ _ K4.out.2.1;have d0:=qC _ _ 4 _ _ _ K4.out.2.2;cases ok1 with
 | false =>
  go_wp2;go_ret;exact⟨false,rfl,qd9 fun h=>absurd (H1.out.2 (by rw [h])) (by decide),K4.out.1⟩
 | true =>
 go_wp2_with fail;refine (HC.out 2 (by decide) w4 K4.out.1).mono ?_;rintro e w5 ⟨ok2,rfl,h2,hb5⟩;have K5:=K4.below hb5;have H2:=qH h2;clear h2 hb5 c0 d0;go_wp2;go_ret;refine⟨ok2,rfl,⟨fun h=>md_eq.2 ⟨by rw [HX.out.1,HX.out.2.2.1],by rw [HX.out.2.1,HX.out.2.2.2],H0.out.1 (by trivial),H1.out.1 (by trivial),H2.out.1 h⟩,fun h=>H2.out.2 (by rw [h])⟩,K5.out.1⟩
theorem md0_at (w:World):MdAt w mdv0 md0 :=
 have h:FCells w none 0 0 []:=⟨fun h=>absurd h (by decide),fun k hk=>absurd hk (by simp)⟩
 ⟨none,none,none,0,0,0,0,0,0,0,0,0,rfl,h,h,h⟩
theorem qmi:∀q,q<3->(md0.row q).length<=1000000:=fun q hq=>by
 rcases (show q=0\/q=1\/q=2 by omega) with rfl | rfl | rfl <;> decide
theorem qlE (n:Int) (w:World) :
  Calls Tryz.prog 47 #[.int .i64 n] w fun e w'=>∃b,e=.returned (.func (.func 121) #[] #[.pointer (some ⟨b,0,none⟩)])/\Below w.heap.size w w'/\w'.heap[b]? = some (.cells #[.int .i64 n] 39 (0,0)):=by
 have H:=qH (qA (qbS (o:=.cells #[.int .i64 n] 39) (Below.refl w.heap.size w) qN) (qM w (.cells #[.int .i64 n] 39) _ rfl));go_enter Tryz.func47,Tryz.ntmps47;go_wp2;go_ret;exact⟨_,rfl,H.out.1,H.out.2⟩
theorem qku (n:Int) (b:Nat) (w:World) (hb:w.heap[b]? = some (.cells #[.int .i64 n] 39 (0,0))) :
  Calls Tryz.prog 121 #[mdv0,.int .i64 n,.pointer (some ⟨b,0,none⟩)] w fun r w'=>r=.returned (.bool true)/\Below w.heap.size w w':=by
 obtain⟨W1,hW1,N1⟩:=nw1 w #[.int .i64 0,.int .i64 0,.slice none 0 0,.slice none 0 0,.slice none 0 0] 38;have HS:=qH (qmn md0 md0 _ _ W1 (md0_at W1) (md0_at W1) qmi qmi);have H1:=qH (qA N1.out.1 (zkeep N1.out.1 _ _ hb));clear N1 hb;unfold mdv0 at HS ⊢;go_enter Tryz.func121,Tryz.ntmps121;go_wp2_with fail;rw [<-hW1];clear hW1;refine HS.out.mono ?_;rintro e w2 ⟨ok,rfl,hok,hb2⟩;obtain rfl:ok=true:=hok.2 (by trivial);have c0:=qC _ _ 0 _ _ _ (zkeep hb2 _ _ H1.out.2);have HB:=qH (H1.out.1.trans (hb2.mono H1.out.1.size));clear hb2 hok HS;go_wp2;go_ret;exact⟨rfl,HB.out⟩
theorem qkU {W:World} {s g:Nat} (h0:W.heap[s]? = some (.cells #[.int .i64 0] 3 (0,0))) (h1:W.heap[s+1]? = some (.cells #[.int .i64 5000] 3 (0,0))) (h2:W.heap[s+1+1]? = some (.cells #[.int .i64 10000] 3 (0,0)))
  (hg:W.heap[g]? = some (.cells #[.string ⟨#[97]⟩,.slice (some ⟨s,0,none⟩) 1 1,.int .i64 0,.int .i64 0,.int .i64 0,.string ⟨#[98]⟩,.slice (some ⟨s+1,0,none⟩) 1 1,.int .i64 6000,.int .i64 0,.int .i64 0,.string ⟨#[99]⟩,.slice (some ⟨s+1+1,0,none⟩) 1 1,.int .i64 10000,.int .i64 0,.int .i64 0] 55 (0,0))):PCells W (some ⟨g,0,none⟩) g 0 ramp:=by
 have one:∀{b:Nat} {z:Int},W.heap[b]? = some (.cells #[.int .i64 z] 3 (0,0))->NCells W (some ⟨b,0,none⟩) b 0 [z]:=fun {b z} h=>⟨fun _=>rfl,fun k hk=>by
  obtain rfl:k=0:=by simp at hk;omega
  exact qC _ _ 0 _ _ _ h⟩
 refine⟨fun _=>rfl,fun k hk=>?_⟩;have hk:k<3:=hk;rcases (show k=0\/k=1\/k=2 by omega) with rfl | rfl | rfl
 ·exact⟨qC _ _ 0 _ _ _ hg,⟨_,_,_,_,qC _ _ 1 _ _ _ hg,one h0⟩,qC _ _ 2 _ _ _ hg,qC _ _ 3 _ _ _ hg,qC _ _ 4 _ _ _ hg⟩
 ·exact⟨qC _ _ 5 _ _ _ hg,⟨_,_,_,_,qC _ _ 6 _ _ _ hg,one h1⟩,qC _ _ 7 _ _ _ hg,qC _ _ 8 _ _ _ hg,qC _ _ 9 _ _ _ hg⟩
 ·exact⟨qC _ _ 10 _ _ _ hg,⟨_,_,_,_,qC _ _ 11 _ _ _ hg,one h2⟩,qC _ _ 12 _ _ _ hg,qC _ _ 13 _ _ _ hg,qC _ _ 14 _ _ _ hg⟩
theorem qgz (w:World):Calls Tryz.prog 48 #[] w fun e w'=>∃g,e=.returned (.slice (some ⟨g,0,none⟩) 3 3)/\PCells w' (some ⟨g,0,none⟩) g 0 ramp/\Below w.heap.size w w':=by
 obtain⟨W3,hW3,N3⟩:=nw3 w #[.int .i64 0] 3 #[.int .i64 5000] 3 #[.int .i64 10000] 3;obtain⟨W4,hW4,N4⟩:=nw1 W3 #[.string ⟨#[97]⟩,.slice (some ⟨w.heap.size,0,none⟩) 1 1,.int .i64 0,.int .i64 0,.int .i64 0,.string ⟨#[98]⟩,.slice (some ⟨w.heap.size+1,0,none⟩) 1 1,.int .i64 6000,.int .i64 0,.int .i64 0,.string ⟨#[99]⟩,.slice (some ⟨w.heap.size+1+1,0,none⟩) 1 1,.int .i64 10000,.int .i64 0,.int .i64 0] 55;have hb4:=N4.out.1;have HP:=qH (qA (qkU (zkeep hb4 _ _ N3.out.2.1) (zkeep hb4 _ _ N3.out.2.2.1) (zkeep hb4 _ _ N3.out.2.2.2) N4.out.2) (N3.out.1.trans (hb4.mono N3.out.1.size)));have hsz:W3.heap.size=w.heap.size+1+1+1:=by rw [hW3];simp
 rw [hW3] at hW4;clear N3 N4 hb4;go_enter Tryz.func48,Tryz.ntmps48;go_wp2_with fail;rw [<-hW4];clear hW4 hW3;go_ret;exact⟨_,by rw [hsz];rfl,HP.out.1,HP.out.2⟩
section
variable {P:Program}
theorem qeD (w:World) (base:Nat) (t ty e:TypeId) (i:TypeInfo) (z:Value) (size bytes:Nat) (ht:P.underlying t=some (.slice e)) (hi:P.info? e=some i) (hz:i.zero=some z)
  (hsize:i.size=size) (hby:i.bytes=bytes) (hzs:z.cells.size=size) (hsz:0<size)
  (v:Value) (n:Nat) (xs:List Value) (hown:w.ownsRow base e size v n xs)
  (a:Addr) (m c:Nat) (news:List Value) (hl:news.length=m*size) (hnews:∀j u,news[j]? = some u->w.cell? (a.add j)=some u) (h1:∀u∈news,u.oneCell'=true) (hm0:0<m)
  (h63:n+m<=maxLen) (hbytes:(n+m)*bytes<=140737488355328) (hbase:base<=w.heap.size) :
  ∃v' w',(Builtin.append_ #[t,t] ty #[v,.slice (some a) m c]).run P w=.ok v' w'/\w'.ownsRow base e size v' (n+m) (xs++news)/\(v'.ownBlock=v.ownBlock/\w.grownBy w' v.ownBlock\/v'.ownBlock=some w.heap.size/\w.grownBy w' none):=by
 subst hsize;subst hby;have hsmall:n+m<=9223372036854775807:=by simp only [maxLen] at h63;omega
 have hlen:(xs++news).length=(n+m)*i.size:=by rw [qaf,hown.1,hl,qaB]
 rcases hown.2 with ⟨rfl,rfl⟩ | ⟨g,cap,cur,rfl,hbg,hg,hnc,hcm,hcs,htake⟩
 ·have hx:xs=[]:=List.eq_nil_of_length_eq_zero (by simpa using hown.1);subst hx;have hr:=run_append_nil (P:=P) w t ty e i z ht hi hz a m c news hl hnews hm0 (by omega) (by have hb:=hbytes;simp only [qaO] at hb;omega);have hge:=grownCap_ge w m 0 e;refine⟨_,_,hr,⟨by simpa using hlen,.inr ⟨w.heap.size,_,_,by rw [qaO],hbase,heap_alloc_new w.drew _,by rw [qaO];exact hge,grownCap_le_maxLen w m 0 e (by simpa using h63),?_,?_⟩⟩,qah ⟨rfl,rfl,rfl,rfl,by simp,fun k hk _=>qL w.drew _ k hk⟩⟩
  ·simp only [Array.size_append,qbD,size_zeroCells,hzs,hl,<-qaB]
   congr 1;omega
  ·rw [qaO,qbq,<-hl,qbf];exact List.take_left
 ·by_cases hroom:n+m<=cap
  ·have hfit:n*i.size+news.length<=cur.size:=by rw [hl,hcs,<-qaB];exact qa7 _ hroom
   have hr:=run_append_room (P:=P) w t ty e i ht hi g n cap cur hg a m c news hl hnews h1 hroom hfit;refine⟨_,_,hr,⟨hlen,.inr ⟨g,cap,_,rfl,hbg,qT w g cur _ e _ hg,hroom,hcm,?_,?_⟩⟩,qan ⟨rfl,rfl,rfl,rfl,by simp,fun k _ hk=>setRow_other w g k _ (fun e=>hk (by simp [Value.ownBlock,e]))⟩⟩
   ·simp only [qbD,qaf,qar,qaY,qbr];omega
   ·rw [htake,<-hlen];exact List.take_left
  ·have holds:∀j u,xs[j]? = some u->w.cell? ((⟨g,0,none⟩:Addr).add j)=some u:=hown.cells (g:=g) rfl;have hr:=run_append_grow (P:=P) w t ty e i z ht hi hz ⟨g,0,none⟩ n cap xs hown.1 holds a m c news hl hnews (by omega) (by omega) (growslice_fits (by omega) hbytes);have hge:=grownCap_ge w (n+m) cap e;refine⟨_,_,hr,⟨hlen,.inr ⟨w.heap.size,_,_,rfl,hbase,heap_alloc_new w.drew _,hge,grownCap_le_maxLen w (n+m) cap e h63,?_,?_⟩⟩,qah ⟨rfl,rfl,rfl,rfl,by simp,fun k hk _=>qL w.drew _ k hk⟩⟩
   ·simp only [Array.size_append,qbD,size_zeroCells,hzs,hown.1,hl,<-qaB]
    congr 1;omega
   ·simp only [qbf,qay];rw [<-qay,<-hlen];exact List.take_left
end
def IOwn (W:World) (B:Nat) (v:Value) (l:List Int):Prop:=W.ownsRow B 3 1 v l.length (l.map fun z=>.int .i64 z)
theorem infoI8:(Tryz.prog.info? 3).map (fun i=>(i.zero,i.size,i.bytes))=some (some (.int .i64 0),1,8):=by kernel_rfl
theorem infoR24:(Tryz.prog.info? 32).map (fun i=>(i.zero,i.size,i.bytes))=some (some (.slice none 0 0),1,24):=by kernel_rfl
theorem ints_one (l:List Int):∀u∈l.map (fun z=>Value.int .i64 z),u.oneCell'=true:=fun u hu=>by
 obtain⟨z,_,rfl⟩:=qbB.1 hu;rfl
theorem run_ints {w:World} {B:Nat} {v:Value} {l l2:List Int} {m c b off:Nat} (ty:TypeId) (hown:IOwn w B v l) (hB:B<=w.heap.size) (hF:NCells w (some ⟨b,off,none⟩) b off l2) (hm:l2.length=m) (hm0:0<m) (hn:l.length+m<=1000000) :
  ∃v' w',(Builtin.append_ #[32,32] ty #[v,.slice (some ⟨b,off,none⟩) m c]).run Tryz.prog w=.ok v' w'/\IOwn w' B v' (l++l2)/\(v'.ownBlock=v.ownBlock/\w.grownBy w' v.ownBlock\/v'.ownBlock=some w.heap.size/\w.grownBy w' none):=by
 obtain⟨i0,hi,hz0,hz1,hz2⟩:=info_parts infoI8;subst hm;obtain⟨v',w',hr,h2,h3⟩:=qeD (P:=Tryz.prog) w B 32 ty 3 i0 _ 1 8 Tryz.underlying32 hi hz0 hz1 hz2 rfl (by decide) v l.length _ hown ⟨b,off,none⟩ l2.length c (l2.map fun z=>.int .i64 z) (by simp) (fun j u hj=>by
   rw [qaM] at hj;obtain⟨z,hz,rfl⟩:=Option.map_eq_some_iff.1 hj;have hlt:=(List.getElem?_eq_some_iff.1 hz).1;have:=hF.cell j hlt;rw [qaa,hz] at this;rw [Addr.add_mid];exact this) (ints_one _) hm0 (by unfold maxLen;omega) (by omega) hB
 exact⟨v',w',hr,by unfold IOwn;rw [qaf,qa5];exact h2,h3⟩
theorem qiV {w:World} {B g:Nat} {l2:List Int} {m c b off:Nat} (ty:TypeId) (_hg:w.heap[g]? = some (.cells #[] 3 (0,0))) (hB:B<=w.heap.size) (hF:NCells w (some ⟨b,off,none⟩) b off l2) (hm:l2.length=m) (hm0:0<m) (hn:m<=1000000) :
  ∃v' w',(Builtin.append_ #[32,32] ty #[.slice (some ⟨g,0,none⟩) 0 0,.slice (some ⟨b,off,none⟩) m c]).run Tryz.prog w=.ok v' w'/\IOwn w' B v' l2/\v'.ownBlock=some w.heap.size/\w.grownBy w' none:=by
 obtain⟨i0,hi,hz0,hz1,hz2⟩:=info_parts infoI8;subst hm;have hr:=run_append_grow (P:=Tryz.prog) w 32 ty 3 i0 _ Tryz.underlying32 hi hz0 ⟨g,0,none⟩ 0 0 [] (by simp) (fun j u hj=>by cases hj) ⟨b,off,none⟩ l2.length c (l2.map fun z=>Value.int .i64 z) (by rw [hz1];simp) (fun j u hj=>by
   rw [qaM] at hj;obtain⟨z,hz,rfl⟩:=Option.map_eq_some_iff.1 hj;have hlt:=(List.getElem?_eq_some_iff.1 hz).1;have:=hF.cell j hlt;rw [qaa,hz] at this;rw [Addr.add_mid];exact this) (by omega) (by omega) (growslice_fits (by omega) (by rw [hz2];omega))
 rw [qaO] at hr;have hge:=grownCap_ge w l2.length 0 3;refine⟨_,_,hr,⟨by simp,.inr ⟨w.heap.size,_,_,rfl,hB,heap_alloc_new w.drew _,hge,grownCap_le_maxLen w l2.length 0 3 (by unfold maxLen;omega),?_,?_⟩⟩,rfl,rfl,rfl,rfl,by simp,fun k hk _=>qL w.drew _ k hk⟩
 ·simp only [Array.size_append,qbD,size_zeroCells,List.length_nil,qaw,Nat.mul_one];have:(Value.int .i64 0).cells.size=1:=rfl;rw [this];omega
 ·simp only [qbf,qbq,Nat.mul_one];exact List.take_left' (by simp)
theorem run_irow {w:World} {B:Nat} {v:Value} {n:Nat} {vs:List Value} {u:Value} {g c:Nat} {t:TypeId} (ty:TypeId) (hown:w.ownsRow B 32 1 v n vs) (hB:B<=w.heap.size) (hg:w.heap[g]? = some (.cells #[u] t (0,0))) (hu:u.oneCell'=true) (hn:n<1000000) :
  ∃v' w',(Builtin.append_ #[77,77] ty #[v,.slice (some ⟨g,0,none⟩) 1 c]).run Tryz.prog w=.ok v' w'/\w'.ownsRow B 32 1 v' (n+1) (vs++[u])/\(v'.ownBlock=v.ownBlock/\w.grownBy w' v.ownBlock\/v'.ownBlock=some w.heap.size/\w.grownBy w' none):=by
 obtain⟨i0,hi,hz0,hz1,hz2⟩:=info_parts infoR24;exact qeD (P:=Tryz.prog) w B 77 ty 32 i0 _ 1 24 Tryz.underlying77 hi hz0 hz1 hz2 rfl (by decide) v n vs hown ⟨g,0,none⟩ 1 c [u] rfl (fun j x hj=>by
   cases j with
   | zero =>
    obtain rfl:u=x:=qai hj;exact qC _ _ 0 _ _ _ hg
   | succ j=>cases hj) (fun x hx=>by rw [qap.1 hx];exact hu) (by decide) (by unfold maxLen;omega) (by omega) hB
theorem qfy {w w':World} {B':Nat} {e':TypeId} {s' n':Nat} {v v' x:Value} {xs':List Value} (hx:w.ownsRow B' e' s' x n' xs') (hne:x.ownBlock=none\/x.ownBlock≠v.ownBlock) (h:v'.ownBlock=v.ownBlock/\w.grownBy w' v.ownBlock\/v'.ownBlock=some w.heap.size/\w.grownBy w' none) :
  w'.ownsRow B' e' s' x n' xs'/\(x.ownBlock=none\/x.ownBlock≠v'.ownBlock):=by
 rcases h with ⟨h1,h2⟩ | ⟨h1,h2⟩
 ·exact⟨hx.kept h2 hne,by rw [h1];exact hne⟩
 ·refine⟨hx.kept h2 ?_,?_⟩
  ·rcases hne with h | h
   ·exact qan h
   ·cases e:x.ownBlock with
    | none=>exact qan rfl
    | some k=>exact qah (by simp)
  ·cases e:x.ownBlock with
   | none=>exact qan rfl
   | some k =>
    refine qah fun e2=>?_
    rw [h1] at e2;have:=(hx.lt k e).2;have:=qai e2;omega
theorem own_below {w w':World} {B:Nat} {e:TypeId} {s n:Nat} {x:Value} {xs:List Value} (hx:w.ownsRow B e s x n xs) (hb:Below w.heap.size w w'):w'.ownsRow B e s x n xs:=by
 refine⟨hx.1,?_⟩;rcases hx.2 with h | ⟨g,cap,cur,rfl,h2,h3,h4⟩
 ·exact qan h
 ·exact qah ⟨g,cap,cur,rfl,h2,(hb.block g (qG h3).1).trans h3,h4⟩
theorem qeB {w:World} {B:Nat} {e:TypeId} {s n:Nat} {x:Value} {xs:List Value} (hx:w.ownsRow B e s x n xs):∃(ao:Option Addr) (cap:Nat),x=.slice ao n cap:=by
 rcases hx.2 with ⟨rfl,rfl⟩ | ⟨g,cap,cur,rfl,_⟩
 ·exact⟨none,0,rfl⟩
 ·exact⟨_,_,rfl⟩
end Go.Proofs.YtplkdeknjghobaaGreatDoor
namespace Go.Proofs.YtplkdeknjghobaaGreatDoor
open Go.RowKit
def qhn (w:World) (q:Rat) (n d:Nat) (e:Ending) (w':World):Prop :=
 Below w.heap.size w w'/\(((-100000000000<=nearZ q n/\nearZ q n<=100000000000)/\e=.returned (.int .i64 (nearT q n d)))\/(¬(-100000000000<=nearZ q n/\nearZ q n<=100000000000)/\e=thrown 6))
theorem wrapI {t:Int} (h1:-9223372036854775808<=t) (h2:t<=9223372036854775807):IntKind.i64.wrap t=t:=by simp [IntKind.wrap,IntKind.bits,IntKind.signed];omega
theorem cmpq (p q:Rat) (hp:Short p) (hq:Short q) (w:World) :
  Calls Tryz.prog 17 #[.agg #[.string (ftxt p).1,.string (ftxt p).2],.agg #[.string (ftxt q).1,.string (ftxt q).2]] w fun e w'=>∃c:Int,e=.returned (.tuple #[.int .i64 c,.int .i64 0])/\(c<0↔p<q)/\Below w.heap.size w w':=by
 refine (qjT _ _ _ _ w).mono ?_;rintro e w' ⟨⟨_,rfl⟩ | ⟨h,_⟩,hb⟩
 ·have e1:fval (ftxt p).1.data.toList (ftxt p).2.data.toList=p:=qcD p;have e2:fval (ftxt q).1.data.toList (ftxt q).2.data.toList=q:=qcD q;rw [e1,e2];exact⟨_,rfl,cmp_lt p q,hb⟩
 ·exact absurd ⟨qcZ hp,qcZ hq⟩ h
theorem nearest1 (q:Rat) (sq:Short q) (w:World) (hT:HasT w) (hE:HasE w) :
  Calls Tryz.prog 92 #[.agg #[.string (ftxt q).1,.string (ftxt q).2],.int .i64 10000,.int .i64 1] w fun e w'=>qhn w q 10000 1 e w':=by
 have hnr:=fun W hT hE=>near_q q 10000 sq (by decide) (by decide) W hT hE
 have hbd:=fun h1 h2=>qfW (q:=q) (n:=10000) (d:=1) (B:=100000000000) (by decide) h1 h2
 have hcmp:=fun (z:Int)=>qmc (q:=q) (n:=10000) (d:=1) (z:=z) (by decide) (by decide)
 obtain⟨q1,q2,hqx⟩:=qb6 q;rw [hqx] at hnr ⊢;unfold qhn;obtain⟨X,hX⟩:=qX (nearZ q 10000);obtain⟨Y,hY⟩:=qX (nearT q 10000 1);rw [hX] at hnr hbd ⊢;rw [hY] at hbd hcmp ⊢;obtain⟨W1,hW1,K1⟩:=nw1 w #[.string q1,.string q2] 44;have HN:=qH (hnr W1 (hT.below K1.out.1) (hE.below K1.out.1));have HQ:=qH (qA hqx (qA sq (qA hcmp hbd)));have HT1:=qH (hT.below K1.out.1);clear hnr hbd hcmp hqx sq hT hE hX hY;go_enter Tryz.func92,Tryz.ntmps92;go_wp2_with fail;rw [<-hW1];clear hW1;refine HN.out.mono ?_;rintro e w2 ⟨hb2,h⟩;have K2:=(K1.below hb2).also (q:=fun W=>HasT W) (HT1.out.below hb2);clear hb2 HN HT1 K1;rcases h with ⟨hi,rfl⟩ | ⟨hi,rfl⟩
 case inr =>
  have HI:=qH hi;clear hi;go_wp2_with fail;refine (qgU 0 6 (by decide) _).mono ?_;rintro e w3 ⟨rfl,hw⟩;subst hw;unfold thrown;go_wp2_with fail;refine⟨rfl,K2.out.1.1,qah ⟨fun h=>HI.out ⟨?_,?_⟩,rfl⟩⟩
  ·have:=h.1;omega
  ·have:=h.2;omega
 have HI:=qH hi;clear hi;go_wp2_with fail;refine (qem X _).mono ?_;rintro e w3 ⟨rfl,hw⟩;subst hw
 by_cases hx1:X < -100000000000
 ·go_wp2_with fail;refine (qcg 6 (by decide) _).mono ?_;rintro e w3 ⟨rfl,hw⟩;subst hw;unfold thrown;go_wp2_with fail;exact⟨rfl,K2.out.1.1,qah ⟨fun h=>absurd h.1 (by omega),rfl⟩⟩
 by_cases hx2:X > 100000000000
 ·go_wp2_with fail;refine (qcg 6 (by decide) _).mono ?_;rintro e w3 ⟨rfl,hw⟩;subst hw;unfold thrown;go_wp2_with fail;exact⟨rfl,K2.out.1.1,qah ⟨fun h=>absurd h.2 (by omega),rfl⟩⟩
 obtain⟨hy1,hy2⟩:=HQ.out.2.2.2 (by omega) (by omega);have hqt:-100000000000<=X.tdiv 1/\X.tdiv 1<=100000000000:=by have:=Int.natAbs_tdiv_le_natAbs X 1;omega
 have HXX:=qH (qA hx1 hx2);obtain⟨Q0,hQ0⟩:=qX (X.tdiv 1);rw [hQ0] at hqt;obtain⟨hq1,hq2⟩:=hqt;go_upto_region 5 with fail;clear hx1 hx2
 go_loopw [8] (fun x8 W=>∃z:Int,x8=.int .i64 z/\-100000000001<=z/\z<=100000000001/\(Y<=z\/z=Q0)/\Hid (Below w2.heap.size w2 W)) (fun x8 _=>(intOf x8-Y).toNat)
 case atStart=>exact⟨Q0,rfl,by omega,by omega,qah rfl,qH qB⟩
 case round =>
  obtain⟨z,rfl,hz1,hz2,hzY,hB⟩:=hrel;have K3:=K2.below hB.out;obtain⟨u1,u2,hu⟩:=qb6 ((((2*z-1)*1:Int):Rat) / ((20000:Int):Rat));have hOf:=fun W hP=>of_int ((2*z-1)*1) 20000 (by decide) (by omega) (by decide) W hP
  rw [hu] at hOf;have hCm:=fun W=>cmpq q ((((2*z-1)*1:Int):Rat) / ((20000:Int):Rat)) HQ.out.2.1 (qdO (by decide) (by omega) (by decide)) W
  rw [hu,HQ.out.1] at hCm;have hlt:q<(((2*z-1)*1:Int):Rat) / ((20000:Int):Rat)↔Y<z:=HQ.out.2.2.1 z;rw [hlt] at hCm;have HO:=qH (qA hOf hCm);have lt:=(qG K3.out.1.2).1;have r0:=rowC (B:=wr.heap.size) K3.out.1.2 0;have r1:=rowC (B:=wr.heap.size) K3.out.1.2 1;clear hOf hCm hlt hu;go_upto_region 5 with fail;refine wp_region_held_drew (S:=fun W=>Below wr.heap.size wr W) (by kernel_rfl) qB.drew (fun hS0=>?_);refine hT 0 (h:=hT 1 (h:=hT 2 (h:=hT 3 (h:=hT 4 (h:=hT 5 (h:=hT 6 (h:=hT 7 (h:=?_))))))));refine hC 8 (HO.out.1 _ (K3.out.2.below qB.drew)) (he:=by (go_simp;exact⟨by simp only [wrapI (t:=2*z) (by omega) (by omega),wrapI (t:=2*z-1) (by omega) (by omega)],by decide⟩)) (h:=?_);rintro e w4 ⟨rfl,hb⟩;have HB4:=qH (qb1 hb);have K4:=K3.below HB4.out;clear hb;refine⟨_,rfl,HB4.out,hN (h:=?_)⟩;refine hT 9 (hS:=HB4.out) (h:=hT 10 (hS:=HB4.out) (h:=?_));refine hC 11 (qcI u1 u2 w4) (h:=?_);rintro e w5 ⟨rfl,hb⟩;have HB5:=qH (HB4.out.trans (hb.mono HB4.out.size));have K5:=K4.below hb;clear hb;refine⟨_,rfl,HB5.out,hN (h:=?_)⟩;refine hC 12 (HO.out.2 w5) (h:=?_);rintro e w6 ⟨c,rfl,hc,hb⟩;have HB6:=qH (HB5.out.trans (hb.mono HB5.out.size));have K6:=K5.below hb;clear hb;refine⟨_,rfl,HB6.out,hN (h:=?_)⟩;refine hT 13 (hS:=HB6.out) (h:=hT 14 (hS:=HB6.out) (h:=?_));refine hC 15 (qem c w6) (h:=?_);rintro e w7 ⟨rfl,hw⟩;subst hw;refine⟨_,rfl,HB6.out,hN (h:=?_)⟩;refine hT 16 (hS:=HB6.out) (h:=?_);refine wpAnyH_done (by kernel_rfl) ?_ _;have HBw:=qH (hB.out.trans (HB6.out.mono hB.out.size));clear r0 r1 lt hS0 hB HO K3 K4 K5
  by_cases hlt:Y<z
  ·have hc0:c<0:=hc.2 hlt;clear hc;go_wp2;go_roundw
   case rel=>exact⟨z-1,by first | rfl | go_num,by omega,by omega,qan (by omega),HBw⟩
   case measure=>simp [intOf];omega
  ·have hc0:¬c<0:=fun h=>hlt (hc.1 h)
   have hzY2:z<=Y:=by omega
   clear hc hlt hzY;go_upto_region 7 with fail
   go_loopw [8] (fun x8 W=>∃z:Int,x8=.int .i64 z/\-100000000001<=z/\z<=100000000001/\z<=Y/\Hid (Below w6.heap.size w6 W)) (fun x8 _=>(Y-intOf x8).toNat)
   case atStart=>exact⟨z,rfl,hz1,hz2,hzY2,qH qB⟩
   case round =>
    clear hz1 hz2 hzY2 hc0;obtain⟨z,rfl,hz1,hz2,hzY,hB⟩:=hrel;have K3:=K6.below hB.out;obtain⟨u1,u2,hu⟩:=qb6 ((((2*z+1)*1:Int):Rat) / ((20000:Int):Rat));have hOf:=fun W hP=>of_int ((2*z+1)*1) 20000 (by decide) (by omega) (by decide) W hP
    rw [hu] at hOf;have hCm:=fun W=>cmpq q ((((2*z+1)*1:Int):Rat) / ((20000:Int):Rat)) HQ.out.2.1 (qdO (by decide) (by omega) (by decide)) W
    rw [hu,HQ.out.1] at hCm;have hlt:q<(((2*z+1)*1:Int):Rat) / ((20000:Int):Rat)↔Y<z+1:=by
     have:=HQ.out.2.2.1 (z+1);rw [show 2*(z+1)-1=2*z+1 by omega] at this;exact this
    rw [hlt] at hCm;have HO:=qH (qA hOf hCm);have lt:=(qG K3.out.1.2).1;have r0:=rowC (B:=wr.heap.size) K3.out.1.2 0;have r1:=rowC (B:=wr.heap.size) K3.out.1.2 1;clear hOf hCm hlt hu;go_upto_region 7 with fail;refine wp_region_held_drew (S:=fun W=>Below wr.heap.size wr W) (by kernel_rfl) qB.drew (fun hS0=>?_);refine hT 0 (h:=hT 1 (h:=hT 2 (h:=hT 3 (h:=hT 4 (h:=hT 5 (h:=hT 6 (h:=hT 7 (h:=?_))))))));refine hC 8 (HO.out.1 _ (K3.out.2.below qB.drew)) (he:=by (go_simp;exact⟨by simp only [wrapI (t:=2*z) (by omega) (by omega),wrapI (t:=2*z+1) (by omega) (by omega)],by decide⟩)) (h:=?_);rintro e w4 ⟨rfl,hb⟩;have HB4:=qH (qb1 hb);have K4:=K3.below HB4.out;clear hb;refine⟨_,rfl,HB4.out,hN (h:=?_)⟩;refine hT 9 (hS:=HB4.out) (h:=hT 10 (hS:=HB4.out) (h:=?_));refine hC 11 (qcI u1 u2 w4) (h:=?_);rintro e w5 ⟨rfl,hb⟩;have HB5:=qH (HB4.out.trans (hb.mono HB4.out.size));have K5:=K4.below hb;clear hb;refine⟨_,rfl,HB5.out,hN (h:=?_)⟩;refine hC 12 (HO.out.2 w5) (h:=?_);rintro e w7 ⟨c,rfl,hc,hb⟩;have HB6:=qH (HB5.out.trans (hb.mono HB5.out.size));have K7:=K5.below hb;clear hb;refine⟨_,rfl,HB6.out,hN (h:=?_)⟩;refine hT 13 (hS:=HB6.out) (h:=hT 14 (hS:=HB6.out) (h:=?_));refine hC 15 (qem c w7) (h:=?_);rintro e w8 ⟨rfl,hw⟩;subst hw;refine⟨_,rfl,HB6.out,hN (h:=?_)⟩;refine hT 16 (hS:=HB6.out) (h:=?_);refine wpAnyH_done (by kernel_rfl) ?_ _;have HBw2:=qH (hB.out.trans (HB6.out.mono hB.out.size));clear r0 r1 lt hS0 hB HO K3 K4 K5
    by_cases hlt:Y<z+1
    ·have hc0:¬c≥0:=by have:=hc.2 hlt;omega
     obtain rfl:z=Y:=by omega
     clear hc hlt;go_wp2;go_ret;exact⟨K7.out.1.1,rfl⟩
    ·have hc0:c≥0:=by
      apply Classical.byContradiction;intro h;exact hlt (hc.1 (by omega))
     clear hc;go_wp2;go_roundw
     case rel=>exact⟨z+1,by first | rfl | go_num,by omega,by omega,by omega,HBw2⟩
     case measure=>simp [intOf];omega
theorem nearest4 (q:Rat) (sq:Short q) (w:World) (hT:HasT w) (hE:HasE w) :
  Calls Tryz.prog 92 #[.agg #[.string (ftxt q).1,.string (ftxt q).2],.int .i64 15625,.int .i64 4] w fun e w'=>qhn w q 15625 4 e w':=by
 have hnr:=fun W hT hE=>near_q q 15625 sq (by decide) (by decide) W hT hE
 have hbd:=fun h1 h2=>qfW (q:=q) (n:=15625) (d:=4) (B:=100000000000) (by decide) h1 h2
 have hcmp:=fun (z:Int)=>qmc (q:=q) (n:=15625) (d:=4) (z:=z) (by decide) (by decide)
 obtain⟨q1,q2,hqx⟩:=qb6 q;rw [hqx] at hnr ⊢;unfold qhn;obtain⟨X,hX⟩:=qX (nearZ q 15625);obtain⟨Y,hY⟩:=qX (nearT q 15625 4);rw [hX] at hnr hbd ⊢;rw [hY] at hbd hcmp ⊢;obtain⟨W1,hW1,K1⟩:=nw1 w #[.string q1,.string q2] 44;have HN:=qH (hnr W1 (hT.below K1.out.1) (hE.below K1.out.1));have HQ:=qH (qA hqx (qA sq (qA hcmp hbd)));have HT1:=qH (hT.below K1.out.1);clear hnr hbd hcmp hqx sq hT hE hX hY;go_enter Tryz.func92,Tryz.ntmps92;go_wp2_with fail;rw [<-hW1];clear hW1;refine HN.out.mono ?_;rintro e w2 ⟨hb2,h⟩;have K2:=(K1.below hb2).also (q:=fun W=>HasT W) (HT1.out.below hb2);clear hb2 HN HT1 K1;rcases h with ⟨hi,rfl⟩ | ⟨hi,rfl⟩
 case inr =>
  have HI:=qH hi;clear hi;go_wp2_with fail;refine (qgU 0 6 (by decide) _).mono ?_;rintro e w3 ⟨rfl,hw⟩;subst hw;unfold thrown;go_wp2_with fail;refine⟨rfl,K2.out.1.1,qah ⟨fun h=>HI.out ⟨?_,?_⟩,rfl⟩⟩
  ·have:=h.1;omega
  ·have:=h.2;omega
 have HI:=qH hi;clear hi;go_wp2_with fail;refine (qem X _).mono ?_;rintro e w3 ⟨rfl,hw⟩;subst hw
 by_cases hx1:X < -100000000000
 ·go_wp2_with fail;refine (qcg 6 (by decide) _).mono ?_;rintro e w3 ⟨rfl,hw⟩;subst hw;unfold thrown;go_wp2_with fail;exact⟨rfl,K2.out.1.1,qah ⟨fun h=>absurd h.1 (by omega),rfl⟩⟩
 by_cases hx2:X > 100000000000
 ·go_wp2_with fail;refine (qcg 6 (by decide) _).mono ?_;rintro e w3 ⟨rfl,hw⟩;subst hw;unfold thrown;go_wp2_with fail;exact⟨rfl,K2.out.1.1,qah ⟨fun h=>absurd h.2 (by omega),rfl⟩⟩
 obtain⟨hy1,hy2⟩:=HQ.out.2.2.2 (by omega) (by omega);have hqt:-100000000000<=X.tdiv 4/\X.tdiv 4<=100000000000:=by have:=Int.natAbs_tdiv_le_natAbs X 4;omega
 have HXX:=qH (qA hx1 hx2);obtain⟨Q0,hQ0⟩:=qX (X.tdiv 4);rw [hQ0] at hqt;obtain⟨hq1,hq2⟩:=hqt;go_upto_region 5 with fail;clear hx1 hx2
 go_loopw [8] (fun x8 W=>∃z:Int,x8=.int .i64 z/\-100000000001<=z/\z<=100000000001/\(Y<=z\/z=Q0)/\Hid (Below w2.heap.size w2 W)) (fun x8 _=>(intOf x8-Y).toNat)
 case atStart=>exact⟨Q0,rfl,by omega,by omega,qah rfl,qH qB⟩
 case round =>
  obtain⟨z,rfl,hz1,hz2,hzY,hB⟩:=hrel;have K3:=K2.below hB.out;obtain⟨u1,u2,hu⟩:=qb6 ((((2*z-1)*4:Int):Rat) / ((31250:Int):Rat));have hOf:=fun W hP=>of_int ((2*z-1)*4) 31250 (by decide) (by omega) (by decide) W hP
  rw [hu] at hOf;have hCm:=fun W=>cmpq q ((((2*z-1)*4:Int):Rat) / ((31250:Int):Rat)) HQ.out.2.1 (qdO (by decide) (by omega) (by decide)) W
  rw [hu,HQ.out.1] at hCm;have hlt:q<(((2*z-1)*4:Int):Rat) / ((31250:Int):Rat)↔Y<z:=HQ.out.2.2.1 z;rw [hlt] at hCm;have HO:=qH (qA hOf hCm);have lt:=(qG K3.out.1.2).1;have r0:=rowC (B:=wr.heap.size) K3.out.1.2 0;have r1:=rowC (B:=wr.heap.size) K3.out.1.2 1;clear hOf hCm hlt hu;go_upto_region 5 with fail;refine wp_region_held_drew (S:=fun W=>Below wr.heap.size wr W) (by kernel_rfl) qB.drew (fun hS0=>?_);refine hT 0 (h:=hT 1 (h:=hT 2 (h:=hT 3 (h:=hT 4 (h:=hT 5 (h:=hT 6 (h:=hT 7 (h:=?_))))))));refine hC 8 (HO.out.1 _ (K3.out.2.below qB.drew)) (he:=by (go_simp;exact⟨by simp only [wrapI (t:=2*z) (by omega) (by omega),wrapI (t:=2*z-1) (by omega) (by omega),wrapI (t:=(2*z-1)*4) (by omega) (by omega)],by decide⟩)) (h:=?_);rintro e w4 ⟨rfl,hb⟩;have HB4:=qH (qb1 hb);have K4:=K3.below HB4.out;clear hb;refine⟨_,rfl,HB4.out,hN (h:=?_)⟩;refine hT 9 (hS:=HB4.out) (h:=hT 10 (hS:=HB4.out) (h:=?_));refine hC 11 (qcI u1 u2 w4) (h:=?_);rintro e w5 ⟨rfl,hb⟩;have HB5:=qH (HB4.out.trans (hb.mono HB4.out.size));have K5:=K4.below hb;clear hb;refine⟨_,rfl,HB5.out,hN (h:=?_)⟩;refine hC 12 (HO.out.2 w5) (h:=?_);rintro e w6 ⟨c,rfl,hc,hb⟩;have HB6:=qH (HB5.out.trans (hb.mono HB5.out.size));have K6:=K5.below hb;clear hb;refine⟨_,rfl,HB6.out,hN (h:=?_)⟩;refine hT 13 (hS:=HB6.out) (h:=hT 14 (hS:=HB6.out) (h:=?_));refine hC 15 (qem c w6) (h:=?_);rintro e w7 ⟨rfl,hw⟩;subst hw;refine⟨_,rfl,HB6.out,hN (h:=?_)⟩;refine hT 16 (hS:=HB6.out) (h:=?_);refine wpAnyH_done (by kernel_rfl) ?_ _;have HBw:=qH (hB.out.trans (HB6.out.mono hB.out.size));clear r0 r1 lt hS0 hB HO K3 K4 K5
  by_cases hlt:Y<z
  ·have hc0:c<0:=hc.2 hlt;clear hc;go_wp2;go_roundw
   case rel=>exact⟨z-1,by first | rfl | go_num,by omega,by omega,qan (by omega),HBw⟩
   case measure=>simp [intOf];omega
  ·have hc0:¬c<0:=fun h=>hlt (hc.1 h)
   have hzY2:z<=Y:=by omega
   clear hc hlt hzY;go_upto_region 7 with fail
   go_loopw [8] (fun x8 W=>∃z:Int,x8=.int .i64 z/\-100000000001<=z/\z<=100000000001/\z<=Y/\Hid (Below w6.heap.size w6 W)) (fun x8 _=>(Y-intOf x8).toNat)
   case atStart=>exact⟨z,rfl,hz1,hz2,hzY2,qH qB⟩
   case round =>
    clear hz1 hz2 hzY2 hc0;obtain⟨z,rfl,hz1,hz2,hzY,hB⟩:=hrel;have K3:=K6.below hB.out;obtain⟨u1,u2,hu⟩:=qb6 ((((2*z+1)*4:Int):Rat) / ((31250:Int):Rat));have hOf:=fun W hP=>of_int ((2*z+1)*4) 31250 (by decide) (by omega) (by decide) W hP
    rw [hu] at hOf;have hCm:=fun W=>cmpq q ((((2*z+1)*4:Int):Rat) / ((31250:Int):Rat)) HQ.out.2.1 (qdO (by decide) (by omega) (by decide)) W
    rw [hu,HQ.out.1] at hCm;have hlt:q<(((2*z+1)*4:Int):Rat) / ((31250:Int):Rat)↔Y<z+1:=by
     have:=HQ.out.2.2.1 (z+1);rw [show 2*(z+1)-1=2*z+1 by omega] at this;exact this
    rw [hlt] at hCm;have HO:=qH (qA hOf hCm);have lt:=(qG K3.out.1.2).1;have r0:=rowC (B:=wr.heap.size) K3.out.1.2 0;have r1:=rowC (B:=wr.heap.size) K3.out.1.2 1;clear hOf hCm hlt hu;go_upto_region 7 with fail;refine wp_region_held_drew (S:=fun W=>Below wr.heap.size wr W) (by kernel_rfl) qB.drew (fun hS0=>?_);refine hT 0 (h:=hT 1 (h:=hT 2 (h:=hT 3 (h:=hT 4 (h:=hT 5 (h:=hT 6 (h:=hT 7 (h:=?_))))))));refine hC 8 (HO.out.1 _ (K3.out.2.below qB.drew)) (he:=by (go_simp;exact⟨by simp only [wrapI (t:=2*z) (by omega) (by omega),wrapI (t:=2*z+1) (by omega) (by omega),wrapI (t:=(2*z+1)*4) (by omega) (by omega)],by decide⟩)) (h:=?_);rintro e w4 ⟨rfl,hb⟩;have HB4:=qH (qb1 hb);have K4:=K3.below HB4.out;clear hb;refine⟨_,rfl,HB4.out,hN (h:=?_)⟩;refine hT 9 (hS:=HB4.out) (h:=hT 10 (hS:=HB4.out) (h:=?_));refine hC 11 (qcI u1 u2 w4) (h:=?_);rintro e w5 ⟨rfl,hb⟩;have HB5:=qH (HB4.out.trans (hb.mono HB4.out.size));have K5:=K4.below hb;clear hb;refine⟨_,rfl,HB5.out,hN (h:=?_)⟩;refine hC 12 (HO.out.2 w5) (h:=?_);rintro e w7 ⟨c,rfl,hc,hb⟩;have HB6:=qH (HB5.out.trans (hb.mono HB5.out.size));have K7:=K5.below hb;clear hb;refine⟨_,rfl,HB6.out,hN (h:=?_)⟩;refine hT 13 (hS:=HB6.out) (h:=hT 14 (hS:=HB6.out) (h:=?_));refine hC 15 (qem c w7) (h:=?_);rintro e w8 ⟨rfl,hw⟩;subst hw;refine⟨_,rfl,HB6.out,hN (h:=?_)⟩;refine hT 16 (hS:=HB6.out) (h:=?_);refine wpAnyH_done (by kernel_rfl) ?_ _;have HBw2:=qH (hB.out.trans (HB6.out.mono hB.out.size));clear r0 r1 lt hS0 hB HO K3 K4 K5
    by_cases hlt:Y<z+1
    ·have hc0:¬c≥0:=by have:=hc.2 hlt;omega
     obtain rfl:z=Y:=by omega
     clear hc hlt;go_wp2;go_ret;exact⟨K7.out.1.1,rfl⟩
    ·have hc0:c≥0:=by
      apply Classical.byContradiction;intro h;exact hlt (hc.1 (by omega))
     clear hc;go_wp2;go_roundw
     case rel=>exact⟨z+1,by first | rfl | go_num,by omega,by omega,by omega,HBw2⟩
     case measure=>simp [intOf];omega
theorem qjt (N D:Nat) (h:(N=10000/\D=1)\/(N=15625/\D=4)) (q:Rat) (sq:Short q) (w:World) (hT:HasT w) (hE:HasE w) :
  Calls Tryz.prog 92 #[.agg #[.string (ftxt q).1,.string (ftxt q).2],.int .i64 (N:Int),.int .i64 (D:Int)] w fun e w'=>qhn w q N D e w':=by
 rcases h with ⟨rfl,rfl⟩ | ⟨rfl,rfl⟩
 ·exact nearest1 q sq w hT hE
 ·exact nearest4 q sq w hT hE
theorem el11_any (N D:Nat) (hND:(N=10000/\D=1)\/(N=15625/\D=4)) (i L rb nb db b off c:Nat) (ao:Option Addr) (l:List FT) (w:World) (hl:l.length=L) (hL:L<=1000) (hi:i<L) (hA:FAll l)
  (hrb:w.heap[rb]? = some (.cells #[.slice ao L c] 35 (0,0))) (hnb:w.heap[nb]? = some (.cells #[.int .i64 (N:Int)] 3 (0,0))) (hdb:w.heap[db]? = some (.cells #[.int .i64 (D:Int)] 3 (0,0))) (hF:FCells w ao b off l) (hT:HasT w) (hE:HasE w) :
  Calls Tryz.prog 91 #[.int .i64 (i:Int),.pointer (some ⟨rb,0,none⟩),.pointer (some ⟨nb,0,none⟩),.pointer (some ⟨db,0,none⟩)] w fun e w'=>qhn w (lval l i) N D e w':=by
 have hao:=hF.addr (by omega);subst hao;have htx:l.getD i fd0=ftxt (lval l i):=by
  have h1:=hA.eq_told;rw [hl] at h1;exact (congrArg (fun x=>x.getD i fd0) h1).trans (qdr hi)
 have hsh:Short (lval l i):=hA.short i (by omega);obtain⟨f1,f2⟩:=hF.cell i (by omega);obtain⟨x1,x2,hx⟩:=qb6 (lval l i);rw [htx,hx] at f1 f2;have hii:(i:Int)<L:=by omega
 have lr:=(qG hrb).1;have ln:=(qG hnb).1;have ld:=(qG hdb).1;have r0:=rowC (B:=w.heap.size) hrb 0;have n0:=rowC (B:=w.heap.size) hnb 0;have d0:=rowC (B:=w.heap.size) hdb 0;have g1:∀W,Below w.heap.size w W->W.cell? ⟨b,off+i*2,none⟩=some (.string x1):=fun W h=>(h.cell (qac w _ f1)).trans f1
 have g2:∀W,Below w.heap.size w W->W.cell? ⟨b,off+i*2+1,none⟩=some (.string x2):=fun W h=>(h.cell (qac w _ f2)).trans f2
 have hnr:=qjt N D hND (lval l i) hsh w.drew (hT.below qB.drew) (hE.below qB.drew);rw [hx] at hnr;have HN:=qH hnr;clear hnr hND hl hA hrb hnb hdb hF hT hE htx hsh hx f1 f2;go_enter Tryz.func91,Tryz.ntmps91;go_upto_region 1 with fail;refine wp_region_held_drew (S:=fun W=>Below w.heap.size w W) (by kernel_rfl) qB.drew (fun hS0=>?_);refine hT 0 (h:=hT 1 (h:=hT 2 (h:=?_)));refine hT 3 (h:=?_);refine hT 4 (h:=hT 5 (h:=?_));refine hCx 6 HN.out (h:=?_);rintro e w2 ⟨hb,h | h⟩
 ·obtain⟨h1,rfl⟩:=h;have HB:=qH (qb1 hb);have H1:=qH h1;clear hb h1;refine qan ⟨_,rfl,HB.out,hN (h:=?_)⟩;refine hT 7 (hS:=HB.out) (h:=?_);refine wpAnyH_done (by kernel_rfl) ?_ _;go_wp2;go_ret;exact⟨HB.out,qan ⟨H1.out,rfl⟩⟩
 ·obtain⟨h1,rfl⟩:=h;have HB:=qH (qb1 hb);have H1:=qH h1;clear hb h1;refine qah ⟨_,rfl,?_⟩;go_wp2_with fail;exact⟨rfl,HB.out,qah ⟨H1.out,rfl⟩⟩
def elN (c:Nat):Nat:=if c=0 then 10000 else 15625
def elD (c:Nat):Nat:=if c=0 then 1 else 4
def elM (c:Nat):Int:=if c=0 then 0 else 500000
def elz (m:Md) (c k:Nat):Int:=nearT (lval (m.row c) k) (elN c) (elD c)+(if k=0 then elM c else 0)
def qgD (z:Int):Prop:=-1000000000<=z/\z<=1000000000
def ElOk (m:Md) (n:Nat):Prop:=∀c,c<3->∀k,k<n+1->qgD (elz m c k)
def elOff (m:Md) (j:Nat):List Int:=(List.range j).map fun c=>elz m c 0
def elRow (m:Md) (n c:Nat):List Int:=(List.range n).map fun k=>elz m c (k+1)
theorem elND (c:Nat):(elN c=10000/\elD c=1)\/(elN c=15625/\elD c=4):=by
 unfold elN elD;split
 ·exact qan ⟨rfl,rfl⟩
 ·exact qah ⟨rfl,rfl⟩
theorem qjR (c:Nat):0<=elM c/\elM c<=500000:=by unfold elM;split <;> decide
theorem el_near {q:Rat} {c:Nat} {M:Int} (h0:0<=M) (h1:M<=500000) (h:qgD (nearT q (elN c) (elD c)+M)):-100000000000<=nearZ q (elN c)/\nearZ q (elN c)<=100000000000:=by
 have hd:elD c=1\/elD c=4:=by rcases elND c with ⟨_,h⟩ | ⟨_,h⟩ <;> omega
 obtain⟨h2,h3⟩:=h;have:=qmr (q:=q) (n:=elN c) (d:=elD c) (B:=1000500000) hd (by omega) (by omega);omega
section
variable {W w':World} {B n i j:Nat} {m:Md} {vr vo v':Value} {lo:List Int}
def qga (W:World) (B:Nat) (m:Md) (n j:Nat) (vr vo:Value):Prop :=
 ∃vs:List Value,W.ownsRow B 32 1 vr j vs/\∀c,c<j->IOwn W B (vs.getD c undef) (elRow m n c)/\(vs.getD c undef).ownBlock≠none/\(vs.getD c undef).ownBlock≠vo.ownBlock
def ElTo (W:World) (B:Nat) (m:Md) (n i j:Nat) (vr vo:Value):Prop:=IOwn W B vo (elOff m i)/\qga W B m n j vr vo
theorem own_ne {w:World} {B B':Nat} {e e':TypeId} {s s' n n':Nat} {x y:Value} {xs ys:List Value} (hx:w.ownsRow B e s x n xs) (hy:w.ownsRow B' e' s' y n' ys) (he:e≠e'):x.ownBlock=none\/x.ownBlock≠y.ownBlock:=by
 rcases hx.2 with ⟨rfl,_⟩ | ⟨g,cap,cur,rfl,_,h3,_⟩
 ·exact qan rfl
 ·refine qah fun e1=>?_
  rcases hy.2 with ⟨rfl,_⟩ | ⟨g',cap',cur',rfl,_,h3',_⟩
  ·cases e1
  ·have:g=g':=qai e1;subst this;have:=h3.symm.trans h3';simp at this;exact he this.2
theorem IOwn.below (h:IOwn W B vo lo) (hb:Below W.heap.size W w'):IOwn w' B vo lo:=own_below h hb
theorem qga.below (h:qga W B m n j vr vo) (hb:Below W.heap.size W w'):qga w' B m n j vr vo:=by
 obtain⟨vs,h1,h2⟩:=h;exact⟨vs,own_below h1 hb,fun c hc=>⟨(h2 c hc).1.below hb,(h2 c hc).2⟩⟩
theorem ElTo.below (h:ElTo W B m n i j vr vo) (hb:Below W.heap.size W w'):ElTo w' B m n i j vr vo:=⟨h.1.below hb,h.2.below hb⟩
instance stays_iown {B:Nat} {v:Value} {l:List Int}:Stays fun W=>IOwn W B v l:=⟨fun h hb=>h.below hb⟩
theorem qga.off (h:qga W B m n j vr vo) (ho:IOwn W B vo lo) (hk:v'.ownBlock=vo.ownBlock/\W.grownBy w' vo.ownBlock\/v'.ownBlock=some W.heap.size/\W.grownBy w' none):qga w' B m n j vr v':=by
 obtain⟨vs,h1,h2⟩:=h;refine⟨vs,(qfy h1 (own_ne h1 ho (by decide)) hk).1,fun c hc=>?_⟩;obtain⟨a,b,d⟩:=h2 c hc;obtain⟨e,f⟩:=qfy a (qah d) hk;exact⟨e,b,f.resolve_left b⟩
theorem own_some {w:World} {B:Nat} {e:TypeId} {s n:Nat} {x:Value} {xs:List Value} (hx:w.ownsRow B e s x n xs) (hn:0<n):x.ownBlock≠none:=by
 rcases hx.2 with ⟨rfl,h⟩ | ⟨g,cap,cur,rfl,_⟩
 ·omega
 ·simp [Value.ownBlock]
theorem ElTo.apart {k:Nat} (h:ElTo W B m n i j vr vo) (hk:W.grownBy w' (some k)) (hB:k<B\/W.heap.size<=k):ElTo w' B m n i j vr vo:=by
 have ne:∀{e:TypeId} {s q:Nat} {x:Value} {xs:List Value},W.ownsRow B e s x q xs->x.ownBlock=none\/x.ownBlock≠some k:=fun {e s q x xs} hx=>by
  cases e1:x.ownBlock with
  | none=>exact qan rfl
  | some q =>
   refine qah fun e2=>?_
   have:=hx.lt q e1;have:=qai e2;omega
 obtain⟨h0,vs,h1,h2⟩:=h;exact⟨World.ownsRow.kept h0 hk (ne h0),vs,h1.kept hk (ne h1),fun c hc=>⟨World.ownsRow.kept (h2 c hc).1 hk (ne (h2 c hc).1),(h2 c hc).2⟩⟩
theorem ElTo.row {vi:Value} (h:ElTo W B m n i j vr vo) (hn:0<n) (hi:IOwn W B vi (elRow m n j)) (hio:vi.ownBlock≠vo.ownBlock)
  (hr:w'.ownsRow B 32 1 v' (j+1) (Classical.choose h.2++[vi])) (hk:v'.ownBlock=vr.ownBlock/\W.grownBy w' vr.ownBlock\/v'.ownBlock=some W.heap.size/\W.grownBy w' none):IOwn w' B vo (elOff m i)/\qga w' B m n (j+1) v' vo:=by
 obtain⟨h1,h2⟩:=Classical.choose_spec h.2;generalize Classical.choose h.2=vs at *;have hl:vs.length=j:=by have:=h1.1;omega
 refine⟨(qfy h.1 (own_ne h.1 h1 (by decide)) hk).1,vs++[vi],hr,fun c hc=>?_⟩;rcases qaT c j with hcj | hcj
 ·have e:(vs++[vi]).getD c undef=vs.getD c undef:=by
   rw [qaa,qaA (by omega),<-qaa]
  rw [e];obtain⟨a,b,d⟩:=h2 c hcj;exact⟨(qfy a (own_ne a h1 (by decide)) hk).1,b,d⟩
 ·obtain rfl:c=j:=by omega
  have e:(vs++[vi]).getD c undef=vi:=by
   rw [qaa,qas (by omega),hl,qaI];rfl
  rw [e];exact⟨(qfy hi (own_ne hi h1 (by decide)) hk).1,own_some hi (by unfold elRow;simpa using hn),hio⟩
end
theorem qdZ (m:Md) (j:Nat):(elOff m j).length=j:=by unfold elOff;simp
theorem qdI (m:Md) (n c:Nat):(elRow m n c).length=n:=by unfold elRow;simp
theorem qjS {m:Md} {n c k:Nat} (h:k<(elRow m n c).length):(elRow m n c)[k]=elz m c (k+1):=by simp [elRow]
def qjJ (n S:Nat) (z:Value):Prop:=(∃a c,z=.slice a n c)/\∃k,z.ownBlock=some k/\S<=k
theorem qkq (m:Md) (j:Nat):elOff m (j+1)=elOff m j++[elz m j 0]:=by unfold elOff;rw [List.range_succ,qa5];rfl
