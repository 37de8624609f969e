import Derived.Test.YtplkdeknjghobaaGreatDoorBx23
set_option maxRecDepth 100000
set_option maxHeartbeats 0
namespace Go.Proofs.YtplkdeknjghobaaGreatDoor
open Go.RowKit
theorem qcu.uniq {z:Int} {k F:Nat} (h:qcu z k) (G:qcu z F):F=k:=by have:=h.1;have:=G.1;omega
theorem qmp {k n m:Nat} {x y:Nat->Nat->Rat} (h:∀c,c<3->told m (x c)=told m (y c)):mdq k n m x=mdq k n m y:=by
 unfold mdq;rw [h 0 (by decide),h 1 (by decide),h 2 (by decide)]
theorem FitAs.only {w:World} {l:List Pt} {kind:Int} {k:Nat} {H:List Int} {e:Ending} {V:World} {X:Nat->Nat->Rat} (h:FitAs w l kind H e V) (hP:PtsOk l) (U:H.length=l.length) (hW:WOk H) (O:qcu kind k) (h3:¬(k=3/\chans l=4))
  (Z:¬Sing (many k (chans l)) (nq l k H 0)) (J:∀c,c<3->FitX l k H c (X c)/\qbY (many k (chans l)) (X c)):Below w.heap.size w V/\∃v,e=.returned (.tuple #[v,.int .i64 0])/\MdAt V v (mdq k (chans l) (many k (chans l)) X):=by
 refine⟨h.1,?_⟩;have I:∀c,¬Sing (many k (chans l)) (nq l k H c):=fun c F=>Z (qgH F)
 rcases h.2 with ⟨v,rfl,_,_,_,k',G,_,_,x,hx,Y⟩ | ⟨c,rfl,hf⟩
 ·obtain rfl:=O.uniq G;refine⟨v,rfl,?_⟩;rw [qmp fun c F=>qeR ((hx c F).1.uniq (I c) (J c F).1)] at Y;exact Y
 ·exfalso;rcases hf with ⟨h,_⟩ | ⟨_,h,_⟩ | ⟨_,_,_,k',G,h⟩
  ·exact h hP
  ·exact h ⟨⟨k,O⟩,U,hW⟩
  ·obtain rfl:=O.uniq G;rcases h with ⟨a,b,_⟩ | ⟨_,⟨h,_⟩ | ⟨_,c,x,F,hx,hn,_⟩⟩
   ·exact h3 ⟨a,b⟩
   ·exact Z h
   ·exact hn ((J c F).2.congr (qcD.uniq (I c) (J c F).1 hx))
theorem FitAs.sing {w:World} {l:List Pt} {kind:Int} {k:Nat} {G:List Int} {e:Ending} {O:World} (h:FitAs w l kind G e O) (V:PtsOk l) (I:G.length=l.length) (Y:WOk G) (H:qcu kind k) (U:¬(k=3/\chans l=4))
  (J:Sing (many k (chans l)) (nq l k G 0)):Below w.heap.size w O/\e=.returned (.tuple #[mdv0,.int .i64 7]):=by
 refine⟨h.1,?_⟩;rcases h.2 with ⟨v,rfl,_,_,_,k',F,_,hn,_⟩ | ⟨c,rfl,Z⟩
 ·obtain rfl:=H.uniq F;exact absurd J hn
 ·rcases Z with ⟨h,_⟩ | ⟨_,h,_⟩ | ⟨_,_,_,k',F,h⟩
  ·exact absurd V h
  ·exact absurd ⟨⟨k,H⟩,I,Y⟩ h
  ·obtain rfl:=H.uniq F;rcases h with ⟨a,b,_⟩ | ⟨_,⟨_,rfl⟩ | ⟨h,_⟩⟩
   ·exact absurd ⟨a,b⟩ U
   ·rfl
   ·exact absurd J h
theorem mdq_ok {k n:Nat} {X:Nat->Nat->Rat} (O:1<=k/\k<=3) (G:1<=n) (I:n<=4) (H:¬(k=3/\n=4)) (J:∀c,c<3->qbY (many k n) (X c)):MdOk (mdq k n (many k n) X) k n :=
 ⟨⟨rfl,O⟩,⟨rfl,G,I⟩,H,fun c F=>by rw [qez F];exact⟨qbW _ _,qdG (J c F)⟩⟩
theorem MdOk.uniq {m:Md} {k n G H:Nat} (h:MdOk m k n) (F:MdOk m G H):G=k/\H=n:=⟨h.kind.uniq F.kind,by have:=h.inn.1;have:=F.inn.1;omega⟩
theorem qlz {k n m:Nat} {X:Nat->Nat->Rat} {dv:List Int} {F c:Nat} (I:many F dv.length<=m) (G:c<3):apq (mdq k n m X) dv F c=sumQ (many F dv.length) fun j=>termQ F dv j*X c j:=by
 unfold apq;rw [qez G];exact qbV fun i H=>by rw [qcG (by omega)]
theorem ApAs.only {w:World} {m:Md} {k:Nat} {dv:List Int} {e:Ending} {H:World} (h:ApAs w m dv e H) (G:MdOk m k dv.length) (I:qcz dv) (O:∀c,c<3->Short (apq m dv k c)):Below w.heap.size w H /\
  e=.returned (.tuple #[.agg #[.string (ftxt (apq m dv k 0)).1,.string (ftxt (apq m dv k 0)).2,.string (ftxt (apq m dv k 1)).1,.string (ftxt (apq m dv k 1)).2,.string (ftxt (apq m dv k 2)).1,.string (ftxt (apq m dv k 2)).2],.int .i64 0]):=by
 refine⟨h.1,?_⟩;rcases h.2 with ⟨v,rfl,_,k',F,_,rfl⟩ | ⟨c,rfl,J⟩
 ·obtain rfl:=(G.uniq F).1;rfl
 ·exfalso;rcases J with ⟨h,_⟩ | ⟨_,h,_⟩ | ⟨_,_,k',F,h⟩
  ·exact h ⟨_,_,G⟩
  ·exact h ⟨G.inn.1.symm,I⟩
  ·obtain rfl:=(G.uniq F).1;exact h O
theorem sqq_mdq {k n m:Nat} {X:Nat->Nat->Rat} {l:List Pt} {F i:Nat} (J:many F (chans l)<=m):sqq (mdq k n m X) l F i=msR 3 (many F (chans l)) X (fun q=>labq l q i) (fun _=>1) (tqf l F i):=by
 unfold sqq msR;refine qbV fun q G=>?_
 have:(sumQ (many F (chans l)) fun j=>lval ((mdq k n m X).row q) j*tqf l F i j)=sumQ (many F (chans l)) fun j=>X q j*tqf l F i j:=by
  rw [qez G];exact qbV fun j I=>by rw [qcG (by omega)]
 have H:resR (many F (chans l)) (fun q=>lval ((mdq k n m X).row q)) (fun q=>labq l q i) (tqf l F i) q=resR (many F (chans l)) X (fun q=>labq l q i) (tqf l F i) q:=by
  unfold resR;rw [this]
 rw [H]
theorem SqAs.only {w:World} {m:Md} {k:Nat} {l:List Pt} {e:Ending} {H:World} (h:SqAs w m l e H) (J:PtsOk l) (G:MdOk m k (chans l)) (U:qbY l.length (sqq m l k)):Below w.heap.size w H /\
  ∃g,e=.returned (.tuple #[.slice (some ⟨g,0,none⟩) l.length l.length,.int .i64 0])/\FCells H (some ⟨g,0,none⟩) g 0 (told l.length (sqq m l k)):=by
 refine⟨h.1,?_⟩;rcases h.2 with ⟨v,rfl,_,k',F,_,g,rfl,I⟩ | ⟨c,rfl,O⟩
 ·obtain rfl:=(G.uniq F).1;exact⟨g,rfl,I⟩
 ·exfalso;rcases O with ⟨h,_⟩ | ⟨_,h,_⟩ | ⟨_,_,h,_⟩ | ⟨_,_,k',F,h⟩
  ·exact h ⟨_,_,G⟩
  ·exact h J
  ·exact h G.inn.1
  ·obtain rfl:=(G.uniq F).1;exact h U
def ramp:List Pt:=[⟨⟨#[97]⟩,[0],0,0,0⟩,⟨⟨#[98]⟩,[5000],6000,0,0⟩,⟨⟨#[99]⟩,[10000],10000,0,0⟩]
theorem qhY {c:UInt8} (h:qdt c=true):qhf ⟨#[c]⟩:=⟨qae 1,show 1<=12 by decide,fun k F=>by
 have F:k<1:=F;obtain rfl:k=0:=by omega
 exact h⟩
theorem qfA {z:Int} (h:0<=z/\z<=10000):qcz [z]:=fun k F=>by
 have F:k<1:=F;obtain rfl:k=0:=by omega
 exact h
theorem qh5:PtsOk ramp where
 r1:=by decide
 r2:=by decide
 rows:=fun k G=>by
  have G:k<3:=G;rcases (show k=0\/k=1\/k=2 by omega) with rfl | rfl | rfl
  ·exact⟨⟨qhY (by decide),by decide,by decide,qfA (by decide),by decide,by decide,by decide⟩,rfl⟩
  ·exact⟨⟨qhY (by decide),by decide,by decide,qfA (by decide),by decide,by decide,by decide⟩,rfl⟩
  ·exact⟨⟨qhY (by decide),by decide,by decide,qfA (by decide),by decide,by decide,by decide⟩,rfl⟩
 apart:=fun i k H F=>by
  have F:i<3:=F;rcases (show (k=0/\i=1)\/(k=0/\i=2)\/(k=1/\i=2) by omega) with ⟨rfl,rfl⟩ | ⟨rfl,rfl⟩ | ⟨rfl,rfl⟩
  ·exact (by decide:(⟨#[97]⟩:ByteArray)≠⟨#[98]⟩)
  ·exact (by decide:(⟨#[97]⟩:ByteArray)≠⟨#[99]⟩)
  ·exact (by decide:(⟨#[98]⟩:ByteArray)≠⟨#[99]⟩)
def fitX1 (c:Nat):Nat->Rat:=if c=0 then fv [10 / 3,100] else fv [0,0]
def fitX2 (c:Nat):Nat->Rat:=if c=0 then fv [0,140,-40] else fv [0,0,0]
theorem fit1_x:∀c,c<3->FitX ramp 1 [1,1,1] c (fitX1 c)/\qbY 2 (fitX1 c):=fun c F=>by
 rcases (show c=0\/c=1\/c=2 by omega) with rfl | rfl | rfl
 ·exact⟨show ∀i,i<2->_ from by decide +kernel,qcM (by decide +kernel)⟩
 ·exact⟨show ∀i,i<2->_ from by decide +kernel,qcM (by decide +kernel)⟩
 ·exact⟨show ∀i,i<2->_ from by decide +kernel,qcM (by decide +kernel)⟩
theorem fit2_x:∀c,c<3->FitX ramp 2 [1,1,1] c (fitX2 c)/\qbY 3 (fitX2 c):=fun c F=>by
 rcases (show c=0\/c=1\/c=2 by omega) with rfl | rfl | rfl
 ·exact⟨show ∀i,i<3->_ from by decide +kernel,qcM (by decide +kernel)⟩
 ·exact⟨show ∀i,i<3->_ from by decide +kernel,qcM (by decide +kernel)⟩
 ·exact⟨show ∀i,i<3->_ from by decide +kernel,qcM (by decide +kernel)⟩
theorem fit1_one:¬Sing 2 (nq ramp 1 [1,1,1] 0):=qiV (fm [[5 / 6,-1],[-1,2]]) (by decide +kernel)
theorem fit2_one:¬Sing 3 (nq ramp 2 [1,1,1] 0):=qiV (fm [[1,-3,2],[-3,26,-24],[2,-24,24]]) (by decide +kernel)
theorem qlU:Sing 3 (nq ramp 2 [1,1,0] 0):=⟨fv [0,1,-2],⟨1,by decide,by decide +kernel⟩,show ∀i,i<3->_ from by decide +kernel⟩
theorem qmJ:WOk [1,1,1]:=show ∀k,k<3->_ from by decide
theorem ones0_ok:WOk [1,1,0]:=show ∀k,k<3->_ from by decide
theorem kind1:qcu 1 1:=⟨rfl,by decide,by decide⟩
theorem kind2:qcu 2 2:=⟨rfl,by decide,by decide⟩
theorem kind3:qcu 3 3:=⟨rfl,by decide,by decide⟩
theorem ex_fit1 {w F:World} {e:Ending} (h:FitAs w ramp 1 [1,1,1] e F):Below w.heap.size w F/\∃v,e=.returned (.tuple #[v,.int .i64 0])/\MdAt F v (mdq 1 1 2 fitX1) :=
 h.only qh5 rfl qmJ kind1 (by decide) fit1_one fit1_x
theorem ex_fit2 {w F:World} {e:Ending} (h:FitAs w ramp 2 [1,1,1] e F):Below w.heap.size w F/\∃v,e=.returned (.tuple #[v,.int .i64 0])/\MdAt F v (mdq 2 1 3 fitX2) :=
 h.only qh5 rfl qmJ kind2 (by decide) fit2_one fit2_x
theorem ex_fit3 {w F:World} {e:Ending} (h:FitAs w ramp 2 [1,1,0] e F):Below w.heap.size w F/\e=.returned (.tuple #[mdv0,.int .i64 7]) :=
 h.sing qh5 rfl ones0_ok kind2 (by decide) qlU
theorem qiL:MdOk (mdq 1 1 2 fitX1) 1 1:=mdq_ok (k:=1) (n:=1) (by decide) (by decide) (by decide) (by decide) fun c F=>(fit1_x c F).2
theorem ex_ap {c:Nat} (F:c<3):apq (mdq 1 1 2 fitX1) [5000] 1 c=if c=0 then 160 / 3 else 0:=by
 rw [qlz (by decide) F];rcases (show c=0\/c=1\/c=2 by omega) with rfl | rfl | rfl <;> decide +kernel
theorem ex_apply {w F:World} {e:Ending} (h:ApAs w (mdq 1 1 2 fitX1) [5000] e F):Below w.heap.size w F/\e=.returned (.tuple #[.agg #[.string ⟨#[49,54,48]⟩,.string ⟨#[51]⟩,.string ⟨#[48]⟩,.string ⟨#[49]⟩,.string ⟨#[48]⟩,.string ⟨#[49]⟩],.int .i64 0]):=by
 obtain⟨H,he⟩:=h.only qiL (qfA (by decide)) (fun c I=>by
  rw [ex_ap I];rcases (show c=0\/c=1\/c=2 by omega) with rfl | rfl | rfl
  ·exact qdf (N:=1000) ⟨by decide +kernel,by decide +kernel⟩ (by decide +kernel)
  ·exact qdf (N:=1000) ⟨by decide +kernel,by decide +kernel⟩ (by decide +kernel)
  ·exact qdf (N:=1000) ⟨by decide +kernel,by decide +kernel⟩ (by decide +kernel))
 refine⟨H,he.trans ?_⟩;rw [ex_ap (c:=0) (by decide),ex_ap (c:=1) (by decide),ex_ap (c:=2) (by decide),if_pos rfl,if_neg (by decide),if_neg (by decide),ft_0];have G:ftxt (160 / 3)=(⟨#[49,54,48]⟩,⟨#[51]⟩):=by
  unfold ftxt;rw [show ((160 / 3:Rat)).num=160 by decide +kernel,show ((160 / 3:Rat)).den=3 by decide +kernel,qek (by decide),qes (u:=3) (by decide)];unfold num;rw [show (160:Int).natAbs=160 from rfl,qb5 (by decide),show 160 / 10=16 from rfl,qb5 (by decide),qbZ (by decide)]
  rfl
 rw [G]
theorem ex_sq:∀i,i<3->sqq (mdq 1 1 2 fitX1) ramp 1 i=fv [100 / 9,400 / 9,100 / 9] i:=fun i F=>by
 rw [sqq_mdq (by decide)];rcases (show i=0\/i=1\/i=2 by omega) with rfl | rfl | rfl <;> decide +kernel
theorem qkO {w F:World} {e:Ending} (h:SqAs w (mdq 1 1 2 fitX1) ramp e F):Below w.heap.size w F/\∃g,e=.returned (.tuple #[.slice (some ⟨g,0,none⟩) 3 3,.int .i64 0])/\FCells F (some ⟨g,0,none⟩) g 0 (told 3 (fv [100 / 9,400 / 9,100 / 9])):=by
 obtain⟨I,g,he,G⟩:=h.only qh5 qiL (fun i H=>by rw [ex_sq i H];exact qcM (n:=3) (by decide +kernel) i H);refine⟨I,g,he,?_⟩;have:told ramp.length (sqq (mdq 1 1 2 fitX1) ramp 1)=told 3 (fv [100 / 9,400 / 9,100 / 9]):=qeR ex_sq;rw [this] at G;exact G
def more (N:Nat) (t:Nat->Rat) (q:Rat) (j:Nat):Rat:=if j<N then t j else q
theorem qjg (N:Nat) (t:Nat->Rat) (q:Rat):told (N+1) (more N t q)=told N t++[ftxt q]:=by
 rw [qg6];have F:told N (more N t q)=told N t:=List.map_congr_left fun i H=>by
  show ftxt (more N t q i)=ftxt (t i)
  unfold more;rw [if_pos (qbb.1 H)]
 have G:more N t q N=q:=by unfold more;rw [if_neg (qbz _)]
 rw [F,G]
theorem qhB {N:Nat} {t:Nat->Rat} {q:Rat} (h:qbY N t) (F:Short q):qbY (N+1) (more N t q):=fun i G=>by
 unfold more;split
 ·exact h i (by assumption)
 ·exact F
theorem sum_more (N:Nat) (t:Nat->Rat) (q:Rat):sumQ (N+1) (more N t q)=sumQ N t+q:=by
 show sumQ N (more N t q)+more N t q N=_
 have F:more N t q N=q:=by unfold more;rw [if_neg (qbz _)]
 rw [F,qbV fun i G=>show more N t q i=t i by unfold more;rw [if_pos G]]
theorem dot_more (N:Nat) (t r:Nat->Rat) (p q:Rat):(sumQ (N+1) fun j=>more N t p j*more N r q j)=(sumQ N fun j=>t j*r j)+p*q:=by
 show sumQ N (fun j=>more N t p j*more N r q j)+more N t p N*more N r q N=_
 have G:more N t p N=p:=by unfold more;rw [if_neg (qbz _)]
 have H:more N r q N=q:=by unfold more;rw [if_neg (qbz _)]
 rw [G,H,qbV fun i F=>show more N t p i*more N r q i=t i*r i by unfold more;rw [if_pos F,if_pos F]]
theorem qlr {kind:Nat} {d:List Int} (hk:kind=1\/kind=2\/kind=3) (Z:qcz d) (V:kind=3->d.length<=3) (U:many kind d.length<=10) :
  sumQ (many kind d.length+1) (more (many kind d.length) (termQ kind d) 1)≠0/\Short (sumQ (many kind d.length+1) (more (many kind d.length) (termQ kind d) 1))/\Short (sumQ (many kind d.length+1) (more (many kind d.length) (termQ kind d) 1))⁻¹:=by
 have G:=fun j hj=>qgd hk Z V _ (qdQ (kind:=kind) (d:=d) (j:=j) hj)
 rw [sum_more];have aa:=qg3 (n:=many kind d.length) (f:=termQ kind d) fun i I=>(G i I).2
 have hne:sumQ (many kind d.length) (termQ kind d)+1≠0:=fun e=>by grind
 have O:Cd 1 1000000000000 1000000000000:=⟨1000000000000,by decide +kernel,by decide⟩;have F:=(Cd.sum (n:=many kind d.length) (f:=termQ kind d) fun i I=>(G i I).1).add O;have F:=F.mono (M:=20000000000000) (by omega);refine⟨hne,F.short (by decide) (by decide +kernel) (by decide +kernel),?_⟩;obtain⟨p,e,hp⟩:=F;have H:p≠0:=fun J=>hne (by rw [e,J,Rat.div_def];exact Rat.zero_mul _)
 refine qdf (N:=20000000000000) (qfY (p:=((1000000000000:Nat):Int)) (z:=p) H (by decide) hp ?_) (by decide +kernel);have ae:(p:Rat)≠0:=fun h=>H (by exact_mod_cast h)
 have Y:((1000000000000:Nat):Rat)≠0:=qeC (by decide);rw [e,show (((1000000000000:Nat):Int):Rat)=((1000000000000:Nat):Rat) from rfl];generalize ((1000000000000:Nat):Rat)=D at Y
 grind
open Go.Proofs.Tryz
theorem infoI64:(Tryz.prog.info? 3).map (fun i=>(i.zero,i.size,i.bytes))=some (some (.int .i64 0),1,8):=by kernel_rfl
def GivesI (H:FuncId) (G:Array Value) (w:World) (n:Nat) (P:Nat->Int->Prop) (F:Nat->Int->Prop):Prop :=
 ∀i,i<n->∀W,Below w.heap.size w W->Calls prog H (#[.int .i64 (i:Int)]++G) W fun e I=>Below W.heap.size W I/\((∃z,e=.returned (.int .i64 z)/\P i z)\/∃c,e=thrown c/\F i c)
theorem qjC (fc:FuncId) (G:Array Value) (n:Nat) (hn:n<=1000) (P:Nat->Int->Prop) (F:Nat->Int->Prop) (w:World) (ag:∀a W,(callFunc fc (#[a]++G)).run prog W=.ok (.enter fc (#[a]++G)) W) (hf:GivesI fc G w n P F) :
  Calls prog 90 #[.int .i64 (n:Int),.func (.func fc) #[] G] w fun e w'=>Below w.heap.size w w' /\
   ((∃(l:List Int) (g:Nat),l.length=n/\(∀i,i<n->P i (l.getD i 0))/\e=.returned (.slice (some ⟨g,0,none⟩) n n)/\VRow w' g n (.int .i64 0) 3 (l.map fun z=>.int .i64 z)/\w.heap.size<=g)\/∃i c,i<n/\e=thrown c/\F i c):=by
 have af:=run_make_row' (P:=prog) 32 3 (.int .i64 0) 8 underlying32 infoI64 rfl .i64 .i64 n (by omega) (by omega) w;obtain⟨W5,O⟩:=qY (w.alloc (.cells (madeCells #[.int .i64 0] n) 3));rw [<-O] at af;have ae:VRow W5 w.heap.size n (.int .i64 0) 3 []:=O▸VRow.made' w n _ _;have aa:Below w.heap.size w W5:=O▸qB.alloc qN _;have H0:=qH (qA ae (qA aa hf));clear ae aa hf O;go_enter func90,ntmps90;go_wp2_with fail
 go_loopw [10] (fun x10 W=>∃i:Nat,x10=.int .i64 i/\i<=n/\Hu (∃l:List Int,l.length=i/\(∀j,j<i->P j (l.getD j 0))/\VRow W w.heap.size n (.int .i64 0) 3 (l.map fun z=>.int .i64 z)/\Below w.heap.size w W)) (fun x10 _=>n-(intOf x10).toNat)
 case atStart=>exact⟨0,rfl,qam _,qH ⟨[],rfl,fun j hj=>absurd hj (by omega),H0.o.1,H0.o.2.1⟩⟩
 case round =>
  obtain⟨i,rfl,ai,hI⟩:=hrel;obtain⟨l,hl,hP,hV,Z⟩:=hI.o
  by_cases hi:i<n
  ·subst hl;have ah:(l.length:Int)<n:=by omega
   have HC:=qH (H0.o.2.2 l.length hi _ Z);have Y:=qH (qA hP (qA hV Z));clear hI hP hV Z;go_wp2_with fail;refine HC.o.mono ?_;rintro e w2 ⟨I,h⟩;rcases h with ⟨z,rfl,hp⟩ | ⟨c,rfl,hF⟩
   ·have V:=Y.o.2.1.below I;have H:(l.map fun z=>Value.int .i64 z).length=l.length:=qat _;obtain⟨q0,qf⟩:=V.at (by rw [H];exact hi);have J:=V.set (by rw [H];exact hi) (.int .i64 z);rw [H] at q0 J;have aj:=qf l.length;have U:=qH (qA J (qA ((Y.o.2.2.trans (I.mono Y.o.2.2.size)).setCell (p:=⟨w.heap.size,l.length,none⟩) qN (.int .i64 z)) hp));clear V qf I hp J H;go_wp2;go_roundw
    case rel =>
     refine⟨l.length+1,by go_num,hi,qH ⟨l++[z],by simp,fun j hj=>?_,by rw [qaZ];exact U.o.1,U.o.2.1⟩⟩;rcases qaM j l.length with hj2 | hj2
     ·rw [qaa,qar hj2,<-qaa];exact Y.o.1 j hj2
     ·have:j=l.length:=by omega
      subst this;rw [qaa,qao qN,qaJ];exact U.o.2.2
    case measure=>simp [intOf];omega
   ·have U:=qH (qA (Y.o.2.2.trans (I.mono Y.o.2.2.size)) hF);clear I hF;unfold thrown;go_wp2_with fail;exact⟨rfl,U.o.1,qag ⟨_,c,hi,rfl,U.o.2⟩⟩
  ·obtain rfl:i=n:=by omega
   have U:=qH (qA hl (qA hP (qA hV Z)));clear hI hl hP hV Z;go_wp2;go_ret;obtain⟨h1,h2,h3,h4⟩:=U.o;exact⟨h4,qal ⟨l,_,h1,h2,rfl,h3,qae _⟩⟩
def GRow (W:World) (g N:Nat) (e:TypeId) (l:List FT):Prop:=W.heap[g]? = some (.cells (fflat (l++List.replicate (N-l.length) fd0)).toArray e (0,0))/\l.length<=N
theorem GRow.below {W W':World} {g N:Nat} {e:TypeId} {l:List FT} (h:GRow W g N e l) (F:Below W.heap.size W W'):GRow W' g N e l:=⟨zkeep F _ _ h.1,h.2⟩
theorem GRow.at {W:World} {g N:Nat} {e:TypeId} {l:List FT} (h:GRow W g N e l) (k:Nat) (I:l.length+k<N):(W.cell? ⟨g,(l.length+k)*2,none⟩=some (.string ⟨#[]⟩)/\W.cell? ⟨g,(l.length+k)*2+1,none⟩=some (.string ⟨#[]⟩))/\∀j,W.frozen? ⟨g,j,none⟩=false:=by
 have F:(l++List.replicate (N-l.length) fd0)[l.length+k]? = some fd0:=by
  rw [qao (by omega),qbd,if_pos (by omega)]
 obtain⟨G,H⟩:=qdX _ _ _ F;exact⟨⟨(qC _ _ _ _ _ _ h.1).trans ((qav ..).trans G),(qC _ _ _ _ _ _ h.1).trans ((qav ..).trans H)⟩,fun j=>qF _ _ _ _ _ h.1⟩
theorem GRow.set {W:World} {g N:Nat} {e:TypeId} {l:List FT} (h:GRow W g N e l) (I:l.length<N) (x:FT) :
  GRow ((W.setCell ⟨g,l.length*2,none⟩ (.string x.1)).setCell ⟨g,l.length*2+1,none⟩ (.string x.2)) g N e (l++[x]):=by
 refine⟨?_,by rw [qaf,qaw];omega⟩;rw [heap_setCell_same _ g (l.length*2+1) _ _ _ (heap_setCell_same _ g (l.length*2) _ _ _ h.1)]
 congr 3
 obtain⟨m,H⟩:∃m,N-l.length=m+1:=⟨N-l.length-1,by omega⟩;have F:fflat (l++List.replicate (m+1) fd0)=fflat l++(.string fd0.1 :: .string fd0.2 :: fflat (List.replicate m fd0)):=by
  rw [qcF,qbo];rfl
 have G:fflat (l++[x]++List.replicate m fd0)=fflat l++(.string x.1 :: .string x.2 :: fflat (List.replicate m fd0)):=by
  rw [qcF,qcF,qaE];rfl
 rw [qaB,qaB,H,qaf,qaw,show N-(l.length+1)=m by omega,F,G];rw [qa6 _ _ (by rw [qb8];exact qae _),qb8,qaJ,qbi,qa6 _ _ (by rw [qb8];omega),qb8,show l.length*2+1-l.length*2=1 by omega]
 rfl
theorem GRow.set3 {W:World} {g N i:Nat} {e:TypeId} {l:List FT} (h:GRow W g N e l) (I:l.length=i*3) (J:i*3+2<N) (x y z:FT) :
  GRow ((((((W.setCell ⟨g,i*6,none⟩ (.string x.1)).setCell ⟨g,i*6+1,none⟩ (.string x.2)).setCell ⟨g,i*6+2,none⟩ (.string y.1)).setCell ⟨g,i*6+3,none⟩ (.string y.2)).setCell ⟨g,i*6+4,none⟩ (.string z.1)).setCell ⟨g,i*6+5,none⟩ (.string z.2)) g N e (l++[x]++[y]++[z]):=by
 have G:=h.set (by omega) x;have H:=G.set (by rw [qaf,qaw];omega) y;have F:=H.set (by simp only [qaf,qaw];omega) z;simp only [qaf,qaw,I] at F;rw [show i*3*2=i*6 by omega,show (i*3+1)*2=i*6+2 by omega,show (i*3+1+1)*2=i*6+4 by omega] at F;exact F
theorem GRow.cells {W:World} {g N:Nat} {e:TypeId} {l:List FT} (h:GRow W g N e l) (G:l.length=N):FCells W (some ⟨g,0,none⟩) g 0 l:=by
 have F:=h.1;rw [G,qaJ,List.replicate_zero,List.append_nil] at F;exact FCells.ofRow F
theorem infoA:(Tryz.prog.info? 65).map (fun i=>(i.zero,i.size,i.bytes))=some (some (.agg #[.string ⟨#[]⟩,.string ⟨#[]⟩,.string ⟨#[]⟩,.string ⟨#[]⟩,.string ⟨#[]⟩,.string ⟨#[]⟩]),6,96):=by kernel_rfl
theorem made_six (n:Nat):madeCells #[.string ⟨#[]⟩,.string ⟨#[]⟩,.string ⟨#[]⟩,.string ⟨#[]⟩,.string ⟨#[]⟩,.string ⟨#[]⟩] (n*6)=(fflat (List.replicate (n*3) fd0)).toArray:=by
 rw [qiz];apply Array.ext';apply qbC;intro i;rw [Array.getElem?_toList]
 show _=(List.replicate (n*3*2) (Value.string ⟨#[]⟩))[i]?
 by_cases F:i<n*6
 ·rw [qbd,if_pos (by omega)];have G:(madeCells #[.string ⟨#[]⟩,.string ⟨#[]⟩,.string ⟨#[]⟩,.string ⟨#[]⟩,.string ⟨#[]⟩,.string ⟨#[]⟩] (n*6))[i]? = some ((#[.string ⟨#[]⟩,.string ⟨#[]⟩,.string ⟨#[]⟩,.string ⟨#[]⟩,.string ⟨#[]⟩,.string ⟨#[]⟩]:Array Value)[i % 6]!):=by simp [madeCells,F]
  rw [G]
  congr 1
  rcases (show i % 6=0\/i % 6=1\/i % 6=2\/i % 6=3\/i % 6=4\/i % 6=5 by omega) with e | e | e | e | e | e <;> rw [e] <;> rfl
 ·rw [Array.getElem?_eq_none (by rw [size_madeCells];omega),qaA (by rw [qa8];omega)]
theorem make_trs (n:Nat) (J:n<=1000) (w:World):(Instr.makeSlice 62 (.int .i64 (n:Int)) (.int .i64 (n:Int))).run prog w=.ok (.slice (some ⟨w.heap.size,0,none⟩) n n) (w.alloc (.cells (madeCells #[.string ⟨#[]⟩,.string ⟨#[]⟩,.string ⟨#[]⟩,.string ⟨#[]⟩,.string ⟨#[]⟩,.string ⟨#[]⟩] (n*6)) 65)):=by
 obtain⟨i,I,F,G,H⟩:=info_parts infoA;have h:=run_make (P:=prog) w 62 65 i _ underlying62 I F .i64 .i64 (n:Int) (n:Int) (by omega) (Int.le_refl _) (by rw [H];omega) (by omega);rw [G,Int.toNat_natCast] at h;exact h
theorem GRow.made (W:World) (n:Nat):GRow (W.alloc (.cells (madeCells #[.string ⟨#[]⟩,.string ⟨#[]⟩,.string ⟨#[]⟩,.string ⟨#[]⟩,.string ⟨#[]⟩,.string ⟨#[]⟩] (n*6)) 65)) W.heap.size (n*3) 65 []:=by
 refine⟨?_,qam _⟩;rw [qM _ _ _ rfl,qbh,List.length_nil,Nat.sub_zero,made_six]
def GivesA (O:FuncId) (G:Array Value) (w:World) (n:Nat) (P:Nat->FT->FT->FT->Prop) (F:Nat->Int->Prop):Prop :=
 ∀i,i<n->∀W,Below w.heap.size w W->Calls prog O (#[.int .i64 (i:Int)]++G) W fun e U=>Below W.heap.size W U/\((∃x0 x1 H I z0 J,e=.returned (.agg #[.string x0,.string x1,.string H,.string I,.string z0,.string J])/\P i (x0,x1) (H,I) (z0,J))\/∃c,e=thrown c/\F i c)
theorem qjB (fc:FuncId) (H:Array Value) (n:Nat) (hn:n<=1000) (P:Nat->FT->FT->FT->Prop) (F:Nat->Int->Prop) (w:World) (af:∀a W,(callFunc fc (#[a]++H)).run prog W=.ok (.enter fc (#[a]++H)) W) (hf:GivesA fc H w n P F) :
  Calls prog 72 #[.int .i64 (n:Int),.func (.func fc) #[] H] w fun e w'=>Below w.heap.size w w' /\
   ((∃(l:List FT) (g:Nat),l.length=n*3/\(∀i,i<n->P i (l.getD (i*3) fd0) (l.getD (i*3+1) fd0) (l.getD (i*3+2) fd0))/\e=.returned (.slice (some ⟨g,0,none⟩) n n)/\FCells w' (some ⟨g,0,none⟩) g 0 l/\w.heap.size<=g)\/∃i c,i<n/\e=thrown c/\F i c):=by
 have ae:=make_trs n (by omega) w;obtain⟨W5,O⟩:=qY (w.alloc (.cells (madeCells #[.string ⟨#[]⟩,.string ⟨#[]⟩,.string ⟨#[]⟩,.string ⟨#[]⟩,.string ⟨#[]⟩,.string ⟨#[]⟩] (n*6)) 65));rw [<-O] at ae;have aa:GRow W5 w.heap.size (n*3) 65 []:=O▸GRow.made w n;have Z:Below w.heap.size w W5:=O▸qB.alloc qN _;have H0:=qH (qA aa (qA Z hf));clear aa Z hf O;go_enter func72,ntmps72;go_wp2_with fail
 go_loopw [10] (fun x10 W=>∃i:Nat,x10=.int .i64 i/\i<=n/\Hu (∃l:List FT,l.length=i*3/\(∀j,j<i->P j (l.getD (j*3) fd0) (l.getD (j*3+1) fd0) (l.getD (j*3+2) fd0))/\GRow W w.heap.size (n*3) 65 l/\Below w.heap.size w W)) (fun x10 _=>n-(intOf x10).toNat)
 case atStart=>exact⟨0,rfl,qam _,qH ⟨[],rfl,fun j hj=>absurd hj (by omega),H0.o.1,H0.o.2.1⟩⟩
 case round =>
  obtain⟨i,rfl,ah,hI⟩:=hrel;obtain⟨l,V,hP,hV,Y⟩:=hI.o
  by_cases hi:i<n
  ·have ag:(i:Int)<n:=by omega
   have HC:=qH (H0.o.2.2 i hi _ Y);have G:=qH (qA V (qA hP (qA hV Y)));clear hI V hP hV Y;go_wp2_with fail;refine HC.o.mono ?_;rintro e w2 ⟨J,h⟩;rcases h with ⟨x0,x1,y0,y1,z0,z1,rfl,hp⟩ | ⟨c,rfl,hF⟩
   ·have I:=G.o.2.2.1.below J;obtain⟨⟨q0,q1⟩,qf⟩:=I.at 0 (by have:=G.o.1;omega);obtain⟨⟨q2,q3⟩,_⟩:=I.at 1 (by have:=G.o.1;omega);obtain⟨⟨q4,q5⟩,_⟩:=I.at 2 (by have:=G.o.1;omega);rw [G.o.1,show (i*3+0)*2=i*6 by omega] at q0 q1;rw [G.o.1,show (i*3+1)*2=i*6+2 by omega] at q2 q3;rw [G.o.1,show (i*3+2)*2=i*6+4 by omega] at q4 q5;have f0:=qf (i*6);have f1:=qf (i*6+1);have f2:=qf (i*6+2);have f3:=qf (i*6+3);have f4:=qf (i*6+4);have f5:=qf (i*6+5);have U:=qH (qA (I.set3 G.o.1 (by omega) (x0,x1) (y0,y1) (z0,z1)) (qA ((((((((G.o.2.2.2.trans (J.mono G.o.2.2.2.size)).setCell (p:=⟨w.heap.size,i*6,none⟩) qN (.string x0)).setCell (p:=⟨w.heap.size,i*6+1,none⟩) qN (.string x1)).setCell (p:=⟨w.heap.size,i*6+2,none⟩) qN (.string y0)).setCell (p:=⟨w.heap.size,i*6+3,none⟩) qN (.string y1)).setCell (p:=⟨w.heap.size,i*6+4,none⟩) qN (.string z0)).setCell (p:=⟨w.heap.size,i*6+5,none⟩) qN (.string z1))) hp));clear I qf J hp;go_wp2;go_roundw
    case rel =>
     refine⟨i+1,by go_num,hi,qH ⟨l++[(x0,x1)]++[(y0,y1)]++[(z0,z1)],by simp [G.o.1];omega,fun j hj=>?_,U.o.1,U.o.2.1⟩⟩;have V:=G.o.1;rcases qaM j i with hj2 | hj2
     ·have g:∀k,k<l.length->(l++[(x0,x1)]++[(y0,y1)]++[(z0,z1)]).getD k fd0=l.getD k fd0:=fun k hk=>by
       rw [qaE,qaE,qaa,qar hk,<-qaa]
      rw [g _ (by omega),g _ (by omega),g _ (by omega)];exact G.o.2.1 j hj2
     ·obtain rfl:j=i:=by omega
      have g:∀k v,([(x0,x1)]++([(y0,y1)]++[(z0,z1)]))[k]? = some v->(l++[(x0,x1)]++[(y0,y1)]++[(z0,z1)]).getD (j*3+k) fd0=v:=fun k v hk=>by
       rw [qaE,qaE,qaa,qao (by omega),V,Nat.add_sub_cancel_left,hk];rfl
      have g0:=g 0 (x0,x1) rfl;rw [qbp] at g0;rw [g0,g 1 (y0,y1) rfl,g 2 (z0,z1) rfl];exact U.o.2.2
    case measure=>simp [intOf];omega
   ·have U:=qH (qA (G.o.2.2.2.trans (J.mono G.o.2.2.2.size)) hF);clear J hF;unfold thrown;go_wp2_with fail;exact⟨rfl,U.o.1,qag ⟨_,c,hi,rfl,U.o.2⟩⟩
  ·obtain rfl:i=n:=by omega
   have U:=qH (qA V (qA hP (qA (hV.cells V) Y)));clear hI V hP hV Y;go_wp2;go_ret;obtain⟨h1,h2,h3,h4⟩:=U.o;exact⟨h4,qal ⟨l,_,h1,h2,rfl,h3,qae _⟩⟩
def SameAs (w:World) (l l2:List FT) (e:Ending) (G:World):Prop:=∃F,e=.returned (.bool F)/\(F=true↔l=l2)/\Below w.heap.size w G
theorem qnf {l l2:List FT} {k:Nat} (F:k<l.length) (G:k<l2.length) (h:l.take k=l2.take k) (e:l.getD k fd0=l2.getD k fd0):l.take (k+1)=l2.take (k+1):=by
 rw [List.take_add_one,List.take_add_one,h]
 congr 1
 rw [qaa,qaa,qad F,qad G] at e;rw [qad F,qad G];exact congrArg (fun x=>(some x).toList) e
theorem qkk {a b:ByteArray} (h:a≠b):¬a.toList=b.toList:=by
 rw [ByteArray.toList_eq,ByteArray.toList_eq];intro e;apply h;obtain⟨⟨x⟩⟩:=a;obtain⟨⟨y⟩⟩:=b;cases e;rfl
theorem ql1 {l l2:List FT} {k:Nat} (h:l.getD k fd0≠l2.getD k fd0):¬l=l2:=fun e=>h (by rw [e])
theorem qfw (ao:Option Addr) (b off n c:Nat) (l:List FT) (Z:Option Addr) (b2 ae m c2:Nat) (l2:List FT) (w:World) (hn:l.length=n) (aj:n<=1000000) (hc:FCells w ao b off l) (hm:l2.length=m) (ah:m<=1000000) (aa:FCells w Z b2 ae l2) :
  Calls prog 36 #[.slice ao n c,.slice Z m c2] w fun e w'=>SameAs w l l2 e w':=by
 have F:=qH (qA hc (qA hn (qA aa hm)));clear hc aa
 by_cases hne:n=m
 ·subst hne;clear hn hm ah;go_enter func36,ntmps36;go_wp2_with fail
  go_loopw [5] (fun x5 W=>∃k:Nat,x5=.int .i64 k/\k<=n/\Hu (l.take k=l2.take k)/\Hu (Below w.heap.size w W)) (fun x5 _=>n-(intOf x5).toNat)
  case atStart=>exact⟨0,rfl,qam _,qH rfl,qH qB⟩
  case round =>
   obtain⟨k,rfl,hk,hI,V⟩:=hrel
   by_cases G:k<n
   ·have ai:(k:Int)<n:=by omega
    have ag:=F.o.1.addr (by rw [F.o.2.1];omega);subst ag;have af:=F.o.2.2.1.addr (by rw [F.o.2.2.2];omega);subst af;obtain⟨h1,h2⟩:=(F.o.1.below V.o).cell k (by rw [F.o.2.1];exact G);obtain⟨h3,h4⟩:=(F.o.2.2.1.below V.o).cell k (by rw [F.o.2.2.2];exact G);obtain⟨x1,H⟩:=qX ((l.getD k fd0).1);obtain⟨x2,I⟩:=qX ((l.getD k fd0).2);obtain⟨y1,J⟩:=qX ((l2.getD k fd0).1);obtain⟨y2,O⟩:=qX ((l2.getD k fd0).2);rw [H] at h1;rw [I] at h2;rw [J] at h3;rw [O] at h4;have U:Hu (l.getD k fd0=(x1,x2)/\l2.getD k fd0=(y1,y2)):=qH ⟨by rw [<-H,<-I],by rw [<-J,<-O]⟩;clear H I J O
    by_cases g1:x1=y1
    ·by_cases g2:x2=y2
     ·subst g1;subst g2;have HI:=qH (qnf (by rw [F.o.2.1];exact G) (by rw [F.o.2.2.2];exact G) hI.o (U.o.1.trans U.o.2.symm));go_wp2_with fail
      go_quiet (fail)
      go_wp2;go_roundw
      case rel=>exact⟨k+1,by go_num,G,HI,qH (below_drewN V.o _)⟩
      case measure=>simp [intOf];omega
     ·subst g1;have Y:=qH (ql1 (l:=l) (l2:=l2) (k:=k) (by rw [U.o.1,U.o.2];exact fun h=>g2 (congrArg Prod.snd h)));have g3:=qkk g2;clear g2;go_wp2_with fail
      go_quiet (fail)
      go_wp2;go_ret;exact⟨false,rfl,qd3 Y.o,below_drewN V.o _⟩
    ·have Y:=qH (ql1 (l:=l) (l2:=l2) (k:=k) (by rw [U.o.1,U.o.2];exact fun h=>g1 (congrArg Prod.fst h)));have g3:=qkk g1;clear g1;go_wp2_with fail
     go_quiet (fail)
     go_wp2;go_ret;exact⟨false,rfl,qd3 Y.o,below_drewN V.o _⟩
   ·obtain rfl:k=n:=by omega
    have hE:l=l2:=by have h:=hI.o;rwa [qak (by rw [F.o.2.1];exact qae _),qak (by rw [F.o.2.2.2];exact qae _)] at h
    have HE:=qH hE;clear hE;go_wp2;go_ret;exact⟨true,rfl,qjY HE.o,V.o⟩
 ·have hb:((n:Int) != (m:Int))=true:=by rw [bne_iff_ne];omega
  have Y:Hu (¬l=l2):=qH (fun h=>hne (by rw [<-hn,<-hm,h]));go_enter func36,ntmps36;go_wp2;go_ret;exact⟨false,rfl,qd3 Y.o,Below.refl _ _⟩
def cutA (s:ByteArray):ByteArray:=⟨(Lib.cut s.data.toList [47]).1.toArray⟩
def cutB (s:ByteArray):ByteArray:=⟨(Lib.cut s.data.toList [47]).2.1.toArray⟩
def cutC (s:ByteArray):Bool:=(Lib.cut s.data.toList [47]).2.2
theorem scut_any (s:ByteArray) (Y:s.size<=65536) (w:World) :
  Calls prog 151 #[.string s,.string ⟨#[47]⟩] w fun e U=>e=.returned (.tuple #[.string (cutA s),.string (cutB s),.bool (cutC s)])/\Below w.heap.size w U:=by
 have J:Hu (∀W:World,_):=fun (W:World)=>Tryz.stringslite_Index_one s 47 W
 have G:Lib.indexB s ⟨#[47]⟩=Lib.indexByte s.data.toList 47:=Lib.index_one s.data.toList 47;rcases Lib.indexB_cases s ⟨#[47]⟩ with F | ⟨i,F,H⟩
 ·obtain⟨e1,e2,e3⟩:=Lib.cutB_miss s ⟨#[47]⟩ F;rw [G] at F;rw [show cutA s=s from e1,show cutB s=ByteArray.empty from e2,show cutC s=false from e3];have I:=qH F;clear F G e1 e2 e3;go_enter func151,ntmps151;go_wp2_with fail;refine (J.o _).mono ?_;rintro e V ⟨rfl,rfl⟩;rw [I.o];go_wp2_with fail
  go_ret3
  exact⟨rfl,Below.refl _ _⟩
 ·obtain⟨e1,e2,e3⟩:=Lib.cutB_hit s ⟨#[47]⟩ i F;rw [G] at F;rw [show cutA s=_ from e1,show cutB s=_ from e2,show cutC s=true from e3];have O:(⟨#[47]⟩:ByteArray).size=1:=rfl;rw [O] at H ⊢;have I:=qH F;have c1:(0:Int)<=↑i:=by omega
  have c2:(↑i:Int)<=↑s.size:=by omega
  have c3:(0:Int)<=↑i+1:=by omega
  have c4:(↑i+1:Int)<=↑s.size:=by omega
  have c5:IntKind.i64.wrap (↑i+1)=↑i+1:=by simp [IntKind.wrap,IntKind.bits,IntKind.signed];omega
  have mixed:Tryz.prog.follows .mixedOrders=true:=by kernel_rfl
  clear F G e1 e2 e3;go_enter func151,ntmps151;go_wp2_with fail;refine (J.o _).mono ?_;rintro e V ⟨rfl,rfl⟩;rw [I.o];go_wp2_with fail
  go_region_o
  go_wp2
  go_ret3
  exact⟨rfl,qB.drew⟩
theorem qm1 (s:ByteArray) (I:s.size<=65536) (w:World) :
  Calls prog 81 #[.string s,.string ⟨#[47]⟩] w fun e J=>e=.returned (.tuple #[.string (cutA s),.string (cutB s),.bool (cutC s)])/\Below w.heap.size w J:=by
 have H:Hu (∀W:World,_):=fun (W:World)=>scut_any s I W
 generalize cutA s=a at *;generalize cutB s=b at *;generalize cutC s=c at *;go_enter func81,ntmps81;go_wp2_with fail;refine (H.o _).mono ?_;rintro e O ⟨rfl,F⟩;have G:=qH F;clear F;go_wp2_with fail
 go_ret3
 exact⟨rfl,G.o⟩
def qf (s:ByteArray):FT:=(cutA s,if cutC s=true then cutB s else ⟨#[49]⟩)
structure SCells (W:World) (b off:Nat) (L:List ByteArray):Prop where
 cell:∀k,k<L.length->W.cell? ⟨b,off+k,none⟩=some (.string (L.getD k ⟨#[]⟩))
theorem SCells.below {W W':World} {b off:Nat} {L:List ByteArray} (h:SCells W b off L) (G:Below W.heap.size W W'):SCells W' b off L :=
 ⟨fun k F=>(G.cell (qac W _ (h.cell k F))).trans (h.cell k F)⟩
theorem SCells.row {W:World} {g:Nat} {L:List ByteArray} {t:TypeId} {F:Nat×Nat} (h:W.heap[g]? = some (.cells (L.map Value.string).toArray t F)):SCells W g 0 L :=
 ⟨fun k G=>by
  refine (qC _ _ _ _ _ _ h).trans ?_;rw [qaH,qav,qau,qaa,qad G];rfl⟩
theorem q_new (b n c:Nat) (L:List ByteArray) (w:World) (hn:L.length=n) (af:n<=1000) (hc:SCells w b 0 L) (hL:∀k,(L.getD k ⟨#[]⟩).size<=65536) :
  Calls prog 24 #[.slice (some ⟨b,0,none⟩) n c] w fun e w'=>∃v,e=.returned v/\Rws w' w.heap.size 44 2 v n (fflat (L.map qf))/\Below w.heap.size w w':=by
 have V:=qH (qA hc (qA hn hL));clear hc hn hL;go_enter func24,ntmps24;go_wp2_with fail
 go_loopw [3,5,6,7,8,11] (fun x3 x5 x6 x7 x8 x11 W=>∃i:Nat,x11=.int .i64 i/\i<=n/\Hu (Rws W w.heap.size 44 2 x3 i (fflat ((L.take i).map qf)))/\Hu (Below w.heap.size w W)) (fun _ _ _ _ _ x11 _=>n-(intOf x11).toNat)
 case atStart=>exact⟨0,rfl,qam _,qH (Rws.nil _ _ _ _),qH qB⟩
 case round =>
  obtain⟨i,rfl,hi,hO,hB⟩:=hrel
  by_cases H:i<n
  ·have ae:(i:Int)<n:=by omega
   have Z:=(V.o.1.below hB.o).cell i (by rw [V.o.2.1];exact H);rw [qaH] at Z;have hs:=V.o.2.2 i;have F:(L.take (i+1)).map qf=(L.take i).map qf++[qf (L.getD i ⟨#[]⟩)]:=by
    rw [List.take_add_one,qaZ,qaa,qad (by rw [V.o.2.1];exact H)];rfl
   obtain⟨s,aa⟩:=qX (L.getD i ⟨#[]⟩);rw [aa] at Z hs F;have HS:=qH (fun (W:World)=>qm1 s hs W);unfold qf at F;have HT:=qH F;generalize cutA s=ca at *;generalize cutB s=cb at *;generalize cutC s=cc at *;clear aa F hs;go_wp2_with fail;refine (HS.o _).mono ?_;rintro e w2 ⟨rfl,J⟩;have Y:=qH (hO.o.below J);have U:=qH (hB.o.trans (J.mono hB.o.size));clear J;cases cc with
   | true =>
    go_wp2_with (first | (at_builtin;refine qer rfl _ _ rfl U.o rfl Y.o rfl rfl rfl (by omega) ?_;intro v' w' O I) | fail)
    go_roundw
    case rel=>exact⟨i+1,by go_num,H,qH (by rw [show List.map qf (List.take (i+1) L)=_ from HT.o];exact O.o),I⟩
    case measure=>simp [intOf];omega
   | false =>
    go_wp2_with (first | (at_builtin;refine qer rfl _ _ rfl U.o rfl Y.o rfl rfl rfl (by omega) ?_;intro v' w' O I) | fail)
    go_roundw
    case rel=>exact⟨i+1,by go_num,H,qH (by rw [show List.map qf (List.take (i+1) L)=_ from HT.o];exact O.o),I⟩
    case measure=>simp [intOf];omega
  ·obtain rfl:i=n:=by omega
   have G:=hO.o;rw [qak (by rw [V.o.2.1];exact qae _)] at G;have HH:=qH G;obtain⟨ao,cap,rfl⟩:=G.shape;clear G;go_wp2;go_ret;exact⟨_,rfl,HH.o,hB.o⟩
theorem q_any (b n c:Nat) (L:List ByteArray) (w:World) (I:L.length=n) (G:n<=1000) (Y:SCells w b 0 L) (U:∀k,(L.getD k ⟨#[]⟩).size<=65536) :
  Calls prog 24 #[.slice (some ⟨b,0,none⟩) n c] w fun e H=>∃(F:Option Addr) (g cap:Nat),e=.returned (.slice F n cap)/\FCells H F g 0 (L.map qf)/\n<=cap/\Below w.heap.size w H:=by
 refine (q_new b n c L w I G Y U).mono ?_;rintro e H ⟨v,rfl,h,V⟩;obtain⟨F,g,cap,rfl,J,O⟩:=qdj h (by rw [qat,I]);exact⟨F,g,cap,rfl,J,O,V⟩
open Go.Lib
def IsAt (w:World) (b:Nat) (L:List ByteArray):Prop:=∃F,w.heap[b]? = some (.cells #[.slice (some ⟨F,0,none⟩) L.length L.length] 157 (0,0))/\SCells w F 0 L
theorem IsAt.below {w G:World} {b:Nat} {L:List ByteArray} (h:IsAt w b L) (F:Below w.heap.size w G):IsAt G b L:=by
 obtain⟨gs,H,I⟩:=h;exact⟨gs,zkeep F _ _ H,I.below F⟩
theorem qiH (G:Nat) (L:List ByteArray) (w:World) (I:SCells w G 0 L) :
  Calls prog 46 #[.slice (some ⟨G,0,none⟩) L.length L.length] w fun e J=>∃b,e=.returned (.func (.func 120) #[] #[.pointer (some ⟨b,0,none⟩)])/\Below w.heap.size w J/\IsAt J b L:=by
 have F:Below w.heap.size w (w.alloc (.cells #[.slice (some ⟨G,0,none⟩) L.length L.length] 157)):=qbS qB qN;have H:=qH (qA F (show IsAt (w.alloc (.cells #[.slice (some ⟨G,0,none⟩) L.length L.length] 157)) w.heap.size L from ⟨G,qM _ _ _ rfl,I.below F⟩));clear F I;generalize L.length=n at *;go_enter func46,ntmps46;go_wp2;go_ret;exact⟨_,rfl,H.o.1,H.o.2⟩
theorem qk4 (V:Option Addr) (g off n c b:Nat) (L:List ByteArray) (w:World) (hb:IsAt w b L) (J:L.length=n) (Z:n<=1000) (hL:∀k,(L.getD k ⟨#[]⟩).size<=65536) (hf:FCells w V g off (L.map qf)) :
  Calls prog 120 #[.slice V n c,.int .i64 0,.pointer (some ⟨b,0,none⟩)] w fun r w'=>r=.returned (.bool true)/\Below w.heap.size w w':=by
 obtain⟨gs,Y,h2⟩:=hb;rw [J] at Y;have hc:w.cell? ⟨b,0,none⟩=some (.slice (some ⟨gs,0,none⟩) n n):=qC _ _ 0 _ _ _ Y;have HQ:=qH (q_any gs n n L w J Z h2 hL);have U:=qH (qA hf J);clear Y h2 J hf hL;go_enter func120,ntmps120;go_wp2_with fail;refine HQ.o.mono ?_;rintro e w2 ⟨a2,g2,c2,rfl,H,aa,F⟩;have HS:=qH (qfw V g off n c (L.map qf) a2 g2 0 n c2 (L.map qf) w2 (by rw [qat,U.o.2]) (by omega) (U.o.1.below F) (by rw [qat,U.o.2]) (by omega) H);have HB:=qH F;clear H F hc;go_wp2_with fail;refine HS.o.mono ?_;rintro e w3 ⟨ok,rfl,I,G⟩;obtain rfl:ok=true:=I.2 rfl;have O:=qH (HB.o.trans (G.mono HB.o.size));clear G I;go_wp2;go_ret;exact⟨rfl,O.o⟩
theorem none_any (n:Int) (w:World) :
  Calls prog 45 #[.int .i64 n] w fun e F=>∃b,e=.returned (.func (.func 119) #[] #[.pointer (some ⟨b,0,none⟩)])/\Below w.heap.size w F/\F.heap[b]? = some (.cells #[.int .i64 n] 39 (0,0)):=by
 have H:=qH (qA (qbS (o:=.cells #[.int .i64 n] 39) (Below.refl w.heap.size w) qN) (qM w (.cells #[.int .i64 n] 39) _ rfl));go_enter func45,ntmps45;go_wp2;go_ret;exact⟨_,rfl,H.o.1,H.o.2⟩
theorem qmy (n:Int) (b:Nat) (w:World) (F:w.heap[b]? = some (.cells #[.int .i64 n] 39 (0,0))) :
  Calls prog 119 #[.slice none 0 0,.int .i64 n,.pointer (some ⟨b,0,none⟩)] w fun r G=>r=.returned (.bool true)/\G=w:=by
 have H:w.cell? ⟨b,0,none⟩=some (.int .i64 n):=qC _ _ 0 _ _ _ F;clear F;go_enter func119,ntmps119;go_wp2;go_ret;exact⟨rfl,rfl⟩
theorem qic {l:List Rat} {L:List ByteArray} (n:Nat) (F:l.length=n) (h:L.map qf=l.map ftxt):L.map qf=told n (fv l):=by
 rw [h,<-F,qnj]
theorem qc9 {W W':World} {o:Obj} (h:Below (W.alloc o).heap.size (W.alloc o) W'):Below W.heap.size W W':=((Below.refl _ W).alloc qN o).trans (h.mono (by simp only [qab];omega))
theorem qgU {L:List ByteArray} (h:∀s∈L,s.size<=65536):∀k,(L.getD k ⟨#[]⟩).size<=65536:=fun k=>by
 rw [qaa];cases e:L[k]? with
 | none=>exact (by decide:0<=65536)
 | some s=>exact h s (List.mem_of_getElem? e)
theorem q_lit (W:World) (L:List ByteArray) (l:List Rat) (n:Nat) (I:L.length=n) (O:l.length=n) (U:n<=1000) (h:L.map qf=l.map ftxt) (V:∀s∈L,s.size<=65536) :
  Calls prog 24 #[.slice (some ⟨W.heap.size,0,none⟩) n n] (W.alloc (.cells (L.map Value.string).toArray 9)) fun e G=>∃(F:Option Addr) (g c:Nat),e=.returned (.slice F n c)/\FCells G F g 0 (told n (fv l))/\Below W.heap.size W G:=by
 refine (q_any W.heap.size n n L _ I U (SCells.row (heap_alloc_new W _)) (qgU V)).mono ?_;rintro e G ⟨F,g,c,rfl,H,_,J⟩;rw [qic n O h] at H;exact⟨F,g,c,rfl,H,qc9 J⟩
theorem qiI (W:World) (L:List ByteArray) (n:Nat) (G:L.length=n) :
  Calls prog 46 #[.slice (some ⟨W.heap.size,0,none⟩) n n] (W.alloc (.cells (L.map Value.string).toArray 9)) fun e F=>∃b,e=.returned (.func (.func 120) #[] #[.pointer (some ⟨b,0,none⟩)])/\IsAt F b L/\Below W.heap.size W F:=by
 subst G;refine (qiH W.heap.size L _ (SCells.row (heap_alloc_new W _))).mono ?_;rintro e F ⟨b,rfl,H,I⟩;exact⟨b,rfl,I,qc9 H⟩
theorem qfE {F:Option Addr} {g n c b:Nat} {L:List ByteArray} {l:List Rat} {w:World} (H:IsAt w b L) (G:L.length=n) (J:l.length=n) (O:n<=1000) (h:L.map qf=l.map ftxt) (U:∀s∈L,s.size<=65536) (I:FCells w F g 0 (told n (fv l))) :
  Calls prog 120 #[.slice F n c,.int .i64 0,.pointer (some ⟨b,0,none⟩)] w fun r V=>r=.returned (.bool true)/\Below w.heap.size w V :=
 qk4 F g 0 n c b L w H G O (qgU U) (by rw [qic n J h];exact I)
theorem q_at (n:Nat) {w:World} {g:Nat} {L:List ByteArray} {l:List Rat} (V:SCells w g 0 L) (I:L.length=n) (O:l.length=n) (U:n<=1000) (h:L.map qf=l.map ftxt) (Y:∀s∈L,s.size<=65536) :
  Calls prog 24 #[.slice (some ⟨g,0,none⟩) n n] w fun e G=>∃(F:Option Addr) (g c:Nat),e=.returned (.slice F n c)/\FCells G F g 0 (told n (fv l))/\Below w.heap.size w G:=by
 refine (q_any g n n L w I U V (qgU Y)).mono ?_;rintro e G ⟨F,g,c,rfl,H,_,J⟩;rw [qic n O h] at H;exact⟨F,g,c,rfl,H,J⟩
theorem md_eq {m F:Md}:m=F↔m.kind=F.kind/\m.inn=F.inn/\m.row 0=F.row 0/\m.row 1=F.row 1/\m.row 2=F.row 2:=by
 obtain⟨k,i,a,b,c⟩:=m;obtain⟨k',i',a',b',c'⟩:=F
 constructor
 ·rintro h;cases h;exact⟨rfl,rfl,rfl,rfl,rfl⟩
 ·rintro ⟨G,H,I,J,O⟩;have I:a=a':=I;have J:b=b':=J;have O:c=c':=O;have G:k=k':=G;have H:i=i':=H;subst G H I J O;rfl
theorem qmr (m m2:Md) (v v2:Value) (w:World) (hM:MdAt w v m) (ae:MdAt w v2 m2) (hl:∀q,q<3->(m.row q).length<=1000000) (aj:∀q,q<3->(m2.row q).length<=1000000) :
  Calls prog 20 #[v,v2] w fun e w'=>∃ok,e=.returned (.bool ok)/\(ok=true↔m=m2)/\Below w.heap.size w w':=by
 obtain⟨a,b,o,c,rfl,hF⟩:=hM.parts;obtain⟨a',b',o',c',rfl,aa⟩:=ae.parts;obtain⟨kind,H⟩:∃z,m.kind=z:=⟨_,rfl⟩;obtain⟨inn,O⟩:∃z,m.inn=z:=⟨_,rfl⟩;obtain⟨kind',F⟩:∃z,m2.kind=z:=⟨_,rfl⟩;obtain⟨U,G⟩:∃z,m2.inn=z:=⟨_,rfl⟩;obtain⟨L,hL⟩:∃L:Nat->Nat,∀q,(m.row q).length=L q:=⟨_,fun _=>rfl⟩;obtain⟨L',I⟩:∃L:Nat->Nat,∀q,(m2.row q).length=L q:=⟨_,fun _=>rfl⟩;have J:=fun (q:Nat) (hq:q<3) (W:World) (hb:Below w.heap.size w W)=>qfw (a q) (b q) (o q) (L q) (c q) (m.row q) (a' q) (b' q) (o' q) (L' q) (c' q) (m2.row q) W (hL q) (by have:=hl q hq;rw [hL] at this;exact this) ((hF q hq).below hb) (I q) (by have:=aj q hq;rw [I] at this;exact this) ((aa q hq).below hb)
 rw [H,O,hL,hL,hL,F,G,I,I,I];obtain⟨W2,af,V⟩:=nw2 w #[.int .i64 kind,.int .i64 inn,.slice (a 0) (L 0) (c 0),.slice (a 1) (L 1) (c 1),.slice (a 2) (L 2) (c 2)] 38 #[.int .i64 kind',.int .i64 U,.slice (a' 0) (L' 0) (c' 0),.slice (a' 1) (L' 1) (c' 1),.slice (a' 2) (L' 2) (c' 2)] 38;have Y:=qH (qA H (qA O (qA F G)));have HC:=qH J;have c0:=qC _ _ 0 _ _ _ V.o.2.1;have c1:=qC _ _ 1 _ _ _ V.o.2.1;have c2:=qC _ _ 2 _ _ _ V.o.2.1;have d0:=qC _ _ 0 _ _ _ V.o.2.2;have d1:=qC _ _ 1 _ _ _ V.o.2.2;have d2:=qC _ _ 2 _ _ _ V.o.2.2;clear J hM ae hF aa hl aj H O F G hL I;go_enter func20,ntmps20;go_upto_region 1 with fail;rw [<-af];clear af
 by_cases hk:kind=kind'
 case neg =>
  have av:(kind == kind')=false:=beq_eq_false_iff_ne.2 hk;have HK:=qH hk;clear hk;go_wp2;go_ret;exact⟨false,rfl,qd3 fun h=>HK.o (by rw [<-Y.o.1,<-Y.o.2.2.1,h]),V.o.1⟩
 subst hk
 by_cases hi:inn=U
 case neg =>
  have au:(inn == U)=false:=beq_eq_false_iff_ne.2 hi;have HI:=qH hi;clear hi;go_wp2;go_ret;exact⟨false,rfl,qd3 fun h=>HI.o (by rw [<-Y.o.2.1,<-Y.o.2.2.2,h]),V.o.1⟩
 subst hi;go_wp2_with fail;refine (HC.o 0 (by decide) W2 V.o.1).mono ?_;rintro e w3 ⟨ok0,rfl,h0,ag⟩;have Z:=V.below ag;have H0:=qH h0;clear h0 ag c0 c1 c2 d0 d1 d2;have c0:=qC _ _ 2 _ _ _ Z.o.2.1;have c1:=qC _ _ 3 _ _ _ Z.o.2.1;have d0:=qC _ _ 2 _ _ _ Z.o.2.2;have d1:=qC _ _ 3 _ _ _ Z.o.2.2;cases ok0 with
 | false =>
  go_wp2;go_ret;exact⟨false,rfl,qd3 fun h=>absurd (H0.o.2 (by rw [h])) (by decide),Z.o.1⟩
 | true =>
 go_wp2_with fail;refine (HC.o 1 (by decide) w3 Z.o.1).mono ?_;rintro e w4 ⟨ok1,rfl,h1,ah⟩;have K4:=Z.below ah;have H1:=qH h1;clear h1 ah c0 c1 d0 d1;have c0:=qC _ _ 4 _ _ _ K4.o.2.1;have d0:=qC _ _ 4 _ _ _ K4.o.2.2;cases ok1 with
 | false =>
  go_wp2;go_ret;exact⟨false,rfl,qd3 fun h=>absurd (H1.o.2 (by rw [h])) (by decide),K4.o.1⟩
 | true =>
 go_wp2_with fail;refine (HC.o 2 (by decide) w4 K4.o.1).mono ?_;rintro e w5 ⟨ak,rfl,h2,ai⟩;have K5:=K4.below ai;have H2:=qH h2;clear h2 ai c0 d0;go_wp2;go_ret;refine⟨ak,rfl,⟨fun h=>md_eq.2 ⟨by rw [Y.o.1,Y.o.2.2.1],by rw [Y.o.2.1,Y.o.2.2.2],H0.o.1 (by trivial),H1.o.1 (by trivial),H2.o.1 h⟩,fun h=>H2.o.2 (by rw [h])⟩,K5.o.1⟩
theorem md0_at (w:World):MdAt w mdv0 md0 :=
 have h:FCells w none 0 0 []:=⟨fun h=>absurd h (by decide),fun k F=>absurd F (by simp)⟩
 ⟨none,none,none,0,0,0,0,0,0,0,0,0,rfl,h,h,h⟩
theorem qmo:∀q,q<3->(md0.row q).length<=1000000:=fun q F=>by
 rcases (show q=0\/q=1\/q=2 by omega) with rfl | rfl | rfl <;> decide
theorem qlQ (n:Int) (w:World) :
  Calls prog 47 #[.int .i64 n] w fun e F=>∃b,e=.returned (.func (.func 121) #[] #[.pointer (some ⟨b,0,none⟩)])/\Below w.heap.size w F/\F.heap[b]? = some (.cells #[.int .i64 n] 39 (0,0)):=by
 have H:=qH (qA (qbS (o:=.cells #[.int .i64 n] 39) (Below.refl w.heap.size w) qN) (qM w (.cells #[.int .i64 n] 39) _ rfl));go_enter func47,ntmps47;go_wp2;go_ret;exact⟨_,rfl,H.o.1,H.o.2⟩
theorem qkP (n:Int) (b:Nat) (w:World) (U:w.heap[b]? = some (.cells #[.int .i64 n] 39 (0,0))) :
  Calls prog 121 #[mdv0,.int .i64 n,.pointer (some ⟨b,0,none⟩)] w fun r Y=>r=.returned (.bool true)/\Below w.heap.size w Y:=by
 obtain⟨O,G,N1⟩:=nw1 w #[.int .i64 0,.int .i64 0,.slice none 0 0,.slice none 0 0,.slice none 0 0] 38;have J:=qH (qmr md0 md0 _ _ O (md0_at O) (md0_at O) qmo qmo);have I:=qH (qA N1.o.1 (zkeep N1.o.1 _ _ U));clear N1 U;unfold mdv0 at J ⊢;go_enter func121,ntmps121;go_wp2_with fail;rw [<-G];clear G;refine J.o.mono ?_;rintro e Z ⟨ok,rfl,H,F⟩;obtain rfl:ok=true:=H.2 (by trivial);have c0:=qC _ _ 0 _ _ _ (zkeep F _ _ I.o.2);have V:=qH (I.o.1.trans (F.mono I.o.1.size));clear F H J;go_wp2;go_ret;exact⟨rfl,V.o⟩
theorem qlf {W:World} {s g:Nat} (G:W.heap[s]? = some (.cells #[.int .i64 0] 3 (0,0))) (H:W.heap[s+1]? = some (.cells #[.int .i64 5000] 3 (0,0))) (I:W.heap[s+1+1]? = some (.cells #[.int .i64 10000] 3 (0,0)))
  (hg:W.heap[g]? = some (.cells #[.string ⟨#[97]⟩,.slice (some ⟨s,0,none⟩) 1 1,.int .i64 0,.int .i64 0,.int .i64 0,.string ⟨#[98]⟩,.slice (some ⟨s+1,0,none⟩) 1 1,.int .i64 6000,.int .i64 0,.int .i64 0,.string ⟨#[99]⟩,.slice (some ⟨s+1+1,0,none⟩) 1 1,.int .i64 10000,.int .i64 0,.int .i64 0] 55 (0,0))):PCells W (some ⟨g,0,none⟩) g 0 ramp:=by
 have one:∀{b:Nat} {z:Int},W.heap[b]? = some (.cells #[.int .i64 z] 3 (0,0))->NCells W (some ⟨b,0,none⟩) b 0 [z]:=fun {b z} h=>⟨fun _=>rfl,fun k F=>by
  obtain rfl:k=0:=by simp at F;omega
  exact qC _ _ 0 _ _ _ h⟩
 refine⟨fun _=>rfl,fun k F=>?_⟩;have F:k<3:=F;rcases (show k=0\/k=1\/k=2 by omega) with rfl | rfl | rfl
 ·exact⟨qC _ _ 0 _ _ _ hg,⟨_,_,_,_,qC _ _ 1 _ _ _ hg,one G⟩,qC _ _ 2 _ _ _ hg,qC _ _ 3 _ _ _ hg,qC _ _ 4 _ _ _ hg⟩
 ·exact⟨qC _ _ 5 _ _ _ hg,⟨_,_,_,_,qC _ _ 6 _ _ _ hg,one H⟩,qC _ _ 7 _ _ _ hg,qC _ _ 8 _ _ _ hg,qC _ _ 9 _ _ _ hg⟩
 ·exact⟨qC _ _ 10 _ _ _ hg,⟨_,_,_,_,qC _ _ 11 _ _ _ hg,one I⟩,qC _ _ 12 _ _ _ hg,qC _ _ 13 _ _ _ hg,qC _ _ 14 _ _ _ hg⟩
theorem qgc (w:World):Calls prog 48 #[] w fun e U=>∃g,e=.returned (.slice (some ⟨g,0,none⟩) 3 3)/\PCells U (some ⟨g,0,none⟩) g 0 ramp/\Below w.heap.size w U:=by
 obtain⟨O,G,N3⟩:=nw3 w #[.int .i64 0] 3 #[.int .i64 5000] 3 #[.int .i64 10000] 3;obtain⟨V,H,N4⟩:=nw1 O #[.string ⟨#[97]⟩,.slice (some ⟨w.heap.size,0,none⟩) 1 1,.int .i64 0,.int .i64 0,.int .i64 0,.string ⟨#[98]⟩,.slice (some ⟨w.heap.size+1,0,none⟩) 1 1,.int .i64 6000,.int .i64 0,.int .i64 0,.string ⟨#[99]⟩,.slice (some ⟨w.heap.size+1+1,0,none⟩) 1 1,.int .i64 10000,.int .i64 0,.int .i64 0] 55;have F:=N4.o.1;have J:=qH (qA (qlf (zkeep F _ _ N3.o.2.1) (zkeep F _ _ N3.o.2.2.1) (zkeep F _ _ N3.o.2.2.2) N4.o.2) (N3.o.1.trans (F.mono N3.o.1.size)));have I:O.heap.size=w.heap.size+1+1+1:=by rw [G];simp
 rw [G] at H;clear N3 N4 F;go_enter func48,ntmps48;go_wp2_with fail;rw [<-H];clear H G;go_ret;exact⟨_,by rw [I];rfl,J.o.1,J.o.2⟩
section
variable {P:Program}
theorem qdO (w:World) (base:Nat) (t ty e:TypeId) (i:TypeInfo) (z:Value) (size bytes:Nat) (ht:P.underlying t=some (.slice e)) (hi:P.info? e=some i) (hz:i.zero=some z)
  (aa:i.size=size) (aj:i.bytes=bytes) (ag:z.cells.size=size) (ay:0<size)
  (v:Value) (n:Nat) (xs:List Value) (G:w.ownsRow base e size v n xs)
  (a:Addr) (m c:Nat) (F:List Value) (V:F.length=m*size) (I:∀j u,F[j]? = some u->w.cell? (a.add j)=some u) (h1:∀u∈F,u.oneCell'=true) (av:0<m)
  (Y:n+m<=maxLen) (O:(n+m)*bytes<=140737488355328) (U:base<=w.heap.size) :
  ∃v' w',(Builtin.append_ #[t,t] ty #[v,.slice (some a) m c]).run P w=.ok v' w'/\w'.ownsRow base e size v' (n+m) (xs++F)/\(v'.ownBlock=v.ownBlock/\w.grownBy w' v.ownBlock\/v'.ownBlock=some w.heap.size/\w.grownBy w' none):=by
 subst aa;subst aj;have ah:n+m<=9223372036854775807:=by simp only [maxLen] at Y;omega
 have H:(xs++F).length=(n+m)*i.size:=by rw [qaf,G.1,V,qaG]
 rcases G.2 with ⟨rfl,rfl⟩ | ⟨g,cap,cur,rfl,ai,hg,ax,ak,au,ae⟩
 ·have hx:xs=[]:=List.eq_nil_of_length_eq_zero (by simpa using G.1);subst hx;have hr:=run_append_nil (P:=P) w t ty e i z ht hi hz a m c F V I av (by omega) (by have hb:=O;simp only [qaH] at hb;omega);have Z:=grownCap_ge w m 0 e;refine⟨_,_,hr,⟨by simpa using H,.inr ⟨w.heap.size,_,_,by rw [qaH],U,heap_alloc_new w.drew _,by rw [qaH];exact Z,grownCap_le_maxLen w m 0 e (by simpa using Y),?_,?_⟩⟩,qag ⟨rfl,rfl,rfl,rfl,by simp,fun k hk _=>qL w.drew _ k hk⟩⟩
  ·simp only [Array.size_append,qbJ,size_zeroCells,ag,V,<-qaG]
   congr 1;omega
  ·rw [qaH,qbh,<-V,qbk];exact List.take_left
 ·by_cases J:n+m<=cap
  ·have af:n*i.size+F.length<=cur.size:=by rw [V,au,<-qaG];exact qa5 _ J
   have hr:=run_append_room (P:=P) w t ty e i ht hi g n cap cur hg a m c F V I h1 J af;refine⟨_,_,hr,⟨H,.inr ⟨g,cap,_,rfl,ai,qT w g cur _ e _ hg,J,ak,?_,?_⟩⟩,qal ⟨rfl,rfl,rfl,rfl,by simp,fun k _ hk=>setRow_other w g k _ (fun e=>hk (by simp [Value.ownBlock,e]))⟩⟩
   ·simp only [qbJ,qaf,qay,qbm,Array.length_toList];omega
   ·rw [ae,<-H];exact List.take_left
  ·have holds:∀j u,xs[j]? = some u->w.cell? ((⟨g,0,none⟩:Addr).add j)=some u:=G.cells (g:=g) rfl;have hr:=run_append_grow (P:=P) w t ty e i z ht hi hz ⟨g,0,none⟩ n cap xs G.1 holds a m c F V I (by omega) (by omega) (growslice_fits (by omega) O);have Z:=grownCap_ge w (n+m) cap e;refine⟨_,_,hr,⟨H,.inr ⟨w.heap.size,_,_,rfl,U,heap_alloc_new w.drew _,Z,grownCap_le_maxLen w (n+m) cap e Y,?_,?_⟩⟩,qag ⟨rfl,rfl,rfl,rfl,by simp,fun k hk _=>qL w.drew _ k hk⟩⟩
   ·simp only [Array.size_append,qbJ,size_zeroCells,ag,G.1,V,<-qaG]
    congr 1;omega
   ·simp only [qbk,qaE];rw [<-qaE,<-H];exact List.take_left
end
def IOwn (W:World) (B:Nat) (v:Value) (l:List Int):Prop:=W.ownsRow B 3 1 v l.length (l.map fun z=>.int .i64 z)
theorem ql9:(Tryz.prog.info? 3).map (fun i=>(i.zero,i.size,i.bytes))=some (some (.int .i64 0),1,8):=by kernel_rfl
theorem infoR24:(Tryz.prog.info? 32).map (fun i=>(i.zero,i.size,i.bytes))=some (some (.slice none 0 0),1,24):=by kernel_rfl
theorem ints_one (l:List Int):∀u∈l.map (fun z=>Value.int .i64 z),u.oneCell'=true:=fun u F=>by
 obtain⟨z,_,rfl⟩:=qbn.1 F;rfl
theorem qky {w:World} {B:Nat} {v:Value} {l l2:List Int} {m c b off:Nat} (ty:TypeId) (H:IOwn w B v l) (hB:B<=w.heap.size) (hF:NCells w (some ⟨b,off,none⟩) b off l2) (hm:l2.length=m) (J:0<m) (hn:l.length+m<=1000000) :
  ∃F G,(Builtin.append_ #[32,32] ty #[v,.slice (some ⟨b,off,none⟩) m c]).run prog w=.ok F G/\IOwn G B F (l++l2)/\(F.ownBlock=v.ownBlock/\w.grownBy G v.ownBlock\/F.ownBlock=some w.heap.size/\w.grownBy G none):=by
 obtain⟨i0,hi,O,U,V⟩:=info_parts ql9;subst hm;obtain⟨F,G,hr,h2,h3⟩:=qdO (P:=prog) w B 32 ty 3 i0 _ 1 8 underlying32 hi O U V rfl (by decide) v l.length _ H ⟨b,off,none⟩ l2.length c (l2.map fun z=>.int .i64 z) (by simp) (fun j u Y=>by
   rw [qau] at Y;obtain⟨z,Z,rfl⟩:=Option.map_eq_some_iff.1 Y;have I:=(List.getElem?_eq_some_iff.1 Z).1;have:=hF.cell j I;rw [qaa,Z] at this;rw [Addr.add_mid];exact this) (ints_one _) J (by unfold maxLen;omega) (by omega) hB
 exact⟨F,G,hr,by unfold IOwn;rw [qaf,qaZ];exact h2,h3⟩
theorem qi7 {w:World} {B g:Nat} {l2:List Int} {m c b off:Nat} (ty:TypeId) (_hg:w.heap[g]? = some (.cells #[] 3 (0,0))) (hB:B<=w.heap.size) (hF:NCells w (some ⟨b,off,none⟩) b off l2) (hm:l2.length=m) (aa:0<m) (hn:m<=1000000) :
  ∃U V,(Builtin.append_ #[32,32] ty #[.slice (some ⟨g,0,none⟩) 0 0,.slice (some ⟨b,off,none⟩) m c]).run prog w=.ok U V/\IOwn V B U l2/\U.ownBlock=some w.heap.size/\w.grownBy V none:=by
 obtain⟨i0,hi,I,J,O⟩:=info_parts ql9;subst hm;have Y:=run_append_grow (P:=prog) w 32 ty 3 i0 _ underlying32 hi I ⟨g,0,none⟩ 0 0 [] (by simp) (fun j u F=>by cases F) ⟨b,off,none⟩ l2.length c (l2.map fun z=>Value.int .i64 z) (by rw [J];simp) (fun j u F=>by
   rw [qau] at F;obtain⟨z,Z,rfl⟩:=Option.map_eq_some_iff.1 F;have H:=(List.getElem?_eq_some_iff.1 Z).1;have:=hF.cell j H;rw [qaa,Z] at this;rw [Addr.add_mid];exact this) (by omega) (by omega) (growslice_fits (by omega) (by rw [O];omega))
 rw [qaH] at Y;have G:=grownCap_ge w l2.length 0 3;refine⟨_,_,Y,⟨by simp,.inr ⟨w.heap.size,_,_,rfl,hB,heap_alloc_new w.drew _,G,grownCap_le_maxLen w l2.length 0 3 (by unfold maxLen;omega),?_,?_⟩⟩,rfl,rfl,rfl,rfl,by simp,fun k hk _=>qL w.drew _ k hk⟩
 ·simp only [Array.size_append,qbJ,size_zeroCells,List.length_nil,qat,qbD];have:(Value.int .i64 0).cells.size=1:=rfl;rw [this];omega
 ·simp only [qbk,qbh,qbD];exact List.take_left' (by simp)
theorem run_irow {w:World} {B:Nat} {v:Value} {n:Nat} {U:List Value} {u:Value} {g c:Nat} {t:TypeId} (Y:TypeId) (F:w.ownsRow B 32 1 v n U) (Z:B<=w.heap.size) (hg:w.heap[g]? = some (.cells #[u] t (0,0))) (hu:u.oneCell'=true) (hn:n<1000000) :
  ∃G H,(Builtin.append_ #[77,77] Y #[v,.slice (some ⟨g,0,none⟩) 1 c]).run prog w=.ok G H/\H.ownsRow B 32 1 G (n+1) (U++[u])/\(G.ownBlock=v.ownBlock/\w.grownBy H v.ownBlock\/G.ownBlock=some w.heap.size/\w.grownBy H none):=by
 obtain⟨i0,hi,I,J,O⟩:=info_parts infoR24;exact qdO (P:=prog) w B 77 Y 32 i0 _ 1 24 underlying77 hi I J O rfl (by decide) v n U F ⟨g,0,none⟩ 1 c [u] rfl (fun j x V=>by
   cases j with
   | zero =>
    obtain rfl:u=x:=qah V;exact qC _ _ 0 _ _ _ hg
   | succ j=>cases V) (fun x hx=>by rw [qas.1 hx];exact hu) (by decide) (by unfold maxLen;omega) (by omega) Z
theorem qem {w J:World} {O:Nat} {U:TypeId} {Z Y:Nat} {v I x:Value} {F:List Value} (hx:w.ownsRow O U Z x Y F) (hne:x.ownBlock=none\/x.ownBlock≠v.ownBlock) (h:I.ownBlock=v.ownBlock/\w.grownBy J v.ownBlock\/I.ownBlock=some w.heap.size/\w.grownBy J none) :
  J.ownsRow O U Z x Y F/\(x.ownBlock=none\/x.ownBlock≠I.ownBlock):=by
 rcases h with ⟨G,H⟩ | ⟨G,H⟩
 ·exact⟨hx.kept H hne,by rw [G];exact hne⟩
 ·refine⟨hx.kept H ?_,?_⟩
  ·rcases hne with h | h
   ·exact qal h
   ·cases e:x.ownBlock with
    | none=>exact qal rfl
    | some k=>exact qag (by simp)
  ·cases e:x.ownBlock with
   | none=>exact qal rfl
   | some k =>
    refine qag fun V=>?_
    rw [G] at V;have:=(hx.lt k e).2;have:=qah V;omega
theorem own_below {w G:World} {B:Nat} {e:TypeId} {s n:Nat} {x:Value} {H:List Value} (hx:w.ownsRow B e s x n H) (O:Below w.heap.size w G):G.ownsRow B e s x n H:=by
 refine⟨hx.1,?_⟩;rcases hx.2 with h | ⟨g,cap,cur,rfl,I,F,J⟩
 ·exact qal h
 ·exact qag ⟨g,cap,cur,rfl,I,(O.block g (qG F).1).trans F,J⟩
theorem qdN {w:World} {B:Nat} {e:TypeId} {s n:Nat} {x:Value} {G:List Value} (hx:w.ownsRow B e s x n G):∃(F:Option Addr) (cap:Nat),x=.slice F n cap:=by
 rcases hx.2 with ⟨rfl,rfl⟩ | ⟨g,cap,cur,rfl,_⟩
 ·exact⟨none,0,rfl⟩
 ·exact⟨_,_,rfl⟩
end Go.Proofs.YtplkdeknjghobaaGreatDoor
namespace Go.Proofs.YtplkdeknjghobaaGreatDoor
open Go.RowKit Go.Proofs.Tryz
def qhg (w:World) (q:Rat) (n d:Nat) (e:Ending) (F:World):Prop :=
 Below w.heap.size w F/\(((-100000000000<=nearZ q n/\nearZ q n<=100000000000)/\e=.returned (.int .i64 (nearT q n d)))\/(¬(-100000000000<=nearZ q n/\nearZ q n<=100000000000)/\e=thrown 6))
theorem wrapI {t:Int} (F:-9223372036854775808<=t) (G:t<=9223372036854775807):IntKind.i64.wrap t=t:=by simp [IntKind.wrap,IntKind.bits,IntKind.signed];omega
theorem cmpq (p q:Rat) (J:Short p) (O:Short q) (w:World) :
  Calls prog 17 #[.agg #[.string (ftxt p).1,.string (ftxt p).2],.agg #[.string (ftxt q).1,.string (ftxt q).2]] w fun e F=>∃c:Int,e=.returned (.tuple #[.int .i64 c,.int .i64 0])/\(c<0↔p<q)/\Below w.heap.size w F:=by
 refine (fcmp_any _ _ _ _ w).mono ?_;rintro e F ⟨⟨_,rfl⟩ | ⟨h,_⟩,I⟩
 ·have G:fval (ftxt p).1.data.toList (ftxt p).2.data.toList=p:=qcV p;have H:fval (ftxt q).1.data.toList (ftxt q).2.data.toList=q:=qcV q;rw [G,H];exact⟨_,rfl,cmp_lt p q,I⟩
 ·exact absurd ⟨qdz J,qdz O⟩ h
theorem nearest1 (q:Rat) (sq:Short q) (w:World) (hT:HasT w) (hE:HasE w) :
  Calls prog 92 #[.agg #[.string (ftxt q).1,.string (ftxt q).2],.int .i64 10000,.int .i64 1] w fun e w'=>qhg w q 10000 1 e w':=by
 have af:=fun W hT hE=>near_q q 10000 sq (by decide) (by decide) W hT hE
 have aa:=fun h1 h2=>qfH (q:=q) (n:=10000) (d:=1) (B:=100000000000) (by decide) h1 h2
 have Z:=fun (z:Int)=>qmk (q:=q) (n:=10000) (d:=1) (z:=z) (by decide) (by decide)
 obtain⟨q1,q2,ai⟩:=qb6 q;rw [ai] at af ⊢;unfold qhg;obtain⟨X,hX⟩:=qX (nearZ q 10000);obtain⟨Y,hY⟩:=qX (nearT q 10000 1);rw [hX] at af aa ⊢;rw [hY] at aa Z ⊢;obtain⟨W1,ax,K1⟩:=nw1 w #[.string q1,.string q2] 44;have HN:=qH (af W1 (hT.below K1.o.1) (hE.below K1.o.1));have HQ:=qH (qA ai (qA sq (qA Z aa)));have av:=qH (hT.below K1.o.1);clear af aa Z ai sq hT hE hX hY;go_enter func92,ntmps92;go_wp2_with fail;rw [<-ax];clear ax;refine HN.o.mono ?_;rintro e w2 ⟨ah,h⟩;have K2:=(K1.below ah).also (q:=fun W=>HasT W) (av.o.below ah);clear ah HN av K1;rcases h with ⟨hi,rfl⟩ | ⟨hi,rfl⟩
 case inr =>
  have HI:=qH hi;clear hi;go_wp2_with fail;refine (qgF 0 6 (by decide) _).mono ?_;rintro e w3 ⟨rfl,hw⟩;subst hw;unfold thrown;go_wp2_with fail;refine⟨rfl,K2.o.1.1,qag ⟨fun h=>HI.o ⟨?_,?_⟩,rfl⟩⟩
  ·have:=h.1;omega
  ·have:=h.2;omega
 have HI:=qH hi;clear hi;go_wp2_with fail;refine (qel X _).mono ?_;rintro e w3 ⟨rfl,hw⟩;subst hw
 by_cases az:X < -100000000000
 ·go_wp2_with fail;refine (qcd 6 (by decide) _).mono ?_;rintro e w3 ⟨rfl,hw⟩;subst hw;unfold thrown;go_wp2_with fail;exact⟨rfl,K2.o.1.1,qag ⟨fun h=>absurd h.1 (by omega),rfl⟩⟩
 by_cases aA:X > 100000000000
 ·go_wp2_with fail;refine (qcd 6 (by decide) _).mono ?_;rintro e w3 ⟨rfl,hw⟩;subst hw;unfold thrown;go_wp2_with fail;exact⟨rfl,K2.o.1.1,qag ⟨fun h=>absurd h.2 (by omega),rfl⟩⟩
 obtain⟨aI,aJ⟩:=HQ.o.2.2.2 (by omega) (by omega);have ay:-100000000000<=X.tdiv 1/\X.tdiv 1<=100000000000:=by have:=Int.natAbs_tdiv_le_natAbs X 1;omega
 have aF:=qH (qA az aA);obtain⟨Q0,aD⟩:=qX (X.tdiv 1);rw [aD] at ay;obtain⟨aG,aH⟩:=ay;go_upto_region 5 with fail;clear az aA
 go_loopw [8] (fun x8 W=>∃z:Int,x8=.int .i64 z/\-100000000001<=z/\z<=100000000001/\(Y<=z\/z=Q0)/\Hu (Below w2.heap.size w2 W)) (fun x8 _=>(intOf x8-Y).toNat)
 case atStart=>exact⟨Q0,rfl,by omega,by omega,qag rfl,qH qB⟩
 case round =>
  obtain⟨z,rfl,aj,ak,aB,hB⟩:=hrel;have V:=K2.below hB.o;obtain⟨u1,u2,hu⟩:=qb6 ((((2*z-1)*1:Int):Rat) / ((20000:Int):Rat));have U:=fun W hP=>of_int ((2*z-1)*1) 20000 (by decide) (by omega) (by decide) W hP
  rw [hu] at U;have J:=fun W=>cmpq q ((((2*z-1)*1:Int):Rat) / ((20000:Int):Rat)) HQ.o.2.1 (qdu (by decide) (by omega) (by decide)) W
  rw [hu,HQ.o.1] at J;have H:q<(((2*z-1)*1:Int):Rat) / ((20000:Int):Rat)↔Y<z:=HQ.o.2.2.1 z;rw [H] at J;have HO:=qH (qA U J);have lt:=(qG V.o.1.2).1;have r0:=rowC (B:=wr.heap.size) V.o.1.2 0;have r1:=rowC (B:=wr.heap.size) V.o.1.2 1;clear U J H hu;go_upto_region 5 with fail;refine wp_region_held_drew (S:=fun W=>Below wr.heap.size wr W) (by kernel_rfl) qB.drew (fun hS0=>?_);refine hT 0 (h:=hT 1 (h:=hT 2 (h:=hT 3 (h:=hT 4 (h:=hT 5 (h:=hT 6 (h:=hT 7 (h:=?_))))))));refine hC 8 (HO.o.1 _ (V.o.2.below qB.drew)) (he:=by (go_simp;exact⟨by simp only [wrapI (t:=2*z) (by omega) (by omega),wrapI (t:=2*z-1) (by omega) (by omega)],by decide⟩)) (h:=?_);rintro e w4 ⟨rfl,I⟩;have F:=qH (qb2 I);have K4:=V.below F.o;clear I;refine⟨_,rfl,F.o,hN (h:=?_)⟩;refine hT 9 (hS:=F.o) (h:=hT 10 (hS:=F.o) (h:=?_));refine hC 11 (qct u1 u2 w4) (h:=?_);rintro e w5 ⟨rfl,I⟩;have O:=qH (F.o.trans (I.mono F.o.size));have K5:=K4.below I;clear I;refine⟨_,rfl,O.o,hN (h:=?_)⟩;refine hC 12 (HO.o.2 w5) (h:=?_);rintro e w6 ⟨c,rfl,hc,I⟩;have G:=qH (O.o.trans (I.mono O.o.size));have K6:=K5.below I;clear I;refine⟨_,rfl,G.o,hN (h:=?_)⟩;refine hT 13 (hS:=G.o) (h:=hT 14 (hS:=G.o) (h:=?_));refine hC 15 (qel c w6) (h:=?_);rintro e w7 ⟨rfl,hw⟩;subst hw;refine⟨_,rfl,G.o,hN (h:=?_)⟩;refine hT 16 (hS:=G.o) (h:=?_);refine wpAnyH_done (by kernel_rfl) ?_ _;have aC:=qH (hB.o.trans (G.o.mono hB.o.size));clear r0 r1 lt hS0 hB HO V K4 K5
  by_cases H:Y<z
  ·have ae:c<0:=hc.2 H;clear hc;go_wp2;go_roundw
   case rel=>exact⟨z-1,by first | rfl | go_num,by omega,by omega,qal (by omega),aC⟩
   case measure=>simp [intOf];omega
  ·have ae:¬c<0:=fun h=>H (hc.1 h)
   have ag:z<=Y:=by omega
   clear hc H aB;go_upto_region 7 with fail
   go_loopw [8] (fun x8 W=>∃z:Int,x8=.int .i64 z/\-100000000001<=z/\z<=100000000001/\z<=Y/\Hu (Below w6.heap.size w6 W)) (fun x8 _=>(Y-intOf x8).toNat)
   case atStart=>exact⟨z,rfl,aj,ak,ag,qH qB⟩
   case round =>
    clear aj ak ag ae;obtain⟨z,rfl,aj,ak,aB,hB⟩:=hrel;have V:=K6.below hB.o;obtain⟨u1,u2,hu⟩:=qb6 ((((2*z+1)*1:Int):Rat) / ((20000:Int):Rat));have U:=fun W hP=>of_int ((2*z+1)*1) 20000 (by decide) (by omega) (by decide) W hP
    rw [hu] at U;have J:=fun W=>cmpq q ((((2*z+1)*1:Int):Rat) / ((20000:Int):Rat)) HQ.o.2.1 (qdu (by decide) (by omega) (by decide)) W
    rw [hu,HQ.o.1] at J;have H:q<(((2*z+1)*1:Int):Rat) / ((20000:Int):Rat)↔Y<z+1:=by
     have:=HQ.o.2.2.1 (z+1);rw [show 2*(z+1)-1=2*z+1 by omega] at this;exact this
    rw [H] at J;have HO:=qH (qA U J);have lt:=(qG V.o.1.2).1;have r0:=rowC (B:=wr.heap.size) V.o.1.2 0;have r1:=rowC (B:=wr.heap.size) V.o.1.2 1;clear U J H hu;go_upto_region 7 with fail;refine wp_region_held_drew (S:=fun W=>Below wr.heap.size wr W) (by kernel_rfl) qB.drew (fun hS0=>?_);refine hT 0 (h:=hT 1 (h:=hT 2 (h:=hT 3 (h:=hT 4 (h:=hT 5 (h:=hT 6 (h:=hT 7 (h:=?_))))))));refine hC 8 (HO.o.1 _ (V.o.2.below qB.drew)) (he:=by (go_simp;exact⟨by simp only [wrapI (t:=2*z) (by omega) (by omega),wrapI (t:=2*z+1) (by omega) (by omega)],by decide⟩)) (h:=?_);rintro e w4 ⟨rfl,I⟩;have F:=qH (qb2 I);have K4:=V.below F.o;clear I;refine⟨_,rfl,F.o,hN (h:=?_)⟩;refine hT 9 (hS:=F.o) (h:=hT 10 (hS:=F.o) (h:=?_));refine hC 11 (qct u1 u2 w4) (h:=?_);rintro e w5 ⟨rfl,I⟩;have O:=qH (F.o.trans (I.mono F.o.size));have K5:=K4.below I;clear I;refine⟨_,rfl,O.o,hN (h:=?_)⟩;refine hC 12 (HO.o.2 w5) (h:=?_);rintro e w7 ⟨c,rfl,hc,I⟩;have G:=qH (O.o.trans (I.mono O.o.size));have K7:=K5.below I;clear I;refine⟨_,rfl,G.o,hN (h:=?_)⟩;refine hT 13 (hS:=G.o) (h:=hT 14 (hS:=G.o) (h:=?_));refine hC 15 (qel c w7) (h:=?_);rintro e w8 ⟨rfl,hw⟩;subst hw;refine⟨_,rfl,G.o,hN (h:=?_)⟩;refine hT 16 (hS:=G.o) (h:=?_);refine wpAnyH_done (by kernel_rfl) ?_ _;have au:=qH (hB.o.trans (G.o.mono hB.o.size));clear r0 r1 lt hS0 hB HO V K4 K5
    by_cases H:Y<z+1
    ·have ae:¬c≥0:=by have:=hc.2 H;omega
     obtain rfl:z=Y:=by omega
     clear hc H;go_wp2;go_ret;exact⟨K7.o.1.1,rfl⟩
    ·have ae:c≥0:=by
      apply Classical.byContradiction;intro h;exact H (hc.1 (by omega))
     clear hc;go_wp2;go_roundw
     case rel=>exact⟨z+1,by first | rfl | go_num,by omega,by omega,by omega,au⟩
     case measure=>simp [intOf];omega
theorem nearest4 (q:Rat) (sq:Short q) (w:World) (hT:HasT w) (hE:HasE w) :
  Calls prog 92 #[.agg #[.string (ftxt q).1,.string (ftxt q).2],.int .i64 15625,.int .i64 4] w fun e w'=>qhg w q 15625 4 e w':=by
 have af:=fun W hT hE=>near_q q 15625 sq (by decide) (by decide) W hT hE
 have aa:=fun h1 h2=>qfH (q:=q) (n:=15625) (d:=4) (B:=100000000000) (by decide) h1 h2
 have Z:=fun (z:Int)=>qmk (q:=q) (n:=15625) (d:=4) (z:=z) (by decide) (by decide)
 obtain⟨q1,q2,ai⟩:=qb6 q;rw [ai] at af ⊢;unfold qhg;obtain⟨X,hX⟩:=qX (nearZ q 15625);obtain⟨Y,hY⟩:=qX (nearT q 15625 4);rw [hX] at af aa ⊢;rw [hY] at aa Z ⊢;obtain⟨W1,ax,K1⟩:=nw1 w #[.string q1,.string q2] 44;have HN:=qH (af W1 (hT.below K1.o.1) (hE.below K1.o.1));have HQ:=qH (qA ai (qA sq (qA Z aa)));have av:=qH (hT.below K1.o.1);clear af aa Z ai sq hT hE hX hY;go_enter func92,ntmps92;go_wp2_with fail;rw [<-ax];clear ax;refine HN.o.mono ?_;rintro e w2 ⟨ah,h⟩;have K2:=(K1.below ah).also (q:=fun W=>HasT W) (av.o.below ah);clear ah HN av K1;rcases h with ⟨hi,rfl⟩ | ⟨hi,rfl⟩
 case inr =>
  have HI:=qH hi;clear hi;go_wp2_with fail;refine (qgF 0 6 (by decide) _).mono ?_;rintro e w3 ⟨rfl,hw⟩;subst hw;unfold thrown;go_wp2_with fail;refine⟨rfl,K2.o.1.1,qag ⟨fun h=>HI.o ⟨?_,?_⟩,rfl⟩⟩
  ·have:=h.1;omega
  ·have:=h.2;omega
 have HI:=qH hi;clear hi;go_wp2_with fail;refine (qel X _).mono ?_;rintro e w3 ⟨rfl,hw⟩;subst hw
 by_cases az:X < -100000000000
 ·go_wp2_with fail;refine (qcd 6 (by decide) _).mono ?_;rintro e w3 ⟨rfl,hw⟩;subst hw;unfold thrown;go_wp2_with fail;exact⟨rfl,K2.o.1.1,qag ⟨fun h=>absurd h.1 (by omega),rfl⟩⟩
 by_cases aA:X > 100000000000
 ·go_wp2_with fail;refine (qcd 6 (by decide) _).mono ?_;rintro e w3 ⟨rfl,hw⟩;subst hw;unfold thrown;go_wp2_with fail;exact⟨rfl,K2.o.1.1,qag ⟨fun h=>absurd h.2 (by omega),rfl⟩⟩
 obtain⟨aI,aJ⟩:=HQ.o.2.2.2 (by omega) (by omega);have ay:-100000000000<=X.tdiv 4/\X.tdiv 4<=100000000000:=by have:=Int.natAbs_tdiv_le_natAbs X 4;omega
 have aF:=qH (qA az aA);obtain⟨Q0,aD⟩:=qX (X.tdiv 4);rw [aD] at ay;obtain⟨aG,aH⟩:=ay;go_upto_region 5 with fail;clear az aA
 go_loopw [8] (fun x8 W=>∃z:Int,x8=.int .i64 z/\-100000000001<=z/\z<=100000000001/\(Y<=z\/z=Q0)/\Hu (Below w2.heap.size w2 W)) (fun x8 _=>(intOf x8-Y).toNat)
 case atStart=>exact⟨Q0,rfl,by omega,by omega,qag rfl,qH qB⟩
 case round =>
  obtain⟨z,rfl,aj,ak,aB,hB⟩:=hrel;have V:=K2.below hB.o;obtain⟨u1,u2,hu⟩:=qb6 ((((2*z-1)*4:Int):Rat) / ((31250:Int):Rat));have U:=fun W hP=>of_int ((2*z-1)*4) 31250 (by decide) (by omega) (by decide) W hP
  rw [hu] at U;have J:=fun W=>cmpq q ((((2*z-1)*4:Int):Rat) / ((31250:Int):Rat)) HQ.o.2.1 (qdu (by decide) (by omega) (by decide)) W
  rw [hu,HQ.o.1] at J;have H:q<(((2*z-1)*4:Int):Rat) / ((31250:Int):Rat)↔Y<z:=HQ.o.2.2.1 z;rw [H] at J;have HO:=qH (qA U J);have lt:=(qG V.o.1.2).1;have r0:=rowC (B:=wr.heap.size) V.o.1.2 0;have r1:=rowC (B:=wr.heap.size) V.o.1.2 1;clear U J H hu;go_upto_region 5 with fail;refine wp_region_held_drew (S:=fun W=>Below wr.heap.size wr W) (by kernel_rfl) qB.drew (fun hS0=>?_);refine hT 0 (h:=hT 1 (h:=hT 2 (h:=hT 3 (h:=hT 4 (h:=hT 5 (h:=hT 6 (h:=hT 7 (h:=?_))))))));refine hC 8 (HO.o.1 _ (V.o.2.below qB.drew)) (he:=by (go_simp;exact⟨by simp only [wrapI (t:=2*z) (by omega) (by omega),wrapI (t:=2*z-1) (by omega) (by omega),wrapI (t:=(2*z-1)*4) (by omega) (by omega)],by decide⟩)) (h:=?_);rintro e w4 ⟨rfl,I⟩;have F:=qH (qb2 I);have K4:=V.below F.o;clear I;refine⟨_,rfl,F.o,hN (h:=?_)⟩;refine hT 9 (hS:=F.o) (h:=hT 10 (hS:=F.o) (h:=?_));refine hC 11 (qct u1 u2 w4) (h:=?_);rintro e w5 ⟨rfl,I⟩;have O:=qH (F.o.trans (I.mono F.o.size));have K5:=K4.below I;clear I;refine⟨_,rfl,O.o,hN (h:=?_)⟩;refine hC 12 (HO.o.2 w5) (h:=?_);rintro e w6 ⟨c,rfl,hc,I⟩;have G:=qH (O.o.trans (I.mono O.o.size));have K6:=K5.below I;clear I;refine⟨_,rfl,G.o,hN (h:=?_)⟩;refine hT 13 (hS:=G.o) (h:=hT 14 (hS:=G.o) (h:=?_));refine hC 15 (qel c w6) (h:=?_);rintro e w7 ⟨rfl,hw⟩;subst hw;refine⟨_,rfl,G.o,hN (h:=?_)⟩;refine hT 16 (hS:=G.o) (h:=?_);refine wpAnyH_done (by kernel_rfl) ?_ _;have aC:=qH (hB.o.trans (G.o.mono hB.o.size));clear r0 r1 lt hS0 hB HO V K4 K5
  by_cases H:Y<z
  ·have ae:c<0:=hc.2 H;clear hc;go_wp2;go_roundw
   case rel=>exact⟨z-1,by first | rfl | go_num,by omega,by omega,qal (by omega),aC⟩
   case measure=>simp [intOf];omega
  ·have ae:¬c<0:=fun h=>H (hc.1 h)
   have ag:z<=Y:=by omega
   clear hc H aB;go_upto_region 7 with fail
   go_loopw [8] (fun x8 W=>∃z:Int,x8=.int .i64 z/\-100000000001<=z/\z<=100000000001/\z<=Y/\Hu (Below w6.heap.size w6 W)) (fun x8 _=>(Y-intOf x8).toNat)
   case atStart=>exact⟨z,rfl,aj,ak,ag,qH qB⟩
   case round =>
    clear aj ak ag ae;obtain⟨z,rfl,aj,ak,aB,hB⟩:=hrel;have V:=K6.below hB.o;obtain⟨u1,u2,hu⟩:=qb6 ((((2*z+1)*4:Int):Rat) / ((31250:Int):Rat));have U:=fun W hP=>of_int ((2*z+1)*4) 31250 (by decide) (by omega) (by decide) W hP
    rw [hu] at U;have J:=fun W=>cmpq q ((((2*z+1)*4:Int):Rat) / ((31250:Int):Rat)) HQ.o.2.1 (qdu (by decide) (by omega) (by decide)) W
    rw [hu,HQ.o.1] at J;have H:q<(((2*z+1)*4:Int):Rat) / ((31250:Int):Rat)↔Y<z+1:=by
     have:=HQ.o.2.2.1 (z+1);rw [show 2*(z+1)-1=2*z+1 by omega] at this;exact this
    rw [H] at J;have HO:=qH (qA U J);have lt:=(qG V.o.1.2).1;have r0:=rowC (B:=wr.heap.size) V.o.1.2 0;have r1:=rowC (B:=wr.heap.size) V.o.1.2 1;clear U J H hu;go_upto_region 7 with fail;refine wp_region_held_drew (S:=fun W=>Below wr.heap.size wr W) (by kernel_rfl) qB.drew (fun hS0=>?_);refine hT 0 (h:=hT 1 (h:=hT 2 (h:=hT 3 (h:=hT 4 (h:=hT 5 (h:=hT 6 (h:=hT 7 (h:=?_))))))));refine hC 8 (HO.o.1 _ (V.o.2.below qB.drew)) (he:=by (go_simp;exact⟨by simp only [wrapI (t:=2*z) (by omega) (by omega),wrapI (t:=2*z+1) (by omega) (by omega),wrapI (t:=(2*z+1)*4) (by omega) (by omega)],by decide⟩)) (h:=?_);rintro e w4 ⟨rfl,I⟩;have F:=qH (qb2 I);have K4:=V.below F.o;clear I;refine⟨_,rfl,F.o,hN (h:=?_)⟩;refine hT 9 (hS:=F.o) (h:=hT 10 (hS:=F.o) (h:=?_));refine hC 11 (qct u1 u2 w4) (h:=?_);rintro e w5 ⟨rfl,I⟩;have O:=qH (F.o.trans (I.mono F.o.size));have K5:=K4.below I;clear I;refine⟨_,rfl,O.o,hN (h:=?_)⟩;refine hC 12 (HO.o.2 w5) (h:=?_);rintro e w7 ⟨c,rfl,hc,I⟩;have G:=qH (O.o.trans (I.mono O.o.size));have K7:=K5.below I;clear I;refine⟨_,rfl,G.o,hN (h:=?_)⟩;refine hT 13 (hS:=G.o) (h:=hT 14 (hS:=G.o) (h:=?_));refine hC 15 (qel c w7) (h:=?_);rintro e w8 ⟨rfl,hw⟩;subst hw;refine⟨_,rfl,G.o,hN (h:=?_)⟩;refine hT 16 (hS:=G.o) (h:=?_);refine wpAnyH_done (by kernel_rfl) ?_ _;have au:=qH (hB.o.trans (G.o.mono hB.o.size));clear r0 r1 lt hS0 hB HO V K4 K5
    by_cases H:Y<z+1
    ·have ae:¬c≥0:=by have:=hc.2 H;omega
     obtain rfl:z=Y:=by omega
     clear hc H;go_wp2;go_ret;exact⟨K7.o.1.1,rfl⟩
    ·have ae:c≥0:=by
      apply Classical.byContradiction;intro h;exact H (hc.1 (by omega))
     clear hc;go_wp2;go_roundw
     case rel=>exact⟨z+1,by first | rfl | go_num,by omega,by omega,by omega,au⟩
     case measure=>simp [intOf];omega
theorem qjM (N D:Nat) (h:(N=10000/\D=1)\/(N=15625/\D=4)) (q:Rat) (sq:Short q) (w:World) (hT:HasT w) (hE:HasE w) :
  Calls prog 92 #[.agg #[.string (ftxt q).1,.string (ftxt q).2],.int .i64 (N:Int),.int .i64 (D:Int)] w fun e F=>qhg w q N D e F:=by
 rcases h with ⟨rfl,rfl⟩ | ⟨rfl,rfl⟩
 ·exact nearest1 q sq w hT hE
 ·exact nearest4 q sq w hT hE
theorem el11_any (N D:Nat) (U:(N=10000/\D=1)\/(N=15625/\D=4)) (i L rb nb db b off c:Nat) (ao:Option Addr) (l:List FT) (w:World) (hl:l.length=L) (hL:L<=1000) (hi:i<L) (hA:FAll l)
  (J:w.heap[rb]? = some (.cells #[.slice ao L c] 35 (0,0))) (H:w.heap[nb]? = some (.cells #[.int .i64 (N:Int)] 3 (0,0))) (G:w.heap[db]? = some (.cells #[.int .i64 (D:Int)] 3 (0,0))) (hF:FCells w ao b off l) (hT:HasT w) (hE:HasE w) :
  Calls prog 91 #[.int .i64 (i:Int),.pointer (some ⟨rb,0,none⟩),.pointer (some ⟨nb,0,none⟩),.pointer (some ⟨db,0,none⟩)] w fun e w'=>qhg w (lval l i) N D e w':=by
 have aa:=hF.addr (by omega);subst aa;have Y:l.getD i fd0=ftxt (lval l i):=by
  have F:=hA.eq_told;rw [hl] at F;exact (congrArg (fun x=>x.getD i fd0) F).trans (qdg hi)
 have V:Short (lval l i):=hA.short i (by omega);obtain⟨f1,f2⟩:=hF.cell i (by omega);obtain⟨x1,x2,hx⟩:=qb6 (lval l i);rw [Y,hx] at f1 f2;have ae:(i:Int)<L:=by omega
 have lr:=(qG J).1;have ln:=(qG H).1;have ld:=(qG G).1;have r0:=rowC (B:=w.heap.size) J 0;have n0:=rowC (B:=w.heap.size) H 0;have d0:=rowC (B:=w.heap.size) G 0;have g1:∀W,Below w.heap.size w W->W.cell? ⟨b,off+i*2,none⟩=some (.string x1):=fun W h=>(h.cell (qac w _ f1)).trans f1
 have g2:∀W,Below w.heap.size w W->W.cell? ⟨b,off+i*2+1,none⟩=some (.string x2):=fun W h=>(h.cell (qac w _ f2)).trans f2
 have I:=qjM N D U (lval l i) V w.drew (hT.below qB.drew) (hE.below qB.drew);rw [hx] at I;have HN:=qH I;clear I U hl hA J H G hF hT hE Y V hx f1 f2;go_enter func91,ntmps91;go_upto_region 1 with fail;refine wp_region_held_drew (S:=fun W=>Below w.heap.size w W) (by kernel_rfl) qB.drew (fun hS0=>?_);refine hT 0 (h:=hT 1 (h:=hT 2 (h:=?_)));refine hT 3 (h:=?_);refine hT 4 (h:=hT 5 (h:=?_));refine hCx 6 HN.o (h:=?_);rintro e w2 ⟨Z,h | h⟩
 ·obtain⟨F,rfl⟩:=h;have O:=qH (qb2 Z);have H1:=qH F;clear Z F;refine qal ⟨_,rfl,O.o,hN (h:=?_)⟩;refine hT 7 (hS:=O.o) (h:=?_);refine wpAnyH_done (by kernel_rfl) ?_ _;go_wp2;go_ret;exact⟨O.o,qal ⟨H1.o,rfl⟩⟩
 ·obtain⟨F,rfl⟩:=h;have O:=qH (qb2 Z);have H1:=qH F;clear Z F;refine qag ⟨_,rfl,?_⟩;go_wp2_with fail;exact⟨rfl,O.o,qag ⟨H1.o,rfl⟩⟩
end Go.Proofs.YtplkdeknjghobaaGreatDoor
namespace Go.Proofs.YtplkdeknjghobaaGreatDoor
open Go Go.RowKit
def elN (c:Nat):Nat:=if c=0 then 10000 else 15625
def elD (c:Nat):Nat:=if c=0 then 1 else 4
def elM (c:Nat):Int:=if c=0 then 0 else 500000
def elz (m:Md) (c k:Nat):Int:=nearT (lval (m.row c) k) (elN c) (elD c)+(if k=0 then elM c else 0)
def qig (z:Int):Prop:=-1000000000<=z/\z<=1000000000
def ElOk (m:Md) (n:Nat):Prop:=∀c,c<3->∀k,k<n+1->qig (elz m c k)
def elOff (m:Md) (j:Nat):List Int:=(List.range j).map fun c=>elz m c 0
def elRow (m:Md) (n c:Nat):List Int:=(List.range n).map fun k=>elz m c (k+1)
theorem elND (c:Nat):(elN c=10000/\elD c=1)\/(elN c=15625/\elD c=4):=by
 unfold elN elD;split
 ·exact qal ⟨rfl,rfl⟩
 ·exact qag ⟨rfl,rfl⟩
theorem qj8 (c:Nat):0<=elM c/\elM c<=500000:=by unfold elM;split <;> decide
theorem el_near {q:Rat} {c:Nat} {M:Int} (G:0<=M) (H:M<=500000) (h:qig (nearT q (elN c) (elD c)+M)):-100000000000<=nearZ q (elN c)/\nearZ q (elN c)<=100000000000:=by
 have F:elD c=1\/elD c=4:=by rcases elND c with ⟨_,h⟩ | ⟨_,h⟩ <;> omega
 obtain⟨I,J⟩:=h;have:=qmw (q:=q) (n:=elN c) (d:=elD c) (B:=1000500000) F (by omega) (by omega);omega
section
variable {W w':World} {B n i j:Nat} {m:Md} {vr vo v':Value} {lo:List Int}
def qfN (W:World) (B:Nat) (m:Md) (n j:Nat) (H G:Value):Prop :=
 ∃F:List Value,W.ownsRow B 32 1 H j F/\∀c,c<j->IOwn W B (F.getD c undef) (elRow m n c)/\(F.getD c undef).ownBlock≠none/\(F.getD c undef).ownBlock≠G.ownBlock
def ElTo (W:World) (B:Nat) (m:Md) (n i j:Nat) (G F:Value):Prop:=IOwn W B F (elOff m i)/\qfN W B m n j G F
theorem own_ne {w:World} {B I:Nat} {e G:TypeId} {s U n O:Nat} {x y:Value} {V Y:List Value} (hx:w.ownsRow B e s x n V) (hy:w.ownsRow I G U y O Y) (he:e≠G):x.ownBlock=none\/x.ownBlock≠y.ownBlock:=by
 rcases hx.2 with ⟨rfl,_⟩ | ⟨g,cap,cur,rfl,_,J,_⟩
 ·exact qal rfl
 ·refine qag fun H=>?_
  rcases hy.2 with ⟨rfl,_⟩ | ⟨g',cap',cur',rfl,_,F,_⟩
  ·cases H
  ·have:g=g':=qah H;subst this;have:=J.symm.trans F;simp at this;exact he this.2
theorem IOwn.below (h:IOwn W B vo lo) (F:Below W.heap.size W w'):IOwn w' B vo lo:=own_below h F
theorem qfN.below (h:qfN W B m n j vr vo) (G:Below W.heap.size W w'):qfN w' B m n j vr vo:=by
 obtain⟨J,I,F⟩:=h;exact⟨J,own_below I G,fun c H=>⟨(F c H).1.below G,(F c H).2⟩⟩
theorem ElTo.below (h:ElTo W B m n i j vr vo) (F:Below W.heap.size W w'):ElTo w' B m n i j vr vo:=⟨h.1.below F,h.2.below F⟩
instance stays_iown {B:Nat} {v:Value} {l:List Int}:Stays fun W=>IOwn W B v l:=⟨fun h F=>h.below F⟩
theorem qfN.off (h:qfN W B m n j vr vo) (J:IOwn W B vo lo) (G:v'.ownBlock=vo.ownBlock/\W.grownBy w' vo.ownBlock\/v'.ownBlock=some W.heap.size/\W.grownBy w' none):qfN w' B m n j vr v':=by
 obtain⟨O,F,H⟩:=h;refine⟨O,(qem F (own_ne F J (by decide)) G).1,fun c I=>?_⟩;obtain⟨a,b,d⟩:=H c I;obtain⟨e,f⟩:=qem a (qag d) G;exact⟨e,b,f.resolve_left b⟩
theorem own_some {w:World} {B:Nat} {e:TypeId} {s n:Nat} {x:Value} {F:List Value} (hx:w.ownsRow B e s x n F) (G:0<n):x.ownBlock≠none:=by
 rcases hx.2 with ⟨rfl,h⟩ | ⟨g,cap,cur,rfl,_⟩
 ·omega
 ·simp [Value.ownBlock]
theorem ElTo.apart {k:Nat} (h:ElTo W B m n i j vr vo) (H:W.grownBy w' (some k)) (Y:k<B\/W.heap.size<=k):ElTo w' B m n i j vr vo:=by
 have ne:∀{e:TypeId} {s q:Nat} {x:Value} {O:List Value},W.ownsRow B e s x q O->x.ownBlock=none\/x.ownBlock≠some k:=fun {e s q x O} hx=>by
  cases e1:x.ownBlock with
  | none=>exact qal rfl
  | some q =>
   refine qag fun U=>?_
   have:=hx.lt q e1;have:=qah U;omega
 obtain⟨I,V,J,F⟩:=h;exact⟨World.ownsRow.kept I H (ne I),V,J.kept H (ne J),fun c G=>⟨World.ownsRow.kept (F c G).1 H (ne (F c G).1),(F c G).2⟩⟩
theorem ElTo.row {F:Value} (h:ElTo W B m n i j vr vo) (V:0<n) (H:IOwn W B F (elRow m n j)) (I:F.ownBlock≠vo.ownBlock)
  (Y:w'.ownsRow B 32 1 v' (j+1) (Classical.choose h.2++[F])) (J:v'.ownBlock=vr.ownBlock/\W.grownBy w' vr.ownBlock\/v'.ownBlock=some W.heap.size/\W.grownBy w' none):IOwn w' B vo (elOff m i)/\qfN w' B m n (j+1) v' vo:=by
 obtain⟨G,O⟩:=Classical.choose_spec h.2;generalize Classical.choose h.2=vs at *;have U:vs.length=j:=by have:=G.1;omega
 refine⟨(qem h.1 (own_ne h.1 G (by decide)) J).1,vs++[F],Y,fun c Z=>?_⟩;rcases qaM c j with hcj | hcj
 ·have e:(vs++[F]).getD c undef=vs.getD c undef:=by
   rw [qaa,qar (by omega),<-qaa]
  rw [e];obtain⟨a,b,d⟩:=O c hcj;exact⟨(qem a (own_ne a G (by decide)) J).1,b,d⟩
 ·obtain rfl:c=j:=by omega
  have e:(vs++[F]).getD c undef=F:=by
   rw [qaa,qao (by omega),U,qaJ];rfl
  rw [e];exact⟨(qem H (own_ne H G (by decide)) J).1,own_some H (by unfold elRow;simpa using V),I⟩
end
theorem qgk (m:Md) (j:Nat):(elOff m j).length=j:=by unfold elOff;simp
theorem qgl (m:Md) (n c:Nat):(elRow m n c).length=n:=by unfold elRow;simp
theorem elRow_at {m:Md} {n c k:Nat} (h:k<(elRow m n c).length):(elRow m n c)[k]=elz m c (k+1):=by simp [elRow]
def qj2 (n S:Nat) (z:Value):Prop:=(∃a c,z=.slice a n c)/\∃k,z.ownBlock=some k/\S<=k
theorem qkL (m:Md) (j:Nat):elOff m (j+1)=elOff m j++[elz m j 0]:=by unfold elOff;rw [List.range_succ,qaZ];rfl
open Go.Proofs.Tryz
def ElG (m:Md) (W:World) (v:Value):Prop:=∃n,MdOk m 1 n/\ElOk m n/\∃(B:Nat) (G F:Value),v=.agg #[.int .i64 2,.slice none 0 0,G,F,.slice none 0 0,.int .i64 0,.slice none 0 0,.slice none 0 0,.int .i64 0,.int .i64 0]/\ElTo W B m n 3 3 G F
def ElF (m:Md) (e:Int):Prop:=(¬qc4 m/\e=320)\/(qc4 m/\m.kind≠1/\e=5)\/(∃n,MdOk m 1 n/\¬ElOk m n/\e=6)
theorem qeH {W:World} {F:Nat} {H G:Value} (h:W.heap[F]? = some (.cells #[.int .i64 2,.slice none 0 0,H,G,.slice none 0 0,.int .i64 0,.slice none 0 0,.slice none 0 0,.int .i64 0,.int .i64 0] 82 (0,0))):W.cell? ⟨F,2,none⟩=some H/\W.cell? ⟨F,3,none⟩=some G/\∀j,W.frozen? ⟨F,j,none⟩=false :=
 ⟨qC _ _ 2 _ _ _ h,qC _ _ 3 _ _ _ h,fun _j=>qF _ _ _ _ _ h⟩
structure ElSt (w2:World) (W:World) (m:Md) (n i j:Nat) (vr vo:Value):Prop where
 old:Below w2.heap.size w2 W
 row:W.heap[w2.heap.size]? = some (.cells #[.int .i64 2,.slice none 0 0,vr,vo,.slice none 0 0,.int .i64 0,.slice none 0 0,.slice none 0 0,.int .i64 0,.int .i64 0] 82 (0,0))
 tos:ElTo W (w2.heap.size+1) m n i j vr vo
theorem ElSt.below {I W W':World} {m:Md} {n i j:Nat} {H G:Value} (h:ElSt I W m n i j H G) (F:Below W.heap.size W W'):ElSt I W' m n i j H G :=
 ⟨h.old.trans (F.mono h.old.size),zkeep F _ _ h.row,h.tos.below F⟩
instance stays_elst {I:World} {m:Md} {n i j:Nat} {H G:Value}:Stays fun W=>ElSt I W m n i j H G:=⟨fun h F=>h.below F⟩
theorem qfk {W:World} {g:Nat} {q:List Int} {t:TypeId} (h:W.heap[g]? = some (.cells (q.map fun z=>Value.int .i64 z).toArray t (0,0))) (off:Nat):NCells W (some ⟨g,off,none⟩) g off (q.drop off) :=
 ⟨fun _=>rfl,fun k F=>by
  rw [qbm] at F;refine (qC _ _ _ _ _ _ h).trans ?_;rw [qav,qau,qaa,List.getElem?_drop,qad (by omega)];rfl⟩
theorem qgS {W:World} (g k:Nat) (v:Value):W.grownBy (W.setCell ⟨g,k,none⟩ v) (some g):=qbT W g k v
theorem el1_any (m:Md) (mb:Nat) (a:Nat->Option Addr) (b' o d:Nat->Nat) (w:World) (cO:∀q,q<3->(m.row q).length<=4611686018427387904)
  (bD:w.heap[mb]? = some (.cells #[.int .i64 m.kind,.int .i64 m.inn,.slice (a 0) (m.row 0).length (d 0),.slice (a 1) (m.row 1).length (d 1),.slice (a 2) (m.row 2).length (d 2)] 38 (0,0))) (U:∀q,q<3->FCells w (a q) (b' q) (o q) (m.row q)) (hT:HasT w) (hE:HasE w) :
  Calls prog 89 #[.pointer (some ⟨mb,0,none⟩)] w fun e w'=>Below w.heap.size w w' /\
   ((∃(p2:Option Addr) (n2 c2:Nat) (p3:Option Addr) (n3 c3:Nat),e=.returned (.agg #[.int .i64 2,.slice none 0 0,.slice p2 n2 c2,.slice p3 n3 c3,.slice none 0 0,.int .i64 0,.slice none 0 0,.slice none 0 0,.int .i64 0,.int .i64 0])/\ElG m w' (.agg #[.int .i64 2,.slice none 0 0,.slice p2 n2 c2,.slice p3 n3 c3,.slice none 0 0,.int .i64 0,.slice none 0 0,.slice none 0 0,.int .i64 0,.int .i64 0]))\/∃c,e=thrown c/\ElF m c):=by
 obtain⟨W1,bO,N1⟩:=nw1 w #[.int .i64 0,.slice none 0 0,.slice none 0 0,.slice none 0 0,.slice none 0 0,.int .i64 0,.slice none 0 0,.slice none 0 0,.int .i64 0,.int .i64 0] 82;have hM:MdAt W1 (.agg #[.int .i64 m.kind,.int .i64 m.inn,.slice (a 0) (m.row 0).length (d 0),.slice (a 1) (m.row 1).length (d 1),.slice (a 2) (m.row 2).length (d 2)]) m :=
  ⟨_,_,_,_,_,_,_,_,_,_,_,_,rfl,(U 0 (by decide)).below N1.o.1,(U 1 (by decide)).below N1.o.1,(U 2 (by decide)).below N1.o.1⟩
 have bg:=qfF m _ W1 hM cO;obtain⟨kind,ak⟩:∃z,m.kind=z:=⟨_,rfl⟩;obtain⟨inn,aG⟩:∃z,m.inn=z:=⟨_,rfl⟩;obtain⟨L,hL⟩:∃L:Nat->Nat,∀q,(m.row q).length=L q:=⟨_,fun _=>rfl⟩;rw [ak,aG,hL,hL,hL] at bD bg;have bH:=qH bg;have K1:=N1.also (q:=fun W=>W.heap[mb]? = some (.cells #[.int .i64 kind,.int .i64 inn,.slice (a 0) (L 0) (d 0),.slice (a 1) (L 1) (d 1),.slice (a 2) (L 2) (d 2)] 38 (0,0))/\HasT W/\HasE W) ⟨zkeep N1.o.1 _ _ bD,hT.below N1.o.1,hE.below N1.o.1⟩;have c0:=qC _ _ 0 _ _ _ K1.o.2.1;have c1:=qC _ _ 1 _ _ _ K1.o.2.1;have c2:=qC _ _ 2 _ _ _ K1.o.2.1;have c3:=qC _ _ 3 _ _ _ K1.o.2.1;have c4:=qC _ _ 4 _ _ _ K1.o.2.1;have HX:=qH (qA ak (qA aG (qA hL U)));have ek:=@hmf_ prog;clear N1 hM bg bD U hT hE cO ak aG hL;go_enter func89,ntmps89;go_upto_region 1 with fail;rw [<-bO];clear bO;go_wp2_with fail;refine bH.o.mono ?_;rintro e H ⟨cc,rfl,dJ,bR⟩;have K2:=K1.below bR;clear bR K1 bH c0 c1 c2 c3 c4;rcases dJ with ⟨rfl,dh⟩ | ⟨rfl,df⟩
 case inr =>
  have HN:=qH df;clear df;go_wp2_with fail;refine (qcd 320 (by decide) _).mono ?_;rintro e V ⟨rfl,rfl⟩;unfold thrown;go_wp2_with fail;exact⟨rfl,K2.o.1.1,qag ⟨320,rfl,qal ⟨HN.o,rfl⟩⟩⟩
 have bf:=qH dh;clear dh;go_wp2_with fail;refine (qeq _).mono ?_;rintro e V ⟨rfl,hw⟩;subst hw;have c0:=qC _ _ 0 _ _ _ K2.o.2.1
 by_cases aP:kind=1
 case neg =>
  have HK:=qH aP;have ed:(kind != 1)=true:=by rw [bne_iff_ne];exact aP
  clear aP;go_wp2_with fail;refine (qcd 5 (by decide) _).mono ?_;rintro e V ⟨rfl,rfl⟩;unfold thrown;go_wp2_with fail;exact⟨rfl,K2.o.1.1,qag ⟨5,rfl,qag (qal ⟨bf.o,by rw [HX.o.1];exact HK.o,rfl⟩)⟩⟩
 obtain⟨n,az⟩:∃n,MdOk m 1 n:=by
  obtain⟨kk,n,h⟩:=bf.o;have h1:=h.kind.1;have h2:=HX.o.1;obtain rfl:kk=1:=by omega
  exact⟨n,h⟩
 have eu:=az.inn.2.1;have eB:=az.inn.2.2;have HM:=qH az;have ae:Hu (∀c,c<3->L c=n+1/\FAll (m.row c)):=qH fun c hc=>by
  obtain⟨h1,h2⟩:=az.rows c hc;rw [HX.o.2.2.1] at h1;exact⟨h1.trans (by unfold many;rw [if_pos rfl];omega),h2⟩
 clear az bf;subst aP;obtain⟨W5,bP,N5⟩:=nw1 H #[.int .i64 2,.slice none 0 0,.slice none 0 0,.slice none 0 0,.slice none 0 0,.int .i64 0,.slice none 0 0,.slice none 0 0,.int .i64 0,.int .i64 0] 82;have K3:Kn (fun W=>(Below w.heap.size w W/\W.heap[w.heap.size]? = some (.cells #[.int .i64 0,.slice none 0 0,.slice none 0 0,.slice none 0 0,.slice none 0 0,.int .i64 0,.slice none 0 0,.slice none 0 0,.int .i64 0,.int .i64 0] 82 (0,0)))/\W.heap[mb]? = some (.cells #[.int .i64 1,.int .i64 inn,.slice (a 0) (n+1) (d 0),.slice (a 1) (n+1) (d 1),.slice (a 2) (n+1) (d 2)] 38 (0,0))/\HasT W/\HasE W) H:=.of ⟨K2.o.1,by
  have h:=K2.o.2.1
  rwa [(ae.o 0 (by decide)).1,(ae.o 1 (by decide)).1,(ae.o 2 (by decide)).1] at h,K2.o.2.2⟩
 have H0:Hu (ElSt H W5 m n 0 0 (.slice none 0 0) (.slice none 0 0)):=qH ⟨N5.o.1,N5.o.2,⟨⟨rfl,qal ⟨rfl,rfl⟩⟩,[],⟨rfl,qal ⟨rfl,rfl⟩⟩,fun c hc=>absurd hc (by omega)⟩⟩;have aL:=qH (qA (ae.o 0 (by decide)).1 (qA (ae.o 1 (by decide)).1 (ae.o 2 (by decide)).1));rw [aL.o.1,aL.o.2.1,aL.o.2.2];clear K2 aL;go_upto_region 5 with fail;rw [<-bP];have aR:=zkeep N5.o.1 _ _ K3.o.2.1;clear bP c0 N5;have c2:=qC _ _ 2 _ _ _ aR;have c3:=qC _ _ 3 _ _ _ aR;have c4:=qC _ _ 4 _ _ _ aR;clear aR;go_wp2_with fail;clear c2 c3 c4
 go_loopw [21] (fun x21 W=>∃j:Nat,x21=.int .i64 j/\j<=3/\Hu (∃vr vo,ElSt H W m n j j vr vo/\∀c,c<j->∀k,k<n+1->qig (elz m c k))) (fun x21 _=>3-(intOf x21).toNat)
 case atStart=>exact⟨0,rfl,qam _,qH ⟨_,_,H0.o,fun c hc=>absurd hc (by omega)⟩⟩
 case round =>
  obtain⟨j,rfl,hj,hI⟩:=hrel;obtain⟨vr,vo,hS,aS⟩:=hI.o
  by_cases ah:j<3
  ·have d9:(j:Int)<3:=by omega
   have HS:=qH (qA hS aS);clear hI hS aS;obtain⟨aj,bu⟩:∃z,a j=z:=⟨_,rfl⟩;obtain⟨dj,bT⟩:∃z,d j=z:=⟨_,rfl⟩;have dQ:∀W,(Instr.index 36 (.agg #[.slice (a 0) (n+1) (d 0),.slice (a 1) (n+1) (d 1),.slice (a 2) (n+1) (d 2)]) (.int .i64 (j:Int))).run prog W=.ok (.slice aj (n+1) dj) W:=fun W=>by
    rw [<-bu,<-bT];rcases (show j=0\/j=1\/j=2 by omega) with rfl | rfl | rfl <;> kernel_rfl
   have bi:=(HX.o.2.2.2 j ah).below (K3.o.1.1.trans (HS.o.1.old.mono K3.o.1.1.size));rw [bu] at bi;have bI:=qH bi;clear bi bu bT;obtain⟨W6,bQ,N6⟩:=nw3 wr #[.slice aj (n+1) dj] 35 #[.int .i64 10000] 3 #[.int .i64 1] 3
   go_upto_if 26 with fail
   rw [<-bQ];clear bQ dQ
   go_cut [7] (fun x7 W=>x7=.int .i64 (elM j)/\Kn (fun W=>Below wr.heap.size wr W/\W.heap[wr.heap.size]? = some (.cells #[.slice aj (n+1) dj] 35 (0,0))/\W.heap[wr.heap.size+1]? = some (.cells #[.int .i64 (elN j:Int)] 3 (0,0))/\W.heap[wr.heap.size+1+1]? = some (.cells #[.int .i64 (elD j:Int)] 3 (0,0))) W)
   case first =>
    by_cases dZ:(j:Int) > 0
    ·have c5:=qC _ _ 0 _ _ _ N6.o.2.2.1;have c6:=qC _ _ 0 _ _ _ N6.o.2.2.2;have f5:=qF _ _ 0 _ _ N6.o.2.2.1;have f6:=qF _ _ 0 _ _ N6.o.2.2.2;go_wp2;go_meet;have e1:elN j=15625:=by unfold elN;rw [if_neg (by omega)]
     have e2:elD j=4:=by unfold elD;rw [if_neg (by omega)]
     have e3:elM j=500000:=by unfold elM;rw [if_neg (by omega)]
     rw [e1,e2,e3];refine⟨rfl,.of ⟨(N6.o.1.setCell (p:=⟨wr.heap.size+1,0,none⟩) (qbP _) _).setCell (p:=⟨wr.heap.size+1+1,0,none⟩) (by show wr.heap.size<=wr.heap.size+1+1;omega) _,?_,?_,?_⟩⟩
     ·rw [qW _ _ _ _ (show wr.heap.size≠wr.heap.size+1+1 by omega),qW _ _ _ _ (show wr.heap.size≠wr.heap.size+1 by omega)];exact N6.o.2.1
     ·rw [qW _ _ _ _ (show wr.heap.size+1≠wr.heap.size+1+1 by omega)];exact qep N6.o.2.2.1 _
     ·exact qep ((qW _ _ _ _ (show wr.heap.size+1+1≠wr.heap.size+1 by omega)).trans N6.o.2.2.2) _
    ·obtain rfl:j=0:=by omega
     go_wp2;go_meet;exact⟨rfl,N6⟩
   case rest =>
    obtain⟨rfl,K6⟩:=hcut;have bK:=(qj8 j).1;have bL:=(qj8 j).2;obtain⟨M,bn⟩:=qX (elM j);have hA:=(ae.o j ah).2;have cB:(m.row j).length=n+1:=by rw [HX.o.2.2.1];exact (ae.o j ah).1
    have K7:=(K6.also (q:=fun W=>ElSt H W m n j j vr vo/\HasT W/\HasE W) ⟨HS.o.1.below K6.o.1,(K3.o.2.2.1.below HS.o.1.old).below K6.o.1,(K3.o.2.2.2.below HS.o.1.old).below K6.o.1⟩);have hg:GivesI 91 #[.pointer (some ⟨wr.heap.size,0,none⟩),.pointer (some ⟨wr.heap.size+1,0,none⟩),.pointer (some ⟨wr.heap.size+1+1,0,none⟩)] wc (n+1) (fun i z=>(-100000000000<=nearZ (lval (m.row j) i) (elN j)/\nearZ (lval (m.row j) i) (elN j)<=100000000000)/\z=nearT (lval (m.row j) i) (elN j) (elD j)) (fun i c=>¬(-100000000000<=nearZ (lval (m.row j) i) (elN j)/\nearZ (lval (m.row j) i) (elN j)<=100000000000)/\c=6):=by
     intro i hi W J;refine (el11_any (elN j) (elD j) (elND j) i (n+1) wr.heap.size (wr.heap.size+1) (wr.heap.size+1+1) (b' j) (o j) dj aj (m.row j) W cB (by omega) hi hA (zkeep J _ _ K7.o.1.2.1) (zkeep J _ _ K7.o.1.2.2.1) (zkeep J _ _ K7.o.1.2.2.2) ((bI.o.below K7.o.1.1).below J) (K7.o.2.2.1.below J) (K7.o.2.2.2.below J)).mono ?_;rintro e w' ⟨h1,h2⟩;refine⟨h1,?_⟩;rcases h2 with ⟨h3,rfl⟩ | ⟨h3,rfl⟩
     ·exact qal ⟨_,rfl,h3,rfl⟩
     ·exact qag ⟨6,rfl,h3,rfl⟩
    have HG:=qH (qjC 91 #[.pointer (some ⟨wr.heap.size,0,none⟩),.pointer (some ⟨wr.heap.size+1,0,none⟩),.pointer (some ⟨wr.heap.size+1+1,0,none⟩)] (n+1) (by omega) _ _ wc (fun a W=>enters func91 (by kernel_rfl) (by kernel_rfl) _ W) hg);have p5:=qC _ _ 0 _ _ _ K7.o.1.2.1;have dE:=qH bn;rw [bn] at bK bL ⊢;clear hg hA cB K6 N6 bn;go_wp2_with fail;refine HG.o.mono ?_;rintro e w6 ⟨aN,h⟩;rcases h with ⟨l,g,hl,hP,rfl,hV,bY⟩ | ⟨i,cc,hi,rfl,h3,rfl⟩
    case inr =>
     have dD:=qH (K3.o.1.1.trans ((K7.o.2.1.old.trans (aN.mono K7.o.2.1.old.size)).mono K3.o.1.1.size));have HE:=qH (qA hi h3);clear aN hi h3 HG;unfold thrown;go_wp2_with fail;refine⟨rfl,dD.o,qag ⟨6,rfl,qag (qag ⟨n,HM.o,fun h=>HE.o.2 ?_,rfl⟩)⟩⟩;have:=h j ah i HE.o.1;unfold elz at this;refine el_near (M:=if i=0 then elM j else 0) ?_ ?_ this
     ·split
      ·exact (qj8 j).1
      ·exact Int.le_refl _
     ·split
      ·exact (qj8 j).2
      ·decide
    obtain⟨z0,lt,rfl⟩:∃z0 lt,l=z0 :: lt:=by
     cases l with
     | nil=>simp at hl
     | cons z0 lt=>exact⟨z0,lt,rfl⟩
    have aT:=(hP 0 (by omega));have cK:lt.length=n:=by simpa using hl
    have aU:=qfH (q:=lval (m.row j) 0) (n:=elN j) (d:=elD j) (B:=100000000000) (by rcases elND j with ⟨_,h⟩ | ⟨_,h⟩ <;> omega) aT.1.1 aT.1.2;have bG:z0=nearT (lval (m.row j) 0) (elN j) (elD j):=aT.2;rw [<-bG] at aU;have dR:=aU.1;have dS:=aU.2;have av:w6.heap[g]? = some (.cells (Value.int .i64 z0 :: lt.map fun z=>Value.int .i64 z).toArray 3 (0,0)):=by
     have h:=hV.1;rw [qat,hl,qaJ,List.replicate_zero,List.append_nil] at h;exact h
    have g0:w6.cell? ⟨g,0,none⟩=some (.int .i64 z0):=qC _ _ 0 _ _ _ av;have gf:=qF _ _ 0 _ _ av;obtain⟨W7,aM⟩:=qY (w6.setCell ⟨g,0,none⟩ (.int .i64 (z0+M)));obtain⟨q,hq⟩:=qY ((z0+M) :: lt);have dm:q.length=n+1:=by rw [hq];simpa using cK
    have dn:∀k,k<n+1->q.getD k 0=elz m j k:=fun k Z=>by
     rw [hq];cases k with
     | zero =>
      show z0+M=_
      unfold elz;rw [if_pos rfl,<-dE.o,bG]
     | succ k =>
      show lt.getD k 0=_
      unfold elz;rw [if_neg (by omega),Int.add_zero];exact (hP (k+1) Z).2
    have K8:=K7.below aN;have F:W7.heap[g]? = some (.cells (q.map fun z=>Value.int .i64 z).toArray 3 (0,0)):=by
     rw [aM,heap_setCell_same _ g 0 _ _ _ av,hq,qaB,qbi];rfl
    have dL:wr.heap.size<=g:=qaj K7.o.1.1.size bY;have aB:=K8.o.2.1;have dN:=HS.o.1.old.size;have bU:g≠H.heap.size:=by
     have:=(qG HS.o.1.row).1;omega
    have bV:H.heap.size+1<=g:=by
     have:=(qG HS.o.1.row).1;omega
    have O:w6.grownBy W7 (some g):=aM▸qgS g 0 _;have bN:ElSt H W7 m n j j vr vo:=by
     refine⟨aB.old.trans ⟨O.os,O.tape,O.output,O.size,fun k Z=>O.block k (qai Z aB.old.size) (fun e=>by have:=qah e;omega)⟩,(O.block _ (qG aB.row).1 (fun e=>bU (qah e).symm)).trans aB.row,?_⟩;have:ElTo wr (H.heap.size+1) m n j j vr vo:=HS.o.1.tos;have dI:Below wr.heap.size wr W7:=(K8.o.1.1).trans ⟨O.os,O.tape,O.output,O.size,fun k Z=>O.block k (qai Z K8.o.1.1.size) (fun e=>by have:=qah e;omega)⟩;exact this.below dI
    have bA:∀{B:Nat} {e:TypeId} {s i:Nat} {x:Value} {xs:List Value},wr.ownsRow B e s x i xs->x.ownBlock≠some g:=fun {B e s i x xs} hx e1=>by
     have:=(hx.lt g e1).2;omega
    have dB:vo.ownBlock≠some g:=bA HS.o.1.tos.1;have dC:vr.ownBlock≠some g:=by obtain⟨vs,h1,_⟩:=HS.o.1.tos.2;exact bA h1
    have HQ:=qH (qA dm (qA dn (qA F (qA bN (qA bV (qA dL F))))));have dY:True:=trivial;clear aN hP hV bY hl aT aU bG av dm dn F K8 aB dN bU bV O bN bA cK HG hq;go_upto_region 13 with fail;rw [<-aM];clear aM g0 gf dR dS bK bL;have dH:=qH HS.o.2;clear HS K7 bI p5;obtain⟨sz,dz⟩:=qY wr.heap.size;have HW:=qH (qA HQ.o.2.2.2.2.1 (qA dB dC));have Y:=qH (qA HQ.o.1 (qA HQ.o.2.1 (qA HQ.o.2.2.1 HQ.o.2.2.2.1)));clear HQ dB dC;go_upto_region 14 with fail;rw [<-dz];clear dz
    go_loopw [39] (fun x39 W=>∃k:Nat,x39=.int .i64 k/\k<=n+1/\Hu (∀i,i<k->qig (elz m j i))/\Hu (W=W7)) (fun x39 _=>n+1-(intOf x39).toNat)
    case atStart=>exact⟨0,rfl,qam _,qH fun i hi=>absurd hi (by omega),qH rfl⟩
    case round =>
     obtain⟨k,rfl,Z,dx,bq⟩:=hrel;have bq:=bq.o;subst bq
     by_cases ax:k<n+1
     ·have cu:(k:Int)<(n:Int)+1:=by omega
      have dK:wr.cell? ⟨g,k,none⟩=some (.int .i64 (elz m j k)):=by
       refine (qC _ _ _ _ _ _ Y.o.2.2.1).trans ?_;have h1:=Y.o.2.1 k ax;rw [qaa,qad (by rw [Y.o.1];exact ax)] at h1;rw [qav,qau,qad (by rw [Y.o.1];exact ax)];exact congrArg (fun z=>some (Value.int .i64 z)) h1
      obtain⟨z,hz⟩:=qX (elz m j k);rw [hz] at dK;have HZ:=qH hz;clear hz
      by_cases h1:z < -1000000000
      ·go_wp2_with fail;refine (qcd 6 (by decide) _).mono ?_;rintro e V ⟨rfl,rfl⟩;unfold thrown;go_wp2_with fail;refine⟨rfl,K3.o.1.1.trans (Y.o.2.2.2.old.mono K3.o.1.1.size),qag ⟨6,rfl,qag (qag ⟨n,HM.o,fun h=>?_,rfl⟩)⟩⟩;have:=(h j ah k ax).1;have:=HZ.o;omega
      by_cases h2:z > 1000000000
      ·go_wp2_with fail;refine (qcd 6 (by decide) _).mono ?_;rintro e V ⟨rfl,rfl⟩;unfold thrown;go_wp2_with fail;refine⟨rfl,K3.o.1.1.trans (Y.o.2.2.2.old.mono K3.o.1.1.size),qag ⟨6,rfl,qag (qag ⟨n,HM.o,fun h=>?_,rfl⟩)⟩⟩;have:=(h j ah k ax).2;have:=HZ.o;omega
      have aX:qig (elz m j k):=by rw [HZ.o];exact⟨by omega,by omega⟩
      have dG:=qH aX;clear aX;go_wp2;go_roundw
      case rel =>
       refine⟨k+1,by go_num,ax,qH fun i hi=>?_,by first | trivial | exact qH rfl⟩;rcases qaM i k with h | h
       ·exact dx.o i h
       ·obtain rfl:i=k:=by omega
        exact dG.o
      case measure=>simp [intOf];omega
     ·have cu:¬(k:Int)<(n:Int)+1:=by omega
      obtain rfl:k=n+1:=by omega
      go_upto_region 19 with fail;obtain⟨aK,aZ⟩:∃z,elz m j 0=z:=⟨_,rfl⟩;have bv:wr.cell? ⟨g,0,none⟩=some (.int .i64 aK):=by
       refine (qC _ _ _ _ _ _ Y.o.2.2.1).trans ?_;have h1:=Y.o.2.1 0 (by omega);rw [qaa,qad (by rw [Y.o.1];omega),aZ] at h1;rw [qav,qau,qad (by rw [Y.o.1];omega)];exact congrArg (fun z=>some (Value.int .i64 z)) h1
      refine wp_region_held_drew (S:=fun _=>True) (by kernel_rfl) trivial (fun hS0=>?_);refine hT 0 (h:=hT 2 (h:=?_));refine hT 3 (h:=?_);refine gr [(1,52),(4,55),(5,56)] [(5,[4])] [0,2,3] [1,4,5] [] 6 9 (fl2 [(1,fun z _=>z=vo),(4,fun z _=>z=.int .i64 aK),(5,fun z W=>∃g5:Nat,W.heap[g5]? = some (.cells #[.int .i64 aK] 3 (0,0))/\z=.slice (some ⟨g5,0,none⟩) 1 1)]) _ 3
       (hS:=fun _ _=>trivial) (hstep:=⟨⟨_,rfl,fun v V J U K hK=>?_⟩,⟨_,rfl,fun v V J U K hK=>?_⟩,⟨_,rfl,fun v V J U K hK=>?_⟩,trivial⟩) (hend:=fun v V J U _ fu=>?_)
      ·have h0:=(qeH (Y.o.2.2.2.below (qb2 J)).row).2.1;exact gV hK rfl
      ·have h0:=((qb2 J).cell (qac wr _ bv)).trans bv;exact gV hK rfl
      ·have e4:v 4=_:=U.1;rw [e4] at hK ⊢;exact gW hK (h:=⟨⟨V.heap.size,qM _ _ _ rfl,rfl⟩,qbS qB qN⟩)
      have e1:v 1=_:=U 1 (by decide) (by decide);obtain⟨g5,aO,e5⟩:∃g:Nat,_:=U 5 (by decide) (by decide);have I:=Y.o.2.2.2.below (qb2 J);have bW:=zkeep (qb2 J) _ _ Y.o.2.2.1;have bJ:H.heap.size+1<=V.heap.size:=(qG I.row).1;obtain⟨v',w4,hr,G,af⟩:=qky 32 (c:=1) (m:=1) (l2:=[aK]) I.tos.1 bJ (qfk (q:=[aK]) aO 0) rfl (by decide) (by rw [qgk];simp;omega);rw [<-aZ,<-qkL] at G;obtain⟨a5,c5,rfl⟩:=qdN G;rw [qgk] at hr G af;rw [e1,e5];refine hE 6 (he:=by exact qgR rfl rfl rfl rfl hr) (h:=⟨trivial,hN (h:=?_)⟩);have bB:∀k,vo.ownBlock=some k->H.heap.size+1<=k:=fun k Z=>(I.tos.1.lt k Z).1
      have aH:Below H.heap.size H w4:=qdB I.old (fun k Z=>by have:=bB k Z;omega) (by omega) af;obtain⟨aa,cZ⟩:=qcH I.row (fun e=>by have:=bB _ e;omega) af;have bM:=I.tos.2.off I.tos.1 af;have bz:=(qcH bW HW.o.2.1 af).1;have b1:=(qeH aa).2.1;have f1:=(qeH aa).2.2 3;refine hT 7 (hS:=trivial) (h:=?_);refine hSg 8 (h:=⟨trivial,?_⟩);obtain⟨W8,aC⟩:=qY (w4.setCell ⟨H.heap.size,3,none⟩ (.slice a5 (j+1) c5));have aF:w4.grownBy W8 (some H.heap.size):=aC▸qgS _ _ _;have H8:Kn (fun W=>ElSt H W m n (j+1) j vr (.slice a5 (j+1) c5)/\W.heap[g]? = some (.cells (q.map fun z=>Value.int .i64 z).toArray 3 (0,0))) W8:=.of
       ⟨⟨aC▸aH.setCell (p:=⟨H.heap.size,3,none⟩) qN _,aC▸heap_setCell_same _ _ 3 _ _ _ aa,ElTo.apart ⟨G,bM⟩ aF (qal (Nat.lt_succ_self _))⟩,
        (aF.block _ (qG bz).1 (fun e=>by have:=HW.o.1;have:=qah e;omega)).trans bz⟩
      have dV:=HW.o.2.2;rw [<-aC];refine wpAnyH_done (by kernel_rfl) ?_ _;clear aC aF b1 f1 bz bM cZ aa aH bB G af hr bJ bW I e5 aO e1 U J bv hS0;go_upto_region 20 with fail;refine wp_region_held_drew (S:=fun _=>True) (by kernel_rfl) trivial (fun hS0=>?_);refine hT 0 (h:=hT 3 (h:=?_));refine hT 4 (v:=.slice (some ⟨g,1,none⟩) n n) (hy:=by (intro w dX;go_simp;rw [if_pos (by omega),if_neg (by omega)])) (h:=?_);have bF:H.heap.size+1<=W8.heap.size:=(qG H8.o.1.row).1;have di:q.drop 1=elRow m n j:=by
       refine List.ext_getElem (by rw [qbm,Y.o.1,qgl];omega) fun k h1 h2=>?_
       have dW:k<n:=by rwa [qgl] at h2
       have h3:=Y.o.2.1 (k+1) (by omega);rw [qaa,qad (by rw [Y.o.1];omega)] at h3;rw [List.getElem_drop,elRow_at h2];have e:q[1+k]'(by rw [Y.o.1];omega)=q[k+1]'(by rw [Y.o.1];omega):=by congr 1;omega
       rw [e];exact h3
      have dF:=qH di;clear di;refine gr [(1,60),(2,61),(5,64),(6,65)] [(5,[2]),(6,[5])] [0,3,4] [1,2,5,6] [] 7 10 (fl2 [(1,fun z _=>z=vr),(2,fun z W=>∃g5:Nat,(W.heap[g5]? = some (.cells #[] 3 (0,0))/\W8.heap.size<=g5)/\z=.slice (some ⟨g5,0,none⟩) 0 0),
        (5,fun z W=>IOwn W (H.heap.size+1) z (elRow m n j)/\qj2 n W8.heap.size z),(6,fun z W=>∃g6:Nat,∃u:Value,(W.heap[g6]? = some (.cells #[u] 32 (0,0))/\IOwn W (H.heap.size+1) u (elRow m n j))/\qj2 n W8.heap.size u/\z=.slice (some ⟨g6,0,none⟩) 1 1)]) _ 3
       (hS:=fun _ _=>trivial) (hstep:=⟨⟨_,rfl,fun v V J U K hK=>?_⟩,⟨_,rfl,fun v V J U K hK=>?_⟩,⟨_,rfl,fun v V J U K hK=>?_⟩,⟨_,rfl,fun v V J U K hK=>?_⟩,trivial⟩) (hend:=fun v V J U _ fu=>?_)
      ·have h0:=(qeH (H8.o.1.below (qb2 J)).row).1;exact gV hK rfl
      ·exact gW hK (h:=⟨⟨V.heap.size,⟨qM _ _ _ rfl,(qb2 J).size⟩,rfl⟩,qbS qB qN⟩)
      ·obtain⟨g5,⟨aO,dU⟩,e2⟩:∃g:Nat,_:=U.1;have ag:=qb2 J;obtain⟨vi,w4,dO,G,af,dM⟩:=qi7 32 (B:=H.heap.size+1) (c:=n) (m:=n) (l2:=q.drop 1) aO (qaj bF ag.size) (qfk (zkeep ag _ _ H8.o.2) 1) (by rw [qbm,Y.o.1];omega) (by omega) (by omega);rw [dF.o] at G;have bS:Below V.heap.size V w4:=qeI dM;have ay:qj2 n W8.heap.size vi:=by
        refine⟨by obtain⟨ai,ci,e⟩:=qdN G;rw [qgl] at e;exact⟨ai,ci,e⟩,?_⟩;exact⟨_,af,ag.size⟩
       rw [e2] at hK ⊢;exact gW hK (he:=qgR rfl rfl rfl rfl dO) (hE:=fun h=>absurd h (by decide)) (h:=⟨⟨G,ay⟩,bS⟩)
      ·obtain⟨G,⟨ai,ci,e5⟩,ay⟩:=U.1;rw [e5] at hK G ay ⊢;have ay:qj2 n W8.heap.size (.slice ai n ci):=⟨⟨ai,ci,rfl⟩,ay⟩;exact gW hK (h:=⟨⟨V.heap.size,_,⟨qM _ _ _ rfl,G.below (qbS qB qN)⟩,ay,rfl⟩,qbS qB qN⟩)
      have e1:v 1=_:=U 1 (by decide) (by decide);obtain⟨g6,vi,⟨bX,G⟩,⟨⟨ai,ci,dA⟩,ki,aW,cz⟩,e6⟩:∃g:Nat,_:=U 6 (by decide) (by decide);have ag:=qb2 J;have bZ:vi.ownBlock≠(Value.slice a5 (j+1) c5).ownBlock:=fun e=>by
       rw [aW] at e;have:=(H8.o.1.tos.1.lt ki e.symm).2;omega
      have aA:=H8.o.1.below ag;have aY:H.heap.size+1<=V.heap.size:=qaj bF ag.size;have bE:=(Classical.choose_spec aA.tos.2).1;obtain⟨v7,w7,dw,au,aQ⟩:=run_irow 77 (c:=1) bE aY bX (by rw [dA];rfl) (by omega);have aJ:=ElTo.row aA.tos (by omega) G bZ au aQ;have bC:∀k,vr.ownBlock=some k->H.heap.size+1<=k:=fun k Z=>(bE.lt k Z).1
      have aI:Below H.heap.size H w7:=qdB aA.old (fun k Z=>by have:=bC k Z;omega) (by omega) aQ;obtain⟨F,_⟩:=qcH aA.row (fun e=>by have:=bC _ e;omega) aQ;obtain⟨a7,c7,rfl⟩:=qdN au;rw [e1,e6];refine hE 7 (he:=by exact qgR rfl rfl rfl rfl dw) (h:=⟨trivial,hN (h:=?_)⟩);have b1:=(qeH F).1;have f1:=(qeH F).2.2 2;refine hT 8 (hS:=trivial) (h:=?_);refine hSg 9 (h:=⟨trivial,?_⟩);obtain⟨W9,aD⟩:=qY (w7.setCell ⟨H.heap.size,2,none⟩ (.slice a7 (j+1) c7));have aV:w7.grownBy W9 (some H.heap.size):=aD▸qgS _ _ _;have H9:Hu (ElSt H W9 m n (j+1) (j+1) (.slice a7 (j+1) c7) (.slice a5 (j+1) c5)):=qH
       ⟨aD▸aI.setCell (p:=⟨H.heap.size,2,none⟩) qN _,aD▸heap_setCell_same _ _ 2 _ _ _ F,ElTo.apart aJ aV (qal (Nat.lt_succ_self _))⟩
      rw [<-aD];refine wpAnyH_done (by kernel_rfl) ?_ _;clear aD aV b1 f1 F aI bC aJ aQ au dw bE aY aA bZ G aW cz dA bX e6 bF ag e1 U J hS0 cu;go_wp2;go_roundw
      case rel =>
       refine⟨j+1,by go_num,ah,qH ⟨_,_,H9.o,fun c hc k Z=>?_⟩⟩;rcases qaM c j with h | h
       ·exact dH.o c h k Z
       ·obtain rfl:c=j:=by omega
        exact dx.o k Z
      case measure=>simp [intOf];omega
  ·obtain rfl:j=3:=by omega
   obtain⟨ao,co,rfl⟩:=qdN hS.tos.1;obtain⟨ar,cr,rfl⟩:=qdN (Classical.choose_spec hS.tos.2).1;rw [qgk] at hS;have y0:=qC _ _ 0 _ _ _ hS.row;have y1:=qC _ _ 1 _ _ _ hS.row;have y2:=qC _ _ 2 _ _ _ hS.row;have y3:=qC _ _ 3 _ _ _ hS.row;have y4:=qC _ _ 4 _ _ _ hS.row;have y5:=qC _ _ 5 _ _ _ hS.row;have y6:=qC _ _ 6 _ _ _ hS.row;have y7:=qC _ _ 7 _ _ _ hS.row;have y8:=qC _ _ 8 _ _ _ hS.row;have y9:=qC _ _ 9 _ _ _ hS.row;have K9:=K3.below hS.old;have Hr:=qH K9.o.1.2;have HS:=qH (qA hS aS);have dP:w.heap.size<H.heap.size:=(qG K3.o.1.2).1;have HE:=qH (qA (qT _ _ _ #[.int .i64 2,.slice none 0 0,.slice ar 3 cr,.slice ao 3 co,.slice none 0 0,.int .i64 0,.slice none 0 0,.slice none 0 0,.int .i64 0,.int .i64 0] _ _ Hr.o) (qA (qS K9.o.1.1 (qae w.heap.size) #[.int .i64 2,.slice none 0 0,.slice ar 3 cr,.slice ao 3 co,.slice none 0 0,.int .i64 0,.slice none 0 0,.slice none 0 0,.int .i64 0,.int .i64 0]) (ElTo.apart hS.tos (qci _ _ #[.int .i64 2,.slice none 0 0,.slice ar 3 cr,.slice ao 3 co,.slice none 0 0,.int .i64 0,.slice none 0 0,.slice none 0 0,.int .i64 0,.int .i64 0]) (qal (show w.heap.size<H.heap.size+1 by omega)))));clear hI hS aS K9 dP
   go_wp2_with ((with_reducible refine sR_ rfl 82 _ _ rfl (w.heap.size) #[.int .i64 2,.slice none 0 0,.slice ar 3 cr,.slice ao 3 co,.slice none 0 0,.int .i64 0,.slice none 0 0,.slice none 0 0,.int .i64 0,.int .i64 0] Hr.o 10 ?_))
   refine qR (v:=.agg #[.int .i64 2,.slice none 0 0,.slice ar 3 cr,.slice ao 3 co,.slice none 0 0,.int .i64 0,.slice none 0 0,.slice none 0 0,.int .i64 0,.int .i64 0]) (rA_ rfl (w.heap.size) HE.o.1 underlying82 10) rfl ⟨HE.o.2.1,qal ⟨_,_,_,_,_,_,rfl,n,HM.o,fun c hc k Z=>HS.o.2 c hc k Z,_,_,_,rfl,HE.o.2.2⟩⟩
theorem qgJ {W W':World} {B:Nat} {e:TypeId} {s n:Nat} {x:Value} {G:List Value} (hx:W.ownsRow B e s x n G) (H:e≠82) (I:e≠39)
  (V:∀(g:Nat) (cs:Array Value) (t:TypeId) (F:Nat×Nat),W.heap[g]? = some (.cells cs t F)->t≠82->t≠39->W'.heap[g]? = some (.cells cs t F)):W'.ownsRow B e s x n G:=by
 refine⟨hx.1,?_⟩;rcases hx.2 with h | ⟨g,cap,cur,rfl,J,O,U⟩
 ·exact qal h
 ·exact qag ⟨g,cap,cur,rfl,J,V _ _ _ _ O H I,U⟩
theorem ElG.kept {m:Md} {W W':World} {v:Value} (F:∀(g:Nat) (cs:Array Value) (t:TypeId) (G:Nat×Nat),W.heap[g]? = some (.cells cs t G)->t≠82->t≠39->W'.heap[g]? = some (.cells cs t G)) (h:ElG m W v):ElG m W' v:=by
 obtain⟨n,J,O,B,vr,Z,U,V,vs,Y,H⟩:=h;exact⟨n,J,O,B,vr,Z,U,qgJ V (by decide) (by decide) F,vs,qgJ Y (by decide) (by decide) F,fun c I=>⟨qgJ (H c I).1 (by decide) (by decide) F,(H c I).2⟩⟩
def ElAs (w:World) (m:Md) (e:Ending) (F:World):Prop :=
 Below w.heap.size w F/\((∃v,e=.returned (.tuple #[v,.int .i64 0])/\ElG m F v)\/∃c,e=.returned (.tuple #[.agg #[.int .i64 0,.slice none 0 0,.slice none 0 0,.slice none 0 0,.slice none 0 0,.int .i64 0,.slice none 0 0,.slice none 0 0,.int .i64 0,.int .i64 0],.int .i64 c])/\ElF m c)
theorem qjx (m:Md) (v:Value) (w:World) (hM:MdAt w v m) (U:∀q,q<3->(m.row q).length<=4611686018427387904) (hT:HasT w) (hE:HasE w) :
  Calls prog 28 #[v] w fun e w'=>ElAs w m e w':=by
 obtain⟨a,b',o,d,rfl,hF⟩:=hM.parts;obtain⟨W3,O,F⟩:=nw2 w #[.int .i64 m.kind,.int .i64 m.inn,.slice (a 0) (m.row 0).length (d 0),.slice (a 1) (m.row 1).length (d 1),.slice (a 2) (m.row 2).length (d 2)] 38 #[.int .i64 0,.slice none 0 0,.slice none 0 0,.slice none 0 0,.slice none 0 0,.int .i64 0,.slice none 0 0,.slice none 0 0,.int .i64 0,.int .i64 0] 82;have aa:=@hmf_ prog;have HG:=qH (qik 89 #[.pointer (some ⟨w.heap.size,0,none⟩)] (ElG m) (ElF m) W3 (fun W=>enters func89 (by kernel_rfl) (by kernel_rfl) _ W)
  (fun W W' v hk h=>h.kept hk)
  (fun w1 V=>el1_any m w.heap.size a b' o d w1 U (zkeep V _ _ F.o.2.1) (fun q hq=>(hF q hq).below (F.o.1.trans (V.mono F.o.1.size))) (hT.below (F.o.1.trans (V.mono F.o.1.size))) (hE.below (F.o.1.trans (V.mono F.o.1.size)))))
 have Y:=qH (qA F.o.1 F.o.2.2);clear hM U hT hE hF F;go_enter func28,ntmps28;go_upto_region 1 with fail;rw [<-O];clear O;go_wp2_with fail;refine HG.o.mono ?_;rintro e w5 ⟨H,h⟩;have I:=qH (Y.o.1.trans (H.mono Y.o.1.size));have J:=qH (zkeep H _ _ Y.o.2);clear H HG;rcases h with ⟨p2,n2,c2,p3,n3,c3,rfl,hg⟩ | ⟨cc,rfl,hf⟩
 ·have G:=qH (qA (qT _ _ _ #[.int .i64 2,.slice none 0 0,.slice p2 n2 c2,.slice p3 n3 c3,.slice none 0 0,.int .i64 0,.slice none 0 0,.slice none 0 0,.int .i64 0,.int .i64 0] _ _ J.o) (qA (qS I.o (show w.heap.size<=w.heap.size+1 by omega) #[.int .i64 2,.slice none 0 0,.slice p2 n2 c2,.slice p3 n3 c3,.slice none 0 0,.int .i64 0,.slice none 0 0,.slice none 0 0,.int .i64 0,.int .i64 0]) (hg.kept (W':=w5.setRow (w.heap.size+1) #[.int .i64 2,.slice none 0 0,.slice p2 n2 c2,.slice p3 n3 c3,.slice none 0 0,.int .i64 0,.slice none 0 0,.slice none 0 0,.int .i64 0,.int .i64 0]) fun g cs t fz h h1 _=>by
   have n1:g≠w.heap.size+1:=fun e=>h1 (by rw [e] at h;have:=h.symm.trans J.o;simp at this;exact this.2.1)
   rw [setRow_other _ _ _ _ n1];exact h)))
  clear hg;rename_i Z;dsimp only;refine Z _ _ ?_
  go_wp2_with ((with_reducible refine sR_ rfl 82 _ _ rfl ((w.heap.size+1)) #[.int .i64 2,.slice none 0 0,.slice p2 n2 c2,.slice p3 n3 c3,.slice none 0 0,.int .i64 0,.slice none 0 0,.slice none 0 0,.int .i64 0,.int .i64 0] J.o 10 ?_))
  exact qR (v:=.tuple #[.agg #[.int .i64 2,.slice none 0 0,.slice p2 n2 c2,.slice p3 n3 c3,.slice none 0 0,.int .i64 0,.slice none 0 0,.slice none 0 0,.int .i64 0,.int .i64 0],.int .i64 0]) (rB_ rfl (w.heap.size+1) G.o.1 underlying82 10) rfl ⟨G.o.2.1,qal ⟨_,rfl,G.o.2.2⟩⟩
 ·have G:=qH (qA (qT _ _ _ #[.int .i64 0,.slice none 0 0,.slice none 0 0,.slice none 0 0,.slice none 0 0,.int .i64 0,.slice none 0 0,.slice none 0 0,.int .i64 0,.int .i64 0] _ _ J.o) (qA (qS I.o (show w.heap.size<=w.heap.size+1 by omega) #[.int .i64 0,.slice none 0 0,.slice none 0 0,.slice none 0 0,.slice none 0 0,.int .i64 0,.slice none 0 0,.slice none 0 0,.int .i64 0,.int .i64 0]) hf));clear hf;rename_i Z;dsimp only;refine Z _ _ ?_
  go_wp2_with ((with_reducible refine sR_ rfl 82 _ _ rfl ((w.heap.size+1)) #[.int .i64 0,.slice none 0 0,.slice none 0 0,.slice none 0 0,.slice none 0 0,.int .i64 0,.slice none 0 0,.slice none 0 0,.int .i64 0,.int .i64 0] J.o 10 ?_))
  exact qR (v:=.tuple #[.agg #[.int .i64 0,.slice none 0 0,.slice none 0 0,.slice none 0 0,.slice none 0 0,.int .i64 0,.slice none 0 0,.slice none 0 0,.int .i64 0,.int .i64 0],.int .i64 cc]) (rB_ rfl (w.heap.size+1) G.o.1 underlying82 10) rfl ⟨G.o.2.1,qag ⟨cc,rfl,G.o.2.2⟩⟩
