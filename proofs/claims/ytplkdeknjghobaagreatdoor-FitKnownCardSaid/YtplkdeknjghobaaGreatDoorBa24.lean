import Derived.Test.YtplkdeknjghobaaGreatDoorBa23
set_option maxRecDepth 100000
set_option maxHeartbeats 0
namespace Go.Proofs.YtplkdeknjghobaaGreatDoor
open Go.RowKit
theorem qch.uniq {z:Int} {k k':Nat} (h:qch z k) (h':qch z k'):k'=k:=by have:=h.1;have:=h'.1;omega
theorem ql4 {k n m:Nat} {x y:Nat→Nat→Rat} (h:∀c,c<3→told m (x c)=told m (y c)):mdq k n m x=mdq k n m y:=by
 unfold mdq
 rw [h 0 (by decide),h 1 (by decide),h 2 (by decide)]
theorem FitAs.only {w:World} {l:List Pt} {kind:Int} {k:Nat} {ws:List Int} {e:Ending} {w':World} {X:Nat→Nat→Rat} (h:FitAs w l kind ws e w') (hP:PtsOk l) (hws:ws.length=l.length) (hW:WOk ws) (hk:qch kind k) (h3:¬(k=3∧chans l=4))
  (hs:¬Sing (many k (chans l)) (nq l k ws 0)) (hX:∀c,c<3→FitX l k ws c (X c)∧qbQ (many k (chans l)) (X c)):Below w.heap.size w w'∧∃v,e=.returned (.tuple #[v,.int .i64 0])∧MdAt w' v (mdq k (chans l) (many k (chans l)) X):=by
 refine⟨h.1,?_⟩
 have hsc:∀c,¬Sing (many k (chans l)) (nq l k ws c):=fun c hc=>hs (qh2 hc)
 rcases h.2 with ⟨v,rfl,_,_,_,k',hk',_,_,x,hx,hM⟩ | ⟨c,rfl,hf⟩
 ·obtain rfl:=hk.uniq hk'
  refine⟨v,rfl,?_⟩
  rw [ql4 fun c hc=>qfV ((hx c hc).1.uniq (hsc c) (hX c hc).1)] at hM
  exact hM
 ·exfalso
  rcases hf with ⟨h,_⟩ | ⟨_,h,_⟩ | ⟨_,_,_,k',hk',h⟩
  ·exact h hP
  ·exact h ⟨⟨k,hk⟩,hws,hW⟩
  ·obtain rfl:=hk.uniq hk'
   rcases h with ⟨a,b,_⟩ | ⟨_,⟨h,_⟩ | ⟨_,c,x,hc,hx,hn,_⟩⟩
   ·exact h3 ⟨a,b⟩
   ·exact hs h
   ·exact hn ((hX c hc).2.congr (qc4.uniq (hsc c) (hX c hc).1 hx))
theorem FitAs.sing {w:World} {l:List Pt} {kind:Int} {k:Nat} {ws:List Int} {e:Ending} {w':World} (h:FitAs w l kind ws e w') (hP:PtsOk l) (hws:ws.length=l.length) (hW:WOk ws) (hk:qch kind k) (h3:¬(k=3∧chans l=4))
  (hs:Sing (many k (chans l)) (nq l k ws 0)):Below w.heap.size w w'∧e=.returned (.tuple #[mdv0,.int .i64 7]):=by
 refine⟨h.1,?_⟩
 rcases h.2 with ⟨v,rfl,_,_,_,k',hk',_,hn,_⟩ | ⟨c,rfl,hf⟩
 ·obtain rfl:=hk.uniq hk';exact absurd hs hn
 ·rcases hf with ⟨h,_⟩ | ⟨_,h,_⟩ | ⟨_,_,_,k',hk',h⟩
  ·exact absurd hP h
  ·exact absurd ⟨⟨k,hk⟩,hws,hW⟩ h
  ·obtain rfl:=hk.uniq hk'
   rcases h with ⟨a,b,_⟩ | ⟨_,⟨_,rfl⟩ | ⟨h,_⟩⟩
   ·exact absurd ⟨a,b⟩ h3
   ·rfl
   ·exact absurd hs h
theorem qiH {k n:Nat} {X:Nat→Nat→Rat} (hk:1≤k∧k≤3) (h1:1≤n) (h4:n≤4) (h3:¬(k=3∧n=4)) (hX:∀c,c<3→qbQ (many k n) (X c)):MdOk (mdq k n (many k n) X) k n :=
 ⟨⟨rfl,hk⟩,⟨rfl,h1,h4⟩,h3,fun c hc=>by rw [qfM hc];exact⟨qbM _ _,qdx (hX c hc)⟩⟩
theorem MdOk.uniq {m:Md} {k n k' n':Nat} (h:MdOk m k n) (h':MdOk m k' n'):k'=k∧n'=n:=⟨h.kind.uniq h'.kind,by have:=h.inn.1;have:=h'.inn.1;omega⟩
theorem apq_mdq {k n m:Nat} {X:Nat→Nat→Rat} {dv:List Int} {kk c:Nat} (hm:many kk dv.length≤m) (hc:c<3):apq (mdq k n m X) dv kk c=sumQ (many kk dv.length) fun j=>termQ kk dv j*X c j:=by
 unfold apq
 rw [qfM hc]
 exact qbU fun i hi=>by rw [qcO (by omega)]
theorem ApAs.only {w:World} {m:Md} {k:Nat} {dv:List Int} {e:Ending} {w':World} (h:ApAs w m dv e w') (hM:MdOk m k dv.length) (hV:qcn dv) (hs:∀c,c<3→Short (apq m dv k c)):Below w.heap.size w w' ∧
  e=.returned (.tuple #[.agg #[.string (ftxt (apq m dv k 0)).1,.string (ftxt (apq m dv k 0)).2,.string (ftxt (apq m dv k 1)).1,.string (ftxt (apq m dv k 1)).2,.string (ftxt (apq m dv k 2)).1,.string (ftxt (apq m dv k 2)).2],.int .i64 0]):=by
 refine⟨h.1,?_⟩
 rcases h.2 with ⟨v,rfl,_,k',hk',_,rfl⟩ | ⟨c,rfl,hf⟩
 ·obtain rfl:=(hM.uniq hk').1;rfl
 ·exfalso
  rcases hf with ⟨h,_⟩ | ⟨_,h,_⟩ | ⟨_,_,k',hk',h⟩
  ·exact h ⟨_,_,hM⟩
  ·exact h ⟨hM.inn.1.symm,hV⟩
  ·obtain rfl:=(hM.uniq hk').1;exact h hs
theorem sqq_mdq {k n m:Nat} {X:Nat→Nat→Rat} {l:List Pt} {kk i:Nat} (hm:many kk (chans l)≤m):sqq (mdq k n m X) l kk i=msR 3 (many kk (chans l)) X (fun q=>labq l q i) (fun _=>1) (tqf l kk i):=by
 unfold sqq msR
 refine qbU fun q hq=>?_
 have:(sumQ (many kk (chans l)) fun j=>lval ((mdq k n m X).row q) j*tqf l kk i j)=sumQ (many kk (chans l)) fun j=>X q j*tqf l kk i j:=by
  rw [qfM hq]
  exact qbU fun j hj=>by rw [qcO (by omega)]
 have hr:resR (many kk (chans l)) (fun q=>lval ((mdq k n m X).row q)) (fun q=>labq l q i) (tqf l kk i) q=resR (many kk (chans l)) X (fun q=>labq l q i) (tqf l kk i) q:=by
  unfold resR
  rw [this]
 rw [hr]
theorem SqAs.only {w:World} {m:Md} {k:Nat} {l:List Pt} {e:Ending} {w':World} (h:SqAs w m l e w') (hP:PtsOk l) (hM:MdOk m k (chans l)) (hs:qbQ l.length (sqq m l k)):Below w.heap.size w w' ∧
  ∃g,e=.returned (.tuple #[.slice (some ⟨g,0,none⟩) l.length l.length,.int .i64 0])∧FCells w' (some ⟨g,0,none⟩) g 0 (told l.length (sqq m l k)):=by
 refine⟨h.1,?_⟩
 rcases h.2 with ⟨v,rfl,_,k',hk',_,g,rfl,hF⟩ | ⟨c,rfl,hf⟩
 ·obtain rfl:=(hM.uniq hk').1;exact⟨g,rfl,hF⟩
 ·exfalso
  rcases hf with ⟨h,_⟩ | ⟨_,h,_⟩ | ⟨_,_,h,_⟩ | ⟨_,_,k',hk',h⟩
  ·exact h ⟨_,_,hM⟩
  ·exact h hP
  ·exact h hM.inn.1
  ·obtain rfl:=(hM.uniq hk').1;exact h hs
def ramp:List Pt:=[⟨⟨#[97]⟩,[0],0,0,0⟩,⟨⟨#[98]⟩,[5000],6000,0,0⟩,⟨⟨#[99]⟩,[10000],10000,0,0⟩]
theorem qgl {c:UInt8} (h:qdm c=true):qjR ⟨#[c]⟩:=⟨qad 1,show 1≤12 by decide,fun k hk=>by
 have hk:k<1:=hk
 obtain rfl:k=0:=by omega
 exact h⟩
theorem qfH {z:Int} (h:0≤z∧z≤10000):qcn [z]:=fun k hk=>by
 have hk:k<1:=hk
 obtain rfl:k=0:=by omega
 exact h
theorem qfR:PtsOk ramp where
 r1:=by decide
 r2:=by decide
 rows:=fun k hk=>by
  have hk:k<3:=hk
  rcases (show k=0∨k=1∨k=2 by omega) with rfl | rfl | rfl
  ·exact⟨⟨qgl (by decide),by decide,by decide,qfH (by decide),by decide,by decide,by decide⟩,rfl⟩
  ·exact⟨⟨qgl (by decide),by decide,by decide,qfH (by decide),by decide,by decide,by decide⟩,rfl⟩
  ·exact⟨⟨qgl (by decide),by decide,by decide,qfH (by decide),by decide,by decide,by decide⟩,rfl⟩
 apart:=fun i k h1 h2=>by
  have h2:i<3:=h2
  rcases (show (k=0∧i=1)∨(k=0∧i=2)∨(k=1∧i=2) by omega) with ⟨rfl,rfl⟩ | ⟨rfl,rfl⟩ | ⟨rfl,rfl⟩
  ·exact (by decide:(⟨#[97]⟩:ByteArray)≠⟨#[98]⟩)
  ·exact (by decide:(⟨#[97]⟩:ByteArray)≠⟨#[99]⟩)
  ·exact (by decide:(⟨#[98]⟩:ByteArray)≠⟨#[99]⟩)
def fitX1 (c:Nat):Nat→Rat:=if c=0 then fv [10 / 3,100] else fv [0,0]
def fitX2 (c:Nat):Nat→Rat:=if c=0 then fv [0,140,-40] else fv [0,0,0]
theorem fit1_x:∀c,c<3→FitX ramp 1 [1,1,1] c (fitX1 c)∧qbQ 2 (fitX1 c):=fun c hc=>by
 rcases (show c=0∨c=1∨c=2 by omega) with rfl | rfl | rfl
 ·exact⟨show ∀i,i<2→_ from by decide +kernel,qcN (by decide +kernel)⟩
 ·exact⟨show ∀i,i<2→_ from by decide +kernel,qcN (by decide +kernel)⟩
 ·exact⟨show ∀i,i<2→_ from by decide +kernel,qcN (by decide +kernel)⟩
theorem fit2_x:∀c,c<3→FitX ramp 2 [1,1,1] c (fitX2 c)∧qbQ 3 (fitX2 c):=fun c hc=>by
 rcases (show c=0∨c=1∨c=2 by omega) with rfl | rfl | rfl
 ·exact⟨show ∀i,i<3→_ from by decide +kernel,qcN (by decide +kernel)⟩
 ·exact⟨show ∀i,i<3→_ from by decide +kernel,qcN (by decide +kernel)⟩
 ·exact⟨show ∀i,i<3→_ from by decide +kernel,qcN (by decide +kernel)⟩
theorem fit1_one:¬Sing 2 (nq ramp 1 [1,1,1] 0):=qiN (fm [[5 / 6,-1],[-1,2]]) (by decide +kernel)
theorem fit2_one:¬Sing 3 (nq ramp 2 [1,1,1] 0):=qiN (fm [[1,-3,2],[-3,26,-24],[2,-24,24]]) (by decide +kernel)
theorem qly:Sing 3 (nq ramp 2 [1,1,0] 0):=⟨fv [0,1,-2],⟨1,by decide,by decide +kernel⟩,show ∀i,i<3→_ from by decide +kernel⟩
theorem qmm:WOk [1,1,1]:=show ∀k,k<3→_ from by decide
theorem ones0_ok:WOk [1,1,0]:=show ∀k,k<3→_ from by decide
theorem kind1:qch 1 1:=⟨rfl,by decide,by decide⟩
theorem kind2:qch 2 2:=⟨rfl,by decide,by decide⟩
theorem kind3:qch 3 3:=⟨rfl,by decide,by decide⟩
theorem ex_fit1 {w w':World} {e:Ending} (h:FitAs w ramp 1 [1,1,1] e w'):Below w.heap.size w w'∧∃v,e=.returned (.tuple #[v,.int .i64 0])∧MdAt w' v (mdq 1 1 2 fitX1) :=
 h.only qfR rfl qmm kind1 (by decide) fit1_one fit1_x
theorem ex_fit2 {w w':World} {e:Ending} (h:FitAs w ramp 2 [1,1,1] e w'):Below w.heap.size w w'∧∃v,e=.returned (.tuple #[v,.int .i64 0])∧MdAt w' v (mdq 2 1 3 fitX2) :=
 h.only qfR rfl qmm kind2 (by decide) fit2_one fit2_x
theorem ex_fit3 {w w':World} {e:Ending} (h:FitAs w ramp 2 [1,1,0] e w'):Below w.heap.size w w'∧e=.returned (.tuple #[mdv0,.int .i64 7]) :=
 h.sing qfR rfl ones0_ok kind2 (by decide) qly
theorem qiG:MdOk (mdq 1 1 2 fitX1) 1 1:=qiH (k:=1) (n:=1) (by decide) (by decide) (by decide) (by decide) fun c hc=>(fit1_x c hc).2
theorem ex_ap {c:Nat} (hc:c<3):apq (mdq 1 1 2 fitX1) [5000] 1 c=if c=0 then 160 / 3 else 0:=by
 rw [apq_mdq (by decide) hc]
 rcases (show c=0∨c=1∨c=2 by omega) with rfl | rfl | rfl <;> decide +kernel
theorem ex_apply {w w':World} {e:Ending} (h:ApAs w (mdq 1 1 2 fitX1) [5000] e w'):Below w.heap.size w w'∧e=.returned (.tuple #[.agg #[.string ⟨#[49,54,48]⟩,.string ⟨#[51]⟩,.string ⟨#[48]⟩,.string ⟨#[49]⟩,.string ⟨#[48]⟩,.string ⟨#[49]⟩],.int .i64 0]):=by
 obtain⟨hb,he⟩:=h.only qiG (qfH (by decide)) (fun c hc=>by
  rw [ex_ap hc]
  rcases (show c=0∨c=1∨c=2 by omega) with rfl | rfl | rfl
  ·exact qdg (N:=1000) ⟨by decide +kernel,by decide +kernel⟩ (by decide +kernel)
  ·exact qdg (N:=1000) ⟨by decide +kernel,by decide +kernel⟩ (by decide +kernel)
  ·exact qdg (N:=1000) ⟨by decide +kernel,by decide +kernel⟩ (by decide +kernel))
 refine⟨hb,he.trans ?_⟩
 rw [ex_ap (c:=0) (by decide),ex_ap (c:=1) (by decide),ex_ap (c:=2) (by decide),if_pos rfl,if_neg (by decide),if_neg (by decide),ft_0]
 have e1:ftxt (160 / 3)=(⟨#[49,54,48]⟩,⟨#[51]⟩):=by
  unfold ftxt
  rw [show ((160 / 3:Rat)).num=160 by decide +kernel,show ((160 / 3:Rat)).den=3 by decide +kernel,frac.qeU (by decide),qdr (u:=3) (by decide)]
  unfold num
  rw [show (160:Int).natAbs=160 from rfl,qbS (by decide),show 160 / 10=16 from rfl,qbS (by decide),qbR (by decide)]
  rfl
 rw [e1]
theorem ex_sq:∀i,i<3→sqq (mdq 1 1 2 fitX1) ramp 1 i=fv [100 / 9,400 / 9,100 / 9] i:=fun i hi=>by
 rw [sqq_mdq (by decide)]
 rcases (show i=0∨i=1∨i=2 by omega) with rfl | rfl | rfl <;> decide +kernel
theorem qkz {w w':World} {e:Ending} (h:SqAs w (mdq 1 1 2 fitX1) ramp e w'):Below w.heap.size w w'∧∃g,e=.returned (.tuple #[.slice (some ⟨g,0,none⟩) 3 3,.int .i64 0])∧FCells w' (some ⟨g,0,none⟩) g 0 (told 3 (fv [100 / 9,400 / 9,100 / 9])):=by
 obtain⟨hb,g,he,hF⟩:=h.only qfR qiG (fun i hi=>by rw [ex_sq i hi];exact qcN (n:=3) (by decide +kernel) i hi)
 refine⟨hb,g,he,?_⟩
 have:told ramp.length (sqq (mdq 1 1 2 fitX1) ramp 1)=told 3 (fv [100 / 9,400 / 9,100 / 9]):=qfV ex_sq
 rw [this] at hF;exact hF
theorem md_eq {m m2:Md}:m=m2↔m.kind=m2.kind∧m.inn=m2.inn∧m.row 0=m2.row 0∧m.row 1=m2.row 1∧m.row 2=m2.row 2:=by
 obtain⟨k,i,a,b,c⟩:=m
 obtain⟨k',i',a',b',c'⟩:=m2
 constructor
 ·rintro h;cases h;exact⟨rfl,rfl,rfl,rfl,rfl⟩
 ·rintro ⟨h1,h2,h3,h4,h5⟩
  have h3:a=a':=h3
  have h4:b=b':=h4
  have h5:c=c':=h5
  have h1:k=k':=h1
  have h2:i=i':=h2
  subst h1 h2 h3 h4 h5;rfl
theorem ql7 (m m2:Md) (v v2:Value) (w:World) (hM:MdAt w v m) (hM2:MdAt w v2 m2) (hl:∀q,q<3→(m.row q).length≤1000000) (hl2:∀q,q<3→(m2.row q).length≤1000000) :
  Calls Tryz.prog 20 #[v,v2] w fun e w'=>∃ok,e=.returned (.bool ok)∧(ok=true↔m=m2)∧Below w.heap.size w w':=by
 obtain⟨a,b,o,c,rfl,hF⟩:=hM.parts
 obtain⟨a',b',o',c',rfl,hF'⟩:=hM2.parts
 obtain⟨kind,hkind⟩:∃z,m.kind=z:=⟨_,rfl⟩
 obtain⟨inn,hinn⟩:∃z,m.inn=z:=⟨_,rfl⟩
 obtain⟨kind',hkind'⟩:∃z,m2.kind=z:=⟨_,rfl⟩
 obtain⟨inn',hinn'⟩:∃z,m2.inn=z:=⟨_,rfl⟩
 obtain⟨L,hL⟩:∃L:Nat→Nat,∀q,(m.row q).length=L q:=⟨_,fun _=>rfl⟩
 obtain⟨L',hL'⟩:∃L:Nat→Nat,∀q,(m2.row q).length=L q:=⟨_,fun _=>rfl⟩
 have hcall:=fun (q:Nat) (hq:q<3) (W:World) (hb:Below w.heap.size w W)=>qfA (a q) (b q) (o q) (L q) (c q) (m.row q) (a' q) (b' q) (o' q) (L' q) (c' q) (m2.row q) W (hL q) (by have:=hl q hq;rw [hL] at this;exact this) ((hF q hq).below hb) (hL' q) (by have:=hl2 q hq;rw [hL'] at this;exact this) ((hF' q hq).below hb)
 rw [hkind,hinn,hL,hL,hL,hkind',hinn',hL',hL',hL']
 obtain⟨W2,hW2,K2⟩:=nw2 w #[.int .i64 kind,.int .i64 inn,.slice (a 0) (L 0) (c 0),.slice (a 1) (L 1) (c 1),.slice (a 2) (L 2) (c 2)] 38 #[.int .i64 kind',.int .i64 inn',.slice (a' 0) (L' 0) (c' 0),.slice (a' 1) (L' 1) (c' 1),.slice (a' 2) (L' 2) (c' 2)] 38
 have HX:=qH (qA hkind (qA hinn (qA hkind' hinn')))
 have HC:=qH hcall
 have c0:=qC _ _ 0 _ _ _ K2.out.2.1
 have c1:=qC _ _ 1 _ _ _ K2.out.2.1
 have c2:=qC _ _ 2 _ _ _ K2.out.2.1
 have d0:=qC _ _ 0 _ _ _ K2.out.2.2
 have d1:=qC _ _ 1 _ _ _ K2.out.2.2
 have d2:=qC _ _ 2 _ _ _ K2.out.2.2
 clear hcall hM hM2 hF hF' hl hl2 hkind hinn hkind' hinn' hL hL'
 go_enter Tryz.func20,Tryz.ntmps20
 go_upto_region 1 with fail
 rw [←hW2]
 clear hW2
 by_cases hk:kind=kind'
 case neg =>
  have hkb:(kind == kind')=false:=beq_eq_false_iff_ne.2 hk
  have HK:=qH hk
  clear hk
  go_wp2_with fail
  go_ret
  exact⟨false,rfl,qdZ fun h=>HK.out (by rw [←HX.out.1,←HX.out.2.2.1,h]),K2.out.1⟩
 subst hk
 by_cases hi:inn=inn'
 case neg =>
  have hib:(inn == inn')=false:=beq_eq_false_iff_ne.2 hi
  have HI:=qH hi
  clear hi
  go_wp2_with fail
  go_ret
  exact⟨false,rfl,qdZ fun h=>HI.out (by rw [←HX.out.2.1,←HX.out.2.2.2,h]),K2.out.1⟩
 subst hi
 go_wp2_with fail
 refine (HC.out 0 (by decide) W2 K2.out.1).mono ?_
 rintro e w3 ⟨ok0,rfl,h0,hb3⟩
 have K3:=K2.below hb3
 have H0:=qH h0
 clear h0 hb3 c0 c1 c2 d0 d1 d2
 have c0:=qC _ _ 2 _ _ _ K3.out.2.1
 have c1:=qC _ _ 3 _ _ _ K3.out.2.1
 have d0:=qC _ _ 2 _ _ _ K3.out.2.2
 have d1:=qC _ _ 3 _ _ _ K3.out.2.2
 cases ok0 with
 | false =>
  go_wp2_with fail
  go_ret
  exact⟨false,rfl,qdZ fun h=>absurd (H0.out.2 (by rw [h])) (by decide),K3.out.1⟩
 | true =>
 go_wp2_with fail
 refine (HC.out 1 (by decide) w3 K3.out.1).mono ?_
 rintro e w4 ⟨ok1,rfl,h1,hb4⟩
 have K4:=K3.below hb4
 have H1:=qH h1
 clear h1 hb4 c0 c1 d0 d1
 have c0:=qC _ _ 4 _ _ _ K4.out.2.1
 have d0:=qC _ _ 4 _ _ _ K4.out.2.2
 cases ok1 with
 | false =>
  go_wp2_with fail
  go_ret
  exact⟨false,rfl,qdZ fun h=>absurd (H1.out.2 (by rw [h])) (by decide),K4.out.1⟩
 | true =>
 go_wp2_with fail
 refine (HC.out 2 (by decide) w4 K4.out.1).mono ?_
 rintro e w5 ⟨ok2,rfl,h2,hb5⟩
 have K5:=K4.below hb5
 have H2:=qH h2
 clear h2 hb5 c0 d0
 go_wp2_with fail
 go_ret
 refine⟨ok2,rfl,⟨fun h=>md_eq.2 ⟨by rw [HX.out.1,HX.out.2.2.1],by rw [HX.out.2.1,HX.out.2.2.2],H0.out.1 (by trivial),H1.out.1 (by trivial),H2.out.1 h⟩,fun h=>H2.out.2 (by rw [h])⟩,K5.out.1⟩
theorem ql3 (w:World):MdAt w mdv0 md0 :=
 have h:FCells w none 0 0 []:=⟨fun h=>absurd h (by decide),fun k hk=>absurd hk (by simp)⟩
 ⟨none,none,none,0,0,0,0,0,0,0,0,0,rfl,h,h,h⟩
theorem qjA:∀q,q<3→(md0.row q).length≤1000000:=fun q hq=>by
 rcases (show q=0∨q=1∨q=2 by omega) with rfl | rfl | rfl <;> decide
theorem qcV (n:Int) (w:World) :
  Calls Tryz.prog 47 #[.int .i64 n] w fun e w'=>∃b,e=.returned (.func (.func 121) #[] #[.pointer (some ⟨b,0,none⟩)])∧Below w.heap.size w w'∧w'.heap[b]? = some (.cells #[.int .i64 n] 39 (0,0)):=by
 have H:=qH (qA (qbK (o:=.cells #[.int .i64 n] 39) (Below.refl w.heap.size w) qN) (qM w (.cells #[.int .i64 n] 39) _ rfl))
 go_enter Tryz.func47,Tryz.ntmps47
 go_wp2_with fail
 go_ret
 exact⟨_,rfl,H.out.1,H.out.2⟩
theorem qcI (n:Int) (b:Nat) (w:World) (hb:w.heap[b]? = some (.cells #[.int .i64 n] 39 (0,0))) :
  Calls Tryz.prog 121 #[mdv0,.int .i64 n,.pointer (some ⟨b,0,none⟩)] w fun r w'=>r=.returned (.bool true)∧Below w.heap.size w w':=by
 obtain⟨W1,hW1,N1⟩:=nw1 w #[.int .i64 0,.int .i64 0,.slice none 0 0,.slice none 0 0,.slice none 0 0] 38
 have HS:=qH (ql7 md0 md0 _ _ W1 (ql3 W1) (ql3 W1) qjA qjA)
 have H1:=qH (qA N1.out.1 (zkeep N1.out.1 _ _ hb))
 clear N1 hb
 unfold mdv0 at HS ⊢
 go_enter Tryz.func121,Tryz.ntmps121
 go_wp2_with fail
 rw [←hW1]
 clear hW1
 refine HS.out.mono ?_
 rintro e w2 ⟨ok,rfl,hok,hb2⟩
 obtain rfl:ok=true:=hok.2 (by trivial)
 have c0:=qC _ _ 0 _ _ _ (zkeep hb2 _ _ H1.out.2)
 have HB:=qH (H1.out.1.trans (hb2.mono H1.out.1.size))
 clear hb2 hok HS
 go_wp2_with fail
 go_ret
 exact⟨rfl,HB.out⟩
theorem qkT {W:World} {s g:Nat} (h0:W.heap[s]? = some (.cells #[.int .i64 0] 3 (0,0))) (h1:W.heap[s+1]? = some (.cells #[.int .i64 5000] 3 (0,0))) (h2:W.heap[s+1+1]? = some (.cells #[.int .i64 10000] 3 (0,0)))
  (hg:W.heap[g]? = some (.cells #[.string ⟨#[97]⟩,.slice (some ⟨s,0,none⟩) 1 1,.int .i64 0,.int .i64 0,.int .i64 0,.string ⟨#[98]⟩,.slice (some ⟨s+1,0,none⟩) 1 1,.int .i64 6000,.int .i64 0,.int .i64 0,.string ⟨#[99]⟩,.slice (some ⟨s+1+1,0,none⟩) 1 1,.int .i64 10000,.int .i64 0,.int .i64 0] 55 (0,0))):PCells W (some ⟨g,0,none⟩) g 0 ramp:=by
 have one:∀{b:Nat} {z:Int},W.heap[b]? = some (.cells #[.int .i64 z] 3 (0,0))→NCells W (some ⟨b,0,none⟩) b 0 [z]:=fun {b z} h=>⟨fun _=>rfl,fun k hk=>by
  obtain rfl:k=0:=by simp at hk;omega
  exact qC _ _ 0 _ _ _ h⟩
 refine⟨fun _=>rfl,fun k hk=>?_⟩
 have hk:k<3:=hk
 rcases (show k=0∨k=1∨k=2 by omega) with rfl | rfl | rfl
 ·exact⟨qC _ _ 0 _ _ _ hg,⟨_,_,_,_,qC _ _ 1 _ _ _ hg,one h0⟩,qC _ _ 2 _ _ _ hg,qC _ _ 3 _ _ _ hg,qC _ _ 4 _ _ _ hg⟩
 ·exact⟨qC _ _ 5 _ _ _ hg,⟨_,_,_,_,qC _ _ 6 _ _ _ hg,one h1⟩,qC _ _ 7 _ _ _ hg,qC _ _ 8 _ _ _ hg,qC _ _ 9 _ _ _ hg⟩
 ·exact⟨qC _ _ 10 _ _ _ hg,⟨_,_,_,_,qC _ _ 11 _ _ _ hg,one h2⟩,qC _ _ 12 _ _ _ hg,qC _ _ 13 _ _ _ hg,qC _ _ 14 _ _ _ hg⟩
theorem qdt (w:World):Calls Tryz.prog 48 #[] w fun e w'=>∃g,e=.returned (.slice (some ⟨g,0,none⟩) 3 3)∧PCells w' (some ⟨g,0,none⟩) g 0 ramp∧Below w.heap.size w w':=by
 obtain⟨W3,hW3,N3⟩:=nw3 w #[.int .i64 0] 3 #[.int .i64 5000] 3 #[.int .i64 10000] 3
 obtain⟨W4,hW4,N4⟩:=nw1 W3 #[.string ⟨#[97]⟩,.slice (some ⟨w.heap.size,0,none⟩) 1 1,.int .i64 0,.int .i64 0,.int .i64 0,.string ⟨#[98]⟩,.slice (some ⟨w.heap.size+1,0,none⟩) 1 1,.int .i64 6000,.int .i64 0,.int .i64 0,.string ⟨#[99]⟩,.slice (some ⟨w.heap.size+1+1,0,none⟩) 1 1,.int .i64 10000,.int .i64 0,.int .i64 0] 55
 have hb4:=N4.out.1
 have HP:=qH (qA (qkT (zkeep hb4 _ _ N3.out.2.1) (zkeep hb4 _ _ N3.out.2.2.1) (zkeep hb4 _ _ N3.out.2.2.2) N4.out.2) (N3.out.1.trans (hb4.mono N3.out.1.size)))
 have hsz:W3.heap.size=w.heap.size+1+1+1:=by rw [hW3];simp
 rw [hW3] at hW4
 clear N3 N4 hb4
 go_enter Tryz.func48,Tryz.ntmps48
 go_wp2_with fail
 rw [←hW4]
 clear hW4 hW3
 go_ret
 exact⟨_,by rw [hsz];rfl,HP.out.1,HP.out.2⟩
end Go.Proofs.YtplkdeknjghobaaGreatDoor
namespace Go.Proofs.YtplkdeknjghobaaGreatDoor
open Go Go.RowKit
section
variable {P:Program}
theorem qez (w:World) (base:Nat) (t ty e:TypeId) (i:TypeInfo) (z:Value) (size bytes:Nat) (ht:P.underlying t=some (.slice e)) (hi:P.info? e=some i) (hz:i.zero=some z)
  (hsize:i.size=size) (hby:i.bytes=bytes) (hzs:z.cells.size=size) (hsz:0<size)
  (v:Value) (n:Nat) (xs:List Value) (hown:w.ownsRow base e size v n xs)
  (a:Addr) (m c:Nat) (news:List Value) (hl:news.length=m*size) (hnews:∀j u,news[j]? = some u→w.cell? (a.add j)=some u) (h1:∀u∈news,u.oneCell'=true) (hm0:0<m)
  (h63:n+m≤maxLen) (hbytes:(n+m)*bytes≤140737488355328) (hbase:base≤w.heap.size) :
  ∃v' w',(Builtin.append_ #[t,t] ty #[v,.slice (some a) m c]).run P w=.ok v' w'∧w'.ownsRow base e size v' (n+m) (xs++news)∧(v'.ownBlock=v.ownBlock∧w.grownBy w' v.ownBlock∨v'.ownBlock=some w.heap.size∧w.grownBy w' none):=by
 subst hsize
 subst hby
 have hsmall:n+m≤9223372036854775807:=by simp only [maxLen] at h63;omega
 have hlen:(xs++news).length=(n+m)*i.size:=by rw [qae,hown.1,hl,qaA]
 rcases hown.2 with ⟨rfl,rfl⟩ | ⟨g,cap,cur,rfl,hbg,hg,hnc,hcm,hcs,htake⟩
 ·have hx:xs=[]:=List.eq_nil_of_length_eq_zero (by simpa using hown.1)
  subst hx
  have hr:=run_append_nil (P:=P) w t ty e i z ht hi hz a m c news hl hnews hm0 (by omega) (by have hb:=hbytes;simp only [qaG] at hb;omega)
  have hge:=grownCap_ge w m 0 e
  refine⟨_,_,hr,⟨by simpa using hlen,.inr ⟨w.heap.size,_,_,by rw [qaG],hbase,heap_alloc_new w.drew _,by rw [qaG];exact hge,grownCap_le_maxLen w m 0 e (by simpa using h63),?_,?_⟩⟩,qag ⟨rfl,rfl,rfl,rfl,by simp,fun k hk _=>qL w.drew _ k hk⟩⟩
  ·simp only [Array.size_append,qbw,size_zeroCells,hzs,hl,←qaA]
   congr 1;omega
  ·rw [qaG,qbd,←hl,qbn];exact qbJ
 ·by_cases hroom:n+m≤cap
  ·have hfit:n*i.size+news.length≤cur.size:=by rw [hl,hcs,←qaA];exact qbg _ hroom
   have hr:=run_append_room (P:=P) w t ty e i ht hi g n cap cur hg a m c news hl hnews h1 hroom hfit
   refine⟨_,_,hr,⟨hlen,.inr ⟨g,cap,_,rfl,hbg,setRow_heap w g cur _ e _ hg,hroom,hcm,?_,?_⟩⟩,qal ⟨rfl,rfl,rfl,rfl,by simp,fun k _ hk=>setRow_other w g k _ (fun e=>hk (by simp [Value.ownBlock,e]))⟩⟩
   ·simp only [qbw,qae,qaw,qaZ,Array.length_toList]
    omega
   ·rw [htake,←hlen]
    exact qbJ
  ·have holds:∀j u,xs[j]? = some u→w.cell? ((⟨g,0,none⟩:Addr).add j)=some u:=hown.cells (g:=g) rfl
   have hr:=run_append_grow (P:=P) w t ty e i z ht hi hz ⟨g,0,none⟩ n cap xs hown.1 holds a m c news hl hnews (by omega) (by omega) (growslice_fits (by omega) hbytes)
   have hge:=grownCap_ge w (n+m) cap e
   refine⟨_,_,hr,⟨hlen,.inr ⟨w.heap.size,_,_,rfl,hbase,heap_alloc_new w.drew _,hge,grownCap_le_maxLen w (n+m) cap e h63,?_,?_⟩⟩,qag ⟨rfl,rfl,rfl,rfl,by simp,fun k hk _=>qL w.drew _ k hk⟩⟩
   ·simp only [Array.size_append,qbw,size_zeroCells,hzs,hown.1,hl,←qaA]
    congr 1;omega
   ·simp only [qbn,qau]
    rw [←qau,←hlen]
    exact qbJ
end
def IOwn (W:World) (B:Nat) (v:Value) (l:List Int):Prop:=W.ownsRow B 3 1 v l.length (l.map fun z=>.int .i64 z)
theorem infoI8:(Tryz.prog.info? 3).map (fun i=>(i.zero,i.size,i.bytes))=some (some (.int .i64 0),1,8):=by kernel_rfl
theorem infoR24:(Tryz.prog.info? 32).map (fun i=>(i.zero,i.size,i.bytes))=some (some (.slice none 0 0),1,24):=by kernel_rfl
theorem ints_one (l:List Int):∀u∈l.map (fun z=>Value.int .i64 z),u.oneCell'=true:=fun u hu=>by
 obtain⟨z,_,rfl⟩:=qbu.1 hu;rfl
theorem run_ints {w:World} {B:Nat} {v:Value} {l l2:List Int} {m c b off:Nat} (ty:TypeId) (hown:IOwn w B v l) (hB:B≤w.heap.size) (hF:NCells w (some ⟨b,off,none⟩) b off l2) (hm:l2.length=m) (hm0:0<m) (hn:l.length+m≤1000000) :
  ∃v' w',(Builtin.append_ #[32,32] ty #[v,.slice (some ⟨b,off,none⟩) m c]).run Tryz.prog w=.ok v' w'∧IOwn w' B v' (l++l2)∧(v'.ownBlock=v.ownBlock∧w.grownBy w' v.ownBlock∨v'.ownBlock=some w.heap.size∧w.grownBy w' none):=by
 obtain⟨i0,hi,hz0,hz1,hz2⟩:=info_parts infoI8
 subst hm
 obtain⟨v',w',hr,h2,h3⟩:=qez (P:=Tryz.prog) w B 32 ty 3 i0 _ 1 8 Tryz.underlying32 hi hz0 hz1 hz2 rfl (by decide) v l.length _ hown ⟨b,off,none⟩ l2.length c (l2.map fun z=>.int .i64 z) (by simp) (fun j u hj=>by
   rw [qaJ] at hj
   obtain⟨z,hz,rfl⟩:=Option.map_eq_some_iff.1 hj
   have hlt:=(List.getElem?_eq_some_iff.1 hz).1
   have:=hF.cell j hlt
   rw [qaa,hz] at this
   rw [Addr.add_mid];exact this) (ints_one _) hm0 (by unfold maxLen;omega) (by omega) hB
 exact⟨v',w',hr,by unfold IOwn;rw [qae,qa4];exact h2,h3⟩
theorem qi0 {w:World} {B g:Nat} {l2:List Int} {m c b off:Nat} (ty:TypeId) (_hg:w.heap[g]? = some (.cells #[] 3 (0,0))) (hB:B≤w.heap.size) (hF:NCells w (some ⟨b,off,none⟩) b off l2) (hm:l2.length=m) (hm0:0<m) (hn:m≤1000000) :
  ∃v' w',(Builtin.append_ #[32,32] ty #[.slice (some ⟨g,0,none⟩) 0 0,.slice (some ⟨b,off,none⟩) m c]).run Tryz.prog w=.ok v' w'∧IOwn w' B v' l2∧v'.ownBlock=some w.heap.size∧w.grownBy w' none:=by
 obtain⟨i0,hi,hz0,hz1,hz2⟩:=info_parts infoI8
 subst hm
 have hr:=run_append_grow (P:=Tryz.prog) w 32 ty 3 i0 _ Tryz.underlying32 hi hz0 ⟨g,0,none⟩ 0 0 [] (by simp) (fun j u hj=>by cases hj) ⟨b,off,none⟩ l2.length c (l2.map fun z=>Value.int .i64 z) (by rw [hz1];simp) (fun j u hj=>by
   rw [qaJ] at hj
   obtain⟨z,hz,rfl⟩:=Option.map_eq_some_iff.1 hj
   have hlt:=(List.getElem?_eq_some_iff.1 hz).1
   have:=hF.cell j hlt
   rw [qaa,hz] at this
   rw [Addr.add_mid];exact this) (by omega) (by omega) (growslice_fits (by omega) (by rw [hz2];omega))
 rw [qaG] at hr
 have hge:=grownCap_ge w l2.length 0 3
 refine⟨_,_,hr,⟨by simp,.inr ⟨w.heap.size,_,_,rfl,hB,heap_alloc_new w.drew _,hge,grownCap_le_maxLen w l2.length 0 3 (by unfold maxLen;omega),?_,?_⟩⟩,rfl,rfl,rfl,rfl,by simp,fun k hk _=>qL w.drew _ k hk⟩
 ·simp only [Array.size_append,qbw,size_zeroCells,List.length_nil,qax,Nat.mul_one]
  have:(Value.int .i64 0).cells.size=1:=rfl
  rw [this];omega
 ·simp only [qbn,qbd,Nat.mul_one]
  exact List.take_left' (by simp)
theorem run_irow {w:World} {B:Nat} {v:Value} {n:Nat} {vs:List Value} {u:Value} {g c:Nat} {t:TypeId} (ty:TypeId) (hown:w.ownsRow B 32 1 v n vs) (hB:B≤w.heap.size) (hg:w.heap[g]? = some (.cells #[u] t (0,0))) (hu:u.oneCell'=true) (hn:n<1000000) :
  ∃v' w',(Builtin.append_ #[77,77] ty #[v,.slice (some ⟨g,0,none⟩) 1 c]).run Tryz.prog w=.ok v' w'∧w'.ownsRow B 32 1 v' (n+1) (vs++[u])∧(v'.ownBlock=v.ownBlock∧w.grownBy w' v.ownBlock∨v'.ownBlock=some w.heap.size∧w.grownBy w' none):=by
 obtain⟨i0,hi,hz0,hz1,hz2⟩:=info_parts infoR24
 exact qez (P:=Tryz.prog) w B 77 ty 32 i0 _ 1 24 Tryz.underlying77 hi hz0 hz1 hz2 rfl (by decide) v n vs hown ⟨g,0,none⟩ 1 c [u] rfl (fun j x hj=>by
   cases j with
   | zero =>
    obtain rfl:u=x:=qai hj
    exact qC _ _ 0 _ _ _ hg
   | succ j=>cases hj) (fun x hx=>by rw [qaq.1 hx];exact hu) (by decide) (by unfold maxLen;omega) (by omega) hB
theorem qfv {w w':World} {B':Nat} {e':TypeId} {s' n':Nat} {v v' x:Value} {xs':List Value} (hx:w.ownsRow B' e' s' x n' xs') (hne:x.ownBlock=none∨x.ownBlock≠v.ownBlock) (h:v'.ownBlock=v.ownBlock∧w.grownBy w' v.ownBlock∨v'.ownBlock=some w.heap.size∧w.grownBy w' none) :
  w'.ownsRow B' e' s' x n' xs'∧(x.ownBlock=none∨x.ownBlock≠v'.ownBlock):=by
 rcases h with ⟨h1,h2⟩ | ⟨h1,h2⟩
 ·exact⟨hx.kept h2 hne,by rw [h1];exact hne⟩
 ·refine⟨hx.kept h2 ?_,?_⟩
  ·rcases hne with h | h
   ·exact qal h
   ·cases e:x.ownBlock with
    | none=>exact qal rfl
    | some k=>exact qag (by simp)
  ·cases e:x.ownBlock with
   | none=>exact qal rfl
   | some k =>
    refine qag fun e2=>?_
    rw [h1] at e2
    have:=(hx.lt k e).2
    have:=qai e2
    omega
theorem own_below {w w':World} {B:Nat} {e:TypeId} {s n:Nat} {x:Value} {xs:List Value} (hx:w.ownsRow B e s x n xs) (hb:Below w.heap.size w w'):w'.ownsRow B e s x n xs:=by
 refine⟨hx.1,?_⟩
 rcases hx.2 with h | ⟨g,cap,cur,rfl,h2,h3,h4⟩
 ·exact qal h
 ·exact qag ⟨g,cap,cur,rfl,h2,(hb.block g (qG h3).1).trans h3,h4⟩
theorem qex {w:World} {B:Nat} {e:TypeId} {s n:Nat} {x:Value} {xs:List Value} (hx:w.ownsRow B e s x n xs):∃(ao:Option Addr) (cap:Nat),x=.slice ao n cap:=by
 rcases hx.2 with ⟨rfl,rfl⟩ | ⟨g,cap,cur,rfl,_⟩
 ·exact⟨none,0,rfl⟩
 ·exact⟨_,_,rfl⟩
end Go.Proofs.YtplkdeknjghobaaGreatDoor
namespace Go.Proofs.YtplkdeknjghobaaGreatDoor
open Go.RowKit
def qhl (w:World) (q:Rat) (n d:Nat) (e:Ending) (w':World):Prop :=
 Below w.heap.size w w'∧(((-100000000000≤nearZ q n∧nearZ q n≤100000000000)∧e=.returned (.int .i64 (nearT q n d)))∨(¬(-100000000000≤nearZ q n∧nearZ q n≤100000000000)∧e=thrown 6))
theorem wrapI {t:Int} (h1:-9223372036854775808≤t) (h2:t≤9223372036854775807):IntKind.i64.wrap t=t:=by simp [IntKind.wrap,IntKind.bits,IntKind.signed];omega
theorem cmpq (p q:Rat) (hp:Short p) (hq:Short q) (w:World) :
  Calls Tryz.prog 17 #[.agg #[.string (ftxt p).1,.string (ftxt p).2],.agg #[.string (ftxt q).1,.string (ftxt q).2]] w fun e w'=>∃c:Int,e=.returned (.tuple #[.int .i64 c,.int .i64 0])∧(c<0↔p<q)∧Below w.heap.size w w':=by
 refine (fcmp_any _ _ _ _ w).mono ?_
 rintro e w' ⟨⟨_,rfl⟩ | ⟨h,_⟩,hb⟩
 ·have e1:fval (ftxt p).1.data.toList (ftxt p).2.data.toList=p:=qdj p
  have e2:fval (ftxt q).1.data.toList (ftxt q).2.data.toList=q:=qdj q
  rw [e1,e2]
  exact⟨_,rfl,cmp_lt p q,hb⟩
 ·exact absurd ⟨qeb hp,qeb hq⟩ h
theorem nearest1 (q:Rat) (sq:Short q) (w:World) (hT:HasT w) (hE:HasE w) :
  Calls Tryz.prog 92 #[.agg #[.string (ftxt q).1,.string (ftxt q).2],.int .i64 10000,.int .i64 1] w fun e w'=>qhl w q 10000 1 e w':=by
 have hnr:=fun W hT hE=>near_q q 10000 sq (by decide) (by decide) W hT hE
 have hbd:=fun h1 h2=>qfO (q:=q) (n:=10000) (d:=1) (B:=100000000000) (by decide) h1 h2
 have hcmp:=fun (z:Int)=>qlY (q:=q) (n:=10000) (d:=1) (z:=z) (by decide) (by decide)
 obtain⟨q1,q2,hqx⟩:=qb6 q
 rw [hqx] at hnr ⊢
 unfold qhl
 obtain⟨X,hX⟩:∃X,nearZ q 10000=X:=⟨_,rfl⟩
 obtain⟨Y,hY⟩:∃Y,nearT q 10000 1=Y:=⟨_,rfl⟩
 rw [hX] at hnr hbd ⊢
 rw [hY] at hbd hcmp ⊢
 obtain⟨W1,hW1,K1⟩:=nw1 w #[.string q1,.string q2] 44
 have HN:=qH (hnr W1 (hT.below K1.out.1) (hE.below K1.out.1))
 have HQ:=qH (qA hqx (qA sq (qA hcmp hbd)))
 have HT1:=qH (hT.below K1.out.1)
 clear hnr hbd hcmp hqx sq hT hE hX hY
 go_enter Tryz.func92,Tryz.ntmps92
 go_wp2_with fail
 rw [←hW1]
 clear hW1
 refine HN.out.mono ?_
 rintro e w2 ⟨hb2,h⟩
 have K2:=(K1.below hb2).also (q:=fun W=>HasT W) (HT1.out.below hb2)
 clear hb2 HN HT1 K1
 rcases h with ⟨hi,rfl⟩ | ⟨hi,rfl⟩
 case inr =>
  have HI:=qH hi
  clear hi
  go_wp2_with fail
  refine (qgO 0 6 (by decide) _).mono ?_
  rintro e w3 ⟨rfl,hw⟩
  subst hw
  unfold thrown
  go_wp2_with fail
  refine⟨rfl,K2.out.1.1,qag ⟨fun h=>HI.out ⟨?_,?_⟩,rfl⟩⟩
  ·have:=h.1;omega
  ·have:=h.2;omega
 have HI:=qH hi
 clear hi
 go_wp2_with fail
 refine (qef X _).mono ?_
 rintro e w3 ⟨rfl,hw⟩
 subst hw
 by_cases hx1:X < -100000000000
 ·go_wp2_with fail
  refine (qb7 6 (by decide) _).mono ?_
  rintro e w3 ⟨rfl,hw⟩
  subst hw
  unfold thrown
  go_wp2_with fail
  exact⟨rfl,K2.out.1.1,qag ⟨fun h=>absurd h.1 (by omega),rfl⟩⟩
 by_cases hx2:X > 100000000000
 ·go_wp2_with fail
  refine (qb7 6 (by decide) _).mono ?_
  rintro e w3 ⟨rfl,hw⟩
  subst hw
  unfold thrown
  go_wp2_with fail
  exact⟨rfl,K2.out.1.1,qag ⟨fun h=>absurd h.2 (by omega),rfl⟩⟩
 obtain⟨hy1,hy2⟩:=HQ.out.2.2.2 (by omega) (by omega)
 have hqt:-100000000000≤X.tdiv 1∧X.tdiv 1≤100000000000:=by have:=Int.natAbs_tdiv_le_natAbs X 1;omega
 have HXX:=qH (qA hx1 hx2)
 obtain⟨Q0,hQ0⟩:∃Q0,X.tdiv 1=Q0:=⟨_,rfl⟩
 rw [hQ0] at hqt
 obtain⟨hq1,hq2⟩:=hqt
 go_upto_region 5 with fail
 clear hx1 hx2
 go_loopw [8] (fun x8 W=>∃z:Int,x8=.int .i64 z∧-100000000001≤z∧z≤100000000001∧(Y≤z∨z=Q0)∧Hid (Below w2.heap.size w2 W)) (fun x8 _=>(intOf x8-Y).toNat)
 case atStart=>exact⟨Q0,rfl,by omega,by omega,qag rfl,qH qB⟩
 case round =>
  obtain⟨z,rfl,hz1,hz2,hzY,hB⟩:=hrel
  have K3:=K2.below hB.out
  obtain⟨u1,u2,hu⟩:=qb6 ((((2*z-1)*1:Int):Rat) / ((20000:Int):Rat))
  have hOf:=fun W hP=>of_int ((2*z-1)*1) 20000 (by decide) (by omega) (by decide) W hP
  rw [hu] at hOf
  have hCm:=fun W=>cmpq q ((((2*z-1)*1:Int):Rat) / ((20000:Int):Rat)) HQ.out.2.1 (qdo (by decide) (by omega) (by decide)) W
  rw [hu,HQ.out.1] at hCm
  have hlt:q<(((2*z-1)*1:Int):Rat) / ((20000:Int):Rat)↔Y<z:=HQ.out.2.2.1 z
  rw [hlt] at hCm
  have HO:=qH (qA hOf hCm)
  have lt:=(qG K3.out.1.2).1
  have r0:=rowC (B:=wr.heap.size) K3.out.1.2 0
  have r1:=rowC (B:=wr.heap.size) K3.out.1.2 1
  clear hOf hCm hlt hu
  go_upto_region 5 with fail
  refine wp_region_held_drew (S:=fun W=>Below wr.heap.size wr W) (by kernel_rfl) qB.drew (fun hS0=>?_)
  refine hT 0 (h:=hT 1 (h:=hT 2 (h:=hT 3 (h:=hT 4 (h:=hT 5 (h:=hT 6 (h:=hT 7 (h:=?_))))))))
  refine hC 8 (HO.out.1 _ (K3.out.2.below qB.drew)) (he:=by (go_simp;exact⟨by simp only [wrapI (t:=2*z) (by omega) (by omega),wrapI (t:=2*z-1) (by omega) (by omega)],by decide⟩)) (h:=?_)
  rintro e w4 ⟨rfl,hb⟩
  have HB4:=qH (qbW hb)
  have K4:=K3.below HB4.out
  clear hb
  refine⟨_,rfl,HB4.out,hN (h:=?_)⟩
  refine hT 9 (hS:=HB4.out) (h:=hT 10 (hS:=HB4.out) (h:=?_))
  refine hC 11 (qcr u1 u2 w4) (h:=?_)
  rintro e w5 ⟨rfl,hb⟩
  have HB5:=qH (HB4.out.trans (hb.mono HB4.out.size))
  have K5:=K4.below hb
  clear hb
  refine⟨_,rfl,HB5.out,hN (h:=?_)⟩
  refine hC 12 (HO.out.2 w5) (h:=?_)
  rintro e w6 ⟨c,rfl,hc,hb⟩
  have HB6:=qH (HB5.out.trans (hb.mono HB5.out.size))
  have K6:=K5.below hb
  clear hb
  refine⟨_,rfl,HB6.out,hN (h:=?_)⟩
  refine hT 13 (hS:=HB6.out) (h:=hT 14 (hS:=HB6.out) (h:=?_))
  refine hC 15 (qef c w6) (h:=?_)
  rintro e w7 ⟨rfl,hw⟩
  subst hw
  refine⟨_,rfl,HB6.out,hN (h:=?_)⟩
  refine hT 16 (hS:=HB6.out) (h:=?_)
  refine wpAnyH_done (by kernel_rfl) ?_ _
  have HBw:=qH (hB.out.trans (HB6.out.mono hB.out.size))
  clear r0 r1 lt hS0 hB HO K3 K4 K5
  by_cases hlt:Y<z
  ·have hc0:c<0:=hc.2 hlt
   clear hc
   go_wp2_with fail
   go_roundw
   case rel=>exact⟨z-1,by first | rfl | go_num,by omega,by omega,qal (by omega),HBw⟩
   case measure=>simp [intOf];omega
  ·have hc0:¬c<0:=fun h=>hlt (hc.1 h)
   have hzY2:z≤Y:=by omega
   clear hc hlt hzY
   go_upto_region 7 with fail
   go_loopw [8] (fun x8 W=>∃z:Int,x8=.int .i64 z∧-100000000001≤z∧z≤100000000001∧z≤Y∧Hid (Below w6.heap.size w6 W)) (fun x8 _=>(Y-intOf x8).toNat)
   case atStart=>exact⟨z,rfl,hz1,hz2,hzY2,qH qB⟩
   case round =>
    clear hz1 hz2 hzY2 hc0
    obtain⟨z,rfl,hz1,hz2,hzY,hB⟩:=hrel
    have K3:=K6.below hB.out
    obtain⟨u1,u2,hu⟩:=qb6 ((((2*z+1)*1:Int):Rat) / ((20000:Int):Rat))
    have hOf:=fun W hP=>of_int ((2*z+1)*1) 20000 (by decide) (by omega) (by decide) W hP
    rw [hu] at hOf
    have hCm:=fun W=>cmpq q ((((2*z+1)*1:Int):Rat) / ((20000:Int):Rat)) HQ.out.2.1 (qdo (by decide) (by omega) (by decide)) W
    rw [hu,HQ.out.1] at hCm
    have hlt:q<(((2*z+1)*1:Int):Rat) / ((20000:Int):Rat)↔Y<z+1:=by
     have:=HQ.out.2.2.1 (z+1)
     rw [show 2*(z+1)-1=2*z+1 by omega] at this
     exact this
    rw [hlt] at hCm
    have HO:=qH (qA hOf hCm)
    have lt:=(qG K3.out.1.2).1
    have r0:=rowC (B:=wr.heap.size) K3.out.1.2 0
    have r1:=rowC (B:=wr.heap.size) K3.out.1.2 1
    clear hOf hCm hlt hu
    go_upto_region 7 with fail
    refine wp_region_held_drew (S:=fun W=>Below wr.heap.size wr W) (by kernel_rfl) qB.drew (fun hS0=>?_)
    refine hT 0 (h:=hT 1 (h:=hT 2 (h:=hT 3 (h:=hT 4 (h:=hT 5 (h:=hT 6 (h:=hT 7 (h:=?_))))))))
    refine hC 8 (HO.out.1 _ (K3.out.2.below qB.drew)) (he:=by (go_simp;exact⟨by simp only [wrapI (t:=2*z) (by omega) (by omega),wrapI (t:=2*z+1) (by omega) (by omega)],by decide⟩)) (h:=?_)
    rintro e w4 ⟨rfl,hb⟩
    have HB4:=qH (qbW hb)
    have K4:=K3.below HB4.out
    clear hb
    refine⟨_,rfl,HB4.out,hN (h:=?_)⟩
    refine hT 9 (hS:=HB4.out) (h:=hT 10 (hS:=HB4.out) (h:=?_))
    refine hC 11 (qcr u1 u2 w4) (h:=?_)
    rintro e w5 ⟨rfl,hb⟩
    have HB5:=qH (HB4.out.trans (hb.mono HB4.out.size))
    have K5:=K4.below hb
    clear hb
    refine⟨_,rfl,HB5.out,hN (h:=?_)⟩
    refine hC 12 (HO.out.2 w5) (h:=?_)
    rintro e w7 ⟨c,rfl,hc,hb⟩
    have HB6:=qH (HB5.out.trans (hb.mono HB5.out.size))
    have K7:=K5.below hb
    clear hb
    refine⟨_,rfl,HB6.out,hN (h:=?_)⟩
    refine hT 13 (hS:=HB6.out) (h:=hT 14 (hS:=HB6.out) (h:=?_))
    refine hC 15 (qef c w7) (h:=?_)
    rintro e w8 ⟨rfl,hw⟩
    subst hw
    refine⟨_,rfl,HB6.out,hN (h:=?_)⟩
    refine hT 16 (hS:=HB6.out) (h:=?_)
    refine wpAnyH_done (by kernel_rfl) ?_ _
    have HBw2:=qH (hB.out.trans (HB6.out.mono hB.out.size))
    clear r0 r1 lt hS0 hB HO K3 K4 K5
    by_cases hlt:Y<z+1
    ·have hc0:¬c≥0:=by have:=hc.2 hlt;omega
     obtain rfl:z=Y:=by omega
     clear hc hlt
     go_wp2_with fail
     go_ret
     exact⟨K7.out.1.1,rfl⟩
    ·have hc0:c≥0:=by
      apply Classical.byContradiction
      intro h
      exact hlt (hc.1 (by omega))
     clear hc
     go_wp2_with fail
     go_roundw
     case rel=>exact⟨z+1,by first | rfl | go_num,by omega,by omega,by omega,HBw2⟩
     case measure=>simp [intOf];omega
theorem nearest4 (q:Rat) (sq:Short q) (w:World) (hT:HasT w) (hE:HasE w) :
  Calls Tryz.prog 92 #[.agg #[.string (ftxt q).1,.string (ftxt q).2],.int .i64 15625,.int .i64 4] w fun e w'=>qhl w q 15625 4 e w':=by
 have hnr:=fun W hT hE=>near_q q 15625 sq (by decide) (by decide) W hT hE
 have hbd:=fun h1 h2=>qfO (q:=q) (n:=15625) (d:=4) (B:=100000000000) (by decide) h1 h2
 have hcmp:=fun (z:Int)=>qlY (q:=q) (n:=15625) (d:=4) (z:=z) (by decide) (by decide)
 obtain⟨q1,q2,hqx⟩:=qb6 q
 rw [hqx] at hnr ⊢
 unfold qhl
 obtain⟨X,hX⟩:∃X,nearZ q 15625=X:=⟨_,rfl⟩
 obtain⟨Y,hY⟩:∃Y,nearT q 15625 4=Y:=⟨_,rfl⟩
 rw [hX] at hnr hbd ⊢
 rw [hY] at hbd hcmp ⊢
 obtain⟨W1,hW1,K1⟩:=nw1 w #[.string q1,.string q2] 44
 have HN:=qH (hnr W1 (hT.below K1.out.1) (hE.below K1.out.1))
 have HQ:=qH (qA hqx (qA sq (qA hcmp hbd)))
 have HT1:=qH (hT.below K1.out.1)
 clear hnr hbd hcmp hqx sq hT hE hX hY
 go_enter Tryz.func92,Tryz.ntmps92
 go_wp2_with fail
 rw [←hW1]
 clear hW1
 refine HN.out.mono ?_
 rintro e w2 ⟨hb2,h⟩
 have K2:=(K1.below hb2).also (q:=fun W=>HasT W) (HT1.out.below hb2)
 clear hb2 HN HT1 K1
 rcases h with ⟨hi,rfl⟩ | ⟨hi,rfl⟩
 case inr =>
  have HI:=qH hi
  clear hi
  go_wp2_with fail
  refine (qgO 0 6 (by decide) _).mono ?_
  rintro e w3 ⟨rfl,hw⟩
  subst hw
  unfold thrown
  go_wp2_with fail
  refine⟨rfl,K2.out.1.1,qag ⟨fun h=>HI.out ⟨?_,?_⟩,rfl⟩⟩
  ·have:=h.1;omega
  ·have:=h.2;omega
 have HI:=qH hi
 clear hi
 go_wp2_with fail
 refine (qef X _).mono ?_
 rintro e w3 ⟨rfl,hw⟩
 subst hw
 by_cases hx1:X < -100000000000
 ·go_wp2_with fail
  refine (qb7 6 (by decide) _).mono ?_
  rintro e w3 ⟨rfl,hw⟩
  subst hw
  unfold thrown
  go_wp2_with fail
  exact⟨rfl,K2.out.1.1,qag ⟨fun h=>absurd h.1 (by omega),rfl⟩⟩
 by_cases hx2:X > 100000000000
 ·go_wp2_with fail
  refine (qb7 6 (by decide) _).mono ?_
  rintro e w3 ⟨rfl,hw⟩
  subst hw
  unfold thrown
  go_wp2_with fail
  exact⟨rfl,K2.out.1.1,qag ⟨fun h=>absurd h.2 (by omega),rfl⟩⟩
 obtain⟨hy1,hy2⟩:=HQ.out.2.2.2 (by omega) (by omega)
 have hqt:-100000000000≤X.tdiv 4∧X.tdiv 4≤100000000000:=by have:=Int.natAbs_tdiv_le_natAbs X 4;omega
 have HXX:=qH (qA hx1 hx2)
 obtain⟨Q0,hQ0⟩:∃Q0,X.tdiv 4=Q0:=⟨_,rfl⟩
 rw [hQ0] at hqt
 obtain⟨hq1,hq2⟩:=hqt
 go_upto_region 5 with fail
 clear hx1 hx2
 go_loopw [8] (fun x8 W=>∃z:Int,x8=.int .i64 z∧-100000000001≤z∧z≤100000000001∧(Y≤z∨z=Q0)∧Hid (Below w2.heap.size w2 W)) (fun x8 _=>(intOf x8-Y).toNat)
 case atStart=>exact⟨Q0,rfl,by omega,by omega,qag rfl,qH qB⟩
 case round =>
  obtain⟨z,rfl,hz1,hz2,hzY,hB⟩:=hrel
  have K3:=K2.below hB.out
  obtain⟨u1,u2,hu⟩:=qb6 ((((2*z-1)*4:Int):Rat) / ((31250:Int):Rat))
  have hOf:=fun W hP=>of_int ((2*z-1)*4) 31250 (by decide) (by omega) (by decide) W hP
  rw [hu] at hOf
  have hCm:=fun W=>cmpq q ((((2*z-1)*4:Int):Rat) / ((31250:Int):Rat)) HQ.out.2.1 (qdo (by decide) (by omega) (by decide)) W
  rw [hu,HQ.out.1] at hCm
  have hlt:q<(((2*z-1)*4:Int):Rat) / ((31250:Int):Rat)↔Y<z:=HQ.out.2.2.1 z
  rw [hlt] at hCm
  have HO:=qH (qA hOf hCm)
  have lt:=(qG K3.out.1.2).1
  have r0:=rowC (B:=wr.heap.size) K3.out.1.2 0
  have r1:=rowC (B:=wr.heap.size) K3.out.1.2 1
  clear hOf hCm hlt hu
  go_upto_region 5 with fail
  refine wp_region_held_drew (S:=fun W=>Below wr.heap.size wr W) (by kernel_rfl) qB.drew (fun hS0=>?_)
  refine hT 0 (h:=hT 1 (h:=hT 2 (h:=hT 3 (h:=hT 4 (h:=hT 5 (h:=hT 6 (h:=hT 7 (h:=?_))))))))
  refine hC 8 (HO.out.1 _ (K3.out.2.below qB.drew)) (he:=by (go_simp;exact⟨by simp only [wrapI (t:=2*z) (by omega) (by omega),wrapI (t:=2*z-1) (by omega) (by omega),wrapI (t:=(2*z-1)*4) (by omega) (by omega)],by decide⟩)) (h:=?_)
  rintro e w4 ⟨rfl,hb⟩
  have HB4:=qH (qbW hb)
  have K4:=K3.below HB4.out
  clear hb
  refine⟨_,rfl,HB4.out,hN (h:=?_)⟩
  refine hT 9 (hS:=HB4.out) (h:=hT 10 (hS:=HB4.out) (h:=?_))
  refine hC 11 (qcr u1 u2 w4) (h:=?_)
  rintro e w5 ⟨rfl,hb⟩
  have HB5:=qH (HB4.out.trans (hb.mono HB4.out.size))
  have K5:=K4.below hb
  clear hb
  refine⟨_,rfl,HB5.out,hN (h:=?_)⟩
  refine hC 12 (HO.out.2 w5) (h:=?_)
  rintro e w6 ⟨c,rfl,hc,hb⟩
  have HB6:=qH (HB5.out.trans (hb.mono HB5.out.size))
  have K6:=K5.below hb
  clear hb
  refine⟨_,rfl,HB6.out,hN (h:=?_)⟩
  refine hT 13 (hS:=HB6.out) (h:=hT 14 (hS:=HB6.out) (h:=?_))
  refine hC 15 (qef c w6) (h:=?_)
  rintro e w7 ⟨rfl,hw⟩
  subst hw
  refine⟨_,rfl,HB6.out,hN (h:=?_)⟩
  refine hT 16 (hS:=HB6.out) (h:=?_)
  refine wpAnyH_done (by kernel_rfl) ?_ _
  have HBw:=qH (hB.out.trans (HB6.out.mono hB.out.size))
  clear r0 r1 lt hS0 hB HO K3 K4 K5
  by_cases hlt:Y<z
  ·have hc0:c<0:=hc.2 hlt
   clear hc
   go_wp2_with fail
   go_roundw
   case rel=>exact⟨z-1,by first | rfl | go_num,by omega,by omega,qal (by omega),HBw⟩
   case measure=>simp [intOf];omega
  ·have hc0:¬c<0:=fun h=>hlt (hc.1 h)
   have hzY2:z≤Y:=by omega
   clear hc hlt hzY
   go_upto_region 7 with fail
   go_loopw [8] (fun x8 W=>∃z:Int,x8=.int .i64 z∧-100000000001≤z∧z≤100000000001∧z≤Y∧Hid (Below w6.heap.size w6 W)) (fun x8 _=>(Y-intOf x8).toNat)
   case atStart=>exact⟨z,rfl,hz1,hz2,hzY2,qH qB⟩
   case round =>
    clear hz1 hz2 hzY2 hc0
    obtain⟨z,rfl,hz1,hz2,hzY,hB⟩:=hrel
    have K3:=K6.below hB.out
    obtain⟨u1,u2,hu⟩:=qb6 ((((2*z+1)*4:Int):Rat) / ((31250:Int):Rat))
    have hOf:=fun W hP=>of_int ((2*z+1)*4) 31250 (by decide) (by omega) (by decide) W hP
    rw [hu] at hOf
    have hCm:=fun W=>cmpq q ((((2*z+1)*4:Int):Rat) / ((31250:Int):Rat)) HQ.out.2.1 (qdo (by decide) (by omega) (by decide)) W
    rw [hu,HQ.out.1] at hCm
    have hlt:q<(((2*z+1)*4:Int):Rat) / ((31250:Int):Rat)↔Y<z+1:=by
     have:=HQ.out.2.2.1 (z+1)
     rw [show 2*(z+1)-1=2*z+1 by omega] at this
     exact this
    rw [hlt] at hCm
    have HO:=qH (qA hOf hCm)
    have lt:=(qG K3.out.1.2).1
    have r0:=rowC (B:=wr.heap.size) K3.out.1.2 0
    have r1:=rowC (B:=wr.heap.size) K3.out.1.2 1
    clear hOf hCm hlt hu
    go_upto_region 7 with fail
    refine wp_region_held_drew (S:=fun W=>Below wr.heap.size wr W) (by kernel_rfl) qB.drew (fun hS0=>?_)
    refine hT 0 (h:=hT 1 (h:=hT 2 (h:=hT 3 (h:=hT 4 (h:=hT 5 (h:=hT 6 (h:=hT 7 (h:=?_))))))))
    refine hC 8 (HO.out.1 _ (K3.out.2.below qB.drew)) (he:=by (go_simp;exact⟨by simp only [wrapI (t:=2*z) (by omega) (by omega),wrapI (t:=2*z+1) (by omega) (by omega),wrapI (t:=(2*z+1)*4) (by omega) (by omega)],by decide⟩)) (h:=?_)
    rintro e w4 ⟨rfl,hb⟩
    have HB4:=qH (qbW hb)
    have K4:=K3.below HB4.out
    clear hb
    refine⟨_,rfl,HB4.out,hN (h:=?_)⟩
    refine hT 9 (hS:=HB4.out) (h:=hT 10 (hS:=HB4.out) (h:=?_))
    refine hC 11 (qcr u1 u2 w4) (h:=?_)
    rintro e w5 ⟨rfl,hb⟩
    have HB5:=qH (HB4.out.trans (hb.mono HB4.out.size))
    have K5:=K4.below hb
    clear hb
    refine⟨_,rfl,HB5.out,hN (h:=?_)⟩
    refine hC 12 (HO.out.2 w5) (h:=?_)
    rintro e w7 ⟨c,rfl,hc,hb⟩
    have HB6:=qH (HB5.out.trans (hb.mono HB5.out.size))
    have K7:=K5.below hb
    clear hb
    refine⟨_,rfl,HB6.out,hN (h:=?_)⟩
    refine hT 13 (hS:=HB6.out) (h:=hT 14 (hS:=HB6.out) (h:=?_))
    refine hC 15 (qef c w7) (h:=?_)
    rintro e w8 ⟨rfl,hw⟩
    subst hw
    refine⟨_,rfl,HB6.out,hN (h:=?_)⟩
    refine hT 16 (hS:=HB6.out) (h:=?_)
    refine wpAnyH_done (by kernel_rfl) ?_ _
    have HBw2:=qH (hB.out.trans (HB6.out.mono hB.out.size))
    clear r0 r1 lt hS0 hB HO K3 K4 K5
    by_cases hlt:Y<z+1
    ·have hc0:¬c≥0:=by have:=hc.2 hlt;omega
     obtain rfl:z=Y:=by omega
     clear hc hlt
     go_wp2_with fail
     go_ret
     exact⟨K7.out.1.1,rfl⟩
    ·have hc0:c≥0:=by
      apply Classical.byContradiction
      intro h
      exact hlt (hc.1 (by omega))
     clear hc
     go_wp2_with fail
     go_roundw
     case rel=>exact⟨z+1,by first | rfl | go_num,by omega,by omega,by omega,HBw2⟩
     case measure=>simp [intOf];omega
theorem qjE (N D:Nat) (h:(N=10000∧D=1)∨(N=15625∧D=4)) (q:Rat) (sq:Short q) (w:World) (hT:HasT w) (hE:HasE w) :
  Calls Tryz.prog 92 #[.agg #[.string (ftxt q).1,.string (ftxt q).2],.int .i64 (N:Int),.int .i64 (D:Int)] w fun e w'=>qhl w q N D e w':=by
 rcases h with ⟨rfl,rfl⟩ | ⟨rfl,rfl⟩
 ·exact nearest1 q sq w hT hE
 ·exact nearest4 q sq w hT hE
theorem el11_any (N D:Nat) (hND:(N=10000∧D=1)∨(N=15625∧D=4)) (i L rb nb db b off c:Nat) (ao:Option Addr) (l:List FT) (w:World) (hl:l.length=L) (hL:L≤1000) (hi:i<L) (hA:FAll l)
  (hrb:w.heap[rb]? = some (.cells #[.slice ao L c] 35 (0,0))) (hnb:w.heap[nb]? = some (.cells #[.int .i64 (N:Int)] 3 (0,0))) (hdb:w.heap[db]? = some (.cells #[.int .i64 (D:Int)] 3 (0,0))) (hF:FCells w ao b off l) (hT:HasT w) (hE:HasE w) :
  Calls Tryz.prog 91 #[.int .i64 (i:Int),.pointer (some ⟨rb,0,none⟩),.pointer (some ⟨nb,0,none⟩),.pointer (some ⟨db,0,none⟩)] w fun e w'=>qhl w (lval l i) N D e w':=by
 have hao:=hF.addr (by omega)
 subst hao
 have htx:l.getD i fd0=ftxt (lval l i):=by
  have h1:=hA.eq_told
  rw [hl] at h1
  exact (congrArg (fun x=>x.getD i fd0) h1).trans (qdp hi)
 have hsh:Short (lval l i):=hA.short i (by omega)
 obtain⟨f1,f2⟩:=hF.cell i (by omega)
 obtain⟨x1,x2,hx⟩:=qb6 (lval l i)
 rw [htx,hx] at f1 f2
 have hii:(i:Int)<L:=by omega
 have lr:=(qG hrb).1
 have ln:=(qG hnb).1
 have ld:=(qG hdb).1
 have r0:=rowC (B:=w.heap.size) hrb 0
 have n0:=rowC (B:=w.heap.size) hnb 0
 have d0:=rowC (B:=w.heap.size) hdb 0
 have g1:∀W,Below w.heap.size w W→W.cell? ⟨b,off+i*2,none⟩=some (.string x1):=fun W h=>(h.cell (qac w _ f1)).trans f1
 have g2:∀W,Below w.heap.size w W→W.cell? ⟨b,off+i*2+1,none⟩=some (.string x2):=fun W h=>(h.cell (qac w _ f2)).trans f2
 have hnr:=qjE N D hND (lval l i) hsh w.drew (hT.below qB.drew) (hE.below qB.drew)
 rw [hx] at hnr
 have HN:=qH hnr
 clear hnr hND hl hA hrb hnb hdb hF hT hE htx hsh hx f1 f2
 go_enter Tryz.func91,Tryz.ntmps91
 go_upto_region 1 with fail
 refine wp_region_held_drew (S:=fun W=>Below w.heap.size w W) (by kernel_rfl) qB.drew (fun hS0=>?_)
 refine hT 0 (h:=hT 1 (h:=hT 2 (h:=?_)))
 refine hT 3 (h:=?_)
 refine hT 4 (h:=hT 5 (h:=?_))
 refine hCx 6 HN.out (h:=?_)
 rintro e w2 ⟨hb,h | h⟩
 ·obtain⟨h1,rfl⟩:=h
  have HB:=qH (qbW hb)
  have H1:=qH h1
  clear hb h1
  refine qal ⟨_,rfl,HB.out,hN (h:=?_)⟩
  refine hT 7 (hS:=HB.out) (h:=?_)
  refine wpAnyH_done (by kernel_rfl) ?_ _
  go_wp2_with fail
  go_ret
  exact⟨HB.out,qal ⟨H1.out,rfl⟩⟩
 ·obtain⟨h1,rfl⟩:=h
  have HB:=qH (qbW hb)
  have H1:=qH h1
  clear hb h1
  refine qag ⟨_,rfl,?_⟩
  go_wp2_with fail
  exact⟨rfl,HB.out,qag ⟨H1.out,rfl⟩⟩
end Go.Proofs.YtplkdeknjghobaaGreatDoor
namespace Go.Proofs.YtplkdeknjghobaaGreatDoor
open Go Go.RowKit
def elN (c:Nat):Nat:=if c=0 then 10000 else 15625
def elD (c:Nat):Nat:=if c=0 then 1 else 4
def elM (c:Nat):Int:=if c=0 then 0 else 500000
def elz (m:Md) (c k:Nat):Int:=nearT (lval (m.row c) k) (elN c) (elD c)+(if k=0 then elM c else 0)
def qgt (z:Int):Prop:=-1000000000≤z∧z≤1000000000
def ElOk (m:Md) (n:Nat):Prop:=∀c,c<3→∀k,k<n+1→qgt (elz m c k)
def elOff (m:Md) (j:Nat):List Int:=(List.range j).map fun c=>elz m c 0
def elRow (m:Md) (n c:Nat):List Int:=(List.range n).map fun k=>elz m c (k+1)
theorem elND (c:Nat):(elN c=10000∧elD c=1)∨(elN c=15625∧elD c=4):=by
 unfold elN elD;split
 ·exact qal ⟨rfl,rfl⟩
 ·exact qag ⟨rfl,rfl⟩
theorem qjZ (c:Nat):0≤elM c∧elM c≤500000:=by unfold elM;split <;> decide
theorem el_near {q:Rat} {c:Nat} {M:Int} (h0:0≤M) (h1:M≤500000) (h:qgt (nearT q (elN c) (elD c)+M)):-100000000000≤nearZ q (elN c)∧nearZ q (elN c)≤100000000000:=by
 have hd:elD c=1∨elD c=4:=by rcases elND c with ⟨_,h⟩ | ⟨_,h⟩ <;> omega
 obtain⟨h2,h3⟩:=h
 have:=qmb (q:=q) (n:=elN c) (d:=elD c) (B:=1000500000) hd (by omega) (by omega)
 omega
section
variable {W w':World} {B n i j:Nat} {m:Md} {vr vo v':Value} {lo:List Int}
def qfY (W:World) (B:Nat) (m:Md) (n j:Nat) (vr vo:Value):Prop :=
 ∃vs:List Value,W.ownsRow B 32 1 vr j vs∧∀c,c<j→IOwn W B (vs.getD c undef) (elRow m n c)∧(vs.getD c undef).ownBlock≠none∧(vs.getD c undef).ownBlock≠vo.ownBlock
def ElTo (W:World) (B:Nat) (m:Md) (n i j:Nat) (vr vo:Value):Prop:=IOwn W B vo (elOff m i)∧qfY W B m n j vr vo
theorem own_ne {w:World} {B B':Nat} {e e':TypeId} {s s' n n':Nat} {x y:Value} {xs ys:List Value} (hx:w.ownsRow B e s x n xs) (hy:w.ownsRow B' e' s' y n' ys) (he:e≠e'):x.ownBlock=none∨x.ownBlock≠y.ownBlock:=by
 rcases hx.2 with ⟨rfl,_⟩ | ⟨g,cap,cur,rfl,_,h3,_⟩
 ·exact qal rfl
 ·refine qag fun e1=>?_
  rcases hy.2 with ⟨rfl,_⟩ | ⟨g',cap',cur',rfl,_,h3',_⟩
  ·cases e1
  ·have:g=g':=qai e1
   subst this
   have:=h3.symm.trans h3'
   simp at this
   exact he this.2
theorem IOwn.below (h:IOwn W B vo lo) (hb:Below W.heap.size W w'):IOwn w' B vo lo:=own_below h hb
theorem qfY.below (h:qfY W B m n j vr vo) (hb:Below W.heap.size W w'):qfY w' B m n j vr vo:=by
 obtain⟨vs,h1,h2⟩:=h
 exact⟨vs,own_below h1 hb,fun c hc=>⟨(h2 c hc).1.below hb,(h2 c hc).2⟩⟩
theorem ElTo.below (h:ElTo W B m n i j vr vo) (hb:Below W.heap.size W w'):ElTo w' B m n i j vr vo:=⟨h.1.below hb,h.2.below hb⟩
instance stays_iown {B:Nat} {v:Value} {l:List Int}:Stays fun W=>IOwn W B v l:=⟨fun h hb=>h.below hb⟩
theorem qfY.off (h:qfY W B m n j vr vo) (ho:IOwn W B vo lo) (hk:v'.ownBlock=vo.ownBlock∧W.grownBy w' vo.ownBlock∨v'.ownBlock=some W.heap.size∧W.grownBy w' none):qfY w' B m n j vr v':=by
 obtain⟨vs,h1,h2⟩:=h
 refine⟨vs,(qfv h1 (own_ne h1 ho (by decide)) hk).1,fun c hc=>?_⟩
 obtain⟨a,b,d⟩:=h2 c hc
 obtain⟨e,f⟩:=qfv a (qag d) hk
 exact⟨e,b,f.resolve_left b⟩
theorem own_some {w:World} {B:Nat} {e:TypeId} {s n:Nat} {x:Value} {xs:List Value} (hx:w.ownsRow B e s x n xs) (hn:0<n):x.ownBlock≠none:=by
 rcases hx.2 with ⟨rfl,h⟩ | ⟨g,cap,cur,rfl,_⟩
 ·omega
 ·simp [Value.ownBlock]
theorem ElTo.apart {k:Nat} (h:ElTo W B m n i j vr vo) (hk:W.grownBy w' (some k)) (hB:k<B∨W.heap.size≤k):ElTo w' B m n i j vr vo:=by
 have ne:∀{e:TypeId} {s q:Nat} {x:Value} {xs:List Value},W.ownsRow B e s x q xs→x.ownBlock=none∨x.ownBlock≠some k:=fun {e s q x xs} hx=>by
  cases e1:x.ownBlock with
  | none=>exact qal rfl
  | some q =>
   refine qag fun e2=>?_
   have:=hx.lt q e1
   have:=qai e2
   omega
 obtain⟨h0,vs,h1,h2⟩:=h
 exact⟨World.ownsRow.kept h0 hk (ne h0),vs,h1.kept hk (ne h1),fun c hc=>⟨World.ownsRow.kept (h2 c hc).1 hk (ne (h2 c hc).1),(h2 c hc).2⟩⟩
theorem ElTo.row {vi:Value} (h:ElTo W B m n i j vr vo) (hn:0<n) (hi:IOwn W B vi (elRow m n j)) (hio:vi.ownBlock≠vo.ownBlock)
  (hr:w'.ownsRow B 32 1 v' (j+1) (Classical.choose h.2++[vi])) (hk:v'.ownBlock=vr.ownBlock∧W.grownBy w' vr.ownBlock∨v'.ownBlock=some W.heap.size∧W.grownBy w' none):IOwn w' B vo (elOff m i)∧qfY w' B m n (j+1) v' vo:=by
 obtain⟨h1,h2⟩:=Classical.choose_spec h.2
 generalize Classical.choose h.2=vs at *
 have hl:vs.length=j:=by have:=h1.1;omega
 refine⟨(qfv h.1 (own_ne h.1 h1 (by decide)) hk).1,vs++[vi],hr,fun c hc=>?_⟩
 rcases qaN c j with hcj | hcj
 ·have e:(vs++[vi]).getD c undef=vs.getD c undef:=by
   rw [qaa,qay (by omega),←qaa]
  rw [e]
  obtain⟨a,b,d⟩:=h2 c hcj
  exact⟨(qfv a (own_ne a h1 (by decide)) hk).1,b,d⟩
 ·obtain rfl:c=j:=by omega
  have e:(vs++[vi]).getD c undef=vi:=by
   rw [qaa,qas (by omega),hl,qaB];rfl
  rw [e]
  exact⟨(qfv hi (own_ne hi h1 (by decide)) hk).1,own_some hi (by unfold elRow;simpa using hn),hio⟩
end
theorem qgz (m:Md) (j:Nat):(elOff m j).length=j:=by unfold elOff;simp
theorem qgA (m:Md) (n c:Nat):(elRow m n c).length=n:=by unfold elRow;simp
theorem elRow_at {m:Md} {n c k:Nat} (h:k<(elRow m n c).length):(elRow m n c)[k]=elz m c (k+1):=by simp [elRow]
def qjS (n S:Nat) (z:Value):Prop:=(∃a c,z=.slice a n c)∧∃k,z.ownBlock=some k∧S≤k
theorem qkw (m:Md) (j:Nat):elOff m (j+1)=elOff m j++[elz m j 0]:=by unfold elOff;rw [List.range_succ,qa4];rfl
end Go.Proofs.YtplkdeknjghobaaGreatDoor
namespace Go.Proofs.YtplkdeknjghobaaGreatDoor
open Go.RowKit
theorem assertE (w:World) (c:Int):(Instr.typeAssert (.iface 203 (.agg #[.int .i64 c])) 20 203 true).run Tryz.prog w=.ok (.tuple #[.agg #[.int .i64 c],.bool true]) w:=by
 simp [Instr.typeAssert,go_sem]
theorem qjk (p q:Addr) (w:World) :
  CallsD Tryz.prog 156 #[.pointer (some p),.pointer (some q)] .returning w fun e u' w'=>e=.returned (.tuple #[])∧u'=.returning∧w'=w:=by
 refine callsD_of_wpS Tryz.func156 rfl fun c₀ cs hu=>?_
 apply wpS_seq
 apply wpS_region
 simp [wpOpsS,go_sem,recoverD,hu,Tryz.ntmps156,Exit.thenS,←qbo,List.replicate]
 refine wpS_of_wp ?_
 go_wp2_with fail
 exact⟨rfl,.returning,by rw [←hu],.tuple #[],results_none rfl _ _ _,rfl,rfl,rfl⟩
theorem qkr (gp gq:Nat) (c:Int) (older:List PanicEntry) (w:World) (B:Nat) (hB:B≤gp∧B≤gq∧gp≠gq) (hp:w.heap[gp]? = some (.cells #[.int .i64 0,.slice none 0 0,.slice none 0 0,.slice none 0 0,.slice none 0 0,.int .i64 0,.slice none 0 0,.slice none 0 0,.int .i64 0,.int .i64 0] 82 (0,0))) (hq:w.heap[gq]? = some (.cells #[.int .i64 0] 39 (0,0))) :
  CallsD Tryz.prog 156 #[.pointer (some ⟨gp,0,none⟩),.pointer (some ⟨gq,0,none⟩)] (.panicking ({ v:=.iface 203 (.agg #[.int .i64 c]),recovered:=false } :: older)) w fun e u' w'=>e=.returned (.tuple #[])∧u'=.panicking ({ v:=.iface 203 (.agg #[.int .i64 c]),recovered:=true } :: older) ∧
   w'.heap[gp]? = some (.cells #[.int .i64 0,.slice none 0 0,.slice none 0 0,.slice none 0 0,.slice none 0 0,.int .i64 0,.slice none 0 0,.slice none 0 0,.int .i64 0,.int .i64 0] 82 (0,0))∧w'.heap[gq]? = some (.cells #[.int .i64 c] 39 (0,0))∧Below B w w':=by
 have hlp:=(qG hp).1
 have hlq:=(qG hq).1
 obtain⟨W1,hW1,K1⟩:=nw1 w #[.int .i64 0,.slice none 0 0,.slice none 0 0,.slice none 0 0,.slice none 0 0,.int .i64 0,.slice none 0 0,.slice none 0 0,.int .i64 0,.int .i64 0] 82
 have hp1:=qH (zkeep K1.out.1 _ _ hp)
 have hq1:(W1.setRow gp #[.int .i64 0,.slice none 0 0,.slice none 0 0,.slice none 0 0,.slice none 0 0,.int .i64 0,.slice none 0 0,.slice none 0 0,.int .i64 0,.int .i64 0]).heap[gq]? = some (.cells #[.int .i64 0] 39 (0,0)):=(setRow_other _ _ _ _ (fun e=>hB.2.2 e.symm)).trans (zkeep K1.out.1 _ _ hq)
 have cq:=qC (W1.setRow gp #[.int .i64 0,.slice none 0 0,.slice none 0 0,.slice none 0 0,.slice none 0 0,.int .i64 0,.slice none 0 0,.slice none 0 0,.int .i64 0,.int .i64 0]) _ 0 _ _ _ hq1
 have fq:=qF (W1.setRow gp #[.int .i64 0,.slice none 0 0,.slice none 0 0,.slice none 0 0,.slice none 0 0,.int .i64 0,.slice none 0 0,.slice none 0 0,.int .i64 0,.int .i64 0]) _ 0 _ _ hq1
 have hsz:(W1.setRow gp #[.int .i64 0,.slice none 0 0,.slice none 0 0,.slice none 0 0,.slice none 0 0,.int .i64 0,.slice none 0 0,.slice none 0 0,.int .i64 0,.int .i64 0]).heap.size=W1.heap.size:=by simp [World.setRow]
 have hlp1:gp<W1.heap.size:=qah hlp K1.out.1.size
 have hlq1:gq<W1.heap.size:=qah hlq K1.out.1.size
 have hnq:¬gq=W1.heap.size:=by omega
 have HE:=qH (qio hB (qcR (K1.out.1.mono (qak (qaH hB.1 hlp))) hB.1 #[.int .i64 0,.slice none 0 0,.slice none 0 0,.slice none 0 0,.slice none 0 0,.int .i64 0,.slice none 0 0,.slice none 0 0,.int .i64 0,.int .i64 0]) (setRow_heap W1 gp #[.int .i64 0,.slice none 0 0,.slice none 0 0,.slice none 0 0,.slice none 0 0,.int .i64 0,.slice none 0 0,.slice none 0 0,.int .i64 0,.int .i64 0] #[.int .i64 0,.slice none 0 0,.slice none 0 0,.slice none 0 0,.slice none 0 0,.int .i64 0,.slice none 0 0,.slice none 0 0,.int .i64 0,.int .i64 0] 82 _ hp1.out) hq1 c (.cells #[.int .i64 c] 203))
 clear hp hq hB hq1
 have hta:=assertE
 refine callsD_of_wpS Tryz.func156 rfl fun c₀ cs hu=>?_
 apply wpS_seq
 apply wpS_region
 simp [wpOpsS,go_sem,recoverD,hu,Tryz.ntmps156,Exit.thenS,←qbo,List.replicate]
 refine wpS_of_wp ?_
 go_upto_region 3 with fail
 rw [←hW1]
 clear hW1
 have cz0:=qC W1 _ 0 _ _ _ K1.out.2
 have cz1:=qC W1 _ 1 _ _ _ K1.out.2
 have cz2:=qC W1 _ 2 _ _ _ K1.out.2
 have cz3:=qC W1 _ 3 _ _ _ K1.out.2
 have cz4:=qC W1 _ 4 _ _ _ K1.out.2
 have cz5:=qC W1 _ 5 _ _ _ K1.out.2
 have cz6:=qC W1 _ 6 _ _ _ K1.out.2
 have cz7:=qC W1 _ 7 _ _ _ K1.out.2
 have cz8:=qC W1 _ 8 _ _ _ K1.out.2
 have cz9:=qC W1 _ 9 _ _ _ K1.out.2
 go_wp2_with (((with_reducible refine wpList_store_row rfl 82 _ _ rfl (gp) #[.int .i64 0,.slice none 0 0,.slice none 0 0,.slice none 0 0,.slice none 0 0,.int .i64 0,.slice none 0 0,.slice none 0 0,.int .i64 0,.int .i64 0] ?_ ?_ 82 _ hp1.out 10 ?_ ?_ ?_ ?_ ?_);(next=>rfl);(next=>rfl);(next=>kernel_rfl);(next=>rfl);(next=>rfl);(next=>rfl)))
 refine⟨rfl,.panicking ({ v:=.iface 203 (.agg #[.int .i64 c]),recovered:=true } :: older),rfl,.tuple #[],results_none rfl _ _ _,rfl,rfl,?_⟩
 exact HE.out
theorem qih (fc:FuncId) (caps:Array Value) (G:World→Value→Prop) (F:Int→Prop) (w:World) (hcf:∀W,(callFunc fc caps).run Tryz.prog W=.ok (.enter fc caps) W)
  (hG:∀(W W':World) (v:Value),(∀(g:Nat) (cs:Array Value) (t:TypeId) (fz:Nat×Nat),W.heap[g]? = some (.cells cs t fz)→t≠82→t≠39→W'.heap[g]? = some (.cells cs t fz))→G W v→G W' v)
  (hf:∀w1,Below w.heap.size w w1→Calls Tryz.prog fc caps w1 fun e w'=>Below w1.heap.size w1 w'∧((∃(p2:Option Addr) (n2 c2:Nat) (p3:Option Addr) (n3 c3:Nat),e=.returned (.agg #[.int .i64 2,.slice none 0 0,.slice p2 n2 c2,.slice p3 n3 c3,.slice none 0 0,.int .i64 0,.slice none 0 0,.slice none 0 0,.int .i64 0,.int .i64 0])∧G w' (.agg #[.int .i64 2,.slice none 0 0,.slice p2 n2 c2,.slice p3 n3 c3,.slice none 0 0,.int .i64 0,.slice none 0 0,.slice none 0 0,.int .i64 0,.int .i64 0]))∨∃c,e=thrown c∧F c)) :
  Calls Tryz.prog 88 #[.func (.func fc) #[] caps] w fun e w'=>Below w.heap.size w w'∧((∃(p2:Option Addr) (n2 c2:Nat) (p3:Option Addr) (n3 c3:Nat),e=.returned (.tuple #[(.agg #[.int .i64 2,.slice none 0 0,.slice p2 n2 c2,.slice p3 n3 c3,.slice none 0 0,.int .i64 0,.slice none 0 0,.slice none 0 0,.int .i64 0,.int .i64 0]),.int .i64 0])∧G w' (.agg #[.int .i64 2,.slice none 0 0,.slice p2 n2 c2,.slice p3 n3 c3,.slice none 0 0,.int .i64 0,.slice none 0 0,.slice none 0 0,.int .i64 0,.int .i64 0]))∨∃c,e=.returned (.tuple #[(.agg #[.int .i64 0,.slice none 0 0,.slice none 0 0,.slice none 0 0,.slice none 0 0,.int .i64 0,.slice none 0 0,.slice none 0 0,.int .i64 0,.int .i64 0]),.int .i64 c])∧F c):=by
 have hmf:∀(fn:Fn) (first cap:Array Value) (w:World),(Instr.makeFunc fn first cap).run Tryz.prog w=.ok (.func fn first cap) w:=fun _ _ _ _=>rfl
 obtain⟨W2,hW2,K2⟩:=nw2 w #[.int .i64 0,.slice none 0 0,.slice none 0 0,.slice none 0 0,.slice none 0 0,.int .i64 0,.slice none 0 0,.slice none 0 0,.int .i64 0,.int .i64 0] 82 #[.int .i64 0] 39
 have HF:=qH (hf W2 K2.out.1)
 clear hf
 go_enter_defers Tryz.func88,Tryz.ntmps88
 go_upto_region 1 with fail
 rw [←hW2]
 clear hW2
 go_wp2_with fail
 refine HF.out.mono ?_
 rintro e w1 ⟨hb1,h⟩
 have K3:Kn (fun W=>W.heap[w.heap.size]? = some (.cells #[.int .i64 0,.slice none 0 0,.slice none 0 0,.slice none 0 0,.slice none 0 0,.int .i64 0,.slice none 0 0,.slice none 0 0,.int .i64 0,.int .i64 0] 82 (0,0))∧W.heap[w.heap.size+1]? = some (.cells #[.int .i64 0] 39 (0,0))∧Below w.heap.size w W) w1 :=
  .of ⟨zkeep hb1 _ _ K2.out.2.1,zkeep hb1 _ _ K2.out.2.2,K2.out.1.trans (hb1.mono K2.out.1.size)⟩
 clear K2
 rcases h with ⟨p2,n2,c2,p3,n3,c3,rfl,hg⟩ | ⟨c,rfl,hF⟩
 ·have HE:=qH (filled (w:=w) (gp:=w.heap.size) (gq:=w.heap.size+1) (B:=w.heap.size) ⟨qad _,by omega,by omega⟩ K3.out.1 K3.out.2.1 (setRow_heap w1 _ #[.int .i64 0,.slice none 0 0,.slice none 0 0,.slice none 0 0,.slice none 0 0,.int .i64 0,.slice none 0 0,.slice none 0 0,.int .i64 0,.int .i64 0] #[.int .i64 2,.slice none 0 0,.slice p2 n2 c2,.slice p3 n3 c3,.slice none 0 0,.int .i64 0,.slice none 0 0,.slice none 0 0,.int .i64 0,.int .i64 0] _ _ K3.out.1) (fun k hk=>setRow_other _ _ _ _ hk) (qcR K3.out.2.2 qN _))
  have hgg:=hG _ ((w1.setRow w.heap.size #[.int .i64 2,.slice none 0 0,.slice p2 n2 c2,.slice p3 n3 c3,.slice none 0 0,.int .i64 0,.slice none 0 0,.slice none 0 0,.int .i64 0,.int .i64 0]).setCell ⟨w.heap.size+1,0,none⟩ (.int .i64 0)) _ (fun g cs t fz hg h1 h2=>by
   have n1:g≠w.heap.size:=fun e=>h1 (by rw [e] at hg;have:=hg.symm.trans K3.out.1;simp at this;exact this.2.1)
   have n2:g≠w.heap.size+1:=fun e=>h2 (by rw [e] at hg;have:=hg.symm.trans K3.out.2.1;simp at this;exact this.2.1)
   rw [Below.heap_setCell _ _ _ _ n2,setRow_other _ _ _ _ n1];exact hg) hg
  have hq1:(w1.setRow w.heap.size #[.int .i64 2,.slice none 0 0,.slice p2 n2 c2,.slice p3 n3 c3,.slice none 0 0,.int .i64 0,.slice none 0 0,.slice none 0 0,.int .i64 0,.int .i64 0]).heap[w.heap.size+1]? = some (.cells #[.int .i64 0] 39 (0,0)):=(setRow_other _ _ _ _ (by omega)).trans K3.out.2.1
  have cq:=qC (w1.setRow w.heap.size #[.int .i64 2,.slice none 0 0,.slice p2 n2 c2,.slice p3 n3 c3,.slice none 0 0,.int .i64 0,.slice none 0 0,.slice none 0 0,.int .i64 0,.int .i64 0]) _ 0 _ _ _ hq1
  have fq:=qF (w1.setRow w.heap.size #[.int .i64 2,.slice none 0 0,.slice p2 n2 c2,.slice p3 n3 c3,.slice none 0 0,.int .i64 0,.slice none 0 0,.slice none 0 0,.int .i64 0,.int .i64 0]) _ 0 _ _ hq1
  have HG:=qH hgg
  clear hG hg hgg HF hb1 hcf hq1
  rename_i hK
  dsimp only
  refine hK _ _ ?_
  go_wp2_with (((with_reducible refine wpList_store_row rfl 82 _ _ rfl (w.heap.size) #[.int .i64 2,.slice none 0 0,.slice p2 n2 c2,.slice p3 n3 c3,.slice none 0 0,.int .i64 0,.slice none 0 0,.slice none 0 0,.int .i64 0,.int .i64 0] ?_ ?_ 82 _ K3.out.1 10 ?_ ?_ ?_ ?_ ?_);(next=>rfl);(next=>rfl);(next=>kernel_rfl);(next=>rfl);(next=>rfl);(next=>rfl)))
  try simp only [bodyPostD]
  refine leaves_cons (f:=156) (args:=#[.pointer (some ⟨w.heap.size,0,none⟩),.pointer (some ⟨w.heap.size+1,0,none⟩)]) (by simp) (by simp [go_sem]) ?_
  refine (qjk _ _ _).mono ?_
  rintro e u' w'' ⟨rfl,rfl,rfl⟩
  refine⟨_,qcL rfl _ _ _ _ _ _ rfl rfl ((fun h=>run_loadVar_row _ _ _ 82 _ (0,0) _ h Tryz.underlying82 rfl (by kernel_rfl)) HE.out.1) (qcM _ Tryz.underlying39 rfl HE.out.2.1),HE.out.2.2.1,qal ⟨p2,n2,c2,p3,n3,c3,rfl,HG.out⟩⟩
 ·have HFc:=qH hF
  clear hF hG HF
  unfold thrown
  go_wp2_with fail
  try simp only [bodyPostD]
  refine leaves_cons (f:=156) (args:=#[.pointer (some ⟨w.heap.size,0,none⟩),.pointer (some ⟨w.heap.size+1,0,none⟩)]) (by simp) (by simp [go_sem]) ?_
  refine (qkr w.heap.size (w.heap.size+1) c [] _ w.heap.size ⟨qad _,by omega,by omega⟩ K3.out.1 K3.out.2.1).mono ?_
  rintro e u' w'' ⟨rfl,rfl,hp,hq,hb⟩
  refine⟨_,qcL rfl _ _ _ _ _ _ rfl rfl ((fun h=>run_loadVar_row _ _ _ 82 _ (0,0) _ h Tryz.underlying82 rfl (by kernel_rfl)) hp) (qcM _ Tryz.underlying39 rfl hq),K3.out.2.2.trans hb,qag ⟨c,rfl,HFc.out⟩⟩
def ElG (m:Md) (W:World) (v:Value):Prop:=∃n,MdOk m 1 n∧ElOk m n∧∃(B:Nat) (vr vo:Value),v=.agg #[.int .i64 2,.slice none 0 0,vr,vo,.slice none 0 0,.int .i64 0,.slice none 0 0,.slice none 0 0,.int .i64 0,.int .i64 0]∧ElTo W B m n 3 3 vr vo
def ElF (m:Md) (e:Int):Prop:=(¬qcp m∧e=320)∨(qcp m∧m.kind≠1∧e=5)∨(∃n,MdOk m 1 n∧¬ElOk m n∧e=6)
theorem qeI {W:World} {eb:Nat} {vr vo:Value} (h:W.heap[eb]? = some (.cells #[.int .i64 2,.slice none 0 0,vr,vo,.slice none 0 0,.int .i64 0,.slice none 0 0,.slice none 0 0,.int .i64 0,.int .i64 0] 82 (0,0))):W.cell? ⟨eb,2,none⟩=some vr∧W.cell? ⟨eb,3,none⟩=some vo∧∀j,W.frozen? ⟨eb,j,none⟩=false :=
 ⟨qC _ _ 2 _ _ _ h,qC _ _ 3 _ _ _ h,fun _j=>qF _ _ _ _ _ h⟩
structure ElSt (w2:World) (W:World) (m:Md) (n i j:Nat) (vr vo:Value):Prop where
 old:Below w2.heap.size w2 W
 row:W.heap[w2.heap.size]? = some (.cells #[.int .i64 2,.slice none 0 0,vr,vo,.slice none 0 0,.int .i64 0,.slice none 0 0,.slice none 0 0,.int .i64 0,.int .i64 0] 82 (0,0))
 tos:ElTo W (w2.heap.size+1) m n i j vr vo
theorem ElSt.below {w2 W W':World} {m:Md} {n i j:Nat} {vr vo:Value} (h:ElSt w2 W m n i j vr vo) (hb:Below W.heap.size W W'):ElSt w2 W' m n i j vr vo :=
 ⟨h.old.trans (hb.mono h.old.size),zkeep hb _ _ h.row,h.tos.below hb⟩
instance stays_elst {w2:World} {m:Md} {n i j:Nat} {vr vo:Value}:Stays fun W=>ElSt w2 W m n i j vr vo:=⟨fun h hb=>h.below hb⟩
theorem qfj {W:World} {g:Nat} {q:List Int} {t:TypeId} (h:W.heap[g]? = some (.cells (q.map fun z=>Value.int .i64 z).toArray t (0,0))) (off:Nat):NCells W (some ⟨g,off,none⟩) g off (q.drop off) :=
 ⟨fun _=>rfl,fun k hk=>by
  rw [qaZ] at hk
  refine (qC _ _ _ _ _ _ h).trans ?_
  rw [qat,qaJ,qaa,List.getElem?_drop,qaf (by omega)];rfl⟩
theorem qgZ {W:World} (g k:Nat) (v:Value):W.grownBy (W.setCell ⟨g,k,none⟩ v) (some g):=frac.qbT W g k v
theorem el1_any (m:Md) (mb:Nat) (a:Nat→Option Addr) (b' o d:Nat→Nat) (w:World) (hml:∀q,q<3→(m.row q).length≤4611686018427387904)
  (hmb:w.heap[mb]? = some (.cells #[.int .i64 m.kind,.int .i64 m.inn,.slice (a 0) (m.row 0).length (d 0),.slice (a 1) (m.row 1).length (d 1),.slice (a 2) (m.row 2).length (d 2)] 38 (0,0))) (hF:∀q,q<3→FCells w (a q) (b' q) (o q) (m.row q)) (hT:HasT w) (hE:HasE w) :
  Calls Tryz.prog 89 #[.pointer (some ⟨mb,0,none⟩)] w fun e w'=>Below w.heap.size w w' ∧
   ((∃(p2:Option Addr) (n2 c2:Nat) (p3:Option Addr) (n3 c3:Nat),e=.returned (.agg #[.int .i64 2,.slice none 0 0,.slice p2 n2 c2,.slice p3 n3 c3,.slice none 0 0,.int .i64 0,.slice none 0 0,.slice none 0 0,.int .i64 0,.int .i64 0])∧ElG m w' (.agg #[.int .i64 2,.slice none 0 0,.slice p2 n2 c2,.slice p3 n3 c3,.slice none 0 0,.int .i64 0,.slice none 0 0,.slice none 0 0,.int .i64 0,.int .i64 0]))∨∃c,e=thrown c∧ElF m c):=by
 obtain⟨W1,hW1,N1⟩:=nw1 w #[.int .i64 0,.slice none 0 0,.slice none 0 0,.slice none 0 0,.slice none 0 0,.int .i64 0,.slice none 0 0,.slice none 0 0,.int .i64 0,.int .i64 0] 82
 have hM:MdAt W1 (.agg #[.int .i64 m.kind,.int .i64 m.inn,.slice (a 0) (m.row 0).length (d 0),.slice (a 1) (m.row 1).length (d 1),.slice (a 2) (m.row 2).length (d 2)]) m :=
  ⟨_,_,_,_,_,_,_,_,_,_,_,_,rfl,(hF 0 (by decide)).below N1.out.1,(hF 1 (by decide)).below N1.out.1,(hF 2 (by decide)).below N1.out.1⟩
 have hCk:=qdY m _ W1 hM hml
 obtain⟨kind,hkind⟩:∃z,m.kind=z:=⟨_,rfl⟩
 obtain⟨inn,hinn⟩:∃z,m.inn=z:=⟨_,rfl⟩
 obtain⟨L,hL⟩:∃L:Nat→Nat,∀q,(m.row q).length=L q:=⟨_,fun _=>rfl⟩
 rw [hkind,hinn,hL,hL,hL] at hmb hCk
 have HCk:=qH hCk
 have K1:=N1.also (q:=fun W=>W.heap[mb]? = some (.cells #[.int .i64 kind,.int .i64 inn,.slice (a 0) (L 0) (d 0),.slice (a 1) (L 1) (d 1),.slice (a 2) (L 2) (d 2)] 38 (0,0))∧HasT W∧HasE W) ⟨zkeep N1.out.1 _ _ hmb,hT.below N1.out.1,hE.below N1.out.1⟩
 have c0:=qC _ _ 0 _ _ _ K1.out.2.1
 have c1:=qC _ _ 1 _ _ _ K1.out.2.1
 have c2:=qC _ _ 2 _ _ _ K1.out.2.1
 have c3:=qC _ _ 3 _ _ _ K1.out.2.1
 have c4:=qC _ _ 4 _ _ _ K1.out.2.1
 have HX:=qH (qA hkind (qA hinn (qA hL hF)))
 have hmf:∀(fn:Fn) (first cap:Array Value) (w:World),(Instr.makeFunc fn first cap).run Tryz.prog w=.ok (.func fn first cap) w:=fun _ _ _ _=>rfl
 clear N1 hM hCk hmb hF hT hE hml hkind hinn hL
 go_enter Tryz.func89,Tryz.ntmps89
 go_upto_region 1 with fail
 rw [←hW1]
 clear hW1
 go_wp2_with fail
 refine HCk.out.mono ?_
 rintro e w2 ⟨cc,rfl,hcc,hb2⟩
 have K2:=K1.below hb2
 clear hb2 K1 HCk c0 c1 c2 c3 c4
 rcases hcc with ⟨rfl,hok⟩ | ⟨rfl,hno⟩
 case inr =>
  have HN:=qH hno
  clear hno
  go_wp2_with fail
  refine (qb7 320 (by decide) _).mono ?_
  rintro e w3 ⟨rfl,rfl⟩
  unfold thrown
  go_wp2_with fail
  exact⟨rfl,K2.out.1.1,qag ⟨320,rfl,qal ⟨HN.out,rfl⟩⟩⟩
 have HSd:=qH hok
 clear hok
 go_wp2_with fail
 refine (qem _).mono ?_
 rintro e w3 ⟨rfl,hw⟩
 subst hw
 have c0:=qC _ _ 0 _ _ _ K2.out.2.1
 by_cases hk1:kind=1
 case neg =>
  have HK:=qH hk1
  have hkb:(kind != 1)=true:=by rw [bne_iff_ne];exact hk1
  clear hk1
  go_wp2_with fail
  refine (qb7 5 (by decide) _).mono ?_
  rintro e w3 ⟨rfl,rfl⟩
  unfold thrown
  go_wp2_with fail
  exact⟨rfl,K2.out.1.1,qag ⟨5,rfl,qag (qal ⟨HSd.out,by rw [HX.out.1];exact HK.out,rfl⟩)⟩⟩
 obtain⟨n,hMd⟩:∃n,MdOk m 1 n:=by
  obtain⟨kk,n,h⟩:=HSd.out
  have h1:=h.kind.1
  have h2:=HX.out.1
  obtain rfl:kk=1:=by omega
  exact⟨n,h⟩
 have hn1:=hMd.inn.2.1
 have hn4:=hMd.inn.2.2
 have HM:=qH hMd
 have HLn:Hid (∀c,c<3→L c=n+1∧FAll (m.row c)):=qH fun c hc=>by
  obtain⟨h1,h2⟩:=hMd.rows c hc
  rw [HX.out.2.2.1] at h1
  exact⟨h1.trans (by unfold many;rw [if_pos rfl];omega),h2⟩
 clear hMd HSd
 subst hk1
 obtain⟨W5,hW5,N5⟩:=nw1 w2 #[.int .i64 2,.slice none 0 0,.slice none 0 0,.slice none 0 0,.slice none 0 0,.int .i64 0,.slice none 0 0,.slice none 0 0,.int .i64 0,.int .i64 0] 82
 have K3:Kn (fun W=>(Below w.heap.size w W∧W.heap[w.heap.size]? = some (.cells #[.int .i64 0,.slice none 0 0,.slice none 0 0,.slice none 0 0,.slice none 0 0,.int .i64 0,.slice none 0 0,.slice none 0 0,.int .i64 0,.int .i64 0] 82 (0,0)))∧W.heap[mb]? = some (.cells #[.int .i64 1,.int .i64 inn,.slice (a 0) (n+1) (d 0),.slice (a 1) (n+1) (d 1),.slice (a 2) (n+1) (d 2)] 38 (0,0))∧HasT W∧HasE W) w2:=.of ⟨K2.out.1,by
  have h:=K2.out.2.1
  rwa [(HLn.out 0 (by decide)).1,(HLn.out 1 (by decide)).1,(HLn.out 2 (by decide)).1] at h,K2.out.2.2⟩
 have H0:Hid (ElSt w2 W5 m n 0 0 (.slice none 0 0) (.slice none 0 0)):=qH ⟨N5.out.1,N5.out.2,⟨⟨rfl,qal ⟨rfl,rfl⟩⟩,[],⟨rfl,qal ⟨rfl,rfl⟩⟩,fun c hc=>absurd hc (by omega)⟩⟩
 have HLe:=qH (qA (HLn.out 0 (by decide)).1 (qA (HLn.out 1 (by decide)).1 (HLn.out 2 (by decide)).1))
 rw [HLe.out.1,HLe.out.2.1,HLe.out.2.2]
 clear K2 HLe
 go_upto_region 5 with fail
 rw [←hW5]
 have hmr:=zkeep N5.out.1 _ _ K3.out.2.1
 clear hW5 c0 N5
 have c2:=qC _ _ 2 _ _ _ hmr
 have c3:=qC _ _ 3 _ _ _ hmr
 have c4:=qC _ _ 4 _ _ _ hmr
 clear hmr
 go_wp2_with fail
 clear c2 c3 c4
 go_loopw [21] (fun x21 W=>∃j:Nat,x21=.int .i64 j∧j≤3∧Hid (∃vr vo,ElSt w2 W m n j j vr vo∧∀c,c<j→∀k,k<n+1→qgt (elz m c k))) (fun x21 _=>3-(intOf x21).toNat)
 case atStart=>exact⟨0,rfl,qam _,qH ⟨_,_,H0.out,fun c hc=>absurd hc (by omega)⟩⟩
 case round =>
  obtain⟨j,rfl,hj,hI⟩:=hrel
  obtain⟨vr,vo,hS,hsm⟩:=hI.out
  by_cases hj3:j<3
  ·have hji:(j:Int)<3:=by omega
   have HS:=qH (qA hS hsm)
   clear hI hS hsm
   obtain⟨aj,haj⟩:∃z,a j=z:=⟨_,rfl⟩
   obtain⟨dj,hdj⟩:∃z,d j=z:=⟨_,rfl⟩
   have hxj:∀W,(Instr.index 36 (.agg #[.slice (a 0) (n+1) (d 0),.slice (a 1) (n+1) (d 1),.slice (a 2) (n+1) (d 2)]) (.int .i64 (j:Int))).run Tryz.prog W=.ok (.slice aj (n+1) dj) W:=fun W=>by
    rw [←haj,←hdj]
    rcases (show j=0∨j=1∨j=2 by omega) with rfl | rfl | rfl <;> kernel_rfl
   have hFj:=(HX.out.2.2.2 j hj3).below (K3.out.1.1.trans (HS.out.1.old.mono K3.out.1.1.size))
   rw [haj] at hFj
   have HFj:=qH hFj
   clear hFj haj hdj
   obtain⟨W6,hW6,N6⟩:=nw3 wr #[.slice aj (n+1) dj] 35 #[.int .i64 10000] 3 #[.int .i64 1] 3
   go_upto_if 26 with fail
   rw [←hW6]
   clear hW6 hxj
   go_cut [7] (fun x7 W=>x7=.int .i64 (elM j)∧Kn (fun W=>Below wr.heap.size wr W∧W.heap[wr.heap.size]? = some (.cells #[.slice aj (n+1) dj] 35 (0,0))∧W.heap[wr.heap.size+1]? = some (.cells #[.int .i64 (elN j:Int)] 3 (0,0))∧W.heap[wr.heap.size+1+1]? = some (.cells #[.int .i64 (elD j:Int)] 3 (0,0))) W)
   case first =>
    by_cases hj0:(j:Int) > 0
    ·have c5:=qC _ _ 0 _ _ _ N6.out.2.2.1
     have c6:=qC _ _ 0 _ _ _ N6.out.2.2.2
     have f5:=qF _ _ 0 _ _ N6.out.2.2.1
     have f6:=qF _ _ 0 _ _ N6.out.2.2.2
     go_wp2_with fail
     go_meet
     have e1:elN j=15625:=by unfold elN;rw [if_neg (by omega)]
     have e2:elD j=4:=by unfold elD;rw [if_neg (by omega)]
     have e3:elM j=500000:=by unfold elM;rw [if_neg (by omega)]
     rw [e1,e2,e3]
     refine⟨rfl,.of ⟨(N6.out.1.setCell (p:=⟨wr.heap.size+1,0,none⟩) (Nat.le_succ _) _).setCell (p:=⟨wr.heap.size+1+1,0,none⟩) (by show wr.heap.size≤wr.heap.size+1+1;omega) _,?_,?_,?_⟩⟩
     ·rw [Below.heap_setCell _ _ _ _ (show wr.heap.size≠wr.heap.size+1+1 by omega),Below.heap_setCell _ _ _ _ (show wr.heap.size≠wr.heap.size+1 by omega)];exact N6.out.2.1
     ·rw [Below.heap_setCell _ _ _ _ (show wr.heap.size+1≠wr.heap.size+1+1 by omega)];exact qek N6.out.2.2.1 _
     ·exact qek ((Below.heap_setCell _ _ _ _ (show wr.heap.size+1+1≠wr.heap.size+1 by omega)).trans N6.out.2.2.2) _
    ·obtain rfl:j=0:=by omega
     go_wp2_with fail
     go_meet
     exact⟨rfl,N6⟩
   case rest =>
    obtain⟨rfl,K6⟩:=hcut
    have hM0:=(qjZ j).1
    have hM1:=(qjZ j).2
    obtain⟨M,hMj⟩:∃M,elM j=M:=⟨_,rfl⟩
    have hA:=(HLn.out j hj3).2
    have hlj:(m.row j).length=n+1:=by rw [HX.out.2.2.1];exact (HLn.out j hj3).1
    have K7:=(K6.also (q:=fun W=>ElSt w2 W m n j j vr vo∧HasT W∧HasE W) ⟨HS.out.1.below K6.out.1,(K3.out.2.2.1.below HS.out.1.old).below K6.out.1,(K3.out.2.2.2.below HS.out.1.old).below K6.out.1⟩)
    have hg:GivesI 91 #[.pointer (some ⟨wr.heap.size,0,none⟩),.pointer (some ⟨wr.heap.size+1,0,none⟩),.pointer (some ⟨wr.heap.size+1+1,0,none⟩)] wc (n+1) (fun i z=>(-100000000000≤nearZ (lval (m.row j) i) (elN j)∧nearZ (lval (m.row j) i) (elN j)≤100000000000)∧z=nearT (lval (m.row j) i) (elN j) (elD j)) (fun i c=>¬(-100000000000≤nearZ (lval (m.row j) i) (elN j)∧nearZ (lval (m.row j) i) (elN j)≤100000000000)∧c=6):=by
     intro i hi W hb
     refine (el11_any (elN j) (elD j) (elND j) i (n+1) wr.heap.size (wr.heap.size+1) (wr.heap.size+1+1) (b' j) (o j) dj aj (m.row j) W hlj (by omega) hi hA (zkeep hb _ _ K7.out.1.2.1) (zkeep hb _ _ K7.out.1.2.2.1) (zkeep hb _ _ K7.out.1.2.2.2) ((HFj.out.below K7.out.1.1).below hb) (K7.out.2.2.1.below hb) (K7.out.2.2.2.below hb)).mono ?_
     rintro e w' ⟨h1,h2⟩
     refine⟨h1,?_⟩
     rcases h2 with ⟨h3,rfl⟩ | ⟨h3,rfl⟩
     ·exact qal ⟨_,rfl,h3,rfl⟩
     ·exact qag ⟨6,rfl,h3,rfl⟩
    have HG:=qH (qjv 91 #[.pointer (some ⟨wr.heap.size,0,none⟩),.pointer (some ⟨wr.heap.size+1,0,none⟩),.pointer (some ⟨wr.heap.size+1+1,0,none⟩)] (n+1) (by omega) _ _ wc (fun a W=>enters Tryz.func91 (by kernel_rfl) (by kernel_rfl) _ W) hg)
    have p5:=qC _ _ 0 _ _ _ K7.out.1.2.1
    have HMj:=qH hMj
    rw [hMj] at hM0 hM1 ⊢
    clear hg hA hlj K6 N6 hMj
    go_wp2_with fail
    refine HG.out.mono ?_
    rintro e w6 ⟨hb6,h⟩
    rcases h with ⟨l,g,hl,hP,rfl,hV,hgs⟩ | ⟨i,cc,hi,rfl,h3,rfl⟩
    case inr =>
     have HB6:=qH (K3.out.1.1.trans ((K7.out.2.1.old.trans (hb6.mono K7.out.2.1.old.size)).mono K3.out.1.1.size))
     have HE:=qH (qA hi h3)
     clear hb6 hi h3 HG
     unfold thrown
     go_wp2_with fail
     refine⟨rfl,HB6.out,qag ⟨6,rfl,qag (qag ⟨n,HM.out,fun h=>HE.out.2 ?_,rfl⟩)⟩⟩
     have:=h j hj3 i HE.out.1
     unfold elz at this
     refine el_near (M:=if i=0 then elM j else 0) ?_ ?_ this
     ·split
      ·exact (qjZ j).1
      ·exact Int.le_refl _
     ·split
      ·exact (qjZ j).2
      ·decide
    obtain⟨z0,lt,rfl⟩:∃z0 lt,l=z0 :: lt:=by
     cases l with
     | nil=>simp at hl
     | cons z0 lt=>exact⟨z0,lt,rfl⟩
    have hz0:=(hP 0 (by omega))
    have hlt:lt.length=n:=by simpa using hl
    have hzb:=qfO (q:=lval (m.row j) 0) (n:=elN j) (d:=elD j) (B:=100000000000) (by rcases elND j with ⟨_,h⟩ | ⟨_,h⟩ <;> omega) hz0.1.1 hz0.1.2
    have hze:z0=nearT (lval (m.row j) 0) (elN j) (elD j):=hz0.2
    rw [←hze] at hzb
    have hz1:=hzb.1
    have hz2:=hzb.2
    have hrow:w6.heap[g]? = some (.cells (Value.int .i64 z0 :: lt.map fun z=>Value.int .i64 z).toArray 3 (0,0)):=by
     have h:=hV.1
     rw [qax,hl,qaB,List.replicate_zero,List.append_nil] at h
     exact h
    have g0:w6.cell? ⟨g,0,none⟩=some (.int .i64 z0):=qC _ _ 0 _ _ _ hrow
    have gf:=qF _ _ 0 _ _ hrow
    obtain⟨W7,hW7⟩:∃W7,W7=w6.setCell ⟨g,0,none⟩ (.int .i64 (z0+M)):=⟨_,rfl⟩
    obtain⟨q,hq⟩:∃q,q=(z0+M) :: lt:=⟨_,rfl⟩
    have hql:q.length=n+1:=by rw [hq];simpa using hlt
    have hqz:∀k,k<n+1→q.getD k 0=elz m j k:=fun k hk=>by
     rw [hq]
     cases k with
     | zero =>
      show z0+M=_
      unfold elz
      rw [if_pos rfl,←HMj.out,hze]
     | succ k =>
      show lt.getD k 0=_
      unfold elz
      rw [if_neg (by omega),Int.add_zero]
      exact (hP (k+1) hk).2
    have K8:=K7.below hb6
    have hrow7:W7.heap[g]? = some (.cells (q.map fun z=>Value.int .i64 z).toArray 3 (0,0)):=by
     rw [hW7,heap_setCell_same _ g 0 _ _ _ hrow,hq,qao,qaF];rfl
    have hgB:wr.heap.size≤g:=qaj K7.out.1.1.size hgs
    have hS6:=K8.out.2.1
    have hlw:=HS.out.1.old.size
    have heb:g≠w2.heap.size:=by
     have:=(qG HS.out.1.row).1
     omega
    have hg1:w2.heap.size+1≤g:=by
     have:=(qG HS.out.1.row).1
     omega
    have hgr:w6.grownBy W7 (some g):=hW7▸qgZ g 0 _
    have hS7:ElSt w2 W7 m n j j vr vo:=by
     refine⟨hS6.old.trans ⟨hgr.os,hgr.tape,hgr.output,hgr.size,fun k hk=>hgr.block k (qah hk hS6.old.size) (fun e=>by have:=qai e;omega)⟩,(hgr.block _ (qG hS6.row).1 (fun e=>heb (qai e).symm)).trans hS6.row,?_⟩
     have:ElTo wr (w2.heap.size+1) m n j j vr vo:=HS.out.1.tos
     have hbw:Below wr.heap.size wr W7:=(K8.out.1.1).trans ⟨hgr.os,hgr.tape,hgr.output,hgr.size,fun k hk=>hgr.block k (qah hk K8.out.1.1.size) (fun e=>by have:=qai e;omega)⟩
     exact this.below hbw
    have hgl:∀{B:Nat} {e:TypeId} {s i:Nat} {x:Value} {xs:List Value},wr.ownsRow B e s x i xs→x.ownBlock≠some g:=fun {B e s i x xs} hx e1=>by
     have:=(hx.lt g e1).2
     omega
    have hvo:vo.ownBlock≠some g:=hgl HS.out.1.tos.1
    have hvr:vr.ownBlock≠some g:=by obtain⟨vs,h1,_⟩:=HS.out.1.tos.2;exact hgl h1
    have HQ:=qH (qA hql (qA hqz (qA hrow7 (qA hS7 (qA hg1 (qA hgB hrow7))))))
    have hT7:True:=trivial
    clear hb6 hP hV hgs hl hz0 hzb hze hrow hql hqz hrow7 K8 hS6 hlw heb hg1 hgr hS7 hgl hlt HG hq
    go_upto_region 13 with fail
    rw [←hW7]
    clear hW7 g0 gf hz1 hz2 hM0 hM1
    have HSm:=qH HS.out.2
    clear HS K7 HFj p5
    obtain⟨sz,hsz⟩:∃sz,sz=wr.heap.size:=⟨_,rfl⟩
    have HW:=qH (qA HQ.out.2.2.2.2.1 (qA hvo hvr))
    have HL:=qH (qA HQ.out.1 (qA HQ.out.2.1 (qA HQ.out.2.2.1 HQ.out.2.2.2.1)))
    clear HQ hvo hvr
    go_upto_region 14 with fail
    rw [←hsz]
    clear hsz
    go_loopw [39] (fun x39 W=>∃k:Nat,x39=.int .i64 k∧k≤n+1∧Hid (∀i,i<k→qgt (elz m j i))∧Hid (W=W7)) (fun x39 _=>n+1-(intOf x39).toNat)
    case atStart=>exact⟨0,rfl,qam _,qH fun i hi=>absurd hi (by omega),qH rfl⟩
    case round =>
     obtain⟨k,rfl,hk,hsk,hWe⟩:=hrel
     have hWe:=hWe.out
     subst hWe
     by_cases hkn:k<n+1
     ·have hki:(k:Int)<(n:Int)+1:=by omega
      have hck:wr.cell? ⟨g,k,none⟩=some (.int .i64 (elz m j k)):=by
       refine (qC _ _ _ _ _ _ HL.out.2.2.1).trans ?_
       have h1:=HL.out.2.1 k hkn
       rw [qaa,qaf (by rw [HL.out.1];exact hkn)] at h1
       rw [qat,qaJ,qaf (by rw [HL.out.1];exact hkn)]
       exact congrArg (fun z=>some (Value.int .i64 z)) h1
      obtain⟨z,hz⟩:∃z,elz m j k=z:=⟨_,rfl⟩
      rw [hz] at hck
      have HZ:=qH hz
      clear hz
      by_cases h1:z < -1000000000
      ·go_wp2_with fail
       refine (qb7 6 (by decide) _).mono ?_
       rintro e w3 ⟨rfl,rfl⟩
       unfold thrown
       go_wp2_with fail
       refine⟨rfl,K3.out.1.1.trans (HL.out.2.2.2.old.mono K3.out.1.1.size),qag ⟨6,rfl,qag (qag ⟨n,HM.out,fun h=>?_,rfl⟩)⟩⟩
       have:=(h j hj3 k hkn).1
       have:=HZ.out
       omega
      by_cases h2:z > 1000000000
      ·go_wp2_with fail
       refine (qb7 6 (by decide) _).mono ?_
       rintro e w3 ⟨rfl,rfl⟩
       unfold thrown
       go_wp2_with fail
       refine⟨rfl,K3.out.1.1.trans (HL.out.2.2.2.old.mono K3.out.1.1.size),qag ⟨6,rfl,qag (qag ⟨n,HM.out,fun h=>?_,rfl⟩)⟩⟩
       have:=(h j hj3 k hkn).2
       have:=HZ.out
       omega
      have hsz9:qgt (elz m j k):=by rw [HZ.out];exact⟨by omega,by omega⟩
      have HS9:=qH hsz9
      clear hsz9
      go_wp2_with fail
      go_roundw
      case rel =>
       refine⟨k+1,by go_num,hkn,qH fun i hi=>?_,by first | trivial | exact qH rfl⟩
       rcases qaN i k with h | h
       ·exact hsk.out i h
       ·obtain rfl:i=k:=by omega
        exact HS9.out
      case measure=>simp [intOf];omega
     ·have hki:¬(k:Int)<(n:Int)+1:=by omega
      obtain rfl:k=n+1:=by omega
      go_upto_region 19 with fail
      obtain⟨z0',hz0'⟩:∃z,elz m j 0=z:=⟨_,rfl⟩
      have hc0:wr.cell? ⟨g,0,none⟩=some (.int .i64 z0'):=by
       refine (qC _ _ _ _ _ _ HL.out.2.2.1).trans ?_
       have h1:=HL.out.2.1 0 (by omega)
       rw [qaa,qaf (by rw [HL.out.1];omega),hz0'] at h1
       rw [qat,qaJ,qaf (by rw [HL.out.1];omega)]
       exact congrArg (fun z=>some (Value.int .i64 z)) h1
      refine wp_region_held_drew (S:=fun _=>True) (by kernel_rfl) trivial (fun hS0=>?_)
      refine hT 0 (h:=hT 2 (h:=?_))
      refine hT 3 (h:=?_)
      refine gr [(1,52),(4,55),(5,56)] [(5,[4])] [0,2,3] [1,4,5] [] 6 9 (fl2 [(1,fun z _=>z=vo),(4,fun z _=>z=.int .i64 z0'),(5,fun z W=>∃g5:Nat,W.heap[g5]? = some (.cells #[.int .i64 z0'] 3 (0,0))∧z=.slice (some ⟨g5,0,none⟩) 1 1)]) _ 3
       (hS:=fun _ _=>trivial) (hstep:=⟨⟨_,rfl,fun v w3 hb hF K hK=>?_⟩,⟨_,rfl,fun v w3 hb hF K hK=>?_⟩,⟨_,rfl,fun v w3 hb hF K hK=>?_⟩,trivial⟩) (hend:=fun v w3 hb hF _ fu=>?_)
      ·have h0:=(qeI (HL.out.2.2.2.below (qbW hb)).row).2.1
       exact gV hK rfl
      ·have h0:=((qbW hb).cell (qac wr _ hc0)).trans hc0
       exact gV hK rfl
      ·have e4:v 4=_:=hF.1
       rw [e4] at hK ⊢
       exact gW hK (h:=⟨⟨w3.heap.size,qM _ _ _ rfl,rfl⟩,qbK qB qN⟩)
      have e1:v 1=_:=hF 1 (by decide) (by decide)
      obtain⟨g5,hg5,e5⟩:∃g:Nat,_:=hF 5 (by decide) (by decide)
      have hSt3:=HL.out.2.2.2.below (qbW hb)
      have hg3:=zkeep (qbW hb) _ _ HL.out.2.2.1
      have hB3:w2.heap.size+1≤w3.heap.size:=(qG hSt3.row).1
      obtain⟨v',w4,hr,hI4,hk4⟩:=run_ints 32 (c:=1) (m:=1) (l2:=[z0']) hSt3.tos.1 hB3 (qfj (q:=[z0']) hg5 0) rfl (by decide) (by rw [qgz];simp;omega)
      rw [←hz0',←qkw] at hI4
      obtain⟨a5,c5,rfl⟩:=qex hI4
      rw [qgz] at hr hI4 hk4
      rw [e1,e5]
      refine hE 6 (he:=by exact qgY rfl rfl rfl rfl hr) (h:=⟨trivial,hN (h:=?_)⟩)
      have hlo:∀k,vo.ownBlock=some k→w2.heap.size+1≤k:=fun k hk=>(hSt3.tos.1.lt k hk).1
      have hold4:Below w2.heap.size w2 w4:=qeN hSt3.old (fun k hk=>by have:=hlo k hk;omega) (by omega) hk4
      obtain⟨hrow4,hne4⟩:=qcH hSt3.row (fun e=>by have:=hlo _ e;omega) hk4
      have hR4:=hSt3.tos.2.off hSt3.tos.1 hk4
      have hg4:=(qcH hg3 HW.out.2.1 hk4).1
      have b1:=(qeI hrow4).2.1
      have f1:=(qeI hrow4).2.2 3
      refine hT 7 (hS:=trivial) (h:=?_)
      refine hSg 8 (h:=⟨trivial,?_⟩)
      obtain⟨W8,hW8⟩:∃W8,W8=w4.setCell ⟨w2.heap.size,3,none⟩ (.slice a5 (j+1) c5):=⟨_,rfl⟩
      have hgr8:w4.grownBy W8 (some w2.heap.size):=hW8▸qgZ _ _ _
      have H8:Kn (fun W=>ElSt w2 W m n (j+1) j vr (.slice a5 (j+1) c5)∧W.heap[g]? = some (.cells (q.map fun z=>Value.int .i64 z).toArray 3 (0,0))) W8:=.of
       ⟨⟨hW8▸hold4.setCell (p:=⟨w2.heap.size,3,none⟩) qN _,hW8▸heap_setCell_same _ _ 3 _ _ _ hrow4,ElTo.apart ⟨hI4,hR4⟩ hgr8 (qal (Nat.lt_succ_self _))⟩,
        (hgr8.block _ (qG hg4).1 (fun e=>by have:=HW.out.1;have:=qai e;omega)).trans hg4⟩
      have hvr8:=HW.out.2.2
      rw [←hW8]
      refine wpAnyH_done (by kernel_rfl) ?_ _
      clear hW8 hgr8 b1 f1 hg4 hR4 hne4 hrow4 hold4 hlo hI4 hk4 hr hB3 hg3 hSt3 e5 hg5 e1 hF hb hc0 hS0
      go_upto_region 20 with fail
      refine wp_region_held_drew (S:=fun _=>True) (by kernel_rfl) trivial (fun hS0=>?_)
      refine hT 0 (h:=hT 3 (h:=?_))
      refine hT 4 (v:=.slice (some ⟨g,1,none⟩) n n) (hy:=by (intro w hSw;go_simp;rw [if_pos (by omega),if_neg (by omega)])) (h:=?_)
      have hw8:w2.heap.size+1≤W8.heap.size:=(qG H8.out.1.row).1
      have hqd:q.drop 1=elRow m n j:=by
       refine List.ext_getElem (by rw [qaZ,HL.out.1,qgA];omega) fun k h1 h2=>?_
       have h2':k<n:=by rwa [qgA] at h2
       have h3:=HL.out.2.1 (k+1) (by omega)
       rw [qaa,qaf (by rw [HL.out.1];omega)] at h3
       rw [List.getElem_drop,elRow_at h2]
       have e:q[1+k]'(by rw [HL.out.1];omega)=q[k+1]'(by rw [HL.out.1];omega):=by congr 1;omega
       rw [e];exact h3
      have HQd:=qH hqd
      clear hqd
      refine gr [(1,60),(2,61),(5,64),(6,65)] [(5,[2]),(6,[5])] [0,3,4] [1,2,5,6] [] 7 10 (fl2 [(1,fun z _=>z=vr),(2,fun z W=>∃g5:Nat,(W.heap[g5]? = some (.cells #[] 3 (0,0))∧W8.heap.size≤g5)∧z=.slice (some ⟨g5,0,none⟩) 0 0),
        (5,fun z W=>IOwn W (w2.heap.size+1) z (elRow m n j)∧qjS n W8.heap.size z),(6,fun z W=>∃g6:Nat,∃u:Value,(W.heap[g6]? = some (.cells #[u] 32 (0,0))∧IOwn W (w2.heap.size+1) u (elRow m n j))∧qjS n W8.heap.size u∧z=.slice (some ⟨g6,0,none⟩) 1 1)]) _ 3
       (hS:=fun _ _=>trivial) (hstep:=⟨⟨_,rfl,fun v w3 hb hF K hK=>?_⟩,⟨_,rfl,fun v w3 hb hF K hK=>?_⟩,⟨_,rfl,fun v w3 hb hF K hK=>?_⟩,⟨_,rfl,fun v w3 hb hF K hK=>?_⟩,trivial⟩) (hend:=fun v w3 hb hF _ fu=>?_)
      ·have h0:=(qeI (H8.out.1.below (qbW hb)).row).1
       exact gV hK rfl
      ·exact gW hK (h:=⟨⟨w3.heap.size,⟨qM _ _ _ rfl,(qbW hb).size⟩,rfl⟩,qbK qB qN⟩)
      ·obtain⟨g5,⟨hg5,hgs5⟩,e2⟩:∃g:Nat,_:=hF.1
       have hb3:=qbW hb
       obtain⟨vi,w4,hr4,hI4,hk4,hk5⟩:=qi0 32 (B:=w2.heap.size+1) (c:=n) (m:=n) (l2:=q.drop 1) hg5 (qaj hw8 hb3.size) (qfj (zkeep hb3 _ _ H8.out.2) 1) (by rw [qaZ,HL.out.1];omega) (by omega) (by omega)
       rw [HQd.out] at hI4
       have hb34:Below w3.heap.size w3 w4:=qeK hk5
       have hsh:qjS n W8.heap.size vi:=by
        refine⟨by obtain⟨ai,ci,e⟩:=qex hI4;rw [qgA] at e;exact⟨ai,ci,e⟩,?_⟩
        exact⟨_,hk4,hb3.size⟩
       rw [e2] at hK ⊢
       exact gW hK (he:=qgY rfl rfl rfl rfl hr4) (hE:=fun h=>absurd h (by decide)) (h:=⟨⟨hI4,hsh⟩,hb34⟩)
      ·obtain⟨hI4,⟨ai,ci,e5⟩,hsh⟩:=hF.1
       rw [e5] at hK hI4 hsh ⊢
       have hsh:qjS n W8.heap.size (.slice ai n ci):=⟨⟨ai,ci,rfl⟩,hsh⟩
       exact gW hK (h:=⟨⟨w3.heap.size,_,⟨qM _ _ _ rfl,hI4.below (qbK qB qN)⟩,hsh,rfl⟩,qbK qB qN⟩)
      have e1:v 1=_:=hF 1 (by decide) (by decide)
      obtain⟨g6,vi,⟨hg6,hI4⟩,⟨⟨ai,ci,hve⟩,ki,hki1,hki2⟩,e6⟩:∃g:Nat,_:=hF 6 (by decide) (by decide)
      have hb3:=qbW hb
      have hio:vi.ownBlock≠(Value.slice a5 (j+1) c5).ownBlock:=fun e=>by
       rw [hki1] at e
       have:=(H8.out.1.tos.1.lt ki e.symm).2
       omega
      have hS5:=H8.out.1.below hb3
      have hw25:w2.heap.size+1≤w3.heap.size:=qaj hw8 hb3.size
      have hvs:=(Classical.choose_spec hS5.tos.2).1
      obtain⟨v7,w7,hr7,hown7,hk7⟩:=run_irow 77 (c:=1) hvs hw25 hg6 (by rw [hve];rfl) (by omega)
      have hrows:=ElTo.row hS5.tos (by omega) hI4 hio hown7 hk7
      have hlr:∀k,vr.ownBlock=some k→w2.heap.size+1≤k:=fun k hk=>(hvs.lt k hk).1
      have hold7:Below w2.heap.size w2 w7:=qeN hS5.old (fun k hk=>by have:=hlr k hk;omega) (by omega) hk7
      obtain⟨hrow7,_⟩:=qcH hS5.row (fun e=>by have:=hlr _ e;omega) hk7
      obtain⟨a7,c7,rfl⟩:=qex hown7
      rw [e1,e6]
      refine hE 7 (he:=by exact qgY rfl rfl rfl rfl hr7) (h:=⟨trivial,hN (h:=?_)⟩)
      have b1:=(qeI hrow7).1
      have f1:=(qeI hrow7).2.2 2
      refine hT 8 (hS:=trivial) (h:=?_)
      refine hSg 9 (h:=⟨trivial,?_⟩)
      obtain⟨W9,hW9⟩:∃W9,W9=w7.setCell ⟨w2.heap.size,2,none⟩ (.slice a7 (j+1) c7):=⟨_,rfl⟩
      have hgr9:w7.grownBy W9 (some w2.heap.size):=hW9▸qgZ _ _ _
      have H9:Hid (ElSt w2 W9 m n (j+1) (j+1) (.slice a7 (j+1) c7) (.slice a5 (j+1) c5)):=qH
       ⟨hW9▸hold7.setCell (p:=⟨w2.heap.size,2,none⟩) qN _,hW9▸heap_setCell_same _ _ 2 _ _ _ hrow7,ElTo.apart hrows hgr9 (qal (Nat.lt_succ_self _))⟩
      rw [←hW9]
      refine wpAnyH_done (by kernel_rfl) ?_ _
      clear hW9 hgr9 b1 f1 hrow7 hold7 hlr hrows hk7 hown7 hr7 hvs hw25 hS5 hio hI4 hki1 hki2 hve hg6 e6 hw8 hb3 e1 hF hb hS0 hki
      go_wp2_with fail
      go_roundw
      case rel =>
       refine⟨j+1,by go_num,hj3,qH ⟨_,_,H9.out,fun c hc k hk=>?_⟩⟩
       rcases qaN c j with h | h
       ·exact HSm.out c h k hk
       ·obtain rfl:c=j:=by omega
        exact hsk.out k hk
      case measure=>simp [intOf];omega
  ·obtain rfl:j=3:=by omega
   obtain⟨ao,co,rfl⟩:=qex hS.tos.1
   obtain⟨ar,cr,rfl⟩:=qex (Classical.choose_spec hS.tos.2).1
   rw [qgz] at hS
   have y0:=qC _ _ 0 _ _ _ hS.row
   have y1:=qC _ _ 1 _ _ _ hS.row
   have y2:=qC _ _ 2 _ _ _ hS.row
   have y3:=qC _ _ 3 _ _ _ hS.row
   have y4:=qC _ _ 4 _ _ _ hS.row
   have y5:=qC _ _ 5 _ _ _ hS.row
   have y6:=qC _ _ 6 _ _ _ hS.row
   have y7:=qC _ _ 7 _ _ _ hS.row
   have y8:=qC _ _ 8 _ _ _ hS.row
   have y9:=qC _ _ 9 _ _ _ hS.row
   have K9:=K3.below hS.old
   have Hr:=qH K9.out.1.2
   have HS:=qH (qA hS hsm)
   have hws:w.heap.size<w2.heap.size:=(qG K3.out.1.2).1
   have HE:=qH (qA (setRow_heap _ _ _ #[.int .i64 2,.slice none 0 0,.slice ar 3 cr,.slice ao 3 co,.slice none 0 0,.int .i64 0,.slice none 0 0,.slice none 0 0,.int .i64 0,.int .i64 0] _ _ Hr.out) (qA (below_setRow K9.out.1.1 (qad w.heap.size) #[.int .i64 2,.slice none 0 0,.slice ar 3 cr,.slice ao 3 co,.slice none 0 0,.int .i64 0,.slice none 0 0,.slice none 0 0,.int .i64 0,.int .i64 0]) (ElTo.apart hS.tos (qcg _ _ #[.int .i64 2,.slice none 0 0,.slice ar 3 cr,.slice ao 3 co,.slice none 0 0,.int .i64 0,.slice none 0 0,.slice none 0 0,.int .i64 0,.int .i64 0]) (qal (show w.heap.size<w2.heap.size+1 by omega)))))
   clear hI hS hsm K9 hws
   go_wp2_with (((with_reducible refine wpList_store_row rfl 82 _ _ rfl (w.heap.size) #[.int .i64 2,.slice none 0 0,.slice ar 3 cr,.slice ao 3 co,.slice none 0 0,.int .i64 0,.slice none 0 0,.slice none 0 0,.int .i64 0,.int .i64 0] ?_ ?_ 82 _ Hr.out 10 ?_ ?_ ?_ ?_ ?_);(next=>rfl);(next=>rfl);(next=>kernel_rfl);(next=>rfl);(next=>rfl);(next=>rfl)))
   refine qR (v:=.agg #[.int .i64 2,.slice none 0 0,.slice ar 3 cr,.slice ao 3 co,.slice none 0 0,.int .i64 0,.slice none 0 0,.slice none 0 0,.int .i64 0,.int .i64 0]) (qbP rfl _ _ (w.heap.size) 82 _ _ rfl HE.out.1 Tryz.underlying82 rfl 10 (by kernel_rfl) rfl) rfl ⟨HE.out.2.1,qal ⟨_,_,_,_,_,_,rfl,n,HM.out,fun c hc k hk=>HS.out.2 c hc k hk,_,_,_,rfl,HE.out.2.2⟩⟩
theorem qgR {W W':World} {B:Nat} {e:TypeId} {s n:Nat} {x:Value} {xs:List Value} (hx:W.ownsRow B e s x n xs) (h1:e≠82) (h2:e≠39)
  (hk:∀(g:Nat) (cs:Array Value) (t:TypeId) (fz:Nat×Nat),W.heap[g]? = some (.cells cs t fz)→t≠82→t≠39→W'.heap[g]? = some (.cells cs t fz)):W'.ownsRow B e s x n xs:=by
 refine⟨hx.1,?_⟩
 rcases hx.2 with h | ⟨g,cap,cur,rfl,h3,h4,h5⟩
 ·exact qal h
 ·exact qag ⟨g,cap,cur,rfl,h3,hk _ _ _ _ h4 h1 h2,h5⟩
theorem ElG.kept {m:Md} {W W':World} {v:Value} (hk:∀(g:Nat) (cs:Array Value) (t:TypeId) (fz:Nat×Nat),W.heap[g]? = some (.cells cs t fz)→t≠82→t≠39→W'.heap[g]? = some (.cells cs t fz)) (h:ElG m W v):ElG m W' v:=by
 obtain⟨n,h1,h2,B,vr,vo,h3,h4,vs,h5,h6⟩:=h
 exact⟨n,h1,h2,B,vr,vo,h3,qgR h4 (by decide) (by decide) hk,vs,qgR h5 (by decide) (by decide) hk,fun c hc=>⟨qgR (h6 c hc).1 (by decide) (by decide) hk,(h6 c hc).2⟩⟩
def ElAs (w:World) (m:Md) (e:Ending) (w':World):Prop :=
 Below w.heap.size w w'∧((∃v,e=.returned (.tuple #[v,.int .i64 0])∧ElG m w' v)∨∃c,e=.returned (.tuple #[.agg #[.int .i64 0,.slice none 0 0,.slice none 0 0,.slice none 0 0,.slice none 0 0,.int .i64 0,.slice none 0 0,.slice none 0 0,.int .i64 0,.int .i64 0],.int .i64 c])∧ElF m c)
theorem qdw (m:Md) (v:Value) (w:World) (hM:MdAt w v m) (hml:∀q,q<3→(m.row q).length≤4611686018427387904) (hT:HasT w) (hE:HasE w) :
  Calls Tryz.prog 28 #[v] w fun e w'=>ElAs w m e w':=by
 obtain⟨a,b',o,d,rfl,hF⟩:=hM.parts
 obtain⟨W3,hW3,K3⟩:=nw2 w #[.int .i64 m.kind,.int .i64 m.inn,.slice (a 0) (m.row 0).length (d 0),.slice (a 1) (m.row 1).length (d 1),.slice (a 2) (m.row 2).length (d 2)] 38 #[.int .i64 0,.slice none 0 0,.slice none 0 0,.slice none 0 0,.slice none 0 0,.int .i64 0,.slice none 0 0,.slice none 0 0,.int .i64 0,.int .i64 0] 82
 have hmf:∀(fn:Fn) (first cap:Array Value) (w:World),(Instr.makeFunc fn first cap).run Tryz.prog w=.ok (.func fn first cap) w:=fun _ _ _ _=>rfl
 have HG:=qH (qih 89 #[.pointer (some ⟨w.heap.size,0,none⟩)] (ElG m) (ElF m) W3 (fun W=>enters Tryz.func89 (by kernel_rfl) (by kernel_rfl) _ W)
  (fun W W' v hk h=>h.kept hk)
  (fun w1 hb=>el1_any m w.heap.size a b' o d w1 hml (zkeep hb _ _ K3.out.2.1) (fun q hq=>(hF q hq).below (K3.out.1.trans (hb.mono K3.out.1.size))) (hT.below (K3.out.1.trans (hb.mono K3.out.1.size))) (hE.below (K3.out.1.trans (hb.mono K3.out.1.size)))))
 have HB:=qH (qA K3.out.1 K3.out.2.2)
 clear hM hml hT hE hF K3
 go_enter Tryz.func28,Tryz.ntmps28
 go_upto_region 1 with fail
 rw [←hW3]
 clear hW3
 go_wp2_with fail
 refine HG.out.mono ?_
 rintro e w5 ⟨hb5,h⟩
 have HB5:=qH (HB.out.1.trans (hb5.mono HB.out.1.size))
 have Hr:=qH (zkeep hb5 _ _ HB.out.2)
 clear hb5 HG
 rcases h with ⟨p2,n2,c2,p3,n3,c3,rfl,hg⟩ | ⟨cc,rfl,hf⟩
 ·have HE:=qH (qA (setRow_heap _ _ _ #[.int .i64 2,.slice none 0 0,.slice p2 n2 c2,.slice p3 n3 c3,.slice none 0 0,.int .i64 0,.slice none 0 0,.slice none 0 0,.int .i64 0,.int .i64 0] _ _ Hr.out) (qA (below_setRow HB5.out (show w.heap.size≤w.heap.size+1 by omega) #[.int .i64 2,.slice none 0 0,.slice p2 n2 c2,.slice p3 n3 c3,.slice none 0 0,.int .i64 0,.slice none 0 0,.slice none 0 0,.int .i64 0,.int .i64 0]) (hg.kept (W':=w5.setRow (w.heap.size+1) #[.int .i64 2,.slice none 0 0,.slice p2 n2 c2,.slice p3 n3 c3,.slice none 0 0,.int .i64 0,.slice none 0 0,.slice none 0 0,.int .i64 0,.int .i64 0]) fun g cs t fz h h1 _=>by
   have n1:g≠w.heap.size+1:=fun e=>h1 (by rw [e] at h;have:=h.symm.trans Hr.out;simp at this;exact this.2.1)
   rw [setRow_other _ _ _ _ n1];exact h)))
  clear hg
  rename_i hK
  dsimp only
  refine hK _ _ ?_
  go_wp2_with (((with_reducible refine wpList_store_row rfl 82 _ _ rfl ((w.heap.size+1)) #[.int .i64 2,.slice none 0 0,.slice p2 n2 c2,.slice p3 n3 c3,.slice none 0 0,.int .i64 0,.slice none 0 0,.slice none 0 0,.int .i64 0,.int .i64 0] ?_ ?_ 82 _ Hr.out 10 ?_ ?_ ?_ ?_ ?_);(next=>rfl);(next=>rfl);(next=>kernel_rfl);(next=>rfl);(next=>rfl);(next=>rfl)))
  exact qR (v:=.tuple #[.agg #[.int .i64 2,.slice none 0 0,.slice p2 n2 c2,.slice p3 n3 c3,.slice none 0 0,.int .i64 0,.slice none 0 0,.slice none 0 0,.int .i64 0,.int .i64 0],.int .i64 0]) (qbN rfl _ _ (w.heap.size+1) 82 _ _ rfl HE.out.1 Tryz.underlying82 rfl 10 (by kernel_rfl) rfl _ rfl) rfl ⟨HE.out.2.1,qal ⟨_,rfl,HE.out.2.2⟩⟩
 ·have HE:=qH (qA (setRow_heap _ _ _ #[.int .i64 0,.slice none 0 0,.slice none 0 0,.slice none 0 0,.slice none 0 0,.int .i64 0,.slice none 0 0,.slice none 0 0,.int .i64 0,.int .i64 0] _ _ Hr.out) (qA (below_setRow HB5.out (show w.heap.size≤w.heap.size+1 by omega) #[.int .i64 0,.slice none 0 0,.slice none 0 0,.slice none 0 0,.slice none 0 0,.int .i64 0,.slice none 0 0,.slice none 0 0,.int .i64 0,.int .i64 0]) hf))
  clear hf
  rename_i hK
  dsimp only
  refine hK _ _ ?_
  go_wp2_with (((with_reducible refine wpList_store_row rfl 82 _ _ rfl ((w.heap.size+1)) #[.int .i64 0,.slice none 0 0,.slice none 0 0,.slice none 0 0,.slice none 0 0,.int .i64 0,.slice none 0 0,.slice none 0 0,.int .i64 0,.int .i64 0] ?_ ?_ 82 _ Hr.out 10 ?_ ?_ ?_ ?_ ?_);(next=>rfl);(next=>rfl);(next=>kernel_rfl);(next=>rfl);(next=>rfl);(next=>rfl)))
  exact qR (v:=.tuple #[.agg #[.int .i64 0,.slice none 0 0,.slice none 0 0,.slice none 0 0,.slice none 0 0,.int .i64 0,.slice none 0 0,.slice none 0 0,.int .i64 0,.int .i64 0],.int .i64 cc]) (qbN rfl _ _ (w.heap.size+1) 82 _ _ rfl HE.out.1 Tryz.underlying82 rfl 10 (by kernel_rfl) rfl _ rfl) rfl ⟨HE.out.2.1,qag ⟨cc,rfl,HE.out.2.2⟩⟩
end Go.Proofs.YtplkdeknjghobaaGreatDoor
namespace Go.Proofs.YtplkdeknjghobaaGreatDoor
open Go.RowKit Go.Lib
theorem num_d2 {u:Nat} (h1:10≤u) (h2:u<100):num u=⟨#[UInt8.ofNat (48+u / 10),UInt8.ofNat (48+u % 10)]⟩:=by
 unfold num;rw [qbS h1,qbR (by omega)];rfl
theorem qiP {u:Nat} (h1:100≤u) (h2:u<1000):num u=⟨#[UInt8.ofNat (48+u / 10 / 10),UInt8.ofNat (48+u / 10 % 10),UInt8.ofNat (48+u % 10)]⟩:=by
 unfold num;rw [qbS (by omega),qbS (by omega),qbR (by omega)];rfl
theorem ft_of {q:Rat} (z d:Nat) (hz:q.num=z) (hd:q.den=d):ftxt q=(num z,num d):=by
 unfold ftxt
 rw [hz,hd,frac.qeU (by omega),qan]
theorem ft_14:ftxt (1 / 4)=(⟨#[49]⟩,⟨#[52]⟩):=qeJ 1 4 (by decide +kernel) (by decide +kernel) (by decide) (by decide)
theorem ft_103:ftxt (10 / 3)=(⟨#[49,48]⟩,⟨#[51]⟩):=by rw [ft_of 10 3 (by decide +kernel) (by decide +kernel),num_d2 (by decide) (by decide),qdr (by decide)];rfl
theorem ft_100:ftxt 100=(⟨#[49,48,48]⟩,⟨#[49]⟩):=by rw [ft_of 100 1 (by decide +kernel) (by decide +kernel),qiP (by decide) (by decide),qdr (by decide)];rfl
theorem ft_140:ftxt 140=(⟨#[49,52,48]⟩,⟨#[49]⟩):=by rw [ft_of 140 1 (by decide +kernel) (by decide +kernel),qiP (by decide) (by decide),qdr (by decide)];rfl
theorem ft_1009:ftxt (100 / 9)=(⟨#[49,48,48]⟩,⟨#[57]⟩):=by rw [ft_of 100 9 (by decide +kernel) (by decide +kernel),qiP (by decide) (by decide),qdr (by decide)];rfl
theorem ft_4009:ftxt (400 / 9)=(⟨#[52,48,48]⟩,⟨#[57]⟩):=by rw [ft_of 400 9 (by decide +kernel) (by decide +kernel),qiP (by decide) (by decide),qdr (by decide)];rfl
theorem qlE:ftxt (160 / 3)=(⟨#[49,54,48]⟩,⟨#[51]⟩):=by rw [ft_of 160 3 (by decide +kernel) (by decide +kernel),qiP (by decide) (by decide),qdr (by decide)];rfl
theorem ft_m40:ftxt (-40)=(⟨#[45,52,48]⟩,⟨#[49]⟩):=by
 unfold ftxt
 rw [show ((-40:Rat)).num = -40 by decide +kernel,show ((-40:Rat)).den=1 by decide +kernel,frac.qfJ (by decide),show ((-40:Int)).natAbs=40 from rfl,num_d2 (by decide) (by decide),qdr (by decide)]
 rfl
theorem qfi (W:World) (ws:List Int):NCells (W.alloc (.cells (ws.map fun z=>Value.int .i64 z).toArray 3)) (some ⟨W.heap.size,0,none⟩) W.heap.size 0 ws:=by
 have:=qfj (q:=ws) (qM W (.cells (ws.map fun z=>Value.int .i64 z).toArray 3) _ rfl) 0
 rwa [List.drop_zero] at this
theorem alloc_old (W:World) (o:Obj):Below W.heap.size W (W.alloc o):=qbK qB qN
theorem qi7 (W:World) (kind:Int) (k:Nat) (dv:List Int) (n:Nat) (hn:dv.length=n) (hk:qch kind k) (h1:1≤n) (h4:n≤4) (h3:¬(k=3∧n=4)) (hV:qcn dv) (hT:HasT W) :
  Calls Tryz.prog 25 #[.int .i64 kind,.slice (some ⟨W.heap.size,0,none⟩) n n] (W.alloc (.cells (dv.map fun z=>Value.int .i64 z).toArray 3)) fun e w'=>∃(p:Option Addr) (g c:Nat),e=.returned (.tuple #[.slice p (many k n) c,.int .i64 0])∧FCells w' p g 0 ((termL k dv).map ftxt)∧Below W.heap.size W w':=by
 subst hn
 refine (qeS kind W.heap.size 0 dv.length dv.length (some ⟨W.heap.size,0,none⟩) dv _ rfl (by omega) (qfi W dv) (hT.below (alloc_old _ _))).mono ?_
 rintro e w' ⟨hb,⟨v,rfl,_,_,_,k',hk',_,p,g,c,rfl,hF⟩ | ⟨c,rfl,h⟩⟩
 ·obtain rfl:=hk.uniq hk'
  exact⟨p,g,c,rfl,hF,qck hb⟩
 ·exfalso
  rcases h with ⟨h,_⟩ | ⟨_,⟨h,_⟩ | ⟨_,h,h',_⟩⟩
  ·exact h ⟨⟨k,hk⟩,h1,h4⟩
  ·exact h hV
  ·exact h3 ⟨hk.uniq h▸rfl,h'⟩
theorem qmP (W:World) (kind:Int) (dv:List Int) (n:Nat) (c:Int) (hn:dv.length=n) (hn2:n≤1000) (hf:∀e,TmF kind dv e→e=c) (hg:¬∃k,qch kind k∧1≤n∧n≤4∧qcn dv∧¬(k=3∧n=4)) (hT:HasT W) :
  Calls Tryz.prog 25 #[.int .i64 kind,.slice (some ⟨W.heap.size,0,none⟩) n n] (W.alloc (.cells (dv.map fun z=>Value.int .i64 z).toArray 3)) fun e w'=>e=.returned (.tuple #[.slice none 0 0,.int .i64 c])∧Below W.heap.size W w':=by
 subst hn
 refine (qeS kind W.heap.size 0 dv.length dv.length (some ⟨W.heap.size,0,none⟩) dv _ rfl (by omega) (qfi W dv) (hT.below (alloc_old _ _))).mono ?_
 rintro e w' ⟨hb,⟨v,rfl,h1,h4,hV,k',hk',h3,_⟩ | ⟨c',rfl,h⟩⟩
 ·exact absurd ⟨k',hk',h1,h4,hV,h3⟩ hg
 ·rw [hf _ h];exact⟨rfl,qck hb⟩
theorem qlz (W:World) (l:List Pt) (R b off c:Nat) (ao:Option Addr) (kind:Int) (ws:List Int) (n:Nat) (hn:ws.length=n) (hn2:n≤1000) (hR:l.length=R) (hR2:R≤1000) (hs:∀k,k<R→(l.getD k pt0).name.size≤1000∧(l.getD k pt0).dev.length≤1000) (hP:PCells W ao b off l) (hT:HasT W) :
  Calls Tryz.prog 14 #[.slice ao R c,.int .i64 kind,.slice (some ⟨W.heap.size,0,none⟩) n n] (W.alloc (.cells (ws.map fun z=>Value.int .i64 z).toArray 3)) fun e w'=>FitAs (W.alloc (.cells (ws.map fun z=>Value.int .i64 z).toArray 3)) l kind ws e w' :=
 qgB R b off c W.heap.size 0 n n ao (some ⟨W.heap.size,0,none⟩) l kind ws _ hR (by omega) (fun k hk=>⟨by have:=(hs k hk).1;omega,by have:=(hs k hk).2;omega⟩) hn (by omega) (hP.below (alloc_old _ _)) (qfi W ws) (hT.below (alloc_old _ _))
theorem qc5:∀k,k<3→(ramp.getD k pt0).name.size≤1000∧(ramp.getD k pt0).dev.length≤1000:=fun k hk=>by
 rcases (show k=0∨k=1∨k=2 by omega) with rfl | rfl | rfl <;> exact⟨(by decide:1≤1000),(by decide:1≤1000)⟩
theorem MdAt.lit {W:World} {v:Value} {k n m:Nat} {x:Nat→Nat→Rat} (h:MdAt W v (mdq k n m x)):∃(a0 a1 a2:Option Addr) (b0 o0 c0 b1 o1 c1 b2 o2 c2:Nat),v=.agg #[.int .i64 (k:Int),.int .i64 (n:Int),.slice a0 m c0,.slice a1 m c1,.slice a2 m c2]∧FCells W a0 b0 o0 (told m (x 0))∧FCells W a1 b1 o1 (told m (x 1))∧FCells W a2 b2 o2 (told m (x 2)):=by
 obtain⟨a0,a1,a2,b0,o0,c0,b1,o1,c1,b2,o2,c2,rfl,h0,h1,h2⟩:=h
 refine⟨a0,a1,a2,b0,o0,c0,b1,o1,c1,b2,o2,c2,?_,h0,h1,h2⟩
 show Value.agg #[.int .i64 (k:Int),.int .i64 (n:Int),.slice a0 (told m (x 0)).length c0,.slice a1 (told m (x 1)).length c1,.slice a2 (told m (x 2)).length c2]=_
 rw [qbM,qbM,qbM]
theorem MdAt.of {W:World} {k n m:Nat} {x:Nat→Nat→Rat} {a0 a1 a2:Option Addr} {b0 o0 c0 b1 o1 c1 b2 o2 c2:Nat} (h0:FCells W a0 b0 o0 (told m (x 0))) (h1:FCells W a1 b1 o1 (told m (x 1))) (h2:FCells W a2 b2 o2 (told m (x 2))):MdAt W (.agg #[.int .i64 (k:Int),.int .i64 (n:Int),.slice a0 m c0,.slice a1 m c1,.slice a2 m c2]) (mdq k n m x):=by
 refine⟨a0,a1,a2,b0,o0,c0,b1,o1,c1,b2,o2,c2,?_,h0,h1,h2⟩
 show _=Value.agg #[.int .i64 (k:Int),.int .i64 (n:Int),.slice a0 (told m (x 0)).length c0,.slice a1 (told m (x 1)).length c1,.slice a2 (told m (x 2)).length c2]
 rw [qbM,qbM,qbM]
theorem qdM {k n m:Nat} {x:Nat→Nat→Rat} (hm:m≤1000):∀q,q<3→((mdq k n m x).row q).length≤4611686018427387904:=fun q hq=>by rw [qfM hq,qbM];omega
theorem qho:∀c,c<3→elz (mdq 1 1 2 fitX1) c 0=[33333,500000,500000].getD c 0∧elz (mdq 1 1 2 fitX1) c 1=[1000000,0,0].getD c 0:=fun c hc=>by
 unfold elz
 rw [qfM hc,qcO (by decide),qcO (by decide)]
 rcases (show c=0∨c=1∨c=2 by omega) with rfl | rfl | rfl <;> exact⟨by decide +kernel,by decide +kernel⟩
theorem ex_elok:ElOk (mdq 1 1 2 fitX1) 1:=fun c hc k hk=>by
 obtain⟨h0,h1⟩:=qho c hc
 rcases (show k=0∨k=1 by omega) with rfl | rfl
 ·rw [h0];rcases (show c=0∨c=1∨c=2 by omega) with rfl | rfl | rfl <;> exact⟨by decide,by decide⟩
 ·rw [h1];rcases (show c=0∨c=1∨c=2 by omega) with rfl | rfl | rfl <;> exact⟨by decide,by decide⟩
theorem qha {k:Nat} {dv:List Int} {l:List Rat} {n:Nat} (h:termL k dv=l) (hn:l.length=n):(termL k dv).map ftxt=told n (fv l):=by
 rw [h,←hn,qmT]
theorem vals_two {y z:Int} (h:0≤y∧y≤10000) (h2:0≤z∧z≤10000):qcn [y,z]:=fun k hk=>by
 have hk:k<2:=hk
 rcases (show k=0∨k=1 by omega) with rfl | rfl
 ·exact h
 ·exact h2
theorem ex_tm1 (W:World) (hT:HasT W):Calls Tryz.prog 25 #[.int .i64 3,.slice (some ⟨W.heap.size,0,none⟩) 2 2] (W.alloc (.cells #[.int .i64 5000,.int .i64 10000] 3)) fun e w'=>∃(p:Option Addr) (g c:Nat),e=.returned (.tuple #[.slice p 4 c,.int .i64 0])∧FCells w' p g 0 (told 4 (fv [1,1 / 2,1,1 / 2]))∧Below W.heap.size W w':=by
 refine (qi7 W 3 3 [5000,10000] 2 rfl kind3 (by decide) (by decide) (by decide) (vals_two (by decide) (by decide)) hT).mono ?_
 rintro e w' ⟨p,g,c,rfl,hF,hb⟩
 rw [qha (l:=[1,1 / 2,1,1 / 2]) (n:=4) (by decide +kernel) rfl] at hF
 exact⟨p,g,c,rfl,hF,hb⟩
theorem ex_tm2 (W:World) (hT:HasT W):Calls Tryz.prog 25 #[.int .i64 2,.slice (some ⟨W.heap.size,0,none⟩) 1 1] (W.alloc (.cells #[.int .i64 5000] 3)) fun e w'=>∃(p:Option Addr) (g c:Nat),e=.returned (.tuple #[.slice p 3 c,.int .i64 0])∧FCells w' p g 0 (told 3 (fv [1,1 / 2,1 / 4]))∧Below W.heap.size W w':=by
 refine (qi7 W 2 2 [5000] 1 rfl kind2 (by decide) (by decide) (by decide) (qfH (by decide)) hT).mono ?_
 rintro e w' ⟨p,g,c,rfl,hF,hb⟩
 rw [qha (l:=[1,1 / 2,1 / 4]) (n:=3) (by decide +kernel) rfl] at hF
 exact⟨p,g,c,rfl,hF,hb⟩
theorem ex_tm3 (W:World) (hT:HasT W):Calls Tryz.prog 25 #[.int .i64 4,.slice (some ⟨W.heap.size,0,none⟩) 1 1] (W.alloc (.cells #[.int .i64 0] 3)) fun e w'=>e=.returned (.tuple #[.slice none 0 0,.int .i64 2])∧Below W.heap.size W w':=by
 have hn:¬∃k,qch 4 k:=fun⟨k,h⟩=>by have:=h.1;have:=h.2;omega
 refine qmP W 4 [0] 1 2 rfl (by decide) (fun e h=>?_) (fun⟨k,h,_⟩=>hn ⟨k,h⟩) hT
 rcases h with ⟨_,h⟩ | ⟨⟨h,_⟩,_⟩
 ·exact h
 ·exact absurd h hn
theorem ex_f1 (W:World) (g c:Nat) (hP:PCells W (some ⟨g,0,none⟩) g 0 ramp) (hT:HasT W):Calls Tryz.prog 14 #[.slice (some ⟨g,0,none⟩) 3 c,.int .i64 1,.slice (some ⟨W.heap.size,0,none⟩) 3 3] (W.alloc (.cells #[.int .i64 1,.int .i64 1,.int .i64 1] 3)) fun e w'=>∃v,e=.returned (.tuple #[v,.int .i64 0])∧MdAt w' v (mdq 1 1 2 fitX1)∧Below W.heap.size W w':=by
 refine (qlz W ramp 3 g 0 c _ 1 [1,1,1] 3 rfl (by decide) rfl (by decide) qc5 hP hT).mono ?_
 intro e w' h
 obtain⟨hb,v,he,hM⟩:=ex_fit1 h
 exact⟨v,he,hM,qck hb⟩
theorem ex_f2 (W:World) (g c:Nat) (hP:PCells W (some ⟨g,0,none⟩) g 0 ramp) (hT:HasT W):Calls Tryz.prog 14 #[.slice (some ⟨g,0,none⟩) 3 c,.int .i64 2,.slice (some ⟨W.heap.size,0,none⟩) 3 3] (W.alloc (.cells #[.int .i64 1,.int .i64 1,.int .i64 1] 3)) fun e w'=>∃v,e=.returned (.tuple #[v,.int .i64 0])∧MdAt w' v (mdq 2 1 3 fitX2)∧Below W.heap.size W w':=by
 refine (qlz W ramp 3 g 0 c _ 2 [1,1,1] 3 rfl (by decide) rfl (by decide) qc5 hP hT).mono ?_
 intro e w' h
 obtain⟨hb,v,he,hM⟩:=ex_fit2 h
 exact⟨v,he,hM,qck hb⟩
theorem ex_f3 (w:World) (g g2 c:Nat) (hP:PCells w (some ⟨g,0,none⟩) g 0 ramp) (hN:w.heap[g2]? = some (.cells #[.int .i64 1,.int .i64 1,.int .i64 0] 3 (0,0))) (hT:HasT w):Calls Tryz.prog 14 #[.slice (some ⟨g,0,none⟩) 3 c,.int .i64 2,.slice (some ⟨g2,0,none⟩) 3 3] w fun e w'=>e=.returned (.tuple #[mdv0,.int .i64 7])∧Below w.heap.size w w':=by
 have hN:=qfj (q:=[1,1,0]) hN 0
 refine (qgB 3 g 0 c g2 0 3 3 (some ⟨g,0,none⟩) (some ⟨g2,0,none⟩) ramp 2 [1,1,0] w rfl (by decide) (fun k hk=>⟨by have:=(qc5 k hk).1;omega,by have:=(qc5 k hk).2;omega⟩) rfl (by decide) hP hN hT).mono ?_
 intro e w' h
 obtain⟨hb,he⟩:=ex_fit3 h
 exact⟨he,hb⟩
theorem ex_a1 (W:World) (v:Value) (hM:MdAt W v (mdq 1 1 2 fitX1)) (hT:HasT W):Calls Tryz.prog 22 #[v,.slice (some ⟨W.heap.size,0,none⟩) 1 1] (W.alloc (.cells #[.int .i64 5000] 3)) fun e w'=>e=.returned (.tuple #[.agg #[.string ⟨#[49,54,48]⟩,.string ⟨#[51]⟩,.string ⟨#[48]⟩,.string ⟨#[49]⟩,.string ⟨#[48]⟩,.string ⟨#[49]⟩],.int .i64 0])∧Below W.heap.size W w':=by
 refine (qgu (mdq 1 1 2 fitX1) v 1 W.heap.size 0 1 (some ⟨W.heap.size,0,none⟩) [5000] _ (hM.below (alloc_old _ _)) rfl (by decide) (qdM (by decide)) (qfi W [5000]) (hT.below (alloc_old _ _))).mono ?_
 intro e w' h
 obtain⟨hb,he⟩:=ex_apply h
 exact⟨he,qck hb⟩
theorem ex_s1 (w:World) (v:Value) (g c:Nat) (hM:MdAt w v (mdq 1 1 2 fitX1)) (hP:PCells w (some ⟨g,0,none⟩) g 0 ramp) (hT:HasT w):Calls Tryz.prog 33 #[v,.slice (some ⟨g,0,none⟩) 3 c] w fun e w'=>∃g,e=.returned (.tuple #[.slice (some ⟨g,0,none⟩) 3 3,.int .i64 0])∧FCells w' (some ⟨g,0,none⟩) g 0 (told 3 (fv [100 / 9,400 / 9,100 / 9]))∧Below w.heap.size w w':=by
 refine (qg5 (mdq 1 1 2 fitX1) v 3 g 0 c (some ⟨g,0,none⟩) ramp w hM rfl (by decide) (fun k hk=>⟨by have:=(qc5 k hk).1;omega,by have:=(qc5 k hk).2;omega⟩) (qdM (by decide)) hP hT).mono ?_
 intro e w' h
 obtain⟨hb,g,he,hF⟩:=qkz h
 exact⟨g,he,hF,hb⟩
theorem IOwn.cells {W:World} {B:Nat} {v:Value} {l:List Int} (h:IOwn W B v l) (h0:0<l.length):∃g c,v=.slice (some ⟨g,0,none⟩) l.length c∧NCells W (some ⟨g,0,none⟩) g 0 l:=by
 have hown:=h
 rcases h.2 with ⟨_,h⟩ | ⟨g,cap,cur,rfl,_,_,_⟩
 ·omega
 ·refine⟨g,cap,rfl,fun _=>rfl,fun k hk=>?_⟩
  have:=World.ownsRow.cells hown (g:=g) rfl k (.int .i64 (l.getD k 0)) (by rw [qaJ,qaa,qaf hk];rfl)
  rwa [Addr.add_mid] at this
theorem qhD {W:World} {B j:Nat} {v:Value} {e:TypeId} {vs:List Value} (h:W.ownsRow B e 1 v j vs) (h0:0<j):∃g c,v=.slice (some ⟨g,0,none⟩) j c∧∀k,k<j→W.cell? ⟨g,k,none⟩=some (vs.getD k undef):=by
 have hown:=h
 rcases h.2 with ⟨_,h⟩ | ⟨g,cap,cur,rfl,_,_,_⟩
 ·omega
 ·refine⟨g,cap,rfl,fun k hk=>?_⟩
  have hl:=h.1
  have:=hown.cells (g:=g) rfl k (vs.getD k undef) (by rw [qaa,qaf (by omega)];rfl)
  rwa [Addr.add_mid,qaG] at this
theorem eq_ints (b1 o1 c b2 o2 d:Nat) (xs ys:List Int) (n m:Nat) (w:World) (hn:xs.length=n) (hm:ys.length=m) (hn2:n≤1000000) (hm2:m≤1000000) (h1:NCells w (some ⟨b1,o1,none⟩) b1 o1 xs) (h2:NCells w (some ⟨b2,o2,none⟩) b2 o2 ys) :
  Calls Tryz.prog 43 #[.slice (some ⟨b1,o1,none⟩) n c,.slice (some ⟨b2,o2,none⟩) m d] w fun e w'=>e=.returned (.bool (xs == ys))∧Below w.heap.size w w':=by
 subst hn hm
 refine (Tryz.slices_Equal_int b1 o1 xs.length c b2 o2 ys.length d xs ys w qN qN (by omega) (by omega) h1.cell h2.cell).mono ?_
 rintro e w' ⟨rfl,q,rfl⟩
 rw [qbp,qbp]
 exact⟨rfl,below_drewN qB q⟩
theorem qlt (W:World) (b1 o1 c:Nat) (xs:List Int) (n:Nat) (hn:xs.length=n) (hn2:n≤1000) (h1:NCells W (some ⟨b1,o1,none⟩) b1 o1 xs) :
  Calls Tryz.prog 43 #[.slice (some ⟨b1,o1,none⟩) n c,.slice (some ⟨W.heap.size,0,none⟩) n n] (W.alloc (.cells (xs.map fun z=>Value.int .i64 z).toArray 3)) fun e w'=>e=.returned (.bool true)∧Below W.heap.size W w':=by
 refine (eq_ints b1 o1 c W.heap.size 0 n xs xs n n _ hn hn (by omega) (by omega) (h1.below (alloc_old _ _)) (qfi W xs)).mono ?_
 rintro e w' ⟨rfl,hb⟩
 exact⟨by simp,qck hb⟩
instance stays_sc2 {g off:Nat} {L:List ByteArray}:Stays fun W=>SCells W g off L:=⟨fun h hb=>h.below hb⟩
instance stays_isat {b:Nat} {L:List ByteArray}:Stays fun W=>IsAt W b L:=⟨fun h hb=>h.below hb⟩
def SC (s:ByteArray) (z:Value) (W:World):Prop:=∃g:Nat,z=.slice (some ⟨g,0,none⟩) 1 1∧W.heap[g]? = some (.cells #[.string s] 9 (0,0))
def QC (x1 x2:ByteArray) (z:Value) (W:World):Prop:=∃g c:Nat,z=.slice (some ⟨g,0,none⟩) 1 c∧(W.cell? ⟨g,0,none⟩=some (.string x1)∧W.cell? ⟨g,1,none⟩=some (.string x2))
def PC (x1 x2:ByteArray) (z:Value) (W:World):Prop:=∃g:Nat,z=.pointer (some ⟨g,0,none⟩)∧(W.cell? ⟨g,0,none⟩=some (.string x1)∧W.cell? ⟨g,1,none⟩=some (.string x2))
instance stays_sc {s:ByteArray} {z:Value}:Stays (SC s z):=⟨fun⟨g,h1,h2⟩ hb=>⟨g,h1,zkeep hb _ _ h2⟩⟩
instance stays_qc {x1 x2:ByteArray} {z:Value}:Stays (QC x1 x2 z):=⟨fun {W _} ⟨g,c,h1,h2,h3⟩ hb=>⟨g,c,h1,(hb.cell (qac W _ h2)).trans h2,(hb.cell (qac W _ h3)).trans h3⟩⟩
instance stays_pcx {x1 x2:ByteArray} {z:Value}:Stays (PC x1 x2 z):=⟨fun {W _} ⟨g,h1,h2,h3⟩ hb=>⟨g,h1,(hb.cell (qac W _ h2)).trans h2,(hb.cell (qac W _ h3)).trans h3⟩⟩
theorem q1_at (w:World) (g:Nat) (s x1 x2:ByteArray) (r:Rat) (hg:w.heap[g]? = some (.cells #[.string s] 9 (0,0))) (h:qf s=ftxt r) (hx:ftxt r=(x1,x2)) (hz:s.size≤65536) :
  Calls Tryz.prog 24 #[.slice (some ⟨g,0,none⟩) 1 1] w fun e w'=>∃g c,e=.returned (.slice (some ⟨g,0,none⟩) 1 c)∧(w'.cell? ⟨g,0,none⟩=some (.string x1)∧w'.cell? ⟨g,1,none⟩=some (.string x2))∧Below w.heap.size w w':=by
 refine (q_at 1 (L:=[s]) (l:=[r]) (SCells.row (L:=[s]) hg) rfl rfl (by decide) (by rw [qaK,qa3,qaK,qa3,h]) (fun t ht=>by rw [qaq.1 ht];exact hz)).mono ?_
 rintro e w' ⟨ao,g,c,rfl,hF,hb⟩
 have ha:=hF.addr (by rw [qbM];decide)
 subst ha
 obtain⟨h0,h1⟩:=hF.cell 0 (by rw [qbM];decide)
 rw [qdp (by decide),show fv [r] 0=r from rfl,hx] at h0 h1
 exact⟨g,c,rfl,⟨h0,h1⟩,hb⟩
theorem ex_e1 (w:World) (v:Value) (hM:MdAt w v (mdq 1 1 2 fitX1)) (hT:HasT w) (hE:HasE w):Calls Tryz.prog 28 #[v] w fun e w'=>∃(gr cr g0 c0 g1 c1 go co:Nat),
  e=.returned (.tuple #[.agg #[.int .i64 2,.slice none 0 0,.slice (some ⟨gr,0,none⟩) 3 cr,.slice (some ⟨go,0,none⟩) 3 co,.slice none 0 0,.int .i64 0,.slice none 0 0,.slice none 0 0,.int .i64 0,.int .i64 0],.int .i64 0]) ∧
  (w'.cell? ⟨gr,0,none⟩=some (.slice (some ⟨g0,0,none⟩) 1 c0)∧w'.cell? ⟨gr,1,none⟩=some (.slice (some ⟨g1,0,none⟩) 1 c1)∧NCells w' (some ⟨g0,0,none⟩) g0 0 [1000000]∧NCells w' (some ⟨g1,0,none⟩) g1 0 [0]∧NCells w' (some ⟨go,0,none⟩) go 0 [33333,500000,500000])∧Below w.heap.size w w':=by
 refine (qdw (mdq 1 1 2 fitX1) v w hM (qdM (by decide)) hT hE).mono ?_
 rintro e w' ⟨hb,⟨v,rfl,n,h1,_,B,vr,vo,rfl,ho,vs,hr,hv⟩ | ⟨c,rfl,h⟩⟩
 ·obtain rfl:=(qiG.uniq h1).2
  have e0:elOff (mdq 1 1 2 fitX1) 3=[33333,500000,500000]:=by
   show [elz _ 0 0,elz _ 1 0,elz _ 2 0]=_
   rw [(qho 0 (by decide)).1,(qho 1 (by decide)).1,(qho 2 (by decide)).1];rfl
  have e1:elRow (mdq 1 1 2 fitX1) 1 0=[1000000]:=by
   show [elz _ 0 1]=_
   rw [(qho 0 (by decide)).2];rfl
  have e2:elRow (mdq 1 1 2 fitX1) 1 1=[0]:=by
   show [elz _ 1 1]=_
   rw [(qho 1 (by decide)).2];rfl
  rw [e0] at ho
  have h0:=(hv 0 (by decide)).1
  have h1':=(hv 1 (by decide)).1
  rw [e1] at h0
  rw [e2] at h1'
  obtain⟨go,co,rfl,hNo⟩:=IOwn.cells ho (by decide)
  obtain⟨gr,cr,rfl,hcr⟩:=qhD hr (by decide)
  obtain⟨g0,c0,hg0,hN0⟩:=IOwn.cells h0 (by decide)
  obtain⟨g1,c1,hg1,hN1⟩:=IOwn.cells h1' (by decide)
  have r0:=hcr 0 (by decide)
  have r1:=hcr 1 (by decide)
  rw [hg0] at r0
  rw [hg1] at r1
  exact⟨gr,cr,g0,c0,g1,c1,go,co,rfl,⟨r0,r1,hN0,hN1,hNo⟩,hb⟩
 ·exfalso
  rcases h with ⟨h,_⟩ | ⟨_,h,_⟩ | ⟨n,h1,h2,_⟩
  ·exact h ⟨_,_,qiG⟩
  ·exact h rfl
  ·obtain rfl:=(qiG.uniq h1).2
   exact h2 ex_elok
theorem eq_3f (w:World):(Op.equalIn 10000 65 (.agg #[.string ⟨#[49,54,48]⟩,.string ⟨#[51]⟩,.string ⟨#[48]⟩,.string ⟨#[49]⟩,.string ⟨#[48]⟩,.string ⟨#[49]⟩]) (.agg #[.string ⟨#[49,54,48]⟩,.string ⟨#[51]⟩,.string ⟨#[48]⟩,.string ⟨#[49]⟩,.string ⟨#[48]⟩,.string ⟨#[49]⟩])).run Tryz.prog w=.ok true w:=by kernel_rfl
end Go.Proofs.YtplkdeknjghobaaGreatDoor
namespace Go.Proofs.YtplkdeknjghobaaGreatDoor
open Go.RowKit
structure OwK (w0 W:World):Prop where
 kb:Below w0.heap.size w0 W
 kt:HasT W
 ke:HasE W
theorem OwK.below {w0 W W':World} (h:OwK w0 W) (hb:Below W.heap.size W W'):OwK w0 W':=⟨h.kb.trans (hb.mono h.kb.size),h.kt.below hb,h.ke.below hb⟩
theorem qjb (w0:World) (hT:HasT w0) (hE:HasE w0):Calls Tryz.prog 11 #[] w0 fun e w'=>e=.returned (.bool true)∧Below w0.heap.size w0 w':=by
 have KO:OwK w0 w0:=⟨Below.refl _ _,hT,hE⟩
 clear hT hE
 go_enter Tryz.func11,Tryz.ntmps11
 go_wp2_with fail
 refine (qfo _ [⟨#[49]⟩,⟨#[49,47,50]⟩,⟨#[49]⟩,⟨#[49,47,50]⟩] 4 rfl).mono ?_
 rintro e w1 ⟨bI1,rfl,hi,hb⟩
 have I1:=qH hi
 replace KO:=KO.below hb
 clear hb hi
 go_wp2_with fail
 refine (ex_tm1 _ KO.kt).mono ?_
 rintro e w2 ⟨pF1,gF1,cF1,rfl,hf,hb⟩
 have F1:=qH hf
 replace KO:=KO.below hb
 replace I1:=qH (I1.out.below hb)
 clear hb hf
 go_wp2_with fail
 refine (qdX (L:=[⟨#[49]⟩,⟨#[49,47,50]⟩,⟨#[49]⟩,⟨#[49,47,50]⟩]) (l:=[(1:Rat),1 / 2,1,1 / 2]) I1.out rfl rfl (by decide) (by simp only [qaK,qa3,ft_1,ft_12];decide +kernel) (by decide) F1.out).mono ?_
 rintro e w3 ⟨rfl,hb⟩
 replace KO:=KO.below hb
 replace I1:=qH (I1.out.below hb)
 replace F1:=qH (F1.out.below hb)
 clear hb I1 F1
 go_wp2_with fail
 refine (qfo _ [⟨#[49]⟩,⟨#[49,47,50]⟩,⟨#[49,47,52]⟩] 3 rfl).mono ?_
 rintro e w4 ⟨bI2,rfl,hi,hb⟩
 have I2:=qH hi
 replace KO:=KO.below hb
 clear hb hi
 go_wp2_with fail
 refine (ex_tm2 _ KO.kt).mono ?_
 rintro e w5 ⟨pF2,gF2,cF2,rfl,hf,hb⟩
 have F2:=qH hf
 replace KO:=KO.below hb
 replace I2:=qH (I2.out.below hb)
 clear hb hf
 go_wp2_with fail
 refine (qdX (L:=[⟨#[49]⟩,⟨#[49,47,50]⟩,⟨#[49,47,52]⟩]) (l:=[(1:Rat),1 / 2,1 / 4]) I2.out rfl rfl (by decide) (by simp only [qaK,qa3,ft_1,ft_12,ft_14];decide +kernel) (by decide) F2.out).mono ?_
 rintro e w6 ⟨rfl,hb⟩
 replace KO:=KO.below hb
 replace I2:=qH (I2.out.below hb)
 replace F2:=qH (F2.out.below hb)
 clear hb I2 F2
 go_wp2_with fail
 refine (qdG 2 _).mono ?_
 rintro e w7 ⟨bI3,rfl,hb,hi⟩
 have I3:=qH hi
 replace KO:=KO.below hb
 clear hb hi
 go_wp2_with fail
 refine (ex_tm3 _ KO.kt).mono ?_
 rintro e w8 ⟨rfl,hb⟩
 replace KO:=KO.below hb
 replace I3:=qH (zkeep hb _ _ I3.out)
 clear hb
 go_wp2_with fail
 refine (qdn 2 _ _ I3.out).mono ?_
 rintro e w9 ⟨rfl,hw⟩
 subst hw
 clear I3
 go_wp2_with fail
 refine (qdt _).mono ?_
 rintro e w10 ⟨gP,rfl,hp,hb⟩
 have P1:=qH hp
 replace KO:=KO.below hb
 clear hb hp
 go_wp2_with fail
 refine (ex_f1 _ gP 3 P1.out KO.kt).mono ?_
 rintro e w11 ⟨v1,rfl,hm,hb⟩
 have M1:=qH hm
 replace KO:=KO.below hb
 replace P1:=qH (P1.out.below hb)
 clear hb hm P1
 obtain⟨a0,a1,a2,b0,o0,c0,b1,o1,c1,b2,o2,c2,rfl,hx0,hx1,hx2⟩:=M1.out.lit
 clear hx0 hx1 hx2
 obtain⟨Vm,hVm,Nm⟩:=nw1 w11 #[.int .i64 1,.int .i64 1,.slice a0 2 c0,.slice a1 2 c1,.slice a2 2 c2] 38
 go_upto_region 3 with fail
 rw [←hVm]
 have hb:=Nm.out.1
 have Rm:=qH Nm.out.2
 clear hVm Nm
 replace KO:=KO.below hb
 replace M1:=qH (M1.out.below hb)
 clear hb
 go_wp2_with fail
 refine (qdt _).mono ?_
 rintro e w12 ⟨gP2,rfl,hp,hb⟩
 have P2:=qH hp
 replace KO:=KO.below hb
 replace M1:=qH (M1.out.below hb)
 replace Rm:=qH (zkeep hb _ _ Rm.out)
 clear hb hp
 go_wp2_with fail
 refine (ex_f2 _ gP2 3 P2.out KO.kt).mono ?_
 rintro e w13 ⟨v2,rfl,hm,hb⟩
 have M2:=qH hm
 replace KO:=KO.below hb
 replace M1:=qH (M1.out.below hb)
 replace Rm:=qH (zkeep hb _ _ Rm.out)
 replace P2:=qH (P2.out.below hb)
 clear hb hm P2
 obtain⟨d0,d1,d2,e0,f0,k0,e1,f1,k1,e2,f2,k2,rfl,hx0,hx1,hx2⟩:=M2.out.lit
 clear hx0 hx1 hx2
 obtain⟨Vs,hVs,Ns⟩:=nw1 w13 #[.int .i64 2,.int .i64 1,.slice d0 3 k0,.slice d1 3 k1,.slice d2 3 k2] 38
 go_upto_region 4 with fail
 rw [←hVs]
 have hb:=Ns.out.1
 have Rs:=qH Ns.out.2
 clear hVs Ns
 replace KO:=KO.below hb
 replace M1:=qH (M1.out.below hb)
 replace Rm:=qH (zkeep hb _ _ Rm.out)
 replace M2:=qH (M2.out.below hb)
 clear hb
 obtain⟨xa0,xa1,xa2,xb0,xo0,xc0,xb1,xo1,xc1,xb2,xo2,xc2,hxe,X0,X1,_⟩:=M1.out.lit
 simp only [qaT,qaX,qaR,qby,and_true,true_and] at hxe
 obtain⟨⟨rfl,rfl⟩,⟨rfl,rfl⟩,rfl,rfl⟩:=hxe
 obtain⟨ya0,ya1,ya2,yb0,yo0,yc0,yb1,yo1,yc1,yb2,yo2,yc2,hye,Y0,_,_⟩:=M2.out.lit
 simp only [qaT,qaX,qaR,qby,and_true,true_and] at hye
 obtain⟨⟨rfl,rfl⟩,⟨rfl,rfl⟩,rfl,rfl⟩:=hye
 rw [show told 2 (fitX1 0)=told 2 (fv [10 / 3,100]) from rfl] at X0
 rw [show told 2 (fitX1 1)=told 2 (fv [0,0]) from rfl] at X1
 rw [show told 3 (fitX2 0)=told 3 (fv [0,140,-40]) from rfl] at Y0
 have HXY:=qH (qA X0 (qA X1 Y0))
 have HW4:=qH (Below.refl Vs.heap.size Vs)
 have lm:=(qG Rm.out).1
 have ls:=(qG Rs.out).1
 have m2:=rowC (B:=Vs.heap.size) Rm.out 2
 have m3:=rowC (B:=Vs.heap.size) Rm.out 3
 have s2:=rowC (B:=Vs.heap.size) Rs.out 2
 clear X0 X1 Y0
 refine wp_region_held_drew (S:=fun W=>Below Vs.heap.size Vs W) (by kernel_rfl) qB.drew (fun hS0=>?_)
 refine hT 0 (h:=hT 1 (h:=hT 2 (h:=hT 3 (h:=hT 4 (h:=hT 5 (h:=?_))))))
 have hVb:Below Vs.heap.size Vs Vs.drew:=qB.drew
 refine hT 6 (hS:=hVb) (h:=hT 7 (hS:=hVb) (h:=hT 8 (hS:=hVb) (h:=?_)))
 refine hE 9 (h:=⟨qbK hVb qN,hN (h:=?_)⟩)
 refine hC 10 (q_lit _ [⟨#[49,48,47,51]⟩,⟨#[49,48,48]⟩] [(10 / 3:Rat),100] 2 rfl rfl (by decide) (by simp only [qaK,qa3,ft_100,ft_103];decide +kernel) (by decide)) (h:=?_)
 rintro e u0 ⟨qa0,qg0,qc0,rfl,hq0,hbq0⟩
 have hU0:Below Vs.heap.size Vs u0:=hVb.trans (hbq0.mono hVb.size)
 refine⟨_,rfl,hU0,hN (h:=?_)⟩
 refine hC 11 (qfA _ _ _ 2 c0 _ _ _ _ 2 qc0 _ u0 (qbM _ _) (by decide) (HXY.out.1.below hU0) (qbM _ _) (by decide) hq0) (h:=?_)
 rintro e t0 ⟨ok0,rfl,hok0,hbt0⟩
 obtain rfl:ok0=true:=hok0.2 rfl
 have hT0:Below Vs.heap.size Vs t0:=hU0.trans (hbt0.mono hU0.size)
 refine⟨_,rfl,hT0,hN (h:=?_)⟩
 clear hq0 hbq0 hok0 hbt0 hU0
 refine hT 12 (hS:=hT0) (h:=hT 13 (hS:=hT0) (h:=hT 14 (hS:=hT0) (h:=hT 15 (hS:=hT0) (h:=hT 16 (hS:=hT0) (h:=?_)))))
 refine hE 17 (h:=⟨qbK hT0 qN,hN (h:=?_)⟩)
 refine hC 18 (q_lit _ [⟨#[48]⟩,⟨#[48]⟩] [(0:Rat),0] 2 rfl rfl (by decide) (by simp only [qaK,qa3,ft_0];decide +kernel) (by decide)) (h:=?_)
 rintro e u1 ⟨qa1,qg1,qc1,rfl,hq1,hbq1⟩
 have hU1:Below Vs.heap.size Vs u1:=hT0.trans (hbq1.mono hT0.size)
 refine⟨_,rfl,hU1,hN (h:=?_)⟩
 refine hC 19 (qfA _ _ _ 2 c1 _ _ _ _ 2 qc1 _ u1 (qbM _ _) (by decide) (HXY.out.2.1.below hU1) (qbM _ _) (by decide) hq1) (h:=?_)
 rintro e t1 ⟨ok1,rfl,hok1,hbt1⟩
 obtain rfl:ok1=true:=hok1.2 rfl
 have hT1:Below Vs.heap.size Vs t1:=hU1.trans (hbt1.mono hU1.size)
 refine⟨_,rfl,hT1,hN (h:=?_)⟩
 clear hq1 hbq1 hok1 hbt1 hU1
 refine hT 20 (hS:=hT1) (h:=hT 21 (hS:=hT1) (h:=hT 22 (hS:=hT1) (h:=hT 23 (hS:=hT1) (h:=hT 24 (hS:=hT1) (h:=hT 25 (hS:=hT1) (h:=hT 26 (hS:=hT1) (h:=hT 27 (hS:=hT1) (h:=hT 28 (hS:=hT1) (h:=?_)))))))))
 refine hE 29 (h:=⟨qbK hT1 qN,hN (h:=?_)⟩)
 refine hC 30 (q_lit _ [⟨#[48]⟩,⟨#[49,52,48]⟩,⟨#[45,52,48]⟩] [(0:Rat),140,-40] 3 rfl rfl (by decide) (by simp only [qaK,qa3,ft_0,ft_140,ft_m40];decide +kernel) (by decide)) (h:=?_)
 rintro e u2 ⟨qa2,qg2,qc2,rfl,hq2,hbq2⟩
 have hU2:Below Vs.heap.size Vs u2:=hT1.trans (hbq2.mono hT1.size)
 refine⟨_,rfl,hU2,hN (h:=?_)⟩
 refine hC 31 (qfA _ _ _ 3 k0 _ _ _ _ 3 qc2 _ u2 (qbM _ _) (by decide) (HXY.out.2.2.below hU2) (qbM _ _) (by decide) hq2) (h:=?_)
 rintro e t2 ⟨ok2,rfl,hok2,hbt2⟩
 obtain rfl:ok2=true:=hok2.2 rfl
 have hT2:Below Vs.heap.size Vs t2:=hU2.trans (hbt2.mono hU2.size)
 refine⟨_,rfl,hT2,hN (h:=?_)⟩
 clear hq2 hbq2 hok2 hbt2 hU2
 refine hT 32 (hS:=hT2) (h:=hT 33 (hS:=hT2) (h:=?_))
 refine gr [(34,80),(35,81),(36,82),(37,83),(38,84),(39,85),(40,86)] [(37,[35,36]),(38,[37]),(39,[37]),(40,[34,38,39])] [0,1,2,3,4,5,6,7,8,9,10,11,12,13,14,15,16,17,18,19,20,21,22,23,24,25,26,27,28,29,30,31,32,33] [34,35,36,37,38,39,40] [] 41 43 (fl2 [(34,fun z W=>∃b:Nat,z=.func (.func 121) #[] #[.pointer (some ⟨b,0,none⟩)]∧W.heap[b]? = some (.cells #[.int .i64 7] 39 (0,0))),(35,fun z W=>∃g:Nat,z=.slice (some ⟨g,0,none⟩) 3 3∧PCells W (some ⟨g,0,none⟩) g 0 ramp),(36,fun z W=>∃g:Nat,z=.slice (some ⟨g,0,none⟩) 3 3∧W.heap[g]? = some (.cells #[.int .i64 1,.int .i64 1,.int .i64 0] 3 (0,0))),(37,fun z _=>z=.tuple #[mdv0,.int .i64 7]),(38,fun z _=>z=mdv0),(39,fun z _=>z=.int .i64 7),(40,fun z _=>z=.bool true)]) _ 2
  (hS:=fun w' h=>hT2.trans (h.mono hT2.size)) (hstep:=⟨⟨_,rfl,fun v w3 hb hF K hK=>?_⟩,⟨_,rfl,fun v w3 hb hF K hK=>?_⟩,⟨_,rfl,fun v w3 hb hF K hK=>?_⟩,⟨_,rfl,fun v w3 hb hF K hK=>?_⟩,⟨_,rfl,fun v w3 hb hF K hK=>?_⟩,⟨_,rfl,fun v w3 hb hF K hK=>?_⟩,⟨_,rfl,fun v w3 hb hF K hK=>?_⟩,trivial⟩) (hend:=fun v w3 hb hF _ fu=>?_)
 ·exact gC hK (qcV 7 w3) (h:=fun e w4 ⟨b,e1,h1,h2⟩=>⟨_,e1,⟨b,rfl,h2⟩,h1⟩)
 ·exact gC hK (qdt w3) (h:=fun e w4 ⟨g,e1,h1,h2⟩=>⟨_,e1,⟨g,rfl,h1⟩,h2⟩)
 ·exact gW hK (h:=⟨⟨w3.heap.size,rfl,qM _ _ _ rfl⟩,qbK qB qN⟩)
 ·obtain⟨g5,e35,h5⟩:∃g:Nat,_:=hF.1
  obtain⟨g6,e36,h6⟩:∃g:Nat,_:=hF.2.1
  exact gC hK (ex_f3 w3 g5 g6 3 h5 h6 ((KO.kt.below hT2).below hb)) (h:=fun e w4 ⟨e1,h1⟩=>⟨_,e1,rfl,h1⟩)
 ·have e37:v 37=_:=hF.1
  exact gV hK rfl
 ·have e37:v 37=_:=hF.1
  exact gV hK rfl
 ·obtain⟨b4,e34,h4⟩:∃b:Nat,_:=hF.1
  have e38:v 38=_:=hF.2.1
  have e39:v 39=_:=hF.2.2.1
  exact gC hK (qcI 7 b4 w3 h4) (h:=fun e w4 ⟨e1,h1⟩=>⟨_,e1,rfl,h1⟩)
 have e40:v 40=_:=hF 40 (by decide) (by decide)
 have hV5:Below Vs.heap.size Vs w3:=hT2.trans (hb.mono hT2.size)
 rw [e40]
 clear e40 hF hb
 refine hT 41 (hS:=hV5) (h:=hT 42 (hS:=hV5) (h:=?_))
 refine wpAnyH_done (by kernel_rfl) ?_ _
 have hb:=hV5
 clear HXY HW4 lm ls m2 m3 s2 hS0 hVb hT0 hT1 hT2 hV5 M2 Rs
 replace KO:=KO.below hb
 replace M1:=qH (M1.out.below hb)
 replace Rm:=qH (zkeep hb _ _ Rm.out)
 clear hb
 have y0:=qC _ _ 0 _ _ _ Rm.out
 have y1:=qC _ _ 1 _ _ _ Rm.out
 have y2:=qC _ _ 2 _ _ _ Rm.out
 have y3:=qC _ _ 3 _ _ _ Rm.out
 have y4:=qC _ _ 4 _ _ _ Rm.out
 go_wp2_with fail
 refine (ex_a1 _ _ M1.out KO.kt).mono ?_
 rintro e w14 ⟨rfl,hb⟩
 replace KO:=KO.below hb
 replace M1:=qH (M1.out.below hb)
 replace Rm:=qH (zkeep hb _ _ Rm.out)
 clear hb y0 y1 y2 y3 y4
 obtain⟨Va,hVa,Na⟩:=nw1 w14 #[.string ⟨#[49,54,48]⟩,.string ⟨#[51]⟩,.string ⟨#[48]⟩,.string ⟨#[49]⟩,.string ⟨#[48]⟩,.string ⟨#[49]⟩] 65
 go_upto_region 6 with fail
 rw [←hVa]
 have hb:=Na.out.1
 have Ra:=qH Na.out.2
 clear hVa Na
 replace KO:=KO.below hb
 replace M1:=qH (M1.out.below hb)
 replace Rm:=qH (zkeep hb _ _ Rm.out)
 clear hb
 have y0:=qC _ _ 0 _ _ _ Rm.out
 have y1:=qC _ _ 1 _ _ _ Rm.out
 have y2:=qC _ _ 2 _ _ _ Rm.out
 have y3:=qC _ _ 3 _ _ _ Rm.out
 have y4:=qC _ _ 4 _ _ _ Rm.out
 go_wp2_with fail
 refine (ex_e1 _ _ M1.out KO.kt KO.ke).mono ?_
 rintro e w15 ⟨gr,cr,g0,c0x,g1,c1x,go,co,rfl,hel,hb⟩
 have EL:=qH hel
 replace KO:=KO.below hb
 replace M1:=qH (M1.out.below hb)
 replace Rm:=qH (zkeep hb _ _ Rm.out)
 replace Ra:=qH (zkeep hb _ _ Ra.out)
 clear hb hel y0 y1 y2 y3 y4
 obtain⟨Ve,hVe,Ne⟩:=nw1 w15 #[.int .i64 2,.slice none 0 0,.slice (some ⟨gr,0,none⟩) 3 cr,.slice (some ⟨go,0,none⟩) 3 co,.slice none 0 0,.int .i64 0,.slice none 0 0,.slice none 0 0,.int .i64 0,.int .i64 0] 82
 go_upto_region 7 with fail
 rw [←hVe]
 have hb:=Ne.out.1
 have Re:=qH Ne.out.2
 clear hVe Ne
 replace KO:=KO.below hb
 replace M1:=qH (M1.out.below hb)
 replace Rm:=qH (zkeep hb _ _ Rm.out)
 replace Ra:=qH (zkeep hb _ _ Ra.out)
 replace EL:=qH (qA ((hb.cell (qac _ _ EL.out.1)).trans EL.out.1) (qA ((hb.cell (qac _ _ EL.out.2.1)).trans EL.out.2.1) (qA (EL.out.2.2.1.below hb) (qA (EL.out.2.2.2.1.below hb) (EL.out.2.2.2.2.below hb)))))
 clear hb
 simp only [List.append_eq,List.cons_append,qbd]
 have la:=(qG Ra.out).1
 have lm:=(qG Rm.out).1
 have le:=(qG Re.out).1
 have a0x:=rowC (B:=Ve.heap.size) Ra.out 0
 have a1x:=rowC (B:=Ve.heap.size) Ra.out 1
 have a2x:=rowC (B:=Ve.heap.size) Ra.out 2
 have a3x:=rowC (B:=Ve.heap.size) Ra.out 3
 have a4x:=rowC (B:=Ve.heap.size) Ra.out 4
 have a5x:=rowC (B:=Ve.heap.size) Ra.out 5
 have y0:=rowC (B:=Ve.heap.size) Rm.out 0
 have y1:=rowC (B:=Ve.heap.size) Rm.out 1
 have y2:=rowC (B:=Ve.heap.size) Rm.out 2
 have y3:=rowC (B:=Ve.heap.size) Rm.out 3
 have y4:=rowC (B:=Ve.heap.size) Rm.out 4
 have x0:=rowC (B:=Ve.heap.size) Re.out 0
 have x2:=rowC (B:=Ve.heap.size) Re.out 2
 have x3:=rowC (B:=Ve.heap.size) Re.out 3
 have r0:∀W,Below Ve.heap.size Ve W→W.cell? ⟨gr,0,none⟩=some (.slice (some ⟨g0,0,none⟩) 1 c0x):=fun W h=>(h.cell (qac Ve _ EL.out.1)).trans EL.out.1
 have r1:∀W,Below Ve.heap.size Ve W→W.cell? ⟨gr,1,none⟩=some (.slice (some ⟨g1,0,none⟩) 1 c1x):=fun W h=>(h.cell (qac Ve _ EL.out.2.1)).trans EL.out.2.1
 refine wp_region_held_drew (S:=fun W=>Below Ve.heap.size Ve W) (by kernel_rfl) qB.drew (fun hS0=>?_)
 refine hT 0 (h:=hT 1 (h:=hT 2 (h:=?_)))
 refine Go.Proofs.YtplkdeknjghobaaGreatDoor.gr [(3,102),(4,103),(5,104),(6,105),(7,106),(8,107),(9,108),(10,109),(11,110),(12,111),(13,112),(14,113),(15,114),(16,115)] [(4,[3]),(5,[4]),(6,[5]),(8,[7]),(9,[8]),(10,[9]),(12,[11]),(13,[12]),(14,[13]),(15,[6,10,14]),(16,[15])] [0,1,2] [3,4,5,6,7,8,9,10,11,12,13,14,15,16] [] 17 70 (fl2 [(3,SC ⟨#[49,54,48,47,51]⟩),(4,QC ⟨#[49,54,48]⟩ ⟨#[51]⟩),(5,PC ⟨#[49,54,48]⟩ ⟨#[51]⟩),(6,fun z _=>z=.agg #[.string ⟨#[49,54,48]⟩,.string ⟨#[51]⟩]),(7,SC ⟨#[48]⟩),(8,QC ⟨#[48]⟩ ⟨#[49]⟩),(9,PC ⟨#[48]⟩ ⟨#[49]⟩),(10,fun z _=>z=.agg #[.string ⟨#[48]⟩,.string ⟨#[49]⟩]),(11,SC ⟨#[48]⟩),(12,QC ⟨#[48]⟩ ⟨#[49]⟩),(13,PC ⟨#[48]⟩ ⟨#[49]⟩),(14,fun z _=>z=.agg #[.string ⟨#[48]⟩,.string ⟨#[49]⟩]),(15,fun z _=>z=.agg #[.string ⟨#[49,54,48]⟩,.string ⟨#[51]⟩,.string ⟨#[48]⟩,.string ⟨#[49]⟩,.string ⟨#[48]⟩,.string ⟨#[49]⟩]),(16,fun z _=>z=.bool true)]) _ 53
  (hS:=fun w' h=>qbW h) (hstep:=⟨⟨_,rfl,fun v w3 hb hF K hK=>?_⟩,⟨_,rfl,fun v w3 hb hF K hK=>?_⟩,⟨_,rfl,fun v w3 hb hF K hK=>?_⟩,⟨_,rfl,fun v w3 hb hF K hK=>?_⟩,⟨_,rfl,fun v w3 hb hF K hK=>?_⟩,⟨_,rfl,fun v w3 hb hF K hK=>?_⟩,⟨_,rfl,fun v w3 hb hF K hK=>?_⟩,⟨_,rfl,fun v w3 hb hF K hK=>?_⟩,⟨_,rfl,fun v w3 hb hF K hK=>?_⟩,⟨_,rfl,fun v w3 hb hF K hK=>?_⟩,⟨_,rfl,fun v w3 hb hF K hK=>?_⟩,⟨_,rfl,fun v w3 hb hF K hK=>?_⟩,⟨_,rfl,fun v w3 hb hF K hK=>?_⟩,⟨_,rfl,fun v w3 hb hF K hK=>?_⟩,trivial⟩) (hend:=fun v w3 hb hF _ fu=>?_)
 ·exact gW hK (h:=⟨⟨w3.heap.size,rfl,qM _ _ _ rfl⟩,qbK qB qN⟩)
 ·obtain⟨g5,eg,h5⟩:SC ⟨#[49,54,48,47,51]⟩ _ w3:=hF.1
  exact gC hK (q1_at w3 g5 ⟨#[49,54,48,47,51]⟩ _ _ (160 / 3:Rat) h5 (by rw [qlE];decide +kernel) qlE (by decide)) (h:=fun e w4 ⟨g,c,e1,h1,h2⟩=>⟨_,e1,⟨g,c,rfl,h1⟩,h2⟩)
 ·obtain⟨g5,c5,eg,h5⟩:QC ⟨#[49,54,48]⟩ ⟨#[51]⟩ _ w3:=hF.1
  exact gV hK ⟨g5,rfl,h5⟩
 ·obtain⟨g5,eg,h5,h6⟩:PC ⟨#[49,54,48]⟩ ⟨#[51]⟩ _ w3:=hF.1
  exact gV hK rfl
 ·exact gW hK (h:=⟨⟨w3.heap.size,rfl,qM _ _ _ rfl⟩,qbK qB qN⟩)
 ·obtain⟨g5,eg,h5⟩:SC ⟨#[48]⟩ _ w3:=hF.1
  exact gC hK (q1_at w3 g5 ⟨#[48]⟩ _ _ (0:Rat) h5 (by rw [ft_0];decide +kernel) ft_0 (by decide)) (h:=fun e w4 ⟨g,c,e1,h1,h2⟩=>⟨_,e1,⟨g,c,rfl,h1⟩,h2⟩)
 ·obtain⟨g5,c5,eg,h5⟩:QC ⟨#[48]⟩ ⟨#[49]⟩ _ w3:=hF.1
  exact gV hK ⟨g5,rfl,h5⟩
 ·obtain⟨g5,eg,h5,h6⟩:PC ⟨#[48]⟩ ⟨#[49]⟩ _ w3:=hF.1
  exact gV hK rfl
 ·exact gW hK (h:=⟨⟨w3.heap.size,rfl,qM _ _ _ rfl⟩,qbK qB qN⟩)
 ·obtain⟨g5,eg,h5⟩:SC ⟨#[48]⟩ _ w3:=hF.1
  exact gC hK (q1_at w3 g5 ⟨#[48]⟩ _ _ (0:Rat) h5 (by rw [ft_0];decide +kernel) ft_0 (by decide)) (h:=fun e w4 ⟨g,c,e1,h1,h2⟩=>⟨_,e1,⟨g,c,rfl,h1⟩,h2⟩)
 ·obtain⟨g5,c5,eg,h5⟩:QC ⟨#[48]⟩ ⟨#[49]⟩ _ w3:=hF.1
  exact gV hK ⟨g5,rfl,h5⟩
 ·obtain⟨g5,eg,h5,h6⟩:PC ⟨#[48]⟩ ⟨#[49]⟩ _ w3:=hF.1
  exact gV hK rfl
 ·have e6:v 6=_:=hF.1
  have e10:v 10=_:=hF.2.1
  have e14:v 14=_:=hF.2.2.1
  exact gV hK rfl
 ·have e15:v 15=_:=hF.1
  exact gV hK (he:=by go_simp;rw [eq_3f];rfl) rfl
 have e16:v 16=_:=hF 16 (by decide) (by decide)
 rw [e16]
 have hA:Below Ve.heap.size Ve w3:=qbW hb
 clear e16 hF hb
 refine hT 17 (hS:=hA) (h:=hT 18 (hS:=hA) (h:=hT 19 (hS:=hA) (h:=hT 20 (hS:=hA) (h:=hT 21 (hS:=hA) (h:=hT 22 (hS:=hA) (h:=hT 25 (hS:=hA) (h:=?_)))))))
 refine Go.Proofs.YtplkdeknjghobaaGreatDoor.gr [(23,122),(24,123),(26,125),(27,126),(28,127),(29,128),(30,129)] [(24,[23]),(27,[26]),(28,[27]),(29,[27]),(30,[24,28,29])] [0,1,2,3,4,5,6,7,8,9,10,11,12,13,14,15,16,17,18,19,20,21,22,25] [23,24,26,27,28,29,30] [] 31 70 (fl2 [(23,fun z W=>∃g:Nat,z=.slice (some ⟨g,0,none⟩) 3 3∧SCells W g 0 [⟨#[49,48,48,47,57]⟩,⟨#[52,48,48,47,57]⟩,⟨#[49,48,48,47,57]⟩]),(24,fun z W=>∃b:Nat,z=.func (.func 120) #[] #[.pointer (some ⟨b,0,none⟩)]∧IsAt W b [⟨#[49,48,48,47,57]⟩,⟨#[52,48,48,47,57]⟩,⟨#[49,48,48,47,57]⟩]),(26,fun z W=>∃g:Nat,z=.slice (some ⟨g,0,none⟩) 3 3∧PCells W (some ⟨g,0,none⟩) g 0 ramp),(27,fun z W=>∃g:Nat,z=.tuple #[.slice (some ⟨g,0,none⟩) 3 3,.int .i64 0]∧FCells W (some ⟨g,0,none⟩) g 0 (told 3 (fv [(100 / 9:Rat),400 / 9,100 / 9]))),(28,fun z W=>∃g:Nat,z=.slice (some ⟨g,0,none⟩) 3 3∧FCells W (some ⟨g,0,none⟩) g 0 (told 3 (fv [(100 / 9:Rat),400 / 9,100 / 9]))),(29,fun z _=>z=.int .i64 0),(30,fun z _=>z=.bool true)]) _ 39
  (hS:=fun w' h=>hA.trans (h.mono hA.size)) (hstep:=⟨⟨_,rfl,fun v w3 hb hF K hK=>?_⟩,⟨_,rfl,fun v w3 hb hF K hK=>?_⟩,⟨_,rfl,fun v w3 hb hF K hK=>?_⟩,⟨_,rfl,fun v w3 hb hF K hK=>?_⟩,⟨_,rfl,fun v w3 hb hF K hK=>?_⟩,⟨_,rfl,fun v w3 hb hF K hK=>?_⟩,⟨_,rfl,fun v w3 hb hF K hK=>?_⟩,trivial⟩) (hend:=fun v w4 hb hF _ fu=>?_)
 ·exact gW hK (h:=⟨⟨w3.heap.size,rfl,SCells.row (L:=[⟨#[49,48,48,47,57]⟩,⟨#[52,48,48,47,57]⟩,⟨#[49,48,48,47,57]⟩]) (qM _ _ _ rfl)⟩,qbK qB qN⟩)
 ·obtain⟨g5,eg,h5⟩:∃g:Nat,_:=hF.1
  exact gC hK (qiD g5 [⟨#[49,48,48,47,57]⟩,⟨#[52,48,48,47,57]⟩,⟨#[49,48,48,47,57]⟩] w3 h5) (h:=fun e w4 ⟨b,e1,h1,h2⟩=>⟨_,e1,⟨b,rfl,h2⟩,h1⟩)
 ·exact gC hK (qdt w3) (h:=fun e w4 ⟨g,e1,h1,h2⟩=>⟨_,e1,⟨g,rfl,h1⟩,h2⟩)
 ·obtain⟨g5,eg,h5⟩:∃g:Nat,_:=hF.1
  exact gC hK (ex_s1 w3 _ g5 3 ((M1.out.below hA).below hb) h5 ((KO.kt.below hA).below hb)) (h:=fun e w4 ⟨g,e1,h1,h2⟩=>⟨_,e1,⟨g,rfl,h1⟩,h2⟩)
 ·obtain⟨g5,eg,h5⟩:∃g:Nat,_:=hF.1
  exact gV hK ⟨g5,rfl,h5⟩
 ·obtain⟨g5,eg,h5⟩:∃g:Nat,_:=hF.1
  exact gV hK rfl
 ·obtain⟨b5,eb,h5⟩:∃b:Nat,_:=hF.1
  obtain⟨g6,eg,h6⟩:∃g:Nat,_:=hF.2.1
  have e29:v 29=_:=hF.2.2.1
  exact gC hK (qdX (L:=[⟨#[49,48,48,47,57]⟩,⟨#[52,48,48,47,57]⟩,⟨#[49,48,48,47,57]⟩]) (l:=[(100 / 9:Rat),400 / 9,100 / 9]) (c:=3) h5 rfl rfl (by decide) (by simp only [qaK,qa3,ft_1009,ft_4009];decide +kernel) (by decide) h6) (h:=fun e w4 ⟨e1,h1⟩=>⟨_,e1,rfl,h1⟩)
 have e30:v 30=_:=hF 30 (by decide) (by decide)
 rw [e30]
 have hB:Below Ve.heap.size Ve w4:=hA.trans (hb.mono hA.size)
 clear e30 hF hb
 refine hT 31 (hS:=hB) (h:=hT 32 (hS:=hB) (h:=hT 33 (hS:=hB) (h:=hT 34 (hS:=hB) (h:=hT 35 (hS:=hB) (h:=hT 36 (hS:=hB) (h:=hT 37 (hS:=hB) (h:=hT 38 (hS:=hB) (h:=hT 39 (hS:=hB) (h:=hT 40 (hS:=hB) (h:=hT 41 (hS:=hB) (h:=hT 42 (hS:=hB) (h:=hT 43 (hS:=hB) (h:=hT 44 (hS:=hB) (h:=hT 45 (hS:=hB) (h:=hT 46 (hS:=hB) (h:=hT 47 (hS:=hB) (h:=hT 48 (hS:=hB) (h:=hT 49 (hS:=hB) (h:=hT 50 (hS:=hB) (h:=hT 51 (hS:=hB) (h:=?_)))))))))))))))))))))
 refine hE 52 (h:=⟨qbK hB qN,hN (h:=?_)⟩)
 refine hC 53 (qlt _ g0 0 c0x [1000000] 1 rfl (by decide) (EL.out.2.2.1.below hB)) (h:=?_)
 rintro e w5 ⟨rfl,hb⟩
 have hC5:Below Ve.heap.size Ve w5:=hB.trans (hb.mono hB.size)
 clear hb
 refine⟨_,rfl,hC5,hN (h:=?_)⟩
 refine hT 54 (hS:=hC5) (h:=hT 55 (hS:=hC5) (h:=hT 56 (hS:=hC5) (h:=hT 57 (hS:=hC5) (h:=hT 58 (hS:=hC5) (h:=hT 59 (hS:=hC5) (h:=?_))))))
 refine hE 60 (h:=⟨qbK hC5 qN,hN (h:=?_)⟩)
 refine hC 61 (qlt _ g1 0 c1x [0] 1 rfl (by decide) (EL.out.2.2.2.1.below hC5)) (h:=?_)
 rintro e w6 ⟨rfl,hb⟩
 have hC6:Below Ve.heap.size Ve w6:=hC5.trans (hb.mono hC5.size)
 clear hb
 refine⟨_,rfl,hC6,hN (h:=?_)⟩
 refine hT 62 (hS:=hC6) (h:=hT 63 (hS:=hC6) (h:=hT 64 (hS:=hC6) (h:=hT 65 (hS:=hC6) (h:=?_))))
 refine hE 66 (h:=⟨qbK hC6 qN,hN (h:=?_)⟩)
 refine hC 67 (qlt _ go 0 co [33333,500000,500000] 3 rfl (by decide) (EL.out.2.2.2.2.below hC6)) (h:=?_)
 rintro e w7 ⟨rfl,hb⟩
 have hC7:Below Ve.heap.size Ve w7:=hC6.trans (hb.mono hC6.size)
 clear hb
 refine⟨_,rfl,hC7,hN (h:=?_)⟩
 refine hT 68 (hS:=hC7) (h:=hT 69 (hS:=hC7) (h:=?_))
 refine wpAnyH_done (by kernel_rfl) ?_ _
 have KE:=qH (KO.kb.trans (hC7.mono KO.kb.size))
 go_wp2_with fail
 go_ret
 exact⟨rfl,KE.out⟩
theorem qjo {P:Program} (w:World) (dT ty elem:TypeId) (m g d s dLen dCap sLen sCap:Nat) (cur:Array Value) (t:TypeId) (cs:List Value)
  (hu:P.underlying dT=some (.slice elem)) (hs:(P.info? elem).map (·.size)=some m)
  (hg:w.heap[g]? = some (.cells cur t (0,0))) (hn:cs.length=Nat.min sLen dLen*m)
  (hsrc:∀j v,cs[j]? = some v→w.cell? ((⟨g,s,none⟩:Addr).add j)=some v) (hfit:d+cs.length≤cur.size) (h1:∀v∈cs,v.oneCell'=true) :
  (Builtin.copy_ #[dT,dT] ty #[.slice (some ⟨g,d,none⟩) dLen dCap,.slice (some ⟨g,s,none⟩) sLen sCap]).run P w =
   .ok (goInt (Nat.min sLen dLen:Nat)) (w.setRow g (cur.toList.take d++cs++cur.toList.drop (d+cs.length)).toArray):=by
 have hl:=run_loadCells_list (P:=P) w ⟨g,s,none⟩ cs hsrc
 have hst:=run_storeCells_at P g d t cs 0 cur w hg (by simpa using hfit) h1
 cases hq:P.info? elem with
 | none=>simp [hq] at hs
 | some i =>
  have hi:i.size=m:=by simpa [hq] using hs
  rw [hn] at hl
  simp [Builtin.copy_,run_underlying hu,Builtin.lenOf,Builtin.firstCells,sizeOf,typeInfo,hq,hi,hl,hst]
theorem qi3 {P:Program} {w:World} {ops:Array Oper} {o:Oper} {a:Act} {K:Act→World→Prop} {Q:Exit→Act→World→Prop} {X:Prop} (hgd:o.guard=none) (d s:Operand) (dT:TypeId)
  (ho:o.op=.call { callee:=.builtin .copy,args:=#[d,s],argTypes:=#[dT,dT] }) (elem:TypeId) (m g dd ss dLen dCap sLen sCap:Nat) (cur:Array Value) (t:TypeId) (cs:List Value) (n:Nat)
  (hu:P.underlying dT=some (.slice elem)) (hs:(P.info? elem).map (·.size)=some m) (hd:a.eval d=.slice (some ⟨g,dd,none⟩) dLen dCap) (hsv:a.eval s=.slice (some ⟨g,ss,none⟩) sLen sCap)
  (hg:w.heap[g]? = some (.cells cur t (0,0))) (hmn:Nat.min sLen dLen=n) (hn:cs.length=n*m)
  (hsrc:∀j v,cs[j]? = some v→w.cell? ((⟨g,ss,none⟩:Addr).add j)=some v) (hfit:dd+cs.length≤cur.size) (h1:∀v∈cs,v.oneCell'=true)
  (h:K (a.put o.dst (.int .i64 n)) (w.setRow g (cur.toList.take dd++cs++cur.toList.drop (dd+cs.length)).toArray)):if Region.wanted o (yielded ops a.tmps)=true then Oper.wp P o a w K Q else X:=by
 subst hmn
 rw [if_pos (by simp [Region.wanted,hgd])]
 have hrun:=qjo (P:=P) w dT o.type elem m g dd ss dLen dCap sLen sCap cur t cs hu hs hg hn hsrc hfit h1
 unfold Oper.wp
 simp [execOp,ho,resolve,invoke,builtin,hd,hsv,hrun,Result.andThen]
 rw [←qau]
 exact h
def reps (k:Nat) (c:List Value):List Value:=(List.replicate k c).flatten
theorem qeh (k:Nat) (c:List Value):(reps k c).length=k*c.length:=by
 induction k with
 | zero=>simp [reps]
 | succ k ih=>unfold reps at *;rw [qbe,List.flatten_cons,qae,ih,Nat.succ_mul,Nat.add_comm]
theorem qkg (k n:Nat) (c:List Value):reps (k+n) c=reps k c++reps n c:=by
 unfold reps;rw [←List.replicate_append_replicate,List.flatten_append]
theorem reps_one (k:Nat) {c:List Value} (h:∀v∈c,v.oneCell'=true):∀v∈reps k c,v.oneCell'=true:=fun v hv=>by
 obtain⟨l,hl,hv⟩:=List.mem_flatten.1 hv
 rw [List.eq_of_mem_replicate hl] at hv
 exact h v hv
theorem qmt {k n:Nat} (hn:n≤k) (c r:List Value):(reps k c++r).take (n*c.length)=reps n c:=by
 obtain⟨j,rfl⟩:=Nat.le.dest hn
 rw [qkg,qau,←qeh,qbJ]
theorem reps_put {k n m:Nat} {c r:List Value} (hc:c.length=m) (hr:r.length=(16-k)*m) (_hn:n≤16-k) :
  ((reps k c++r).toArray.toList.take (k*m)++reps n c++(reps k c++r).toArray.toList.drop (k*m+(reps n c).length))=reps (k+n) c++r.drop (n*m):=by
 subst hc
 rw [List.toList_toArray,qkg,←qeh k c,qbJ,qeh n c,List.drop_append,List.drop_eq_nil_of_le (by omega),qbd]
 congr 2
 omega
theorem qiX (b off c:Nat) (cs:List Value) (w:World) (hl:cs.length=2) (h1:∀v∈cs,v.oneCell'=true) (hcell:∀j v,cs[j]? = some v→w.cell? ((⟨b,off,none⟩:Addr).add j)=some v) :
  Calls Tryz.prog 44 #[.slice (some ⟨b,off,none⟩) 1 c,.int .i64 16] w fun e w'=>∃g,e=.returned (.slice (some ⟨g,0,none⟩) 16 16)∧w'.heap[g]? = some (.cells (reps 16 cs).toArray 44 (0,0))∧Below w.heap.size w w':=by
 obtain⟨W2,hW2⟩:∃W2,W2=w.alloc (.cells (madeCells #[.string ⟨#[]⟩,.string ⟨#[]⟩] (16*2)) 44):=⟨_,rfl⟩
 have hmk:(Instr.makeSlice 35 (.int .i64 16) (.int .i64 16)).run Tryz.prog w=.ok (.slice (some ⟨w.heap.size,0,none⟩) 16 16) W2:=by
  obtain⟨i,hi,hz0,hz1,hz2⟩:=info_parts infoF
  have h:=run_make (P:=Tryz.prog) w 35 44 i _ Tryz.underlying35 hi hz0 .i64 .i64 16 16 (by decide) (Int.le_refl _) (by rw [hz2];decide) (by decide)
  rw [hz1] at h
  rw [hW2];exact h
 have hr2:W2.heap[w.heap.size]? = some (.cells (madeCells #[.string ⟨#[]⟩,.string ⟨#[]⟩] (16*2)) 44 (0,0)):=by rw [hW2];exact qM _ _ _ rfl
 have hb2:Below w.heap.size w W2:=hW2▸qbK qB qN
 have hcell2:∀j v,cs[j]? = some v→W2.cell? ((⟨b,off,none⟩:Addr).add j)=some v:=fun j v hj=>by
  have h:=hcell j v hj
  rw [Addr.add_mid] at h ⊢
  exact (hb2.cell (qac w _ h)).trans h
 have hcp:=qf4 (P:=Tryz.prog) W2 35 35 3 44 2 w.heap.size 16 16 ⟨b,off,none⟩ 1 c _ 44 cs Tryz.underlying35 (by kernel_rfl) hr2 (by rw [hl];rfl) hcell2 (by rw [hl,size_madeCells];decide) h1
 obtain⟨R,hR⟩:∃R,R=((madeCells #[.string ⟨#[]⟩,.string ⟨#[]⟩] (16*2):Array Value)).toList.drop (0+cs.length):=⟨_,rfl⟩
 have hRl:R.length=(16-1)*2:=by rw [hR,qaZ,Array.length_toList,size_madeCells,hl]
 rw [←hR,List.take_zero,qbd] at hcp
 obtain⟨W3,hW3⟩:∃W3,W3=W2.setRow w.heap.size (cs++R).toArray:=⟨_,rfl⟩
 rw [←hW3] at hcp
 have hr3:W3.heap[w.heap.size]? = some (.cells (reps 1 cs++R).toArray 44 (0,0)):=by
  rw [hW3,show reps 1 cs=cs by simp [reps]];exact setRow_heap _ _ _ _ _ _ hr2
 have hb3:Below w.heap.size w W3:=hW3▸below_setRow hb2 qN _
 have H3:=qH (qA hr3 hb3)
 have HC:=qH (qA hl h1)
 clear hcell hcell2 hr2 hb2 hR hr3 hb3 hW3 hW2
 go_enter Tryz.func44,Tryz.ntmps44
 go_wp2_with fail
 refine (Tryz.bits_Mul 1 16 (by decide) (by decide) _).mono ?_
 rintro e w1 ⟨rfl,rfl⟩
 rw [show ((1*16 / 18446744073709551616:Nat):Int)=0 by decide,show ((1*16 % 18446744073709551616:Nat):Int)=16 by decide]
 go_wp2_with fail
 clear hcp hmk
 go_loopw [8] (fun x8 W=>∃(k:Nat) (r:List Value),x8=.int .i64 k∧1≤k∧k≤16∧Hid (W.heap[w1.heap.size]? = some (.cells (reps k cs++r).toArray 44 (0,0))∧r.length=(16-k)*2)∧Hid (Below w1.heap.size w1 W)) (fun x8 _=>16-(intOf x8).toNat)
 case atStart=>exact⟨1,R,rfl,qad _,by decide,qH ⟨H3.out.1,hRl⟩,qH H3.out.2⟩
 case round =>
  obtain⟨k,r,rfl,hk1,hk2,hR2,hB⟩:=hrel
  by_cases hlt:k<16
  ·have hki:(k:Int)<16:=by omega
   have hk0:(0:Int)≤k:=by omega
   have hk16:(k:Int)≤16:=by omega
   have hkne:¬16=k:=by omega
   have hst:Below wr.heap.size wr wr.drew:=qB.drew
   go_wp2_with fail
   refine wp_region_held_drew (S:=fun W=>Below w1.heap.size w1 W) (by kernel_rfl) (hB.out.drew) (fun hS0=>?_)
   refine qdK 0 (v:=?_) rfl (by kernel_rfl) (fun _ _ _ h=>h) (by assumption) (by rfl) (fun w hSw=>?_) ?_
   rotate_left 1
   ·(try dsimp only at hSw);go_simp <;> with_reducible rfl
   try simp only [Act.put,qao,qaF,qba]
   refine qdK 1 (v:=?_) rfl (by kernel_rfl) (fun _ _ _ h=>h) (by assumption) (by rfl) (fun w hSw=>?_) ?_
   rotate_left 1
   ·(try dsimp only at hSw);go_simp <;> with_reducible rfl
   try simp only [Act.put,qao,qaF,qba]
   refine qdK 2 (v:=?_) rfl (by kernel_rfl) (fun _ _ _ h=>h) (by assumption) (by rfl) (fun w hSw=>?_) ?_
   rotate_left 1
   ·(try dsimp only at hSw);go_simp <;> with_reducible rfl
   try simp only [Act.put,qao,qaF,qba]
   refine qdK 3 (v:=?_) rfl (by kernel_rfl) (fun _ _ _ h=>h) (by assumption) (by rfl) (fun w hSw=>?_) ?_
   rotate_left 1
   ·(try dsimp only at hSw);go_simp <;> with_reducible rfl
   try simp only [Act.put,qao,qaF,qba]
   refine qdK 4 (v:=?_) rfl (by kernel_rfl) (fun _ _ _ h=>h) (by assumption) (by rfl) (fun w hSw=>?_) ?_
   rotate_left 1
   ·(try dsimp only at hSw);go_simp <;> with_reducible rfl
   try simp only [Act.put,qao,qaF,qba]
   refine qdK 5 (v:=?_) rfl (by kernel_rfl) (fun _ _ _ h=>h) (by assumption) (by rfl) (fun w hSw=>?_) ?_
   rotate_left 1
   ·(try dsimp only at hSw);go_simp <;> with_reducible rfl
   try simp only [Act.put,qao,qaF,qba]
   refine qdK 6 (v:=?_) rfl (by kernel_rfl) (fun _ _ _ h=>h) (by assumption) (by rfl) (fun w hSw=>?_) ?_
   rotate_left 1
   ·(try dsimp only at hSw);go_simp <;> with_reducible rfl
   try simp only [Act.put,qao,qaF,qba]
   refine qgH 7 rfl (by kernel_rfl) (fun K hK=>?_)
   obtain⟨n,hn⟩:∃n,Nat.min k (16-k)=n:=⟨_,rfl⟩
   have hnk:n≤k:=by rw [←hn];exact Nat.min_le_left _ _
   have hnk2:n≤16-k:=by rw [←hn];exact Nat.min_le_right _ _
   have hn1:1≤n:=by rw [←hn];exact Nat.le_min.2 ⟨hk1,by omega⟩
   have hfl:(reps k cs++r).length=16*2:=by rw [qae,qeh,HC.out.1,hR2.out.2];omega
   refine qi3 rfl _ _ 35 rfl 44 2 w1.heap.size (k*2) 0 (16-k) (16-k) k 16 (reps k cs++r).toArray 44 (reps n cs) n Tryz.underlying35 (by kernel_rfl) ?cd ?cs hR2.out.1 hn (by rw [qeh,HC.out.1]) ?csrc (by rw [qeh,HC.out.1,qbw,hfl,←qaA];exact qbg _ (by omega)) (reps_one n HC.out.2) ?_
   case cd=>first | rfl | (simp [Act.eval];try omega)
   case cs=>first | rfl | simp [Act.eval]
   case csrc =>
    intro j v hj
    rw [Addr.add_mid,qaG]
    have hjl:=(List.getElem?_eq_some_iff.1 hj).1
    refine (qC _ _ j _ _ _ (show wr.drew.heap[w1.heap.size]? = _ from hR2.out.1)).trans ?_
    rw [qat,←hj,←qmt hnk cs r,HC.out.1,List.getElem?_take_of_lt (by rw [qeh,HC.out.1] at hjl;exact hjl)]
   rw [reps_put HC.out.1 hR2.out.2 hnk2]
   have hfin:(wr.drew.setRow w1.heap.size (reps (k+n) cs++r.drop (n*2)).toArray).heap[w1.heap.size]? = some (.cells (reps (k+n) cs++r.drop (n*2)).toArray 44 (0,0)):=setRow_heap _ _ _ _ _ _ (show wr.drew.heap[w1.heap.size]? = _ from hR2.out.1)
   have hrl:(r.drop (n*2)).length=(16-(k+n))*2:=by rw [qaZ,hR2.out.2];omega
   have hnn:1≤n∧k+n≤16:=by omega
   have hkn1:(1:Int)≤n:=by omega
   have hkn2:(k:Int)+n≤16:=by omega
   have HN:=qH hnn
   have HFin:=qH (qA (qA hfin hrl) (below_setRow (B:=w1.heap.size) hB.out.drew qN (reps (k+n) cs++r.drop (n*2)).toArray))
   clear hfin hrl hfl hnn
   refine Way.on hK (fun W=>Below w1.heap.size w1 W) _ _ (fun W h=>h) (HFin.out.2) (fun hS0=>?_)
   clear hK K
   try simp only [Act.put,qao,qaF,qba]
   refine qdK 8 (v:=?_) rfl (by kernel_rfl) (fun _ _ _ h=>h) (by assumption) (by rfl) (fun w hSw=>?_) ?_
   rotate_left 1
   ·(try dsimp only at hSw);go_simp <;> with_reducible rfl
   try simp only [Act.put,qao,qaF,qba]
   rw [Go.IntWalk.i64_in ((k:Int)+n) (by omega),←Int.natCast_add]
   refine qdK 9 (v:=?_) rfl (by kernel_rfl) (fun _ _ _ h=>h) (by assumption) (by rfl) (fun w hSw=>?_) ?_
   rotate_left 1
   ·(try dsimp only at hSw);go_simp <;> with_reducible rfl
   try simp only [Act.put,qao,qaF,qba]
   refine wpAnyH_done (by kernel_rfl) ?_ _
   go_wp2_with fail
   go_roundw
   case rel=>exact⟨k+n,r.drop (n*2),by go_num,qaj hk1 (Nat.le_add_right _ _),HN.out.2,qH HFin.out.1,qH HFin.out.2⟩
   case measure=>have:=HN.out;simp [intOf];omega
  ·obtain rfl:k=16:=by omega
   go_wp2_with fail
   go_ret
   have h:=hR2.out.1
   rw [show r=[] from List.eq_nil_of_length_eq_zero (by rw [hR2.out.2]),List.append_nil] at h
   exact⟨_,rfl,h,hB.out⟩
