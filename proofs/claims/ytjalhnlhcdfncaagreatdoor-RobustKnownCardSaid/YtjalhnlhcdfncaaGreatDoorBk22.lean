import Derived.Test.YtjalhnlhcdfncaaGreatDoorBk21
set_option maxRecDepth 100000
set_option maxHeartbeats 0
namespace Go.Proofs.YtjalhnlhcdfncaaGreatDoor
theorem qla {s:Nat->Rat} {n k:Nat} (hk:k<n) (h:∀i,i<n->i≠k->s i<s k):bestL s n (n-1)=(List.range n).filter fun i=>decide (i≠k):=by
 have hU:Up ((List.range n).filter fun i=>decide (i≠k)):=(qfZ n).sublist List.filter_sublist;refine (qhs s n (n-1)).eq hU ((qen s n (n-1)).trans ?_);have G:=qfz s n;obtain⟨A,z,e⟩:∃A z,qcL s n=A++[z]:=by
  rcases List.eq_nil_or_concat (qcL s n) with e | ⟨A,z,e⟩
  ·rw [e] at G;simp at G;omega
  ·exact⟨A,z,by rw [e];simp⟩
 have V:z<n:=qau.1 ((qcB s n).mem_iff.1 (by rw [e];simp));have U:z=k:=by
  by_cases O:z=k
  ·exact O
  ·have J:k∈A:=by
    have:k∈qcL s n:=(qcB s n).mem_iff.2 (qau.2 hk);rw [e] at this;rcases qaG.1 this with h | h
    ·exact h
    ·exact absurd (qao.1 h).symm O
   have Y:=qkN s n;rw [e] at Y;have h1:=(List.pairwise_append.1 Y).2.2 k J z (by simp);have h2:=h z V O
   grind
 subst U;have aa:A.length=n-1:=by rw [e] at G;simp at G;omega
 have F:=qfO s n;rw [e] at F;have H:∀a∈A,a≠z:=fun a I he=>by
  subst he;exact (List.nodup_append.1 F).2.2 a I a (by simp) rfl
 rw [e,List.take_append_of_le_length (by omega),qal (by omega)];have Z:=((qcB s n).filter (fun i=>decide (i≠z)));rw [e,List.filter_append] at Z;have e1:A.filter (fun i=>decide (i≠z))=A:=List.filter_eq_self.2 fun a I=>qV (H a I)
 have e2:[z].filter (fun i=>decide (i≠z))=[]:=by simp
 rwa [e1,e2,qbE] at Z
open Go.RowKit
def line5:List Pt:=[⟨⟨#[97]⟩,[0],0,0,0⟩,⟨⟨#[98]⟩,[2500],2500,0,0⟩,⟨⟨#[99]⟩,[5000],9000,0,0⟩,⟨⟨#[100]⟩,[7500],7500,0,0⟩,⟨⟨#[101]⟩,[10000],10000,0,0⟩]
theorem qdw:PtsOk line5 where
 r1:=by decide
 r2:=by decide
 rows:=fun k H=>by
  have H:k<5:=H;rcases (show k=0\/k=1\/k=2\/k=3\/k=4 by omega) with rfl | rfl | rfl | rfl | rfl <;> exact⟨⟨qhK (by decide),by decide,by decide,qkh (by decide),by decide,by decide,by decide⟩,rfl⟩
 apart:=fun i k I F=>by
  have F:i<5:=F;have G:∀i,i<5->∀k,k<i->(line5.getD k pt0).name≠(line5.getD i pt0).name:=by decide
  exact G i F k I
def linX0 (c:Nat):Nat->Rat:=if c=0 then fv [8,100] else fv [0,0]
def linX1 (c:Nat):Nat->Rat:=if c=0 then fv [0,100] else fv [0,0]
theorem qha:∀c,c<3->FitX line5 1 [1,1,1,1,1] c (linX0 c)/\qbP 2 (linX0 c):=fun c F=>by
 rcases (show c=0\/c=1\/c=2 by omega) with rfl | rfl | rfl
 ·exact⟨show ∀i,i<2->_ from by decide +kernel,qcQ (by decide +kernel)⟩
 ·exact⟨show ∀i,i<2->_ from by decide +kernel,qcQ (by decide +kernel)⟩
 ·exact⟨show ∀i,i<2->_ from by decide +kernel,qcQ (by decide +kernel)⟩
theorem qlZ:∀c,c<3->FitX line5 1 [1,1,0,1,1] c (linX1 c)/\qbP 2 (linX1 c):=fun c F=>by
 rcases (show c=0\/c=1\/c=2 by omega) with rfl | rfl | rfl
 ·exact⟨show ∀i,i<2->_ from by decide +kernel,qcQ (by decide +kernel)⟩
 ·exact⟨show ∀i,i<2->_ from by decide +kernel,qcQ (by decide +kernel)⟩
 ·exact⟨show ∀i,i<2->_ from by decide +kernel,qcQ (by decide +kernel)⟩
theorem lin_n0:¬Sing 2 (nq line5 1 [1,1,1,1,1] 0):=qei (fm [[3 / 5,-4 / 5],[-4 / 5,8 / 5]]) (by decide +kernel)
theorem lin_n1:¬Sing 2 (nq line5 1 [1,1,0,1,1] 0):=qei (fm [[13 / 20,-4 / 5],[-4 / 5,8 / 5]]) (by decide +kernel)
theorem keep_5:keepW (List.range line5.length) line5.length=[1,1,1,1,1]:=by decide
theorem lin_k0:KFit line5 1 (List.range line5.length) linX0:=by
 unfold KFit;rw [keep_5];exact⟨lin_n0,fun c F=>(qha c F).1⟩
theorem qgi (keep:Nat):Runs line5 1 keep 0 (List.range line5.length) linX0:=⟨rfl,lin_k0⟩
theorem qjc:∀i,i<5->sqq (mdX line5 1 linX0) line5 1 i=fv [64,64,1024,64,64] i:=fun i F=>by
 unfold mdX;rw [qhP qN];rcases (show i=0\/i=1\/i=2\/i=3\/i=4 by omega) with rfl | rfl | rfl | rfl | rfl <;> decide +kernel
theorem qlV:nextK line5 1 4 (mdX line5 1 linX0)=[0,1,3,4]:=by
 have h:=qla (s:=sqq (mdX line5 1 linX0) line5 1) (n:=5) (k:=2) (by decide) fun i F hne=>by
  rw [qjc i F,qjc 2 (by decide)];rcases (show i=0\/i=1\/i=3\/i=4 by omega) with rfl | rfl | rfl | rfl <;> decide +kernel
 exact h.trans (by decide)
theorem qlW:nextK line5 1 5 (mdX line5 1 linX0)=List.range line5.length:=qk8 _ 5
theorem lin_k1:KFit line5 1 [0,1,3,4] linX1:=by
 unfold KFit;rw [show keepW [0,1,3,4] line5.length=[1,1,0,1,1] by decide];exact⟨lin_n1,fun c F=>(qlZ c F).1⟩
theorem lin_r1:Runs line5 1 4 1 [0,1,3,4] linX1:=⟨_,_,qgi 4,qlV.symm,lin_k1⟩
theorem lin_r5:Runs line5 1 5 1 (List.range line5.length) linX0:=(qgi 5).stay qlW 1
theorem qlX:∀i,i<5->sqq (mdX line5 1 linX1) line5 1 i=fv [0,0,1600,0,0] i:=fun i F=>by
 unfold mdX;rw [qhP qN];rcases (show i=0\/i=1\/i=2\/i=3\/i=4 by omega) with rfl | rfl | rfl | rfl | rfl <;> decide +kernel
open Go.Proofs.Tryz
theorem FitF.not {l:List Pt} {k:Nat} {K:List Nat} {X:Nat->Nat->Rat} {c:Int} (U:PtsOk l) (V:1<=k/\k<=3) (O:¬(k=3/\chans l=4)) (G:KFit l k K X) (I:∀c,c<3->qbP (many k (chans l)) (X c)):¬FitF l (k:Int) (keepW K l.length) c:=by
 have F:qcG (k:Int) k:=⟨rfl,V⟩;rintro (⟨h,_⟩ | ⟨_,h,_⟩ | ⟨_,_,_,k',H,h⟩)
 ·exact h U
 ·exact h ⟨⟨k,F⟩,qdv _ _,qhA _ _⟩
 ·obtain rfl:=F.uniq H;rcases h with ⟨a,b,_⟩ | ⟨_,⟨h,_⟩ | ⟨_,c,x,J,Z,Y,_⟩⟩
  ·exact O ⟨a,b⟩
  ·exact G.1 h
  ·exact Y ((I c J).congr (qcv.uniq (fun I=>G.1 (qfy I)) (G.2 c J) Z))
theorem SqF.not {m:Md} {k:Nat} {l:List Pt} {c:Int} (H:PtsOk l) (F:MdOk m k (chans l)) (I:qbP l.length (sqq m l k)):¬SqF m l c:=by
 rintro (⟨h,_⟩ | ⟨_,h,_⟩ | ⟨_,_,h,_⟩ | ⟨_,_,k',G,h⟩)
 ·exact h ⟨_,_,F⟩
 ·exact h H
 ·exact h F.inn.1
 ·obtain rfl:=(F.uniq G).1;exact h I
theorem RunF.not {l:List Pt} {k keep F:Nat} {c:Int} (I:PtsOk l) (Z:1<=k/\k<=3) (U:¬(k=3/\chans l=4))
  (h:∀p,p<=F->∃K X,Runs l k keep p K X/\(∀c,c<3->qbP (many k (chans l)) (X c))/\(p<F->qbP l.length (sqq (mdX l k X) l k))):¬RunF l k keep F c:=by
 rintro (G | ⟨p,K,X,hp,O,G⟩)
 ·obtain⟨K,X,O,hs,_⟩:=h 0 (qan _);rw [<-O.1] at G;exact FitF.not I Z U O.2 hs G
 ·obtain⟨K0,X0,J,af,ae⟩:=h p (qap hp);obtain⟨ah,aa⟩:=O.uniq J;rw [aa] at G;rcases G with G | G
  ·exact SqF.not I (qj0 Z I.n1 I.n4 U af) (ae hp) G
  ·obtain⟨K1,X1,⟨K2,X2,V,H,Y⟩,ag,_⟩:=h (p+1) hp;rw [(V.uniq J).2] at H;rw [<-H] at G;exact FitF.not I Z U Y ag G
theorem qcF.uniq {k d p G F H:Nat} (h:qcF (k:Int) (d:Int) (p:Int) G F H):G=k/\F=d/\H=p:=by
 obtain⟨I,_,J,_,O,_⟩:=h;omega
theorem RFAs.only {w w':World} {l:List Pt} {k d p:Nat} {e:Ending} {K:List Nat} {X:Nat->Nat->Rat} (h:RFAs w l (k:Int) (d:Int) (p:Int) e w') (J:PtsOk l) (Y:1<=k/\k<=3) (U:d<=50) (hp:p<=8)
  (O:Runs l k (keepN l.length d) p K X) (G:∀c,¬RunF l k (keepN l.length d) p c):Below w.heap.size w w' /\
  ∃v g,e=.returned (.tuple #[v,.slice (some ⟨g,0,none⟩) K.length K.length,.int .i64 0])/\NatR w' w.heap.size g K.length K.length K/\MdAt w' v (mdX l k X):=by
 refine⟨h.1,?_⟩;rcases h.2 with ⟨h,_⟩ | ⟨_,h,_⟩ | ⟨_,k',d',p',I,hr⟩
 ·exact absurd J h
 ·exact absurd ⟨k,d,p,rfl,Y,rfl,U,rfl,hp⟩ h
 ·obtain⟨rfl,rfl,rfl⟩:=I.uniq;rcases hr.2 with ⟨c,_,_,V⟩ | ⟨v,g,K',m,he,hN,H,X',F,rfl,_⟩
  ·exact absurd V (G c)
  ·obtain⟨rfl,Z⟩:=F.uniq O;rw [Z] at H;exact⟨v,g,he,hN,H⟩
theorem RFAs.bad {w w':World} {l:List Pt} {kind drop F:Int} {e:Ending} (h:RFAs w l kind drop F e w') (H:PtsOk l) (G:¬∃k d p,qcF kind drop F k d p):Below w.heap.size w w'/\e=.returned (.tuple #[mdv0,.slice none 0 0,.int .i64 2]):=by
 refine⟨h.1,?_⟩;rcases h.2 with ⟨h,_⟩ | ⟨_,_,h⟩ | ⟨_,k',d',p',h,_⟩
 ·exact absurd H h
 ·exact h
 ·exact absurd ⟨k',d',p',h⟩ G
theorem CoAs.only {w w':World} {m:Md} {k:Nat} {l:List Pt} {K:List Int} {e:Ending} (h:CoAs w m l K e w') (H:PtsOk l) (G:MdOk m k (chans l)) (J:qbP l.length (sqq m l k)):Below w.heap.size w w' /\
    ((¬Rises K l.length K.length/\e=.returned (.tuple #[.agg #[.string ⟨#[]⟩,.string ⟨#[]⟩],.int .i64 2])) \/
     (Rises K l.length K.length/\e=.returned (.tuple #[.agg #[.string (ftxt (sumQ K.length fun i=>sqq m l k (K.getD i 0).toNat)).1,.string (ftxt (sumQ K.length fun i=>sqq m l k (K.getD i 0).toNat)).2],.int .i64 0]))):=by
  refine⟨h.1,?_⟩;rcases h.2 with ⟨c,_,I⟩ | ⟨kk,_,F,_,h⟩
  · exact absurd I (SqF.not H G J)
  · obtain rfl:=(G.uniq F).1;exact h
theorem qes:qbP 5 (sqq (mdX line5 1 linX0) line5 1):=fun i F=>by
 rw [qjc i F];rcases (show i=0\/i=1\/i=2\/i=3\/i=4 by omega) with rfl | rfl | rfl | rfl | rfl <;> exact qc9 (N:=10000) ⟨by decide +kernel,by decide +kernel⟩ (by decide +kernel)
theorem qg9:qbP 5 (sqq (mdX line5 1 linX1) line5 1):=fun i F=>by
 rw [qlX i F];rcases (show i=0\/i=1\/i=2\/i=3\/i=4 by omega) with rfl | rfl | rfl | rfl | rfl <;> exact qc9 (N:=10000) ⟨by decide +kernel,by decide +kernel⟩ (by decide +kernel)
theorem lin_no (keep:Nat) (c:Int):¬RunF line5 1 keep 0 c:=RunF.not qdw (by decide) (by decide) fun p G=>by
 obtain rfl:p=0:=by omega
 exact⟨_,_,qgi keep,fun c F=>(qha c F).2,fun h=>absurd h (by decide)⟩
theorem lin_no4 (c:Int):¬RunF line5 1 4 1 c:=RunF.not qdw (by decide) (by decide) fun p G=>by
 rcases (show p=0\/p=1 by omega) with rfl | rfl
 ·exact⟨_,_,qgi 4,fun c F=>(qha c F).2,fun _=>qes⟩
 ·exact⟨_,_,lin_r1,fun c F=>(qlZ c F).2,fun h=>absurd h (by decide)⟩
theorem lin_no5 (c:Int):¬RunF line5 1 5 1 c:=RunF.not qdw (by decide) (by decide) fun p G=>by
 rcases (show p=0\/p=1 by omega) with rfl | rfl
 ·exact⟨_,_,qgi 5,fun c F=>(qha c F).2,fun _=>qes⟩
 ·exact⟨_,_,lin_r5,fun c F=>(qha c F).2,fun h=>absurd h (by decide)⟩
theorem qc5:∀k,k<5->(line5.getD k pt0).name.size<=4611686018427387904/\(line5.getD k pt0).dev.length<=4611686018427387904:=qdV qdw rfl
theorem qhD (W:World) (b c d p:Nat) {K:List Nat} {X:Nat->Nat->Rat} (G:PCells W (some ⟨b,0,none⟩) b 0 line5) (hT:HasT W) (I:d<=50) (J:p<=8) (H:Runs line5 1 (keepN 5 d) p K X) (F:∀c,¬RunF line5 1 (keepN 5 d) p c) :
  Calls prog 22 #[.slice (some ⟨b,0,none⟩) 5 c,.int .i64 1,.int .i64 (d:Int),.int .i64 (p:Int)] W fun e w'=>Below W.heap.size W w' /\
   ∃v g,e=.returned (.tuple #[v,.slice (some ⟨g,0,none⟩) K.length K.length,.int .i64 0])/\NatR w' W.heap.size g K.length K.length K/\MdAt w' v (mdX line5 1 X) :=
 (qdc 5 b 0 c 1 d p (some ⟨b,0,none⟩) line5 W rfl (by decide) (fun _=>by decide) qc5 G hT).mono fun _ _ h=>RFAs.only (k:=1) h qdw (by decide) I J H F
theorem fit_two {l:List Pt} {k:Nat} (V:PtsOk l) (Z:qdr l) (hk:k=1\/k=2) {K:List Nat} {w w':World} {e:Ending} (J:FitAs w l (k:Int) (keepW K l.length) e w'):Below w.heap.size w w' /\
    ((Sing (many k (chans l)) (nq l k (keepW K l.length) 0)/\e=.returned (.tuple #[mdv0,.int .i64 7])) \/
     ∃v X,e=.returned (.tuple #[v,.int .i64 0])/\KFit l k K X/\(∀c,c<3->qbP (many k (chans l)) (X c))/\MdAt w' v (mdX l k X)):=by
  have I:1<=k/\k<=3:=by omega
  have U:¬(k=3/\chans l=4):=by omega
  have G:qcG (k:Int) k:=⟨rfl,I⟩;refine⟨J.1,?_⟩;obtain⟨_,J⟩:=J;rcases J with ⟨v,rfl,_,_,_,k',F,_,O,X,Y,hM⟩ | ⟨c,rfl,hf⟩
  · obtain rfl:=G.uniq F
    exact .inr ⟨v,X,rfl,⟨O,fun c H=>(Y c H).1⟩,fun c H=>(Y c H).2,hM⟩
  · left
    rcases hf with ⟨h,_⟩ | ⟨_,h,_⟩ | ⟨_,_,_,k',F,h⟩
    · exact absurd V h
    · exact absurd ⟨⟨k,G⟩,qdv _ _,qhA _ _⟩ h
    · obtain rfl:=G.uniq F
      rcases h with ⟨a,b,_⟩ | ⟨_,⟨h,rfl⟩ | ⟨O,c,x,H,hx,hn,_⟩⟩
      · exact absurd ⟨a,b⟩ U
      · exact⟨h,rfl⟩
      · exact absurd (qgX V Z I U (qhB _ _) H O hx) hn
theorem KFit.all {l:List Pt} {k:Nat} (G:PtsOk l) (F:qdr l) (I:k=1\/k=2) {K:List Nat} {X:Nat->Nat->Rat} (h:KFit l k K X) :
  (∀c,c<3->qbP (many k (chans l)) (X c))/\qbP l.length (sqq (mdX l k X) l k) :=
 ⟨fun c H=>qgX G F (by omega) (by omega) (qhB _ _) H h.1 (h.2 c H),(fit_cost G F (by omega) (by omega) (qhB K _) h.1 h.2).sq⟩
theorem mdX_ok {l:List Pt} {k:Nat} (F:PtsOk l) (H:k=1\/k=2) {X:Nat->Nat->Rat} (G:∀c,c<3->qbP (many k (chans l)) (X c)):MdOk (mdX l k X) k (chans l):=qj0 (by omega) F.n1 F.n4 (by omega) G
theorem qjr {l:List Pt} {k d p:Nat} (H:PtsOk l) (h8:qdr l) (hk:k=1\/k=2) (hd:d<=50) (hp:p<=8) {w w':World} {e:Ending} (h:RFAs w l (k:Int) (d:Int) (p:Int) e w'):Below w.heap.size w w' /\
    ((e=.returned (.tuple #[mdv0,.slice none 0 0,.int .i64 7])/\¬∃K X,Runs l k (keepN l.length d) p K X) \/
     ∃v g K X,e=.returned (.tuple #[v,.slice (some ⟨g,0,none⟩) K.length K.length,.int .i64 0])/\NatR w' w.heap.size g K.length K.length K/\MdAt w' v (mdX l k X)/\Runs l k (keepN l.length d) p K X):=by
  have U:1<=k/\k<=3:=by omega
  have h3:¬(k=3/\chans l=4):=by omega
  refine⟨h.1,?_⟩;rcases h.2 with ⟨h,_⟩ | ⟨_,h,_⟩ | ⟨_,k',d',p',hA,hr⟩
  · exact absurd H h
  · exact absurd ⟨k,d,p,rfl,U,rfl,hd,rfl,hp⟩ h
  obtain⟨rfl,rfl,rfl⟩:=hA.uniq;rcases hr.2 with ⟨c,_,rfl,F⟩ | ⟨v,g,K,m,rfl,hN,hM,X,I,rfl,_⟩
  case inr=>exact .inr ⟨v,g,K,X,rfl,hN,hM,I⟩
  left
  have G:∀{K:List Nat},FitF l (k':Int) (keepW K l.length) c->c=7/\Sing (many k' (chans l)) (nq l k' (keepW K l.length) 0):=fun {K} F=>by
    obtain⟨_,hq⟩:=fit_two H h8 hk (K:=K) (w:=w) (w':=w) (e:=.returned (.tuple #[mdv0,.int .i64 c])) ⟨Below.refl _ _,.inr ⟨c,rfl,F⟩⟩;rcases hq with ⟨J,h⟩ | ⟨v,X,_,Z,ae,_⟩
    · simp only [Ending.returned.injEq,Value.tuple.injEq,qa2,qaU,Value.int.injEq] at h
      exact⟨h.2.1.2,J⟩
    · exact absurd F (FitF.not H U h3 Z ae)
  rcases F with F | ⟨q,K,X,hq,I,F | F⟩
  · obtain⟨rfl,J⟩:=G F
    refine⟨rfl,fun⟨K,X,I⟩=>?_⟩;obtain⟨K0,X0,e0,O⟩:=Runs.before (p:=0) (q:=p') (by rw [qaL];exact I);rw [e0] at O;exact O.1 J
  · have ha:=I.fit.all H h8 hk
    exact absurd F (SqF.not H (mdX_ok H hk ha.1) ha.2)
  · obtain⟨rfl,J⟩:=G F
    refine⟨rfl,fun⟨K2,X2,V⟩=>?_⟩;obtain⟨r,rfl⟩:∃r,p'=q+1+r:=⟨p'-(q+1),by omega⟩;obtain⟨K3,X3,K4,X4,Y,e3,aa⟩:=Runs.before V;rw [(Y.uniq I).2] at e3;rw [<-e3] at J;exact aa.1 J
def zq (F:List Int) (i:Nat):Rat:=((F.getD i 0:Int):Rat)
theorem lqn_any (b O n c:Nat) (F:List Int) (w:World) (hn:F.length=n) (aj:n<=1000) (hc:NCells w (some ⟨b,O,none⟩) b O F) (hz:∀z∈F,-9223372036854775808<=z/\z<=9223372036854775807) (hT:HasT w) :
  Calls prog 29 #[.slice (some ⟨b,O,none⟩) n c] w fun e w'=>∃v,e=.returned v/\Rws w' w.heap.size 27 2 v n (fflat (told n (zq F)))/\Below w.heap.size w w':=by
 have V:=qH (qA hc (qA hn (qA hz hT)));clear hc hn hz hT;go_enter func29,ntmps29;go_wp2_with fail
 go_loopw [3,5,6,7,10] (fun x3 x5 x6 x7 x10 W=>∃k:Nat,x10=.int .i64 (k:Int)/\k<=n/\Kn (fun W=>Below w.heap.size w W/\Rws W w.heap.size 27 2 x3 k (fflat (told k (zq F)))) W) (fun _ _ _ _ x10 _=>n-(intOf x10).toNat)
 case atStart=>exact⟨0,rfl,qan _,.of ⟨Below.refl _ _,Rws.nil _ _ _ _⟩⟩
 case round =>
  obtain⟨k,rfl,hk,Y⟩:=hrel
  by_cases H:k<n
  ·have ai:(k:Int)<n:=by omega
   have d0:=(V.o.1.below Y.o.1).cell k (by rw [V.o.2.1];exact H);have G:k<F.length:=by rw [V.o.2.1];exact H
   have J:=V.o.2.2.1 (F.getD k 0) (by rw [qab,qad G];exact qbG G);obtain⟨z,I⟩:=qX (F.getD k 0);rw [I] at d0 J;have hq:((z:Int):Rat) / (((1:Int):Int):Rat)=zq F k:=by unfold zq;rw [I,Rat.div_def,show (((1:Int):Rat))⁻¹=1 by decide +kernel,Rat.mul_one]
   obtain⟨x1,x2,hx⟩:=qcs (zq F k);have HO:Hu (∀W,Below w.heap.size w W->Calls prog 31 #[.int .i64 z,.int .i64 1] W fun e w'=>e=.returned (.tuple #[.agg #[.string x1,.string x2],.int .i64 0])/\Below W.heap.size W w'):=qH fun W Z=>by
    have h:=of_int z 1 (by decide) J (by decide) W (V.o.2.2.2.below Z);rw [hq,hx] at h;exact h
   have HX:=qH hx;have aa:=qH (HO.o wr Y.o.1);clear hq hx I J G;go_wp2_with fail;refine aa.o.mono ?_;rintro e U ⟨rfl,Z⟩;have K2:=Y.below Z;clear Z d0;have K4:=K2.on (q:=fun W=>W.heap[U.heap.size]? = some (.cells #[.string x1,.string x2] 27 (0,0))) (qbM (Below.refl _ U) qN) (heap_alloc_new U (.cells #[.string x1,.string x2] 27));have ae:=qH (show U.heap.size+1=(U.alloc (.cells #[.string x1,.string x2] 27)).heap.size by simp only [qaa])
   go_wp2_with (first | ((with_reducible refine qbU rfl 27 _ _ rfl #[.string ⟨#[]⟩,.string ⟨#[]⟩] #[.string x1,.string x2] ?_ ?_ 2 ?_ ?_ ?_ ?_ ?_);(next=>rfl);(next=>rfl);(next=>kernel_rfl);(next=>rfl);(next=>rfl);(next=>rfl)) | (with_reducible refine lW_ rfl 27 _ rfl (U.heap.size) #[.string x1,.string x2] K4.o.2 underlying27 2 ?_) | (at_builtin;refine qeQ rfl _ _ rfl K4.o.1.1 rfl K4.o.1.2 rfl rfl ae.o (by omega) ?_;intro v' w' ag af) | fail)
   go_roundw
   case rel=>exact⟨k+1,by go_num,H,.of ⟨af.o,by rw [qfo,HX.o];exact ag.o⟩⟩
   case measure=>simp [intOf];omega
  ·obtain rfl:k=n:=by omega
   have ah:¬(k:Int)<(k:Int):=by omega
   go_wp2;go_ret;exact⟨_,rfl,Y.o.2,Y.o.1⟩
theorem qij (b F n c:Nat) (G:List Int) (w:World) (V:G.length=n) (I:n<=1000) (U:NCells w (some ⟨b,F,none⟩) b F G) (Y:∀z∈G,-9223372036854775808<=z/\z<=9223372036854775807) (hT:HasT w) :
  Calls prog 29 #[.slice (some ⟨b,F,none⟩) n c] w fun e w'=>∃(H:Option Addr) (g cap:Nat),e=.returned (.slice H n cap)/\FCells w' H g 0 (told n (zq G))/\Below w.heap.size w w':=by
 refine (lqn_any b F n c G w V I U Y hT).mono ?_;rintro e w' ⟨v,rfl,h,O⟩;obtain⟨H,g,cap,rfl,J,_⟩:=qdL h (qbQ _ _);exact⟨H,g,cap,rfl,J,O⟩
theorem qft (F:Option Addr) (n c:Nat) (w:World) :
  Calls prog 27 #[.slice F n c] w fun e w'=>∃b,e=.returned (.func (.func 72) #[] #[.pointer (some ⟨b,0,none⟩)])/\Below w.heap.size w w'/\w'.heap[b]? = some (.cells #[.slice F n c] 30 (0,0)):=by
 have H:=qH (qA (qbM (o:=.cells #[.slice F n c] 30) (Below.refl w.heap.size w) qN) (qM w (.cells #[.slice F n c] 30) _ rfl));have G:=@hmf_ prog;go_enter func27,ntmps27;go_wp2;go_ret;exact⟨_,rfl,H.o.1,H.o.2⟩
theorem qfW (I O n c J U m d b:Nat) (G H:List Int) (z:Int) (w:World) (hb:w.heap[b]? = some (.cells #[.slice (some ⟨J,U,none⟩) m d] 30 (0,0))) (hn:G.length=n) (hm:H.length=m) (Z:n<=1000000) (Y:m<=1000000) (h1:NCells w (some ⟨I,O,none⟩) I O G) (h2:NCells w (some ⟨J,U,none⟩) J U H) :
  Calls prog 72 #[.slice (some ⟨I,O,none⟩) n c,.int .i64 z,.pointer (some ⟨b,0,none⟩)] w fun e w'=>e=.returned (.bool ((G == H) && (z == (0:Int))))/\Below w.heap.size w w':=by
 have c0:=qC _ _ 0 _ _ _ hb;have V:=qH (qi5 I O c J U d G H n m w hn hm Z Y h1 h2);clear h1 h2;obtain⟨q,hq⟩:=qX (G == H);rw [hq] at V ⊢;go_enter func72,ntmps72;go_wp2_with fail;refine V.o.mono ?_;rintro e w2 ⟨rfl,F⟩;have HB:=qH F;clear F c0 V;cases q
 ·go_wp2;go_ret;exact⟨rfl,HB.o⟩
 ·go_wp2;go_ret;exact⟨by simp,HB.o⟩
theorem qdn (n:Int) (w:World) :
  Calls prog 28 #[.int .i64 n] w fun e w'=>∃b,e=.returned (.func (.func 73) #[] #[.pointer (some ⟨b,0,none⟩)])/\Below w.heap.size w w'/\w'.heap[b]? = some (.cells #[.int .i64 n] 31 (0,0)):=by
 have H:=qH (qA (qbM (o:=.cells #[.int .i64 n] 31) (Below.refl w.heap.size w) qN) (qM w (.cells #[.int .i64 n] 31) _ rfl));have F:=@hmf_ prog;go_enter func28,ntmps28;go_wp2;go_ret;exact⟨_,rfl,H.o.1,H.o.2⟩
theorem qc2 (n:Int) (b c:Nat) (F:Option Addr) (w:World) (G:w.heap[b]? = some (.cells #[.int .i64 n] 31 (0,0))) :
  Calls prog 73 #[.slice F 0 c,.int .i64 n,.pointer (some ⟨b,0,none⟩)] w fun e w'=>e=.returned (.bool true)/\w'=w:=by
 have H:=qC _ _ 0 _ _ _ G;go_enter func73,ntmps73;go_wp2;go_ret;exact⟨by simp,rfl⟩
theorem infoPt:(Tryz.prog.info? 72).map (fun i=>(i.zero,i.size,i.bytes))=some (some (.agg #[.string ⟨#[]⟩,.slice none 0 0,.int .i64 0,.int .i64 0,.int .i64 0]),5,64):=by kernel_rfl
theorem qiG {w:World} {B:Nat} {v:Value} {n:Nat} {U:List Value} {u0 u1 u2 u3 u4:Value} {g c:Nat} {t:TypeId} (V:TypeId) (G:w.ownsRow B 72 5 v n U) (hB:B<=w.heap.size) (hg:w.heap[g]? = some (.cells #[u0,u1,u2,u3,u4] t (0,0))) (Z:∀u∈[u0,u1,u2,u3,u4],u.oneCell'=true) (hn:n<1000000) :
  ∃H w',(Builtin.append_ #[48,48] V #[v,.slice (some ⟨g,0,none⟩) 1 c]).run prog w=.ok H w'/\w'.ownsRow B 72 5 H (n+1) (U++[u0,u1,u2,u3,u4])/\(H.ownBlock=v.ownBlock/\w.grownBy w' v.ownBlock\/H.ownBlock=some w.heap.size/\w.grownBy w' none):=by
 obtain⟨i0,Y,I,J,O⟩:=info_parts infoPt;exact qgB (P:=prog) w B 48 V 72 i0 _ 5 64 underlying48 Y I J O rfl (by decide) v n U G ⟨g,0,none⟩ 1 c [u0,u1,u2,u3,u4] rfl (fun j x F=>by
   rw [Addr.add_mid]
   match j,F with
   | 0,F=>exact (qC _ _ _ _ _ _ hg).trans F
   | 1,F=>exact (qC _ _ _ _ _ _ hg).trans F
   | 2,F=>exact (qC _ _ _ _ _ _ hg).trans F
   | 3,F=>exact (qC _ _ _ _ _ _ hg).trans F
   | 4,F=>exact (qC _ _ _ _ _ _ hg).trans F
   | j+5,F=>cases F) Z (by decide) (by unfold maxLen;omega) (by omega) hB
def PaAt (W:World) (F:List Value) (j:Nat) (p:Pt):Prop:=∃(B:Nat) (G:Option Addr) (H:Nat),(F[j*5]? = some (.string p.name)/\F[j*5+1]? = some (.slice G p.dev.length H)/\F[j*5+2]? = some (.int .i64 p.l0)/\F[j*5+3]? = some (.int .i64 p.l1)/\F[j*5+4]? = some (.int .i64 p.l2))/\IOwn W B (.slice G p.dev.length H) p.dev
def PaOwn (W:World) (B:Nat) (v:Value) (l:List Pt):Prop:=∃F,W.ownsRow B 72 5 v l.length F/\∀j,j<l.length->PaAt W F j (l.getD j pt0)
theorem PaOwn.below {W W':World} {B:Nat} {v:Value} {l:List Pt} (h:PaOwn W B v l) (F:Below W.heap.size W W'):PaOwn W' B v l:=by
 obtain⟨U,G,H⟩:=h;refine⟨U,own_below G F,fun j O=>?_⟩;obtain⟨B',da,dc,I,J⟩:=H j O;exact⟨B',da,dc,I,J.below F⟩
instance stays_paown {B:Nat} {v:Value} {l:List Pt}:Stays fun W=>PaOwn W B v l:=⟨fun h F=>h.below F⟩
theorem PaOwn.nil (W:World) (B:Nat):PaOwn W B (.slice none 0 0) []:=⟨[],⟨rfl,.inl ⟨rfl,rfl⟩⟩,fun j F=>absurd F (by simp)⟩
theorem PaOwn.shape {W:World} {B m:Nat} {v:Value} {l:List Pt} (h:PaOwn W B v l) (H:l.length=m):∃(F:Option Addr) (cap:Nat),v=.slice F m cap:=by
 obtain⟨I,G,_⟩:=h;subst H;exact qmn G
theorem PaOwn.cells {W:World} {B:Nat} {v:Value} {l:List Pt} (h:PaOwn W B v l) (Y:0<l.length) (J:∀j,j<l.length->0<(l.getD j pt0).dev.length):∃g c,v=.slice (some ⟨g,0,none⟩) l.length c/\PCells W (some ⟨g,0,none⟩) g 0 l:=by
 obtain⟨V,G,I⟩:=h;have F:=G;rcases G.2 with ⟨_,h⟩ | ⟨g,cap,cur,rfl,_,_,_⟩
 ·omega
 ·refine⟨g,cap,rfl,fun _=>rfl,fun k H=>?_⟩;obtain⟨B',da,dc,⟨e0,e1,e2,e3,e4⟩,U⟩:=I k H;obtain⟨ga,ca,e,hN⟩:=IOwn.cells U (J k H);have c:∀j u,V[j]? = some u->W.cell? ⟨g,0+j,none⟩=some u:=fun j u O=>by
   have:=F.cells (g:=g) rfl j u O
   rwa [Addr.add_mid] at this
  exact⟨c _ _ e0,⟨_,ga,0,ca,by rw [<-e];exact c _ _ e1,hN⟩,c _ _ e2,c _ _ e3,c _ _ e4⟩
theorem PaOwn.push {W F w':World} {B:Nat} {v I:Value} {l:List Pt} {p:Pt} {J:Option Addr} {O Bd:Nat} (h:PaOwn W B v l) (hb:Below W.heap.size W F) (hp:IOwn F Bd (.slice J p.dev.length O) p.dev)
  (ho:∀G,F.ownsRow B 72 5 v l.length G->w'.ownsRow B 72 5 I (l.length+1) (G++[.string p.name,.slice J p.dev.length O,.int .i64 p.l0,.int .i64 p.l1,.int .i64 p.l2])) (Z:I.ownBlock=v.ownBlock/\F.grownBy w' v.ownBlock\/I.ownBlock=some F.heap.size/\F.grownBy w' none):PaOwn w' B I (l++[p]):=by
 obtain⟨G,H,h2⟩:=h.below hb;refine⟨_,by rw [qaf];exact ho G H,fun j Y=>?_⟩;have U:G.length=l.length*5:=H.1;rcases qaV j l.length with hjl | hjl
 ·obtain⟨B',d',c',⟨e0,e1,e2,e3,e4⟩,V⟩:=h2 j hjl;have e:(l++[p]).getD j pt0=l.getD j pt0:=by rw [qab,qax hjl,<-qab]
  rw [e];refine⟨B',d',c',⟨?_,?_,?_,?_,?_⟩,(qj5 V (own_ne V H (by decide)) Z).1⟩
  ·rw [qax (by omega)];exact e0
  ·rw [qax (by omega)];exact e1
  ·rw [qax (by omega)];exact e2
  ·rw [qax (by omega)];exact e3
  ·rw [qax (by omega)];exact e4
 ·obtain rfl:j=l.length:=by rw [qaf] at Y;have:j<l.length+1:=Y;omega
  have e:(l++[p]).getD l.length pt0=p:=by rw [qab,qar qN,qaK];rfl
  rw [e];refine⟨Bd,J,O,⟨?_,?_,?_,?_,?_⟩,(qj5 hp (own_ne hp H (by decide)) Z).1⟩
  all_goals
   rw [qar (by omega)];simp only [U,qaK,Nat.add_sub_cancel_left]
   rfl
theorem qde {Y:Array Oper} {rest:List Oper} {o:Oper} {a:Act} {w:World} {Q:Exit->Act->World->Prop} (aa:o.guard=none) (s x:Operand)
  (ho:o.op=.call { callee:=.builtin .append,args:=#[s,x],argTypes:=#[48,48] }) {B:Nat} {v:Value} {l:List Pt} {p:Pt} {F:Option Addr} {G Bd:Nat} (I:PaOwn w B v l) (hp:IOwn w Bd (.slice F p.dev.length G) p.dev) (hB:B<=w.heap.size) (hs:a.eval s=v) {g:Nat} (hx:a.eval x=.slice (some ⟨g,0,none⟩) 1 1) (hg:g=w.heap.size) (hn:l.length<1000000)
  {V:ByteArray} {k:Nat} {z0 Z z2:Int} (e0:V=p.name) (e1:k=p.dev.length) (e2:z0=p.l0) (e3:Z=p.l1) (e4:z2=p.l2)
  (h:∀O w',Hu (PaOwn w' B O (l++[p]))->Hu (O.ownBlock=v.ownBlock/\(w.alloc (.cells #[.string V,.slice F k G,.int .i64 z0,.int .i64 Z,.int .i64 z2] 72)).grownBy w' v.ownBlock\/O.ownBlock=some (w.alloc (.cells #[.string V,.slice F k G,.int .i64 z0,.int .i64 Z,.int .i64 z2] 72)).heap.size/\(w.alloc (.cells #[.string V,.slice F k G,.int .i64 z0,.int .i64 Z,.int .i64 z2] 72)).grownBy w' none)->wpList prog Y Q rest (a.put o.dst O) w') :
  wpList prog Y Q (o :: rest) a (w.alloc (.cells #[.string V,.slice F k G,.int .i64 z0,.int .i64 Z,.int .i64 z2] 72)):=by
 subst hg e0 e1 e2 e3 e4;have J:Below w.heap.size w (w.alloc (.cells #[.string p.name,.slice F p.dev.length G,.int .i64 p.l0,.int .i64 p.l1,.int .i64 p.l2] 72)):=qbM qB qN;obtain⟨ah,af,_⟩:=I.below J;have hg:=qM w (.cells #[.string p.name,.slice F p.dev.length G,.int .i64 p.l0,.int .i64 p.l1,.int .i64 p.l2] 72) _ rfl;have H:∀u∈[Value.string p.name,.slice F p.dev.length G,.int .i64 p.l0,.int .i64 p.l1,.int .i64 p.l2],u.oneCell'=true:=fun u hu=>by
  simp only [qay,List.not_mem_nil,or_false] at hu;rcases hu with rfl | rfl | rfl | rfl | rfl <;> rfl
 have U:B<=(w.alloc (.cells #[.string p.name,.slice F p.dev.length G,.int .i64 p.l0,.int .i64 p.l1,.int .i64 p.l2] 72)).heap.size:=by simp only [qaa];omega
 obtain⟨O,w',hr,h1,h2⟩:=qiG o.type af U hg H hn (c:=1);refine qdZ aa s x _ ho hs hx hr (h O w' (qH (PaOwn.push I J (hp.below J) (fun vs ag=>?_) h2)) (qH h2));obtain⟨v2,w2,ae,h3,_⟩:=qiG o.type ag U hg H hn (c:=1);rw [ae] at hr;cases hr;exact h3
theorem qcn (w:World) :
  Calls prog 30 #[] w fun e w'=>∃v,e=.returned v/\PaOwn w' w.heap.size v line5/\Below w.heap.size w w':=by
 go_enter func30,ntmps30;go_wp2_with fail
 go_loopw [1,5,2,3] (fun x1 x5 x2 x3 W=>∃i:Nat,x5=.int .i64 (i:Int)/\i<=5/\Kn (fun W=>Below w.heap.size w W/\PaOwn W w.heap.size x1 (line5.take i)) W) (fun _ x5 _ _ _=>5-(intOf x5).toNat)
 case atStart=>exact⟨0,rfl,qan _,.of ⟨Below.refl _ _,PaOwn.nil _ _⟩⟩
 case round =>
  obtain⟨i,rfl,hi,V⟩:=hrel
  by_cases ah:i<5
  ·obtain⟨va,vc,ag⟩:=V.o.2.shape (m:=i) (by rw [qat];exact qaY hi);subst ag;rcases (show i=0\/i=1\/i=2\/i=3\/i=4 by omega) with rfl | rfl | rfl | rfl | rfl
   ·have aa:∀W,(Instr.index 141 (.agg #[.int .i64 0,.int .i64 2500,.int .i64 9000,.int .i64 7500,.int .i64 10000]) (.int .i64 0)).run prog W=.ok (.int .i64 0) W:=fun W=>by kernel_rfl
    have Y:∀W,(convert 21 9 (.int .i32 97)).run prog W=.ok (.string ⟨#[97]⟩) W:=fun W=>by kernel_rfl
    have J:Kn (fun W=>(Below w.heap.size w W/\PaOwn W w.heap.size (.slice va 0 vc) (line5.take 0))/\IOwn W wr.heap.size (.slice (some ⟨wr.heap.size,0,none⟩) 1 1) [0]) (wr.alloc (.cells #[.int .i64 0] 3)):=V.on (qbM (Below.refl _ wr) qN) (qfA (cs:=#[.int .i64 0]) (heap_alloc_new wr _) qN rfl (by decide));have HQ:Hu (∀q,(Value.slice va 0 vc).ownBlock=some q->w.heap.size<=q):=qH fun q hq=>by obtain⟨vs,Y,_⟩:=V.o.2;exact (Y.lt q hq).1
    have H:w.heap.size<=(wr.alloc (.cells #[.int .i64 0] 3)).heap.size:=J.o.1.1.size;have Z:w.heap.size<=wr.heap.size:=V.o.1.size;have U:=qH (show wr.heap.size+1=(wr.alloc (.cells #[.int .i64 0] 3)).heap.size by simp only [qaa])
    go_wp2_with (first | (at_builtin;refine qde rfl _ _ rfl (p:=⟨⟨#[97]⟩,[0],0,0,0⟩) (Bd:=wr.heap.size) J.o.1.2 J.o.2 H rfl rfl U.o (show 0<1000000 by decide) rfl rfl rfl rfl rfl ?_;intro v' w' G F;obtain⟨ae,af,I⟩:=(Hu.o G).shape (m:=1) rfl;subst I;have O:Hu (Below w.heap.size w w'):=qH (qdE (B:=w.heap.size) (qbM J.o.1.1 qN) HQ.o (by simp only [qaa];omega) F.o);clear F) | fail)
    go_roundw
    case rel=>exact⟨1,by go_num,by decide,.of ⟨O.o,G.o⟩⟩
    case measure=>simp [intOf]
   ·have aa:∀W,(Instr.index 141 (.agg #[.int .i64 0,.int .i64 2500,.int .i64 9000,.int .i64 7500,.int .i64 10000]) (.int .i64 1)).run prog W=.ok (.int .i64 2500) W:=fun W=>by kernel_rfl
    have Y:∀W,(convert 21 9 (.int .i32 98)).run prog W=.ok (.string ⟨#[98]⟩) W:=fun W=>by kernel_rfl
    have J:Kn (fun W=>(Below w.heap.size w W/\PaOwn W w.heap.size (.slice va 1 vc) (line5.take 1))/\IOwn W wr.heap.size (.slice (some ⟨wr.heap.size,0,none⟩) 1 1) [2500]) (wr.alloc (.cells #[.int .i64 2500] 3)):=V.on (qbM (Below.refl _ wr) qN) (qfA (cs:=#[.int .i64 2500]) (heap_alloc_new wr _) qN rfl (by decide));have HQ:Hu (∀q,(Value.slice va 1 vc).ownBlock=some q->w.heap.size<=q):=qH fun q hq=>by obtain⟨vs,Y,_⟩:=V.o.2;exact (Y.lt q hq).1
    have H:w.heap.size<=(wr.alloc (.cells #[.int .i64 2500] 3)).heap.size:=J.o.1.1.size;have Z:w.heap.size<=wr.heap.size:=V.o.1.size;have U:=qH (show wr.heap.size+1=(wr.alloc (.cells #[.int .i64 2500] 3)).heap.size by simp only [qaa])
    go_wp2_with (first | (at_builtin;refine qde rfl _ _ rfl (p:=⟨⟨#[98]⟩,[2500],2500,0,0⟩) (Bd:=wr.heap.size) J.o.1.2 J.o.2 H rfl rfl U.o (show 1<1000000 by decide) rfl rfl rfl rfl rfl ?_;intro v' w' G F;obtain⟨ae,af,I⟩:=(Hu.o G).shape (m:=2) rfl;subst I;have O:Hu (Below w.heap.size w w'):=qH (qdE (B:=w.heap.size) (qbM J.o.1.1 qN) HQ.o (by simp only [qaa];omega) F.o);clear F) | fail)
    go_roundw
    case rel=>exact⟨2,by go_num,by decide,.of ⟨O.o,G.o⟩⟩
    case measure=>simp [intOf]
   ·have aa:∀W,(Instr.index 141 (.agg #[.int .i64 0,.int .i64 2500,.int .i64 9000,.int .i64 7500,.int .i64 10000]) (.int .i64 2)).run prog W=.ok (.int .i64 9000) W:=fun W=>by kernel_rfl
    have Y:∀W,(convert 21 9 (.int .i32 99)).run prog W=.ok (.string ⟨#[99]⟩) W:=fun W=>by kernel_rfl
    have J:Kn (fun W=>(Below w.heap.size w W/\PaOwn W w.heap.size (.slice va 2 vc) (line5.take 2))/\IOwn W wr.heap.size (.slice (some ⟨wr.heap.size,0,none⟩) 1 1) [5000]) (wr.alloc (.cells #[.int .i64 5000] 3)):=V.on (qbM (Below.refl _ wr) qN) (qfA (cs:=#[.int .i64 5000]) (heap_alloc_new wr _) qN rfl (by decide));have HQ:Hu (∀q,(Value.slice va 2 vc).ownBlock=some q->w.heap.size<=q):=qH fun q hq=>by obtain⟨vs,Y,_⟩:=V.o.2;exact (Y.lt q hq).1
    have H:w.heap.size<=(wr.alloc (.cells #[.int .i64 5000] 3)).heap.size:=J.o.1.1.size;have Z:w.heap.size<=wr.heap.size:=V.o.1.size;have U:=qH (show wr.heap.size+1=(wr.alloc (.cells #[.int .i64 5000] 3)).heap.size by simp only [qaa])
    go_wp2_with (first | (at_builtin;refine qde rfl _ _ rfl (p:=⟨⟨#[99]⟩,[5000],9000,0,0⟩) (Bd:=wr.heap.size) J.o.1.2 J.o.2 H rfl rfl U.o (show 2<1000000 by decide) rfl rfl rfl rfl rfl ?_;intro v' w' G F;obtain⟨ae,af,I⟩:=(Hu.o G).shape (m:=3) rfl;subst I;have O:Hu (Below w.heap.size w w'):=qH (qdE (B:=w.heap.size) (qbM J.o.1.1 qN) HQ.o (by simp only [qaa];omega) F.o);clear F) | fail)
    go_roundw
    case rel=>exact⟨3,by go_num,by decide,.of ⟨O.o,G.o⟩⟩
    case measure=>simp [intOf]
   ·have aa:∀W,(Instr.index 141 (.agg #[.int .i64 0,.int .i64 2500,.int .i64 9000,.int .i64 7500,.int .i64 10000]) (.int .i64 3)).run prog W=.ok (.int .i64 7500) W:=fun W=>by kernel_rfl
    have Y:∀W,(convert 21 9 (.int .i32 100)).run prog W=.ok (.string ⟨#[100]⟩) W:=fun W=>by kernel_rfl
    have J:Kn (fun W=>(Below w.heap.size w W/\PaOwn W w.heap.size (.slice va 3 vc) (line5.take 3))/\IOwn W wr.heap.size (.slice (some ⟨wr.heap.size,0,none⟩) 1 1) [7500]) (wr.alloc (.cells #[.int .i64 7500] 3)):=V.on (qbM (Below.refl _ wr) qN) (qfA (cs:=#[.int .i64 7500]) (heap_alloc_new wr _) qN rfl (by decide));have HQ:Hu (∀q,(Value.slice va 3 vc).ownBlock=some q->w.heap.size<=q):=qH fun q hq=>by obtain⟨vs,Y,_⟩:=V.o.2;exact (Y.lt q hq).1
    have H:w.heap.size<=(wr.alloc (.cells #[.int .i64 7500] 3)).heap.size:=J.o.1.1.size;have Z:w.heap.size<=wr.heap.size:=V.o.1.size;have U:=qH (show wr.heap.size+1=(wr.alloc (.cells #[.int .i64 7500] 3)).heap.size by simp only [qaa])
    go_wp2_with (first | (at_builtin;refine qde rfl _ _ rfl (p:=⟨⟨#[100]⟩,[7500],7500,0,0⟩) (Bd:=wr.heap.size) J.o.1.2 J.o.2 H rfl rfl U.o (show 3<1000000 by decide) rfl rfl rfl rfl rfl ?_;intro v' w' G F;obtain⟨ae,af,I⟩:=(Hu.o G).shape (m:=4) rfl;subst I;have O:Hu (Below w.heap.size w w'):=qH (qdE (B:=w.heap.size) (qbM J.o.1.1 qN) HQ.o (by simp only [qaa];omega) F.o);clear F) | fail)
    go_roundw
    case rel=>exact⟨4,by go_num,by decide,.of ⟨O.o,G.o⟩⟩
    case measure=>simp [intOf]
   ·have aa:∀W,(Instr.index 141 (.agg #[.int .i64 0,.int .i64 2500,.int .i64 9000,.int .i64 7500,.int .i64 10000]) (.int .i64 4)).run prog W=.ok (.int .i64 10000) W:=fun W=>by kernel_rfl
    have Y:∀W,(convert 21 9 (.int .i32 101)).run prog W=.ok (.string ⟨#[101]⟩) W:=fun W=>by kernel_rfl
    have J:Kn (fun W=>(Below w.heap.size w W/\PaOwn W w.heap.size (.slice va 4 vc) (line5.take 4))/\IOwn W wr.heap.size (.slice (some ⟨wr.heap.size,0,none⟩) 1 1) [10000]) (wr.alloc (.cells #[.int .i64 10000] 3)):=V.on (qbM (Below.refl _ wr) qN) (qfA (cs:=#[.int .i64 10000]) (heap_alloc_new wr _) qN rfl (by decide));have HQ:Hu (∀q,(Value.slice va 4 vc).ownBlock=some q->w.heap.size<=q):=qH fun q hq=>by obtain⟨vs,Y,_⟩:=V.o.2;exact (Y.lt q hq).1
    have H:w.heap.size<=(wr.alloc (.cells #[.int .i64 10000] 3)).heap.size:=J.o.1.1.size;have Z:w.heap.size<=wr.heap.size:=V.o.1.size;have U:=qH (show wr.heap.size+1=(wr.alloc (.cells #[.int .i64 10000] 3)).heap.size by simp only [qaa])
    go_wp2_with (first | (at_builtin;refine qde rfl _ _ rfl (p:=⟨⟨#[101]⟩,[10000],10000,0,0⟩) (Bd:=wr.heap.size) J.o.1.2 J.o.2 H rfl rfl U.o (show 4<1000000 by decide) rfl rfl rfl rfl rfl ?_;intro v' w' G F;obtain⟨ae,af,I⟩:=(Hu.o G).shape (m:=5) rfl;subst I;have O:Hu (Below w.heap.size w w'):=qH (qdE (B:=w.heap.size) (qbM J.o.1.1 qN) HQ.o (by simp only [qaa];omega) F.o);clear F) | fail)
    go_roundw
    case rel=>exact⟨5,by go_num,by decide,.of ⟨O.o,G.o⟩⟩
    case measure=>simp [intOf]
  ·obtain rfl:i=5:=by omega
   obtain⟨va,vc,ag⟩:=V.o.2.shape (m:=5) rfl;subst ag;go_wp2;go_ret;exact⟨_,rfl,V.o.2,V.o.1⟩
theorem qiz {s F:Nat->Rat} {n:Nat} (h:∀i,i<n->s i=F i):qcL s n=qcL F n:=qgc fun a G b H=>by rw [h a (qau.1 G),h b (qau.1 H)]
theorem qh6 {R:Nat} {x:Nat->Rat} {z:Int} (h:ExIs (told R x) z) (F:qbP R x) (G:R<=40):z=0:=by
 rcases h with ⟨h,_⟩ | ⟨_,h,_⟩ | ⟨_,_,h⟩
 ·rw [qbQ] at h;omega
 ·exact absurd (qcS F) h
 ·exact h
theorem OrdAs.only {w w':World} {x:Nat->Rat} {R:Nat} {e:Ending} (h:OrdAs w (told R x) e w') (H:qbP R x) (F:R<=40):Below w.heap.size w w' /\
  ∃g,e=.returned (.tuple #[.slice (some ⟨g,0,none⟩) R R,.int .i64 0])/\NatR w' w.heap.size g R R (qcL x R):=by
 refine⟨h.1,?_⟩;rcases h.2 with ⟨z,I,he,_⟩ | ⟨_,g,he,hN⟩
 ·exact absurd (qh6 he H F) I
 ·rw [qbQ] at he hN;have:qcL (lval (told R x)) R=qcL x R:=qiz fun i G=>qcI G
  rw [this] at hN;exact⟨g,he,hN⟩
theorem qeS.much {w w':World} {x:Nat->Rat} {R:Nat} {m:Int} {e:Ending} (h:qeS w (told R x) m e w') (I:qbP R x) (F:R<=40) (H:¬(0<=m/\m<=R)):Below w.heap.size w w'/\e=.returned (.tuple #[.slice none 0 0,.int .i64 2]):=by
 refine⟨h.1,?_⟩;rcases h.2 with ⟨z,J,he,_⟩ | ⟨_,_,he⟩ | ⟨_,g,j,O,G,_⟩
 ·exact absurd (qh6 he I F) J
 ·exact he
 ·rw [qbQ] at G;exact absurd ⟨by omega,by omega⟩ H
theorem qea {F:List Int} {n:Nat} (h:∀z∈F,z.natAbs<=10000) (I:F.length=n):qbP n (zq F):=fun i H=>by
 have G:F.getD i 0∈F:=by rw [qab,qad (by omega)];exact qbG (by omega)
 exact qc9 (N:=10000) ⟨by show ((F.getD i 0:Int):Rat).num.natAbs<=10000;rw [Rat.num_intCast];exact h _ G,by show ((F.getD i 0:Int):Rat).den<=10000;rw [Rat.den_intCast];decide⟩ (by decide +kernel)
theorem ord_3121:qcL (zq [3,1,2,1]) 4=[1,3,2,0]:=by decide +kernel
theorem qk9:bestL (zq [3,1,2,1]) 4 2=[1,3]:=by decide +kernel
theorem qjb:MdOk (mdX line5 1 linX1) 1 (chans line5):=qj0 (by decide) (by decide) (by decide) (by decide) fun c F=>(qlZ c F).2
theorem qlY:(sumQ 1 fun i=>sqq (mdX line5 1 linX1) line5 1 (([2]:List Int).getD i 0).toNat)=1600:=by
 show 0+sqq (mdX line5 1 linX1) line5 1 2=1600
 rw [qlX 2 (by decide)]
 decide +kernel
theorem qjX:∀q,q<3->((mdX line5 1 linX1).row q).length<=4611686018427387904:=fun q F=>by
 unfold mdX;rw [qfw F,qbQ]
 decide
theorem lin_cost (W:World) (v:Value) (b c g F:Nat) (I:MdAt W v (mdX line5 1 linX1)) (J:PCells W (some ⟨b,0,none⟩) b 0 line5) (H:NCells W (some ⟨g,0,none⟩) g 0 [2]) (hT:HasT W) :
  Calls prog 20 #[v,.slice (some ⟨b,0,none⟩) 5 c,.slice (some ⟨g,0,none⟩) 1 F] W fun e w'=>e=.returned (.tuple #[.agg #[.string (ftxt 1600).1,.string (ftxt 1600).2],.int .i64 0])/\Below W.heap.size W w':=by
 refine (qds 5 b 0 c 1 g 0 F (some ⟨b,0,none⟩) (some ⟨g,0,none⟩) _ v line5 [2] W I rfl (by decide) qc5 qjX rfl (by decide) J H hT fun Z V _ _=>?_).mono fun e w' h=>?_
 ·obtain rfl:=(qjb.uniq V).1;rw [qlY];exact qc9 (N:=10000) ⟨by decide +kernel,by decide +kernel⟩ (by decide +kernel)
 ·obtain⟨O,⟨Y,_⟩ | ⟨_,he⟩⟩:=CoAs.only h qdw qjb qg9
  ·exact absurd (fun j U=>by
    obtain rfl:j=0:=by have:j<1:=U;omega
    exact⟨by decide,fun h=>absurd h (by decide)⟩) Y
  ·have G:(sumQ ([2]:List Int).length fun i=>sqq (mdX line5 1 linX1) line5 1 (([2]:List Int).getD i 0).toNat)=1600:=qlY;rw [G] at he;exact⟨he,O⟩
theorem qig (W:World) (v:Value) (b c g G:Nat) (I:MdAt W v (mdX line5 1 linX1)) (J:PCells W (some ⟨b,0,none⟩) b 0 line5) (H:NCells W (some ⟨g,0,none⟩) g 0 [2,1]) (hT:HasT W) :
  Calls prog 20 #[v,.slice (some ⟨b,0,none⟩) 5 c,.slice (some ⟨g,0,none⟩) 2 G] W fun e w'=>e=.returned (.tuple #[.agg #[.string ⟨#[]⟩,.string ⟨#[]⟩],.int .i64 2])/\Below W.heap.size W w':=by
 have F:¬Rises [2,1] 5 2:=fun h=>absurd ((h 1 (by decide)).2 (by decide)) (by decide)
 refine (qds 5 b 0 c 2 g 0 G (some ⟨b,0,none⟩) (some ⟨g,0,none⟩) _ v line5 [2,1] W I rfl (by decide) qc5 qjX rfl (by decide) J H hT fun V U _ h=>absurd h F).mono fun e w' h=>?_
 obtain⟨O,⟨_,he⟩ | ⟨h,_⟩⟩:=CoAs.only h qdw qjb qg9
 ·exact⟨he,O⟩
 ·exact absurd h F
theorem qcj {W:World} {B:Nat} {v:Value} (h:PaOwn W B v line5):∃g c,v=.slice (some ⟨g,0,none⟩) 5 c/\PCells W (some ⟨g,0,none⟩) g 0 line5 :=
 h.cells (by decide) fun j F=>by
  have F:j<5:=F;rcases (show j=0\/j=1\/j=2\/j=3\/j=4 by omega) with rfl | rfl | rfl | rfl | rfl <;> decide
theorem qfs:List.range line5.length=[0,1,2,3,4]:=by decide
theorem ex_f1 (W:World) (b c:Nat) (F:PCells W (some ⟨b,0,none⟩) b 0 line5) (hT:HasT W):Calls prog 22 #[.slice (some ⟨b,0,none⟩) 5 c,.int .i64 1,.int .i64 20,.int .i64 1] W fun e w'=>Below W.heap.size W w' /\
  ∃v g,e=.returned (.tuple #[v,.slice (some ⟨g,0,none⟩) 4 4,.int .i64 0])/\NatR w' W.heap.size g 4 4 [0,1,3,4]/\MdAt w' v (mdX line5 1 linX1) :=
 qhD W b c 20 1 F hT (by decide) (by decide) lin_r1 lin_no4
theorem ex_f2 (W:World) (b c:Nat) (F:PCells W (some ⟨b,0,none⟩) b 0 line5) (hT:HasT W):Calls prog 22 #[.slice (some ⟨b,0,none⟩) 5 c,.int .i64 1,.int .i64 19,.int .i64 1] W fun e w'=>Below W.heap.size W w' /\
  ∃v g,e=.returned (.tuple #[v,.slice (some ⟨g,0,none⟩) 5 5,.int .i64 0])/\NatR w' W.heap.size g 5 5 [0,1,2,3,4]/\MdAt w' v (mdX line5 1 linX0):=by
 have h:=qhD W b c 19 1 F hT (by decide) (by decide) lin_r5 lin_no5;rw [qfs] at h;exact h
theorem ex_f3 (W:World) (b c:Nat) (F:PCells W (some ⟨b,0,none⟩) b 0 line5) (hT:HasT W):Calls prog 22 #[.slice (some ⟨b,0,none⟩) 5 c,.int .i64 1,.int .i64 20,.int .i64 0] W fun e w'=>Below W.heap.size W w' /\
  ∃v g,e=.returned (.tuple #[v,.slice (some ⟨g,0,none⟩) 5 5,.int .i64 0])/\NatR w' W.heap.size g 5 5 [0,1,2,3,4]/\MdAt w' v (mdX line5 1 linX0):=by
 have h:=qhD W b c 20 0 F hT (by decide) (by decide) (qgi 4) (lin_no 4);rw [qfs] at h;exact h
theorem ex_f4 (W:World) (b c:Nat) (F:PCells W (some ⟨b,0,none⟩) b 0 line5) (hT:HasT W):Calls prog 22 #[.slice (some ⟨b,0,none⟩) 5 c,.int .i64 1,.int .i64 51,.int .i64 1] W fun e w'=>Below W.heap.size W w'/\e=.returned (.tuple #[mdv0,.slice none 0 0,.int .i64 2]) :=
 (qdc 5 b 0 c 1 51 1 (some ⟨b,0,none⟩) line5 W rfl (by decide) (fun _=>by decide) qc5 F hT).mono fun _ _ h=>h.bad qdw fun⟨k,d,p,_,_,h,G,_⟩=>by omega
def line4:List Pt:=[⟨⟨#[97]⟩,[0],0,0,0⟩,⟨⟨#[98]⟩,[2500],2500,0,0⟩,⟨⟨#[99]⟩,[5000],9000,0,0⟩,⟨⟨#[100]⟩,[7500],7500,0,0⟩]
theorem line4_at:∀k,k<4->line4.getD k pt0=line5.getD k pt0:=fun k F=>by
 rcases (show k=0\/k=1\/k=2\/k=3 by omega) with rfl | rfl | rfl | rfl <;> rfl
theorem qfV:PtsOk line4 where
 r1:=by decide
 r2:=by decide
 rows:=fun k H=>by
  have H:k<4:=H;rcases (show k=0\/k=1\/k=2\/k=3 by omega) with rfl | rfl | rfl | rfl <;> exact⟨⟨qhK (by decide),by decide,by decide,qkh (by decide),by decide,by decide,by decide⟩,rfl⟩
 apart:=fun i k I F=>by
  have F:i<4:=F;have G:∀i,i<4->∀k,k<i->(line4.getD k pt0).name≠(line4.getD i pt0).name:=by decide
  exact G i F k I
theorem qgu (z:Int) (j:Nat):([z]:List Int).getD j 0=if j=0 then z else 0:=by
 cases j with
 | zero=>rfl
 | succ j=>rfl
theorem ql0:qdr line4:=⟨by decide,fun i F j=>by
 have F:i<4:=F;rcases (show i=0\/i=1\/i=2\/i=3 by omega) with rfl | rfl | rfl | rfl
 ·exact⟨0,by decide,by show ([0]:List Int).getD j 0=_;rw [qgu];split <;> rfl⟩
 ·by_cases e:j=0
  ·exact⟨2,by decide,by show ([2500]:List Int).getD j 0=_;rw [qgu,if_pos e];rfl⟩
  ·exact⟨0,by decide,by show ([2500]:List Int).getD j 0=_;rw [qgu,if_neg e];rfl⟩
 ·by_cases e:j=0
  ·exact⟨4,by decide,by show ([5000]:List Int).getD j 0=_;rw [qgu,if_pos e];rfl⟩
  ·exact⟨0,by decide,by show ([5000]:List Int).getD j 0=_;rw [qgu,if_neg e];rfl⟩
 ·by_cases e:j=0
  ·exact⟨6,by decide,by show ([7500]:List Int).getD j 0=_;rw [qgu,if_pos e];rfl⟩
  ·exact⟨0,by decide,by show ([7500]:List Int).getD j 0=_;rw [qgu,if_neg e];rfl⟩⟩
def l4X (c:Nat):Nat->Rat:=if c=0 then fv [4,116] else fv [0,0]
def l4Y (c:Nat):Nat->Rat:=if c=0 then fv [0,100] else fv [0,0]
def l4Z (c:Nat):Nat->Rat:=if c=0 then fv [-6,236,-160] else fv [0,0,0]
theorem keep_4:keepW (List.range line4.length) line4.length=[1,1,1,1]:=by decide
theorem l4_kx:KFit line4 1 (List.range line4.length) l4X:=by
 unfold KFit;rw [keep_4];refine⟨qei (n:=2) (fm [[7 / 10,-6 / 5],[-6 / 5,16 / 5]]) (by decide +kernel),fun c F=>?_⟩;rcases (show c=0\/c=1\/c=2 by omega) with rfl | rfl | rfl <;> exact show ∀i,i<2->_ from by decide +kernel
theorem l4_ky:KFit line4 1 [0,1] l4Y:=by
 unfold KFit;rw [show keepW [0,1] line4.length=[1,1,0,0] by decide];refine⟨qei (n:=2) (fm [[1,-4],[-4,32]]) (by decide +kernel),fun c F=>?_⟩;rcases (show c=0\/c=1\/c=2 by omega) with rfl | rfl | rfl <;> exact show ∀i,i<2->_ from by decide +kernel
theorem l4_kz:KFit line4 2 (List.range line4.length) l4Z:=by
 unfold KFit;rw [keep_4];refine⟨qei (n:=3) (fm [[19 / 20,-21 / 5,4],[-21 / 5,196 / 5,-48],[4,-48,64]]) (by decide +kernel),fun c F=>?_⟩;rcases (show c=0\/c=1\/c=2 by omega) with rfl | rfl | rfl <;> exact show ∀i,i<3->_ from by decide +kernel
theorem l4_sx:∀i,i<4->sqq (mdX line4 1 l4X) line4 1 i=fv [16,64,784,256] i:=fun i F=>by
 unfold mdX;rw [qhP qN];rcases (show i=0\/i=1\/i=2\/i=3 by omega) with rfl | rfl | rfl | rfl <;> decide +kernel
theorem l4_sz:∀i,i<4->sqq (mdX line4 2 l4Z) line4 2 i=fv [36,324,324,36] i:=fun i F=>by
 unfold mdX;rw [qhP qN];rcases (show i=0\/i=1\/i=2\/i=3 by omega) with rfl | rfl | rfl | rfl <;> decide +kernel
theorem l4_nx:nextK line4 1 2 (mdX line4 1 l4X)=[0,1]:=(qeK (n:=4) l4_sx).trans (by decide +kernel)
theorem l4_nz:nextK line4 2 2 (mdX line4 2 l4Z)=[0,3]:=(qeK (n:=4) l4_sz).trans (by decide +kernel)
theorem l4_run:Runs line4 1 2 1 [0,1] l4Y:=⟨_,_,⟨rfl,l4_kx⟩,l4_nx.symm,l4_ky⟩
theorem l4_no:¬∃K X,Runs line4 2 2 1 K X:=fun⟨K,X,I,J,F,e,H⟩=>by
 have G:Runs line4 2 2 0 (List.range line4.length) l4Z:=⟨rfl,l4_kz⟩;rw [(F.uniq G).2,l4_nz] at e;subst e;refine H.1 ⟨fv [0,-3 / 4,1],⟨2,by decide,by decide +kernel⟩,?_⟩;rw [show keepW [0,3] line4.length=[1,0,0,1] by decide];exact show ∀i,i<3->_ from by decide +kernel
def four:List Pt:=[⟨⟨#[97]⟩,[0,0,0,0],0,0,0⟩]
theorem qeL:PtsOk four where
 r1:=by decide
 r2:=by decide
 rows:=fun k H=>by
  have H:k<1:=H;obtain rfl:k=0:=by omega
  exact⟨⟨qhK (by decide),by decide,by decide,fun j G=>by
   have G:j<4:=G;rcases (show j=0\/j=1\/j=2\/j=3 by omega) with rfl | rfl | rfl | rfl <;> decide,by decide,by decide,by decide⟩,rfl⟩
 apart:=fun i k I F=>by
  have F:i<1:=F;omega
theorem four_8:qdr four:=⟨by decide,fun i F j=>by
 have F:i<1:=F;obtain rfl:i=0:=by omega
 refine⟨0,by decide,?_⟩
 show ([0,0,0,0]:List Int).getD j 0=_
 rcases (show j=0\/j=1\/j=2\/j=3\/4<=j by omega) with rfl | rfl | rfl | rfl | h
 ·rfl
 ·rfl
 ·rfl
 ·rfl
 ·rw [qab,qa8 (by simpa using h)];rfl⟩
theorem four_s:∀k,k=1\/k=3->Sing (many k (chans four)) (nq four k (keepW (List.range four.length) four.length) 0):=fun k F=>by
 rcases F with rfl | rfl
 ·exact⟨fv [0,1],⟨1,by decide,by decide +kernel⟩,show ∀i,i<5->_ from by decide +kernel⟩
 ·exact⟨fv [0,1],⟨1,by decide,by decide +kernel⟩,show ∀i,i<16->_ from by decide +kernel⟩
theorem qlz (k p:Nat) (keep:Nat) (G:k=1\/k=3):¬∃K X,Runs four k keep p K X:=fun⟨K,X,h⟩=>by
 obtain⟨H,I,e0,F⟩:=Runs.before (p:=0) (q:=p) (by rw [qaL];exact h);rw [e0] at F;exact F.1 (four_s k G)
section
variable {P:Program} {ops:Array Oper} {Q:Exit->Act->World->Prop} {md:Region.Mode} {S:World->Prop}
theorem qlA {L M:Nat->Bool} (h:∀k,L k=true->M k=true) {i:Nat} (G:Region.free md ops (arr ops.size L) i=true):Region.free md ops (arr ops.size M) i=true:=by
 unfold Region.free at G ⊢;cases e:ops[i]? with
 | none=>rw [e] at G;exact G
 | some oi =>
  rw [e] at G;refine qaw.2 fun j I=>?_
  have F:=(qaw.1 G) j I;have H:=qau.1 I;rw [qaT,qaT,qfp,if_pos H] at F ⊢;rcases F with (F | F) | F
  ·exact .inl (.inl F)
  ·exact .inl (.inr (h j F))
  ·exact .inr F
def growY (H:Region.Mode) (F:Array Oper) (rl:List (Nat×List Nat)) (T Y:List Nat) (G:Nat):Bool :=
 ((List.range G).all fun i=>T.contains i || (((nthOp F.toList i).map fun o=>(dep rl i).all fun k=>(waits H o).contains k && (!T.contains k && decide (k<G))).getD false)) &&
 (((List.range G).all fun k=>(T.contains k || Y.contains k) || (List.range (G+1)).any fun j=>decide (k<j) && (!Y.contains j && ((nthOp F.toList j).map fun o=>(waits H o).contains k).getD false)) &&
 (!T.contains G && (!Y.contains G && (decide (G<F.size) && (((List.range F.size).all fun i=>decide (i<=G) || (T.contains i || ((nthOp F.toList i).map fun o=>(waits H o).any fun k=>decide (G<=k) && !T.contains k).getD false)) &&
 (Region.noSelect F && Y.all fun y=>decide (y<G) && (!T.contains y && ((nthOp F.toList y).map fun o=>((waits H o).all fun k=>T.contains k || (decide (k<G) && !Y.contains k)) && Region.free H F (arr F.size fun k=>T.contains k || (waits H o).contains k) y).getD false)))))))
theorem qgZ {rl:List (Nat×List Nat)} {T Y:List Nat} {H:Nat} (h:growY md ops rl T Y H=true) {i:Nat} {o:Oper} (I:i<H) (hT:i∉T) (O:nthOp ops.toList i=some o):∀k∈dep rl i,k∈waits md o/\k∉T/\k<H:=by
 intro k J;unfold growY at h;rw [qas] at h;have F:=(qaw.1 h.1) i (qau.2 I);rw [qaT,O] at F;rcases F with F | F
 ·exact absurd (qah.1 F) hT
 ·have G:=(qaw.1 (show ((dep rl i).all fun k=>(waits md o).contains k && (!T.contains k && decide (k<H)))=true from F)) k J;simp only [qas,decide_eq_true_eq,qbB] at G;refine⟨qah.1 G.1,fun e=>?_,G.2.2⟩;rw [qah.2 e] at G;exact absurd G.2.1 (by decide)
theorem qkz {rl:List (Nat×List Nat)} {T Y:List Nat} {H:Nat} (h:growY md ops rl T Y H=true) {k:Nat} (O:k<H) (hT:k∉T) (J:k∉Y):∃j o,k<j/\j<=H/\j∉Y/\nthOp ops.toList j=some o/\k∈waits md o:=by
 unfold growY at h;rw [qas,qas] at h;have G:=(qaw.1 h.2.1) k (qau.2 O);rw [qaT,qaT] at G;rcases G with (G | G) | G
 ·exact absurd (qah.1 G) hT
 ·exact absurd (qah.1 G) J
 obtain⟨j,I,F⟩:=List.any_eq_true.1 G;rw [qas,qas,decide_eq_true_eq,qbB] at F;have I:=qau.1 I;cases e:nthOp ops.toList j with
 | none=>rw [e] at F;exact absurd F.2.2 (by simp)
 | some o=>rw [e] at F;exact⟨j,o,F.1,by omega,(fun e=>by rw [qah.2 e] at F;cases F.2.1),e,qah.1 F.2.2⟩
theorem qky {rl:List (Nat×List Nat)} {T Y:List Nat} {H:Nat} (h:growY md ops rl T Y H=true) {i:Nat} {o:Oper} (U:H<i) (hT:i∉T) (O:i<ops.size) (J:nthOp ops.toList i=some o):∃k∈waits md o,H<=k/\k∉T:=by
 unfold growY at h;simp only [qas] at h;have G:=(qaw.1 h.2.2.2.2.2.1) i (qau.2 O);rw [qaT,decide_eq_true_eq,qaT,J] at G;rcases G with G | G | G
 ·omega
 ·exact absurd (qah.1 G) hT
 ·obtain⟨k,I,F⟩:=List.any_eq_true.1 (show ((waits md o).any fun k=>decide (H<=k) && !T.contains k)=true from G);rw [qas,decide_eq_true_eq,qbB] at F;exact⟨k,I,F.1,fun e=>by rw [qah.2 e] at F;cases F.2⟩
theorem qgY {rl:List (Nat×List Nat)} {T Y:List Nat} {H:Nat} (h:growY md ops rl T Y H=true) {y:Nat} (O:y∈Y):Region.noSelect ops=true/\y<H/\y∉T/\∃o,nthOp ops.toList y=some o/\(∀k∈waits md o,k∈T\/(k<H/\k∉Y))/\Region.free md ops (arr ops.size fun k=>T.contains k || (waits md o).contains k) y=true:=by
 unfold growY at h;simp only [qas] at h;have F:=(qaw.1 h.2.2.2.2.2.2.2) y O;rw [qas,decide_eq_true_eq,qas,qbB] at F;refine⟨h.2.2.2.2.2.2.1,F.1,(fun e=>by rw [qah.2 e] at F;cases F.2.1),?_⟩;cases e:nthOp ops.toList y with
 | none=>rw [e] at F;exact absurd F.2.2 (by simp)
 | some o =>
  rw [e] at F;have I:(((waits md o).all fun k=>T.contains k || (decide (k<H) && !Y.contains k)) && Region.free md ops (arr ops.size fun k=>T.contains k || (waits md o).contains k) y)=true:=F.2.2;rw [qas] at I;refine⟨o,rfl,fun k J=>?_,I.2⟩;have G:=(qaw.1 I.1) k J;rw [qaT,qas,decide_eq_true_eq,qbB] at G;rcases G with G | G
  ·exact .inl (qah.1 G)
  ·exact .inr ⟨G.1,fun e=>by rw [qah.2 e] at G;cases G.2⟩
theorem qk1 {o:Oper} {n:Nat} {L:Nat->Bool} (h:∀k∈waits md o,k<n/\L k=true):(o.after.all fun e=>!Region.binds md e || (decide (e.on<n) && L e.on))=true:=by
 refine Array.all_eq_true.2 fun j I=>?_
 cases H:Region.binds md o.after[j] with
 | false=>rfl
 | true =>
  have J:(o.after[j]).on∈waits md o:=qbl.2 ⟨o.after[j],List.mem_filter.2 ⟨Array.mem_toList_iff.2 (Array.getElem_mem I),H⟩,rfl⟩;obtain⟨F,G⟩:=h _ J;rw [qV F,G];rfl
theorem dag_lt (F:dagB md ops=true) {i:Nat} {o:Oper} (G:i<ops.size) (I:nthOp ops.toList i=some o):∀k∈waits md o,k<i:=fun k H=>by
 have h:=(qaw.1 F) i (qau.2 G);rw [I] at h;exact of_decide_eq_true ((qaw.1 (show ((waits md o).all fun k=>decide (k<i))=true from h)) k H)
theorem qiQ (a:Act) (D:List (Nat×Tmp)) (rl:List (Nat×List Nat)) (T Y:List Nat) (J:Nat) (F:Nat->Value->World->Prop) (w0:World) (T2:List Nat) (hQ:∀c (d:Tmp) (x:Value) (a:Act) (w:World),Q (.panic c) (a.put (some d) x) w->Q (.panic c) a w)
  (az:∀i x w w',F i x w->Below w.heap.size w w'->F i x w')
  (ah:dagB md ops=true) (h1:(D.map (·.1)).Nodup) (h2:(D.map (·.2)).Nodup) (av:dstB ops D T2=true) (aH:∀k,k<J->k∈T2->k∈T) (hB:growY md ops rl T Y J=true) (hn:J<ops.size) (kl:Nat) (aN:leftN ops.size (fun i=>decide (i<J) || T.contains i)=kl)
  (hS:∀w,Below w0.heap.size w0 w->S w)
  (hstep:∀i o,nthOp ops.toList i=some o->i<J->i∉T->i∉Y->∀(v:Nat->Value) (w:World),Below w0.heap.size w0 w->(∀k∈dep rl i,F k (v k) w) ->
   ∀A,A=pf a v D->∀K,Grows F [] i w A o.dst K->if Region.wanted o (yielded ops A.tmps)=true then Oper.wp P o A w K Q else K (A.put o.dst undef) w)
  (htake:∀y∈Y,∀o,nthOp ops.toList y=some o->∀(v:Nat->Value) (w:World),Below w0.heap.size w0 w->(∀k∈dep rl y,F k (v k) w) ->
   ∀A,A=pf a v D->∃x,Region.wanted o (yielded ops A.tmps)=true/\(∀w,S w->(execOp A.eval o).run P w=.ok (.value x) w)/\F y x w)
  (hend:∀v w,Grown md ops T [] J F w0 (fun i=>decide (i<J) || T.contains i) v w->∀A,A=pf a v D->∀f,wpAnyH P md ops Q S (f+kl) (arr ops.size fun i=>decide (i<J) || T.contains i) A w) :
  ∀(G:Nat) (L:Nat->Bool) (v:Nat->Value) (w:World),leftN ops.size L<=G->Grown md ops T [] J F w0 L v w->wpAnyH P md ops Q S G (arr ops.size L) (pf a v D) w:=by
 have ak:∀(G:Nat) (L:Nat->Bool) (v:Nat->Value) (w:World),leftN ops.size L<=G->Grown md ops T [] J F w0 L v w->(∀i,i<J->L i=true)->wpAnyH P md ops Q S G (arr ops.size L) (pf a v D) w:=by
  intro G L v w hf H V;have aG:L=fun i=>decide (i<J) || T.contains i:=funext fun i=>by
   by_cases h:i<J
   ·rw [V i h,qV h];rfl
   ·by_cases h2:i∈T
    ·rw [H.took i h2,qah.2 h2,Bool.or_true]
    ·rw [H.top i (by omega) h2,qU h,Bool.false_or];exact (Bool.not_eq_true _▸fun e=>h2 (qah.1 e):T.contains i=false).symm
  subst aG;rw [aN] at hf;obtain⟨f,rfl⟩:∃f,G=f+kl:=⟨G-kl,by omega⟩;exact hend v w H _ rfl f
 have next:∀(L:Nat->Bool) (v:Nat->Value) (w w':World) (i:Nat) (o:Oper) (x:Value),Grown md ops T [] J F w0 L v w->i<J->i∉T->L i=false->ops[i]? = some o->(∀k∈waits md o,L k=true)->F i x w'->Below w.heap.size w w' ->
   (pf a v D).put o.dst x=pf a (upd v i x) D/\Grown md ops T [] J F w0 (upd L i true) (upd v i x) w':=by
  intro L v w w' i o x H Z aa hL U hw hF O;have ag:i<ops.size:=by omega
  refine⟨?_,H.old.trans (O.mono H.old.size),fun j hj aj=>?_,fun k I=>?_,fun j p hp hj k I=>?_,fun j hj aj au=>?_,fun j hj=>absurd hj (by simp),fun j hj=>absurd hj (by simp)⟩
  ·have O:=(qaw.1 av) i (qau.2 ag);rw [qaT,qco U] at O;rcases O with O | O
   ·exact absurd (aH i Z (qah.1 O)) aa
   ·cases e:o.dst with
    | none =>
     show pf a v D=_
     refine (qex a v i x D fun p hp e2=>?_).symm;have O:(!(D.map (·.1)).contains i)=true:=by
      have:(match o.dst with | none=>!(D.map (·.1)).contains i | some d=>D.contains (i,d))=true:=O;rw [e] at this;exact this
     rw [qbB,<-Bool.not_eq_true] at O;exact O (qah.2 (qbl.2 ⟨p,hp,e2⟩))
    | some d =>
     have O:D.contains (i,d)=true:=by
      have:(match o.dst with | none=>!(D.map (·.1)).contains i | some d=>D.contains (i,d))=true:=O;rw [e] at this;exact this
     exact qmp a v x D h1 h2 (qah.1 O)
  ·rw [qbY _ _ (by omega)];exact H.top j hj aj
  ·rw [qbY _ _ (by rintro rfl;exact aa I)];exact H.took k I
  ·by_cases e:k=i
   ·rw [e,upd_same]
   ·rw [qbY _ _ e]
    by_cases e2:j=i
    ·subst e2;rw [qco U] at hp;cases hp;exact hw k I
    ·rw [qbY _ _ e2] at hj;exact H.shut j p hp hj k I
  ·by_cases e:j=i
   ·subst e;rw [upd_same];exact hF
   ·rw [qbY _ _ e] at au ⊢;exact az _ _ _ _ (H.fact j hj aj au) O
 intro G
 induction G with
 | zero =>
  intro L v w hf H;exact ak 0 L v w hf H fun i hi=>qg8 (Nat.le_zero.1 hf) i (by omega)
 | succ G ih =>
  intro L v w hf H
  by_cases V:∀i,i<J->L i=true
  ·exact ak (G+1) L v w hf H V
  by_cases hY:∃y∈Y,L y=false/\∀o,nthOp ops.toList y=some o->∀k∈waits md o,L k=true
  ·obtain⟨y,hy,hL,hw⟩:=hY;obtain⟨aO,aB,aC,o,U,aA,aJ⟩:=qgY hB hy;have hw:=hw o U;obtain⟨x,aQ,ay,hF⟩:=htake y hy o U v w H.old (fun k I=>by obtain⟨a1,a2,a3⟩:=qgZ hB aB aC U k I;exact H.fact k a3 a2 (hw k a1)) _ rfl;obtain⟨af,ai⟩:=next L v w w y o x H aB aC hL (qew U) hw hF qB
   refine wpAnyH_take (qew U) aO (qlA (fun k I=>?_) aJ) ?_ (hQ:=fun c a w h=>by
    cases e:o.dst with
    | none=>rw [e] at h;exact h
    | some d=>rw [e] at h;exact hQ c d x a w h) (qav ⟨aQ,ay⟩) (hS _ H.old) ?_
   ·rw [qaT] at I;rcases I with I | I
    ·exact H.took k (qah.1 I)
    ·exact hw k (qah.1 I)
   ·refine qah.2 ((qfj _ L rfl y).2 ⟨by omega,hL,o,qew U,?_⟩);exact qk1 fun k I=>⟨by have:=dag_lt ah (show y<ops.size by omega) U k I;omega,hw k I⟩
   ·rw [qiX,af];exact ih _ _ _ (by have:=qgh (show y<ops.size by omega) hL;omega) ai
  refine⟨fun h0=>absurd (fun i hi=>qhf ah h0 i (by omega)) V,fun i hi=>?_⟩;obtain⟨ag,hL,o,U,hd⟩:=(qfj _ L rfl i).1 hi;have hw:∀k∈waits md o,L k=true:=fun k I=>(qiO hd k I).2
  have aa:i∉T:=fun h=>by have:=H.took i h;rw [hL] at this;cases this
  have aK:i∉Y:=fun h=>hY ⟨i,h,hL,fun p hp k I=>by rw [qco U] at hp;cases hp;exact hw k I⟩
  have Z:i<J:=by
   apply Classical.byContradiction;intro aR;rcases qaV J i with hgt | hle
   ·obtain⟨k,I,aL,aM⟩:=qky hB hgt aa ag (qco U);have:=hw k I;rw [H.top k aL aM] at this;cases this
   ·obtain rfl:i=J:=by omega
    have aD:∀m k,k<i->k∉Y->i-k=m->L k=true:=by
     intro m
     induction m using Nat.strongRecOn with
     | ind m ihm =>
      intro k I ae hm
      by_cases ax:k∈T
      ·exact H.took k ax
      obtain⟨j,p,h1,h2,aF,h3,h4⟩:=qkz hB I ax ae;rcases qaV j i with h | h
      ·exact H.shut j p h3 (ihm (i-j) (by omega) j h aF rfl) k h4
      ·obtain rfl:j=i:=by omega
       rw [qco U] at h3;cases h3;exact hw k h4
    refine V fun k I=>?_
    by_cases ae:k∈Y
    ·cases e:L k with
     | true=>rfl
     | false =>
      refine absurd ⟨k,ae,e,fun p hp q hq=>?_⟩ hY;obtain⟨_,_,_,o',aP,aA,_⟩:=qgY hB ae;rw [aP] at hp;cases hp;rcases aA q hq with h | ⟨h,h'⟩
      ·exact H.took q h
      ·exact aD _ q h h' rfl
    ·exact aD _ k I ae rfl
  refine wpOp_step U fun K' hK=>hstep i o (qco U) Z aa aK v w H.old (fun k I=>by obtain⟨a1,a2,a3⟩:=qgZ hB Z aa (qco U) k I;exact H.fact k a3 a2 (hw k a1)) _ rfl K' fun x A' w' hA hF _ O=>?_
  have aI:Below w0.heap.size w0 w':=H.old.trans (O.mono H.old.size);obtain⟨af,ai⟩:=next L v w w' i o x H Z aa hL U hw hF O
  refine hK _ _ ⟨hS _ aI,?_⟩;rw [qiX,hA,af];exact ih _ _ _ (by have:=qgh ag hL;omega) ai
theorem gy {J:Nat} {G:Array Bool} {a:Act} {w:World} (D:List (Nat×Tmp)) (rl:List (Nat×List Nat)) (T Y C:List Nat) (I N:Nat) (F:Nat->Value->World->Prop) (A:(Nat->Value)->Act) (kl:Nat) {m:Nat} (hm:a.tmps.size=m:=by rfl) (hA:∀v,pf a v D=A v:=by (intro v;simp only [pf,Act.put,qaH,qbh,List.set_cons_succ];with_reducible rfl))
  (ax:∀i x,Stays (F i x):=by intro i x;infer_instance)
  (hB:(dagB md ops && (decide ((D.map (·.1)).Nodup) && (decide ((D.map (·.2)).Nodup) && (dstB ops D (T++(List.range ops.size).filter fun k=>decide (I<=k)) && ((D.all fun p=>decide (D.lookup p.1=some p.2) && decide (p.2<m)) && (decide (G.size=ops.size) && (decide (leftN ops.size (fun k=>G.getD k false)<=J) &&
   (growY md ops rl T Y I && (decide (I<ops.size) && (decide (leftN ops.size (fun i=>decide (i<I) || T.contains i)=kl) && (decide (G=arr ops.size fun k=>T.contains k) && ((T.all fun k=>((nthOp ops.toList k).map fun o=>(waits md o).all fun j=>T.contains j).getD false) && (decide (arr N (fun i=>decide (i<I) || T.contains i)=arr ops.size (fun i=>decide (i<I) || T.contains i)) && (List.range I).all (fun i=>(T.contains i || Y.contains i) || C.contains i))))))))))))))=true:=by kernel_rfl)
  (hQ:∀c (d:Tmp) (x:Value) (a:Act) (w:World),Q (.panic c) (a.put (some d) x) w->Q (.panic c) a w:=by exact fun _ _ _ _ _ h=>h)
  (hS:∀w',Below w.heap.size w w'->S w')
  (hstep:AllC (fun i=>∃o,nthOp ops.toList i=some o/\∀(v:Nat->Value) (w':World),Below w.heap.size w w'->AllC (fun k=>F k (v k) w') (dep rl i)->∀K,Grows F [] i w' (A v) o.dst K->if Region.wanted o (yielded ops (A v).tmps)=true then Oper.wp P o (A v) w' K Q else K ((A v).put o.dst undef) w') C)
  (htake:AllC (fun i=>∃o,nthOp ops.toList i=some o/\∀(v:Nat->Value) (w':World),Below w.heap.size w w'->AllC (fun k=>F k (v k) w') (dep rl i)->∃x,Region.wanted o (yielded ops (A v).tmps)=true/\(∀w,S w->(execOp (A v).eval o).run P w=.ok (.value x) w)/\F i x w') Y)
  (hend:∀(v:Nat->Value) (w':World),Below w.heap.size w w'->(∀i,i<I->i∉T->F i (v i) w')->∀f,wpAnyH P md ops Q S (f+kl) (arr N (fun i=>decide (i<I) || T.contains i)) (A v) w'):wpAnyH P md ops Q S J G a w:=by
 simp only [qas,decide_eq_true_eq] at hB;obtain⟨aa,h1,h2,ae,hD,ay,hf,af,hn,av,O,ai,ah,hC⟩:=hB;have Z:pf a (fun i=>a.tmps.getD ((D.lookup i).getD 0) undef) D=a:=qjo a _ D fun p hp=>by
  have:=(qaw.1 hD) p hp;simp only [qas,decide_eq_true_eq] at this;exact⟨by rw [this.1];rfl,by rw [hm];exact this.2⟩
 have h0:Grown md ops T [] I F w (fun k=>T.contains k) (fun i=>a.tmps.getD ((D.lookup i).getD 0) undef) w :=
  ⟨Below.refl _ _,fun i _ H=>by
   rw [<-Bool.not_eq_true];intro h;exact H (qah.1 h),fun k hk=>qah.2 hk,fun j o V hj k hk=>by
   have:=(qaw.1 ai) j (qah.1 hj);rw [V] at this;exact (qaw.1 (show ((waits md o).all fun j=>T.contains j)=true from this)) k hk,fun i _ h hL=>absurd (qah.1 hL) h,fun i H=>absurd H (by simp),fun i H=>absurd H (by simp)⟩
 have facts:∀(v:Nat->Value) (w':World) (i:Nat),(∀k∈dep rl i,F k (v k) w')->AllC (fun k=>F k (v k) w') (dep rl i):=fun v w' i U=>by
  generalize dep rl i=l at U
  induction l with
  | nil=>exact trivial
  | cons k l ih=>exact⟨U k (qbg ..),ih fun j hj=>U j (qbs _ hj)⟩
 have ag:=qiQ (P:=P) (Q:=Q) (S:=S) a D rl T Y I F w (T++(List.range ops.size).filter fun k=>decide (I<=k)) hQ (fun i x w w' h hb=>(ax i x).go h hb) aa h1 h2 ae (fun k hk au=>by
  rcases qaG.1 au with h | h
  ·exact h
  ·have:=of_decide_eq_true (List.mem_filter.1 h).2;omega) af hn kl av hS (fun i o V H aj ak v w' hb U B hB K hK=>by
   obtain⟨p,hp,h⟩:=hstep.get i (by
    have:=(qaw.1 hC) i (qau.2 H);rw [qaT,qaT] at this;rcases this with (h | h) | h
    ·exact absurd (qah.1 h) aj
    ·exact absurd (qah.1 h) ak
    ·exact qah.1 h)
   rw [hp] at V;cases V;rw [hA] at hB;subst hB;exact h v w' hb (facts v w' i U) K hK) (fun y hy o V v w' hb U B hB=>by
   obtain⟨p,hp,h⟩:=htake.get y hy;rw [hp] at V;cases V;rw [hA] at hB;subst hB;exact h v w' hb (facts v w' y U)) (fun v w' h B hB f=>by
   rw [<-ah];rw [hA] at hB;subst hB;exact hend v w' h.old (fun i H hT=>h.fact i H hT (by rw [qV H];rfl)) f) J _ _ _ (by rw [qgg (M:=fun k=>G.getD k false)];exact hf;intro i H;rw [O,qfp,if_pos H]) h0
 rw [Z,<-O] at ag;exact ag
end
theorem lits (W:World) (F:List Int):NCells (W.alloc (.cells (F.map fun z=>Value.int .i64 z).toArray 3)) (some ⟨W.heap.size,0,none⟩) W.heap.size 0 F:=by
 have h:=qjQ (q:=F) (t:=3) (heap_alloc_new W _) 0
 rwa [List.drop_zero] at h
theorem qcz (W:World) (o:Obj):Below W.heap.size W (W.alloc o):=qbM qB qN
theorem qfT {W:World} (h:HasT W) (o:Obj):HasT (W.alloc o):=h.below (qcz W o)
theorem q_ex (W:World) (F:List Int) (n:Nat) (O:F.length=n) (H:n<=1000) (U:∀z∈F,-9223372036854775808<=z/\z<=9223372036854775807) (hT:HasT W) :
  Calls prog 29 #[.slice (some ⟨W.heap.size,0,none⟩) n n] (W.alloc (.cells (F.map fun z=>Value.int .i64 z).toArray 3)) fun e w'=>∃(G:Option Addr) (g cap:Nat),e=.returned (.slice G n cap)/\FCells w' G g 0 (told n (zq F))/\Below W.heap.size W w' :=
 (qij W.heap.size 0 n n F _ O H (lits W F) U (qfT hT _)).mono fun _e _w' ⟨G,g,cap,he,I,J⟩=>⟨G,g,cap,he,I,(qcz W _).trans (J.mono (qcz W _).size)⟩
theorem is_ex (W:World) (F:List Int) (n:Nat):Calls prog 27 #[.slice (some ⟨W.heap.size,0,none⟩) n n] (W.alloc (.cells (F.map fun z=>Value.int .i64 z).toArray 3)) fun e w' =>
  ∃b,e=.returned (.func (.func 72) #[] #[.pointer (some ⟨b,0,none⟩)])/\Below W.heap.size W w'/\w'.heap[b]? = some (.cells #[.slice (some ⟨W.heap.size,0,none⟩) n n] 30 (0,0))/\NCells w' (some ⟨W.heap.size,0,none⟩) W.heap.size 0 F :=
 (qft (some ⟨W.heap.size,0,none⟩) n n _).mono fun _e _w' ⟨b,he,G,h⟩=>⟨b,he,(qcz W _).trans (G.mono (qcz W _).size),h,(lits W F).below G⟩
theorem eqk (W:World) (g c n:Nat) (F:List Int) (G:F.length=n) (I:n<=1000) (h:NCells W (some ⟨g,0,none⟩) g 0 F) :
  Calls prog 15 #[.slice (some ⟨g,0,none⟩) n c,.slice (some ⟨W.heap.size,0,none⟩) n n] (W.alloc (.cells (F.map fun z=>Value.int .i64 z).toArray 3)) fun e w'=>e=.returned (.bool true)/\Below W.heap.size W w' :=
 (qi5 g 0 c W.heap.size 0 n F F n n _ G G (by omega) (by omega) (h.below (qcz W _)) (lits W F)).mono fun e w' ⟨he,H⟩=>⟨by rw [he,show (F == F)=true from beq_self_eq_true F],(qcz W _).trans (H.mono (qcz W _).size)⟩
theorem MdAt.row0 {W:World} {k5 i5:Int} {F H I:Option Addr} {G J V O Y U:Nat} {m:Md} (h:MdAt W (.agg #[.int .i64 k5,.int .i64 i5,.slice F G J,.slice H V O,.slice I Y U]) m):G=(m.row 0).length/\∃b o,FCells W F b o (m.row 0):=by
 obtain⟨a0,a1,a2,b0,o0,c0,b1,o1,c1,b2,o2,c2,he,Z,_⟩:=h;simp only [qa1,qa2,qaU,qby] at he;obtain⟨_,_,⟨rfl,rfl,_⟩,_⟩:=he;exact⟨rfl,b0,o0,Z⟩
theorem lin_row1:(mdX line5 1 linX1).row 0=told 2 (zq [0,100]):=qdq (n:=2) fun i F=>by
 rcases (show i=0\/i=1 by omega) with rfl | rfl <;> decide +kernel
theorem lin_row0:(mdX line5 1 linX0).row 0=told 2 (zq [8,100]):=qdq (n:=2) fun i F=>by
 rcases (show i=0\/i=1 by omega) with rfl | rfl <;> decide +kernel
theorem qjK (x0 x1:ByteArray) (w:World):(binOp .eql 27 (.agg #[.string x0,.string x1]) (.agg #[.string x0,.string x1])).run prog w=.ok (.bool true) w:=by
 go_simp
theorem qho (w:World) (hT:HasT w):Calls prog 11 #[] w fun e w'=>e=.returned (.bool true)/\Below w.heap.size w w':=by
 have HT:=qH hT;have eH:∀(x y p:Value) (W:World),(callFunc 72 #[x,y,p]).run prog W=.ok (.enter 72 #[x,y,p]) W:=fun x y p W=>enters func72 (by kernel_rfl) (by kernel_rfl) _ W
 have eO:∀(x y p:Value) (W:World),(callFunc 73 #[x,y,p]).run prog W=.ok (.enter 73 #[x,y,p]) W:=fun x y p W=>enters func73 (by kernel_rfl) (by kernel_rfl) _ W
 have HI:=qH (qA is_ex q_ex);clear hT;go_enter func11,ntmps11;go_wp2_with fail;refine (HI.o.1 w [1,3,2,0] 4).mono ?_;rintro e w2 ⟨b2,rfl,dx,dK,dH⟩;have K2:Kn (fun W=>(Below w.heap.size w W/\W.heap[b2]? = some (.cells #[.slice (some ⟨w.heap.size,0,none⟩) 4 4] 30 (0,0)))/\NCells W (some ⟨w.heap.size,0,none⟩) w.heap.size 0 [1,3,2,0]) w2:=.of ⟨⟨dx,dK⟩,dH⟩;clear dx dK dH;go_wp2_with fail;refine (HI.o.2 w2 [3,1,2,1] 4 rfl (by decide) (by decide) (HT.o.below K2.o.1.1)).mono ?_;rintro e J ⟨df,g3,c3,rfl,bR,dz⟩;have K3:=(K2.below dz).also (q:=fun W=>FCells W df g3 0 (told 4 (zq [3,1,2,1]))) bR;have HO:=qH (qdU 4 g3 0 c3 df _ J (qbQ _ _) (by decide) (fun _=>by decide) bR);clear dz bR;go_wp2_with fail;refine HO.o.mono ?_;intro e w4 h4;obtain⟨ah,g4,rfl,bS⟩:=h4.only (qea (by decide) rfl) (by decide);rw [ord_3121] at bS;have K4:=(K3.below ah).also (q:=fun W=>NatR W J.heap.size g4 4 4 [1,3,2,0]) bS;clear h4 ah bS HO;have HL:=qH (qfW g4 0 4 4 w.heap.size 0 4 4 b2 [1,3,2,0] [1,3,2,0] 0 w4 K4.o.1.1.1.2 rfl rfl (by decide) (by decide) K4.o.2.all K4.o.1.1.2);go_wp2_with fail;refine HL.o.mono ?_;rintro e w5 ⟨rfl,dA⟩;have K5:=K4.below dA;clear dA HL;go_wp2_with fail;refine (HI.o.1 w5 [1,3] 2).mono ?_;rintro e w6 ⟨b6,rfl,dB,dL,aI⟩;have K6:Kn (fun W=>(Below w.heap.size w W/\W.heap[b6]? = some (.cells #[.slice (some ⟨w5.heap.size,0,none⟩) 2 2] 30 (0,0)))/\NCells W (some ⟨w5.heap.size,0,none⟩) w5.heap.size 0 [1,3]) w6:=.of ⟨⟨(K5.below dB).o.1.1.1.1,dL⟩,aI⟩;clear dB dL aI K5 K4 K3 K2;go_wp2_with fail;refine (HI.o.2 w6 [3,1,2,1] 4 rfl (by decide) (by decide) (HT.o.below K6.o.1.1)).mono ?_;rintro e w7 ⟨dS,g7,c7,rfl,di,dC⟩;have K7:=K6.below dC;have HO:=qH (qdh 4 g7 0 c7 2 dS _ w7 (qbQ _ _) (by decide) (fun _=>by decide) di);clear dC di;go_wp2_with fail;refine HO.o.mono ?_;intro e w8 h8;obtain⟨dD,g8,rfl,bT⟩:=qeS.only (k:=2) h8 (qea (by decide) rfl) (by decide) (by decide);rw [qk9] at bT;have K8:=(K7.below dD).also (q:=fun W=>NatR W w7.heap.size g8 2 2 [1,3]) bT;clear h8 dD bT HO;have HL:=qH (qfW g8 0 2 2 w5.heap.size 0 2 2 b6 [1,3] [1,3] 0 w8 K8.o.1.1.2 rfl rfl (by decide) (by decide) K8.o.2.all K8.o.1.2);go_wp2_with fail;refine HL.o.mono ?_;rintro e w9 ⟨rfl,dE⟩;have K9:Kn (fun W=>Below w.heap.size w W) w9:=.of (K8.below dE).o.1.1.1;clear dE HL K8 K7 K6;go_wp2_with fail;refine (qdn 2 w9).mono ?_;rintro e dZ ⟨b10,rfl,aW,bH⟩;have bJ:=(K9.below aW).also (q:=fun W=>W.heap[b10]? = some (.cells #[.int .i64 2] 31 (0,0))) bH;clear aW bH K9;go_wp2_with fail;refine (HI.o.2 dZ [1] 1 rfl (by decide) (by decide) (HT.o.below bJ.o.1)).mono ?_;rintro e d9 ⟨cZ,g11,c11,rfl,aK,aX⟩;have bV:=bJ.below aX;have HO:=qH (qdh 1 g11 0 c11 2 cZ _ d9 (qbQ _ _) (by decide) (fun _=>by decide) aK);clear aX aK bJ;go_wp2_with fail;refine HO.o.mono ?_;intro e ed dh;obtain⟨aY,rfl⟩:=dh.much (qea (by decide) rfl) (by decide) (by decide);have bK:=bV.below aY;clear dh aY HO bV;have HL:=qH (qc2 2 b10 0 none ed bK.o.2);go_wp2_with fail;refine HL.o.mono ?_;rintro e dM ⟨rfl,rfl⟩;have bW:Kn (fun W=>Below w.heap.size w W) dM:=.of bK.o.1;clear HL bK;go_wp2_with fail;refine (qcn dM).mono ?_;rintro e dN ⟨eX,rfl,hO,aZ⟩;obtain⟨g14,c14,rfl,aO⟩:=qcj hO;have bL:=bW.below aZ;have HF:=qH (ex_f1 dN g14 c14 aO (HT.o.below bL.o));clear hO aZ aO;go_wp2_with fail;refine HF.o.mono ?_;rintro e aJ ⟨bf,eY,g15,rfl,aM,ax⟩;obtain⟨ka,ia,Aa,Da,Fa,La,Ca,Ma,Ea,Ga,Ha,rfl⟩:=ax.five;obtain⟨dQ,aS,bP⟩:=nw1 aJ #[.int .i64 ka,.int .i64 ia,.slice Aa La Ca,.slice Da Ma Ea,.slice Fa Ga Ha] 46;have bX:Kn (fun W=>(Below w.heap.size w W/\NatR W dN.heap.size g15 4 4 [0,1,3,4])/\MdAt W (.agg #[.int .i64 ka,.int .i64 ia,.slice Aa La Ca,.slice Da Ma Ea,.slice Fa Ga Ha]) (mdX line5 1 linX1)) aJ:=.of ⟨⟨(bL.below bf).o,aM⟩,ax⟩;have bY:=(bX.below bP.o.1).also (q:=fun W=>W.heap[aJ.heap.size]? = some (.cells #[.int .i64 ka,.int .i64 ia,.slice Aa La Ca,.slice Da Ma Ea,.slice Fa Ga Ha] 46 (0,0))) bP.o.2;clear bf aM ax HF bL bW bP bX
 go_upto_region 3 with (first | ((with_reducible refine qbU rfl 46 _ _ rfl #[.int .i64 0,.int .i64 0,.slice none 0 0,.slice none 0 0,.slice none 0 0] #[.int .i64 ka,.int .i64 ia,.slice Aa La Ca,.slice Da Ma Ea,.slice Fa Ga Ha] ?_ ?_ 5 ?_ ?_ ?_ ?_ ?_);(next=>rfl);(next=>rfl);(next=>kernel_rfl);(next=>rfl);(next=>rfl);(next=>rfl)) | fail)
 rw [<-aS];clear aS;go_wp2_with fail;refine (qcn dQ).mono ?_;rintro e dO ⟨eZ,rfl,hO,bg⟩;obtain⟨g17,c17,rfl,aP⟩:=qcj hO;have bM:=bY.below bg;have HF:=qH (ex_f2 dO g17 c17 aP (HT.o.below bM.o.1.1.1));clear hO bg aP;go_wp2_with fail;refine HF.o.mono ?_;rintro e ek ⟨bi,fe,g18,rfl,aN,aL⟩;obtain⟨kb,ib,Ab,Db,Fb,Lb,Cb,Mb,Eb,Gb,Hb,rfl⟩:=aL.five;obtain⟨dR,aT,cK⟩:=nw1 ek #[.int .i64 kb,.int .i64 ib,.slice Ab Lb Cb,.slice Db Mb Eb,.slice Fb Gb Hb] 46;have bZ:=(bM.below bi).also (q:=fun W=>NatR W dO.heap.size g18 5 5 [0,1,2,3,4]) aN;have cu:=bZ.below cK.o.1;clear bi aN aL HF bZ bM bY cK
 go_upto_region 4 with (first | ((with_reducible refine qbU rfl 46 _ _ rfl #[.int .i64 0,.int .i64 0,.slice none 0 0,.slice none 0 0,.slice none 0 0] #[.int .i64 kb,.int .i64 ib,.slice Ab Lb Cb,.slice Db Mb Eb,.slice Fb Gb Hb] ?_ ?_ 5 ?_ ?_ ?_ ?_ ?_);(next=>rfl);(next=>rfl);(next=>kernel_rfl);(next=>rfl);(next=>rfl);(next=>rfl)) | fail)
 rw [<-aT];clear aT;go_wp2_with fail;refine (qcn dR).mono ?_;rintro e eu ⟨v20,rfl,hO,bn⟩;obtain⟨g20,c20,rfl,aQ⟩:=qcj hO;have bN:=cu.below bn;have HF:=qH (ex_f3 eu g20 c20 aQ (HT.o.below bN.o.1.1.1.1));clear hO bn aQ;go_wp2_with fail;refine HF.o.mono ?_;rintro e dP ⟨bq,fo,g21,rfl,dm,ay⟩;obtain⟨kc,ic,Ac,Dc,Fc,Lc,Cc,Mc,Ec,Gc,Hc,rfl⟩:=ay.five;obtain⟨F,aU,bQ⟩:=nw1 dP #[.int .i64 kc,.int .i64 ic,.slice Ac Lc Cc,.slice Dc Mc Ec,.slice Fc Gc Hc] 46;have cz:=(bN.below bq).also (q:=fun W=>MdAt W (.agg #[.int .i64 kc,.int .i64 ic,.slice Ac Lc Cc,.slice Dc Mc Ec,.slice Fc Gc Hc]) (mdX line5 1 linX0)) ay;have Y:=(cz.below bQ.o.1).also (q:=fun W=>W.heap[dP.heap.size]? = some (.cells #[.int .i64 kc,.int .i64 ic,.slice Ac Lc Cc,.slice Dc Mc Ec,.slice Fc Gc Hc] 46 (0,0))) bQ.o.2;clear bq dm ay HF cz bN cu bQ
 go_upto_region 5 with (first | ((with_reducible refine qbU rfl 46 _ _ rfl #[.int .i64 0,.int .i64 0,.slice none 0 0,.slice none 0 0,.slice none 0 0] #[.int .i64 kc,.int .i64 ic,.slice Ac Lc Cc,.slice Dc Mc Ec,.slice Fc Gc Hc] ?_ ?_ 5 ?_ ?_ ?_ ?_ ?_);(next=>rfl);(next=>rfl);(next=>kernel_rfl);(next=>rfl);(next=>rfl);(next=>rfl)) | fail)
 rw [<-aU];clear aU;obtain⟨rfl,ba,oa,dn⟩:La=2/\∃b o,FCells F Aa b o (told 2 (zq [0,100])):=by
  obtain⟨h1,b,o,h2⟩:=MdAt.row0 Y.o.1.1.1.1.2;rw [lin_row1] at h1 h2;exact⟨h1,b,o,h2⟩
 obtain⟨rfl,bc,oc,dw⟩:Lc=2/\∃b o,FCells F Ac b o (told 2 (zq [8,100])):=by
  obtain⟨h1,b,o,h2⟩:=MdAt.row0 Y.o.1.2;rw [lin_row0] at h1 h2;exact⟨h1,b,o,h2⟩
 have ai:=qH Y.o.1.1.1.1.1.1;have la:=(qG Y.o.1.1.1.2).1;have lc:=(qG Y.o.2).1;have m2:=rowC (B:=F.heap.size) Y.o.1.1.1.2 2;have s2:=rowC (B:=F.heap.size) Y.o.2 2;have bI:=qH (fun (W:World) (h:Below F.heap.size F W) (zs:List Int) (n:Nat) (hn:zs.length=n) (aI:n<=1000) (hz:∀z∈zs,-9223372036854775808<=z/\z<=9223372036854775807)=>q_ex W zs n hn aI hz (HT.o.below (ai.o.trans (h.mono ai.o.size))));have ak:=qH (qA dn (qA dw (qA Y.o.1.1.1.1.1.2.all Y.o.1.1.2.all)));clear dn dw;refine wp_region_held_drew (S:=fun W=>Below F.heap.size F W) (by kernel_rfl) qB.drew (fun hS0=>?_);refine hT 0 (h:=hT 1 (h:=hT 2 (h:=hT 3 (h:=hT 4 (h:=hT 5 (h:=hT 6 (h:=hT 7 (h:=hT 8 (h:=?_)))))))));have Z:Below F.heap.size F F.drew:=qB.drew;refine hE 9 (h:=⟨qbM Z qN,hN (h:=?_)⟩);refine hC 10 (bI.o _ Z [0,100] 2 rfl (by decide) (by decide)) (h:=?_);rintro e u0 ⟨eP,eT,dY,rfl,dI,bz⟩;have aB:Below F.heap.size F u0:=Z.trans (bz.mono Z.size);refine⟨_,rfl,aB,hN (h:=?_)⟩;refine hC 11 (qhO _ _ _ 2 Ca _ _ _ _ 2 dY _ u0 (qbQ _ _) (by decide) (ak.o.1.below aB) (qbQ _ _) (by decide) dI) (h:=?_);rintro e t0 ⟨ok0,rfl,bF,bB⟩;obtain rfl:ok0=true:=bF.2 rfl;have af:Below F.heap.size F t0:=aB.trans (bB.mono aB.size);refine⟨_,rfl,af,hN (h:=?_)⟩;clear dI bz bF bB aB;refine hT 12 (hS:=af) (h:=hT 13 (hS:=af) (h:=hT 14 (hS:=af) (h:=?_)));refine hE 15 (h:=⟨qbM af qN,hN (h:=?_)⟩);refine hC 16 (eqk _ g15 4 4 [0,1,3,4] rfl (by decide) (ak.o.2.2.1.below af)) (h:=?_);rintro e t1 ⟨rfl,bC⟩;have U:Below F.heap.size F t1:=af.trans (bC.mono af.size);refine⟨_,rfl,U,hN (h:=?_)⟩;clear bC;refine hT 17 (hS:=U) (h:=hT 18 (hS:=U) (h:=hT 19 (hS:=U) (h:=hT 20 (hS:=U) (h:=hT 21 (hS:=U) (h:=hT 22 (hS:=U) (h:=hT 23 (hS:=U) (h:=?_)))))));refine hE 24 (h:=⟨qbM U qN,hN (h:=?_)⟩);refine hC 25 (eqk _ g18 5 5 [0,1,2,3,4] rfl (by decide) (ak.o.2.2.2.below U)) (h:=?_);rintro e t2 ⟨rfl,bD⟩;have I:Below F.heap.size F t2:=U.trans (bD.mono U.size);refine⟨_,rfl,I,hN (h:=?_)⟩;clear bD;refine hT 26 (hS:=I) (h:=hT 27 (hS:=I) (h:=hT 28 (hS:=I) (h:=hT 29 (hS:=I) (h:=hT 30 (hS:=I) (h:=hT 31 (hS:=I) (h:=hT 32 (hS:=I) (h:=hT 33 (hS:=I) (h:=hT 34 (hS:=I) (h:=?_)))))))));refine hE 35 (h:=⟨qbM I qN,hN (h:=?_)⟩);refine hC 36 (bI.o _ I [8,100] 2 rfl (by decide) (by decide)) (h:=?_);rintro e u3 ⟨eQ,eU,qc3,rfl,dJ,bA⟩;have aC:Below F.heap.size F u3:=I.trans (bA.mono I.size);refine⟨_,rfl,aC,hN (h:=?_)⟩;refine hC 37 (qhO _ _ _ 2 Cc _ _ _ _ 2 qc3 _ u3 (qbQ _ _) (by decide) (ak.o.2.1.below aC) (qbQ _ _) (by decide) dJ) (h:=?_);rintro e t3 ⟨dX,rfl,bG,bE⟩;obtain rfl:dX=true:=bG.2 rfl;have aA:Below F.heap.size F t3:=aC.trans (bE.mono aC.size);refine⟨_,rfl,aA,hN (h:=?_)⟩;clear dJ bA bG bE aC;refine hT 38 (hS:=aA) (h:=hT 39 (hS:=aA) (h:=?_));refine wpAnyH_done (by kernel_rfl) ?_ _;have aG:=Y.below aA;have aF:Kn (fun W=>(Below w.heap.size w W/\MdAt W (.agg #[.int .i64 ka,.int .i64 ia,.slice Aa 2 Ca,.slice Da Ma Ea,.slice Fa Ga Ha]) (mdX line5 1 linX1))/\W.heap[aJ.heap.size]? = some (.cells #[.int .i64 ka,.int .i64 ia,.slice Aa 2 Ca,.slice Da Ma Ea,.slice Fa Ga Ha] 46 (0,0))) t3:=.of ⟨⟨aG.o.1.1.1.1.1.1,aG.o.1.1.1.1.2⟩,aG.o.1.1.1.2⟩;clear af U I hS0 Z ak bI la lc m2 s2 Y aA aG ai;obtain⟨y1,y2,hy⟩:=qcs (1600:Rat);have HY:=qH hy;have aj:=@lin_cost;simp only [hy] at aj;have bU:=qH aj;clear aj hy;go_wp2_with fail;refine wp_region_held_drew (S:=fun W=>Below t3.heap.size t3 W) (by kernel_rfl) qB.drew (fun hS0=>?_);refine Go.Proofs.YtjalhnlhcdfncaaGreatDoor.gy [(0,103),(1,104),(2,105),(3,106),(4,102),(5,107),(6,108),(7,11)] [(3,[0,1,2]),(4,[3]),(5,[4]),(6,[4])] [] [6] [0,1,2,3,4,5,7] 8 10 (fl2 [(0,fun z _=>z=.agg #[.int .i64 ka,.int .i64 ia,.slice Aa 2 Ca,.slice Da Ma Ea,.slice Fa Ga Ha]),(1,fun z W=>∃g c:Nat,z=.slice (some ⟨g,0,none⟩) 5 c/\PCells W (some ⟨g,0,none⟩) g 0 line5),(2,fun z W=>∃g:Nat,z=.slice (some ⟨g,0,none⟩) 1 1/\NCells W (some ⟨g,0,none⟩) g 0 [2]),(3,fun z _=>z=.tuple #[.agg #[.string y1,.string y2],.int .i64 0]),(4,fun z _=>z=.tuple #[.agg #[.string y1,.string y2],.int .i64 0]),(5,fun z _=>z=.agg #[.string y1,.string y2]),(6,fun z _=>z=.int .i64 0),(7,fun z W=>∃g:Nat,z=.pointer (some ⟨g,0,none⟩)/\W.heap[g]? = some (.cells #[.string ⟨#[]⟩,.string ⟨#[]⟩] 27 (0,0))/\t3.heap.size<=g)]) _ 2
  (hS:=fun w' h=>hS0.trans (h.mono hS0.size)) (hstep:=⟨⟨_,rfl,fun v J V H K O=>?_⟩,⟨_,rfl,fun v J V H K O=>?_⟩,⟨_,rfl,fun v J V H K O=>?_⟩,⟨_,rfl,fun v J V H K O=>?_⟩,⟨_,rfl,fun v J V H K O=>?_⟩,⟨_,rfl,fun v J V H K O=>?_⟩,⟨_,rfl,fun v J V H K O=>?_⟩,trivial⟩) (htake:=⟨⟨_,rfl,fun v J V H=>?_⟩,trivial⟩) (hend:=fun v eB V H fu=>?_)
 ·have hz:=zkeep (hS0.trans (V.mono hS0.size)) _ _ aF.o.2;have x0:=qC _ _ 0 _ _ _ hz;have x1:=qC _ _ 1 _ _ _ hz;have x2:=qC _ _ 2 _ _ _ hz;have x3:=qC _ _ 3 _ _ _ hz;have x4:=qC _ _ 4 _ _ _ hz;exact gV O rfl
 ·exact gC O (qcn J) (h:=fun e w4 ⟨v,e1,hO,ah⟩=>⟨v,e1,qcj hO,ah⟩)
 ·exact gW O (h:=⟨⟨J.heap.size,rfl,lits J [2]⟩,qbM qB qN⟩)
 ·have e0:v 0=_:=H.1;obtain⟨gl,cl,e1,hl⟩:∃g c:Nat,_:=H.2.1;obtain⟨gk,e2,hk⟩:∃g:Nat,_:=H.2.2.1;have au:=aF.below (hS0.trans (V.mono hS0.size));exact gC O (bU.o J _ gl cl gk 1 au.o.1.2 hl hk (HT.o.below au.o.1.1)) (h:=fun e w4 ⟨e1,h1⟩=>⟨_,e1,rfl,h1⟩)
 ·have e3:v 3=_:=H.1;exact gV O rfl
 ·have e4:v 4=_:=H.1;exact gV O rfl
 ·exact gW O (h:=⟨⟨J.heap.size,rfl,qM _ _ _ rfl,(hS0.trans (V.mono hS0.size)).size⟩,qbM qB qN⟩)
 ·have e4:v 4=_:=H.1;exact⟨_,rfl,fun W hW=>by (go_simp <;> with_reducible rfl),rfl⟩
 have e4:v 4=_:=H 4 (by decide) (by decide);have e5:v 5=_:=H 5 (by decide) (by decide);have e6:v 6=_:=H 6 (by decide) (by decide);obtain⟨g7,e7,h7,aD⟩:∃g:Nat,_:=H 7 (by decide) (by decide);rw [e4,e5,e6,e7];have az:=hS0.trans (V.mono hS0.size);have ae:=qS az aD #[.string y1,.string y2];have av:=(aF.below ae).also (q:=fun W=>W.heap[g7]? = some (.cells #[.string y1,.string y2] 27 (0,0))) (qT _ _ _ #[.string y1,.string y2] _ _ h7);refine hSn 8 2 h7 (h:=⟨ae,?_⟩);refine hT 9 (hS:=ae) (h:=?_);refine wpAnyH_done (by kernel_rfl) ?_ _;obtain⟨u7,hu⟩:∃u,u=eB.setRow g7 #[.string y1,.string y2]:=⟨_,rfl⟩;rw [<-hu] at av ⊢;clear hu H e4 e5 e6 e7 h7 aD V az ae aF hS0;go_wp2_with fail;refine wp_region_held_drew (S:=fun W=>Below u7.heap.size u7 W) (by kernel_rfl) qB.drew (fun hS0=>?_);refine Go.Proofs.YtjalhnlhcdfncaaGreatDoor.gy [(0,110),(1,111),(2,112),(3,113),(4,109),(5,114),(6,115),(7,13)] [(3,[0,1,2]),(4,[3]),(5,[4]),(6,[4])] [] [6] [0,1,2,3,4,5,7] 8 10 (fl2 [(0,fun z _=>z=.agg #[.int .i64 ka,.int .i64 ia,.slice Aa 2 Ca,.slice Da Ma Ea,.slice Fa Ga Ha]),(1,fun z W=>∃g c:Nat,z=.slice (some ⟨g,0,none⟩) 5 c/\PCells W (some ⟨g,0,none⟩) g 0 line5),(2,fun z W=>∃g:Nat,z=.slice (some ⟨g,0,none⟩) 2 2/\NCells W (some ⟨g,0,none⟩) g 0 [2,1]),(3,fun z _=>z=.tuple #[.agg #[.string ⟨#[]⟩,.string ⟨#[]⟩],.int .i64 2]),(4,fun z _=>z=.tuple #[.agg #[.string ⟨#[]⟩,.string ⟨#[]⟩],.int .i64 2]),(5,fun z _=>z=.agg #[.string ⟨#[]⟩,.string ⟨#[]⟩]),(6,fun z _=>z=.int .i64 2),(7,fun z W=>∃g:Nat,z=.pointer (some ⟨g,0,none⟩)/\W.heap[g]? = some (.cells #[.string ⟨#[]⟩,.string ⟨#[]⟩] 27 (0,0))/\u7.heap.size<=g)]) _ 2
  (hS:=fun w' h=>hS0.trans (h.mono hS0.size)) (hstep:=⟨⟨_,rfl,fun v J V H K O=>?_⟩,⟨_,rfl,fun v J V H K O=>?_⟩,⟨_,rfl,fun v J V H K O=>?_⟩,⟨_,rfl,fun v J V H K O=>?_⟩,⟨_,rfl,fun v J V H K O=>?_⟩,⟨_,rfl,fun v J V H K O=>?_⟩,⟨_,rfl,fun v J V H K O=>?_⟩,trivial⟩) (htake:=⟨⟨_,rfl,fun v J V H=>?_⟩,trivial⟩) (hend:=fun v eD V H fu=>?_)
 ·have hz:=zkeep (hS0.trans (V.mono hS0.size)) _ _ av.o.1.2;have x0:=qC _ _ 0 _ _ _ hz;have x1:=qC _ _ 1 _ _ _ hz;have x2:=qC _ _ 2 _ _ _ hz;have x3:=qC _ _ 3 _ _ _ hz;have x4:=qC _ _ 4 _ _ _ hz;exact gV O rfl
 ·exact gC O (qcn J) (h:=fun e w4 ⟨v,e1,hO,ah⟩=>⟨v,e1,qcj hO,ah⟩)
 ·exact gW O (h:=⟨⟨J.heap.size,rfl,lits J [2,1]⟩,qbM qB qN⟩)
 ·have e0:v 0=_:=H.1;obtain⟨gl,cl,e1,hl⟩:∃g c:Nat,_:=H.2.1;obtain⟨gk,e2,hk⟩:∃g:Nat,_:=H.2.2.1;have au:=av.below (hS0.trans (V.mono hS0.size));exact gC O (qig J _ gl cl gk 2 au.o.1.1.2 hl hk (HT.o.below au.o.1.1.1)) (h:=fun e w4 ⟨e1,h1⟩=>⟨_,e1,rfl,h1⟩)
 ·have e3:v 3=_:=H.1;exact gV O rfl
 ·have e4:v 4=_:=H.1;exact gV O rfl
 ·exact gW O (h:=⟨⟨J.heap.size,rfl,qM _ _ _ rfl,(hS0.trans (V.mono hS0.size)).size⟩,qbM qB qN⟩)
 ·have e4:v 4=_:=H.1;exact⟨_,rfl,fun W hW=>by (go_simp <;> with_reducible rfl),rfl⟩
 have e4:v 4=_:=H 4 (by decide) (by decide);have e5:v 5=_:=H 5 (by decide) (by decide);have e6:v 6=_:=H 6 (by decide) (by decide);obtain⟨g8,e7,h7,aD⟩:∃g:Nat,_:=H 7 (by decide) (by decide);rw [e4,e5,e6,e7];have az:=hS0.trans (V.mono hS0.size);have ae:=qS az aD #[.string ⟨#[]⟩,.string ⟨#[]⟩];have aH:=(av.below ae).also (q:=fun W=>W.heap[g8]? = some (.cells #[.string ⟨#[]⟩,.string ⟨#[]⟩] 27 (0,0))) (qT _ _ _ #[.string ⟨#[]⟩,.string ⟨#[]⟩] _ _ h7);refine hSn 8 2 h7 (h:=⟨ae,?_⟩);refine hT 9 (hS:=ae) (h:=?_);refine wpAnyH_done (by kernel_rfl) ?_ _;obtain⟨u8,hu⟩:∃u,u=eD.setRow g8 #[.string ⟨#[]⟩,.string ⟨#[]⟩]:=⟨_,rfl⟩;rw [<-hu] at aH ⊢;clear hu H e4 e5 e6 e7 h7 aD V az ae av hS0;have cB:Kn (fun W=>Below w.heap.size w W/\W.heap[g7]? = some (.cells #[.string y1,.string y2] 27 (0,0))) u8:=.of ⟨aH.o.1.1.1.1,aH.o.1.2⟩;clear aH bU;go_wp2_with fail;refine (qcn u8).mono ?_;rintro e eF ⟨fq,rfl,hO,bu⟩;obtain⟨dU,c40,rfl,aR⟩:=qcj hO;have bO:=cB.below bu;have HF:=qH (ex_f4 eF dU c40 aR (HT.o.below bO.o.1));clear hO bu aR cB;go_wp2_with fail;refine HF.o.mono ?_;rintro e eG ⟨bv,rfl⟩;unfold mdv0;obtain⟨aa,aV,cO⟩:=nw1 eG #[.int .i64 0,.int .i64 0,.slice none 0 0,.slice none 0 0,.slice none 0 0] 46;have ag:=(bO.below bv).below cO.o.1;clear bv HF bO cO
 go_upto_region 9 with (first | ((with_reducible refine qbU rfl 46 _ _ rfl #[.int .i64 0,.int .i64 0,.slice none 0 0,.slice none 0 0,.slice none 0 0] #[.int .i64 0,.int .i64 0,.slice none 0 0,.slice none 0 0,.slice none 0 0] ?_ ?_ 5 ?_ ?_ ?_ ?_ ?_);(next=>rfl);(next=>rfl);(next=>kernel_rfl);(next=>rfl);(next=>rfl);(next=>rfl)) | fail)
 rw [<-aV];clear aV;have lg:=(qG ag.o.2).1;have f0:=rowC (B:=aa.heap.size) ag.o.2 0;have f1:=rowC (B:=aa.heap.size) ag.o.2 1;have dV:=fun W=>qjK y1 y2 W
 refine wp_region_held_drew (S:=fun W=>Below aa.heap.size aa W) (by kernel_rfl) qB.drew (fun hS0=>?_);have Z:Below aa.heap.size aa aa.drew:=qB.drew;refine hT 0 (h:=hT 1 (h:=hT 2 (h:=?_)));refine hE 3 (h:=⟨qbM Z qN,hN (h:=?_)⟩);refine hC 4 (q_ex _ [1600] 1 rfl (by decide) (by decide) (HT.o.below (ag.below Z).o.1)) (h:=?_);rintro e u9 ⟨qa,qg,qc,rfl,hq,dF⟩;have G:Below aa.heap.size aa u9:=Z.trans (dF.mono Z.size);refine⟨_,rfl,G,hN (h:=?_)⟩;have dW:=hq.addr (by rw [qbQ];decide);subst dW;have hc:=hq.cell 0 (by rw [qbQ];decide);have dG:(told 1 (zq [1600])).getD 0 fd0=(y1,y2):=HY.o;rw [dG] at hc;have d0:u9.cell? ⟨qg,0,none⟩=some (.string y1):=hc.1;have d1:u9.cell? ⟨qg,1,none⟩=some (.string y2):=hc.2;clear hc dG hq dF;refine hT 5 (hS:=G) (h:=?_);refine hE 6 (h:=⟨G,hN (h:=?_)⟩);refine hT 7 (hS:=G) (h:=hT 8 (hS:=G) (h:=hT 9 (hS:=G) (h:=hT 10 (hS:=G) (h:=hT 11 (hS:=G) (h:=hT 12 (hS:=G) (h:=hT 13 (hS:=G) (h:=?_)))))));refine hT 14 (hS:=G) (h:=hT 15 (hS:=G) (h:=hT 16 (hS:=G) (h:=hT 17 (hS:=G) (h:=hT 18 (hS:=G) (h:=hT 19 (hS:=G) (h:=hT 20 (hS:=G) (h:=hT 21 (hS:=G) (h:=?_))))))));refine wpAnyH_done (by kernel_rfl) ?_ _;have HB:=qH ((ag.below G).o.1);clear G hS0 Z d0 d1 f0 f1 lg dV ag;go_wp2;go_ret;exact⟨rfl,HB.o⟩
theorem qgj {W:World} {b:Nat} (h:PCells W (some ⟨b,0,none⟩) b 0 line5):PCells W (some ⟨b,0,none⟩) b 0 line4:=⟨fun _=>rfl,fun k G=>by
 have F:k<4:=G;rw [line4_at k F];exact h.cell k (show k<5 by omega)⟩
theorem l4_fit2 (W:World) (b c:Nat) (F:PCells W (some ⟨b,0,none⟩) b 0 line5) (hT:HasT W):Calls prog 22 #[.slice (some ⟨b,0,none⟩) 4 c,.int .i64 2,.int .i64 50,.int .i64 1] W fun e w'=>e=.returned (.tuple #[mdv0,.slice none 0 0,.int .i64 7])/\Below W.heap.size W w' :=
 (qdc 4 b 0 c 2 50 1 (some ⟨b,0,none⟩) line4 W rfl (by decide) (fun _=>by decide) (qdV qfV rfl) (qgj F) hT).mono fun e w' h=>by
  obtain⟨H,⟨he,_⟩ | ⟨_,_,K,X,_,_,_,G⟩⟩:=qjr (k:=2) (d:=50) (p:=1) qfV ql0 (.inr rfl) (by decide) (by decide) h
  ·exact⟨he,H⟩
  ·exact absurd ⟨K,X,G⟩ l4_no
theorem l4_fit1 (W:World) (b c:Nat) (H:PCells W (some ⟨b,0,none⟩) b 0 line5) (hT:HasT W):Calls prog 22 #[.slice (some ⟨b,0,none⟩) 4 c,.int .i64 1,.int .i64 50,.int .i64 1] W fun e w'=>∃v g,e=.returned (.tuple #[v,.slice (some ⟨g,0,none⟩) 2 2,.int .i64 0])/\MdAt w' v (mdX line4 1 l4Y)/\Below W.heap.size W w' :=
 (qdc 4 b 0 c 1 50 1 (some ⟨b,0,none⟩) line4 W rfl (by decide) (fun _=>by decide) (qdV qfV rfl) (qgj H) hT).mono fun e w' h=>by
  obtain⟨J,⟨_,F⟩ | ⟨v,g,K,X,he,_,G,I⟩⟩:=qjr (k:=1) (d:=50) (p:=1) qfV ql0 (.inl rfl) (by decide) (by decide) h
  ·exact absurd ⟨_,_,l4_run⟩ F
  ·obtain⟨rfl,O⟩:=I.uniq (X:=X) l4_run;rw [O] at G;exact⟨v,g,he,G,J⟩
theorem qgt:¬PtsOk []:=fun h=>absurd h.r1 (by decide)
theorem nil_fit (W:World) (hT:HasT W):Calls prog 22 #[.slice none 0 0,.int .i64 0,.int .i64 0,.int .i64 0] W fun e w'=>e=.returned (.tuple #[mdv0,.slice none 0 0,.int .i64 310])/\Below W.heap.size W w' :=
 (qdc 0 0 0 0 0 0 0 none [] W rfl (by decide) (fun _=>by decide) (fun k F=>absurd F (qbb k)) ⟨fun h=>absurd h (by decide),fun k F=>absurd F (by simp)⟩ hT).mono fun e w' h=>by
  rcases h.2 with ⟨_,he⟩ | ⟨G,_⟩ | ⟨G,_⟩
  ·exact⟨he,h.1⟩
  ·exact absurd G qgt
  ·exact absurd G qgt
theorem qlx (W:World) (b c:Nat) (F:PCells W (some ⟨b,0,none⟩) b 0 four) (hT:HasT W):Calls prog 22 #[.slice (some ⟨b,0,none⟩) 1 c,.int .i64 1,.int .i64 0,.int .i64 0] W fun e w'=>e=.returned (.tuple #[mdv0,.slice none 0 0,.int .i64 7])/\Below W.heap.size W w' :=
 (qdc 1 b 0 c 1 0 0 (some ⟨b,0,none⟩) four W rfl (by decide) (fun _=>by decide) (qdV qeL rfl) F hT).mono fun e w' h=>by
  obtain⟨H,⟨he,_⟩ | ⟨_,_,K,X,_,_,_,G⟩⟩:=qjr (k:=1) (d:=0) (p:=0) qeL four_8 (.inl rfl) (by decide) (by decide) h
  ·exact⟨he,H⟩
  ·exact absurd ⟨K,X,G⟩ (qlz 1 0 _ (.inl rfl))
theorem qly (W:World) (b c:Nat) (O:PCells W (some ⟨b,0,none⟩) b 0 four) (hT:HasT W):Calls prog 22 #[.slice (some ⟨b,0,none⟩) 1 c,.int .i64 3,.int .i64 0,.int .i64 0] W fun e w'=>e=.returned (.tuple #[mdv0,.slice none 0 0,.int .i64 5])/\Below W.heap.size W w' :=
 (qdc 1 b 0 c 3 0 0 (some ⟨b,0,none⟩) four W rfl (by decide) (fun _=>by decide) (qdV qeL rfl) O hT).mono fun e w' h=>by
  have J:qcG (3:Int) 3:=⟨rfl,by decide⟩;rcases h.2 with ⟨I,_⟩ | ⟨_,F,_⟩ | ⟨_,k',d',p',F,hr⟩
  ·exact absurd qeL I
  ·exact absurd ⟨3,0,0,rfl,by decide,rfl,by decide,rfl,by decide⟩ F
  ·obtain⟨rfl,rfl,rfl⟩:=qcF.uniq (k:=3) (d:=0) (p:=0) F;rcases hr.2 with ⟨cc,_,he,V | ⟨q,K,X,Y,_⟩⟩ | ⟨_,_,K,_,_,_,_,X,U,_⟩
   ·rcases V with ⟨I,_⟩ | ⟨_,H,_⟩ | ⟨_,_,_,k2,G,Z⟩
    ·exact absurd qeL I
    ·exact absurd ⟨⟨3,J⟩,qdv _ _,qhA _ _⟩ H
    ·obtain rfl:=J.uniq G;rcases Z with ⟨_,_,rfl⟩ | ⟨H,_⟩
     ·exact⟨he,h.1⟩
     ·exact absurd ⟨rfl,rfl⟩ H
   ·exact absurd Y (qbb q)
   ·exact absurd ⟨K,X,U⟩ (qlz 3 0 _ (.inr rfl))
theorem lin_fit0 (W:World) (b c:Nat) (F:PCells W (some ⟨b,0,none⟩) b 0 line5) (hT:HasT W):Calls prog 22 #[.slice (some ⟨b,0,none⟩) 5 c,.int .i64 1,.int .i64 0,.int .i64 0] W fun e w'=>Below W.heap.size W w' /\
  ∃v g,e=.returned (.tuple #[v,.slice (some ⟨g,0,none⟩) 5 5,.int .i64 0])/\NatR w' W.heap.size g 5 5 [0,1,2,3,4]/\MdAt w' v (mdX line5 1 linX0):=by
 have h:=qhD W b c 0 0 F hT (by decide) (by decide) (qgi 5) (lin_no 5);rw [qfs] at h;exact h
theorem qja (W:World) (b c:Nat) (x y z:Int) (F:PCells W (some ⟨b,0,none⟩) b 0 line5) (hT:HasT W) (G:¬∃k d p,qcF x y z k d p):Calls prog 22 #[.slice (some ⟨b,0,none⟩) 5 c,.int .i64 x,.int .i64 y,.int .i64 z] W fun e w'=>e=.returned (.tuple #[mdv0,.slice none 0 0,.int .i64 2])/\Below W.heap.size W w' :=
 (qdc 5 b 0 c x y z (some ⟨b,0,none⟩) line5 W rfl (by decide) (fun _=>by decide) qc5 F hT).mono fun _ _ h=>(h.bad qdw G).symm
theorem qgk {W:World} {B:Nat} {v:Value} (h:PaOwn W B v line5):∃g c,v=.slice (some ⟨g,0,none⟩) 5 c/\5<=c/\PCells W (some ⟨g,0,none⟩) g 0 line5:=by
 obtain⟨g,c,rfl,G⟩:=qcj h;obtain⟨I,F,_⟩:=h;rcases F.2 with ⟨e,_⟩ | ⟨g',cap,cur,e,_,_,H,_⟩
 ·cases e
 ·simp only [qby] at e;obtain⟨_,_,rfl⟩:=e;exact⟨g,c,rfl,H,G⟩
theorem qkr {W:World} {g d:Nat} {t I:TypeId} (H:W.heap[d]? = some (.cells #[.int .i64 0,.int .i64 0,.int .i64 0,.int .i64 0] t (0,0))) (F:W.heap[g]? = some (.cells #[.string ⟨#[97]⟩,.slice (some ⟨d,0,none⟩) 4 4,.int .i64 0,.int .i64 0,.int .i64 0] I (0,0))):PCells W (some ⟨g,0,none⟩) g 0 four:=⟨fun _=>rfl,fun k G=>by
 have G:k<1:=G;obtain rfl:k=0:=by omega
 exact⟨qC _ _ 0 _ _ _ F,⟨some ⟨d,0,none⟩,d,0,4,qC _ _ 1 _ _ _ F,qjQ (q:=[0,0,0,0]) H 0⟩,qC _ _ 2 _ _ _ F,qC _ _ 3 _ _ _ F,qC _ _ 4 _ _ _ F⟩⟩
theorem qhE:MdOk (mdX line5 1 linX0) 1 (chans line5):=qj0 (by decide) (by decide) (by decide) (by decide) fun c F=>(qha c F).2
theorem qfU:∀q,q<3->((mdX line5 1 linX0).row q).length<=4611686018427387904:=fun q F=>by
 unfold mdX;rw [qfw F,qbQ]
 decide
theorem qih (W:World) (v:Value) (b c:Nat) (H:MdAt W v (mdX line5 1 linX0)) (I:PCells W (some ⟨b,0,none⟩) b 0 line5) (hT:HasT W) :
  Calls prog 20 #[v,.slice (some ⟨b,0,none⟩) 5 c,.slice none 0 0] W fun e w'=>e=.returned (.tuple #[.agg #[.string (ftxt 0).1,.string (ftxt 0).2],.int .i64 0])/\Below W.heap.size W w':=by
 refine (qds 5 b 0 c 0 0 0 0 (some ⟨b,0,none⟩) none _ v line5 [] W H rfl (by decide) qc5 qfU rfl (by decide) I ⟨fun h=>absurd h (by decide),fun k F=>absurd F (by simp)⟩ hT fun V F _ _=>?_).mono fun e w' h=>?_
 ·have G:Short (0:Rat):=qc9 (N:=1) ⟨by decide,by decide⟩ (by decide +kernel);exact G
 ·obtain⟨J,⟨U,_⟩ | ⟨_,he⟩⟩:=CoAs.only h qdw qhE qes
  ·exact absurd (fun j O=>absurd O (qbb j)) U
  ·exact⟨he,J⟩
theorem qeO (W:World) (v:Value) (b c g I n:Nat) (K:List Int) (H:K.length=n) (G:n<=300) (F:¬Rises K 5 n) (O:MdAt W v (mdX line5 1 linX0)) (U:PCells W (some ⟨b,0,none⟩) b 0 line5) (J:NCells W (some ⟨g,0,none⟩) g 0 K) (hT:HasT W) :
  Calls prog 20 #[v,.slice (some ⟨b,0,none⟩) 5 c,.slice (some ⟨g,0,none⟩) n I] W fun e w'=>e=.returned (.tuple #[.agg #[.string ⟨#[]⟩,.string ⟨#[]⟩],.int .i64 2])/\Below W.heap.size W w':=by
 refine (qds 5 b 0 c n g 0 I (some ⟨b,0,none⟩) (some ⟨g,0,none⟩) _ v line5 K W O rfl (by decide) qc5 qfU H G U J hT fun Z Y _ h=>absurd h F).mono fun e w' h=>?_
 obtain⟨V,⟨_,he⟩ | ⟨h,_⟩⟩:=CoAs.only h qdw qhE qes
 ·exact⟨he,V⟩
 ·rw [H] at h;exact absurd h F
theorem cost_md0 (W:World) (g:Nat) (O:NCells W (some ⟨g,0,none⟩) g 0 [-1]) (hT:HasT W) :
  Calls prog 20 #[mdv0,.slice none 0 0,.slice (some ⟨g,0,none⟩) 1 1] W fun e w'=>e=.returned (.tuple #[.agg #[.string ⟨#[]⟩,.string ⟨#[]⟩],.int .i64 320])/\Below W.heap.size W w':=by
 have F:¬qdF md0:=fun⟨k,n,h⟩=>by
  obtain⟨e,V,_⟩:=h.kind;have e:(0:Int)=(k:Int):=e;omega
 refine (qds 0 0 0 0 1 g 0 1 none (some ⟨g,0,none⟩) md0 mdv0 [] [-1] W (ql5 W) rfl (by decide) (fun k G=>absurd G (qbb k)) (fun q U=>qak (qjf q U) (by decide)) rfl (by decide) ⟨fun h=>absurd h (by decide),fun k G=>absurd G (by simp)⟩ O hT fun J G _ _=>absurd ⟨J,_,G⟩ F).mono fun e w' h=>?_
 rcases h.2 with ⟨c,he,⟨_,rfl⟩ | ⟨I,_⟩ | ⟨I,_⟩ | ⟨H,_⟩⟩ | ⟨J,H,_⟩
 ·exact⟨he,h.1⟩
 ·exact absurd I F
 ·exact absurd I F
 ·exact absurd H qgt
 ·exact absurd H qgt
theorem qii:qdF (mdX line5 1 linX0):=⟨_,_,qhE⟩
theorem qlg (W:World) (v:Value) (g:Nat) (J:MdAt W v (mdX line5 1 linX0)) (I:NCells W (some ⟨g,0,none⟩) g 0 [-1]) (hT:HasT W) :
  Calls prog 20 #[v,.slice none 0 0,.slice (some ⟨g,0,none⟩) 1 1] W fun e w'=>e=.returned (.tuple #[.agg #[.string ⟨#[]⟩,.string ⟨#[]⟩],.int .i64 310])/\Below W.heap.size W w':=by
 have H:¬Rises [-1] 0 1:=fun h=>absurd (h 0 (by decide)).1.1 (by decide)
 refine (qds 0 0 0 0 1 g 0 1 none (some ⟨g,0,none⟩) _ v [] [-1] W J rfl (by decide) (fun k G=>absurd G (qbb k)) qfU rfl (by decide) ⟨fun h=>absurd h (by decide),fun k G=>absurd G (by simp)⟩ I hT fun U G _ h=>absurd h H).mono fun e w' h=>?_
 rcases h.2 with ⟨c,he,⟨O,_⟩ | ⟨_,_,rfl⟩ | ⟨_,F,_⟩ | ⟨F,_⟩⟩ | ⟨U,F,_⟩
 ·exact absurd qii O
 ·exact⟨he,h.1⟩
 ·exact absurd F qgt
 ·exact absurd F qgt
 ·exact absurd F qgt
theorem qlf (W:World) (v:Value) (b c g:Nat) (O:MdAt W v (mdX line5 1 linX0)) (U:PCells W (some ⟨b,0,none⟩) b 0 four) (J:NCells W (some ⟨g,0,none⟩) g 0 [-1]) (hT:HasT W) :
  Calls prog 20 #[v,.slice (some ⟨b,0,none⟩) 1 c,.slice (some ⟨g,0,none⟩) 1 1] W fun e w'=>e=.returned (.tuple #[.agg #[.string ⟨#[]⟩,.string ⟨#[]⟩],.int .i64 5])/\Below W.heap.size W w':=by
 have I:¬Rises [-1] 1 1:=fun h=>absurd (h 0 (by decide)).1.1 (by decide)
 have G:∀F,¬MdOk (mdX line5 1 linX0) F (chans four):=fun F h=>by
  have:=(qhE.uniq h).2;exact absurd this (by decide)
 refine (qds 1 b 0 c 1 g 0 1 (some ⟨b,0,none⟩) (some ⟨g,0,none⟩) _ v four [-1] W O rfl (by decide) (qdV qeL rfl) qfU rfl (by decide) U J hT fun F H _ h=>absurd h I).mono fun e w' h=>?_
 rcases h.2 with ⟨c,he,⟨Y,_⟩ | ⟨_,V,_⟩ | ⟨_,_,_,rfl⟩ | ⟨_,_,F,H,_⟩⟩ | ⟨F,_,H,_⟩
 ·exact absurd qii Y
 ·exact absurd qeL V
 ·exact⟨he,h.1⟩
 ·exact absurd H (G F)
 ·exact absurd H (G F)
theorem qe3 (W:World) (n:Nat):FCells (W.alloc (.cells (madeCells #[.string ⟨#[]⟩,.string ⟨#[]⟩] (n*2)) 27)) (some ⟨W.heap.size,0,none⟩) W.heap.size 0 (List.replicate n fd0) :=
 FCells.ofRow (by rw [qM _ _ _ rfl,qhc])
theorem qfk {n:Nat} (h:0<n):¬FAll (List.replicate n fd0):=fun G=>by
 have F:=G 0 (by simpa using h);rw [qab,qbq,if_pos h] at F;exact absurd F.pos (by decide)
theorem ord_long (W:World) (n g c:Nat) (H:FCells W (some ⟨g,0,none⟩) g 0 (List.replicate n fd0)) (J:40<n) (O:n<=1000) :
  Calls prog 13 #[.slice (some ⟨g,0,none⟩) n c] W fun e w'=>e=.returned (.tuple #[.slice none 0 0,.int .i64 3])/\Below W.heap.size W w':=by
 refine (qdU n g 0 c (some ⟨g,0,none⟩) (List.replicate n fd0) _ (by simp) (by omega) (fun h=>absurd h (qfk (by omega))) H).mono fun e w' h=>?_
 have I:=h.1;rcases h.2 with ⟨z,_,⟨_,rfl⟩ | ⟨F,_⟩ | ⟨F,_⟩,he⟩ | ⟨⟨_,G⟩ | ⟨F,_⟩ | ⟨F,_⟩,_⟩
 ·exact⟨he,I⟩
 ·simp at F;omega
 ·simp at F;omega
 ·exact absurd G (by decide)
 ·simp at F;omega
 ·simp at F;omega
theorem qmm (W:World) (n g c:Nat) (J:FCells W (some ⟨g,0,none⟩) g 0 (List.replicate n fd0)) (H:0<n) (U:n<=40) :
  Calls prog 13 #[.slice (some ⟨g,0,none⟩) n c] W fun e w'=>e=.returned (.tuple #[.slice none 0 0,.int .i64 20])/\Below W.heap.size W w':=by
 refine (qdU n g 0 c (some ⟨g,0,none⟩) (List.replicate n fd0) _ (by simp) (by omega) (fun h=>absurd h (qfk (by omega))) J).mono fun e w' h=>?_
 have O:=h.1;rcases h.2 with ⟨z,_,⟨G,_⟩ | ⟨_,_,rfl⟩ | ⟨_,F,_⟩,he⟩ | ⟨⟨G,_⟩ | ⟨_,_,I⟩ | ⟨_,F,_⟩,_⟩
 ·simp at G;omega
 ·exact⟨he,O⟩
 ·exact absurd F (qfk H)
 ·simp at G;omega
 ·exact absurd I (by decide)
 ·exact absurd F (qfk H)
theorem qlb (W:World) (n g c:Nat) (k:Int) (H:FCells W (some ⟨g,0,none⟩) g 0 (List.replicate n fd0)) (J:40<n) (O:n<=1000) :
  Calls prog 16 #[.slice (some ⟨g,0,none⟩) n c,.int .i64 k] W fun e w'=>e=.returned (.tuple #[.slice none 0 0,.int .i64 3])/\Below W.heap.size W w':=by
 refine (qdh n g 0 c k (some ⟨g,0,none⟩) (List.replicate n fd0) _ (by simp) (by omega) (fun h=>absurd h (qfk (by omega))) H).mono fun e w' h=>?_
 have I:=h.1;rcases h.2 with ⟨z,_,⟨_,rfl⟩ | ⟨F,_⟩ | ⟨F,_⟩,he⟩ | ⟨⟨_,G⟩ | ⟨F,_⟩ | ⟨F,_⟩,_⟩ | ⟨⟨_,G⟩ | ⟨F,_⟩ | ⟨F,_⟩,_⟩
 ·exact⟨he,I⟩
 ·simp at F;omega
 ·simp at F;omega
 ·exact absurd G (by decide)
 ·simp at F;omega
 ·simp at F;omega
 ·exact absurd G (by decide)
 ·simp at F;omega
 ·simp at F;omega
theorem qki (W:World) (n g c:Nat) (k:Int) (J:FCells W (some ⟨g,0,none⟩) g 0 (List.replicate n fd0)) (I:0<n) (U:n<=40) :
  Calls prog 16 #[.slice (some ⟨g,0,none⟩) n c,.int .i64 k] W fun e w'=>e=.returned (.tuple #[.slice none 0 0,.int .i64 20])/\Below W.heap.size W w':=by
 refine (qdh n g 0 c k (some ⟨g,0,none⟩) (List.replicate n fd0) _ (by simp) (by omega) (fun h=>absurd h (qfk (by omega))) J).mono fun e w' h=>?_
 have O:=h.1;rcases h.2 with ⟨z,_,⟨G,_⟩ | ⟨_,_,rfl⟩ | ⟨_,F,_⟩,he⟩ | ⟨⟨G,_⟩ | ⟨_,_,H⟩ | ⟨_,F,_⟩,_⟩ | ⟨⟨G,_⟩ | ⟨_,_,H⟩ | ⟨_,F,_⟩,_⟩
 ·simp at G;omega
 ·exact⟨he,O⟩
 ·exact absurd F (qfk I)
 ·simp at G;omega
 ·exact absurd H (by decide)
 ·exact absurd F (qfk I)
 ·simp at G;omega
 ·exact absurd H (by decide)
 ·exact absurd F (qfk I)
theorem qiw (W:World):FCells W none 0 0 (told 0 (zq [])):=⟨fun h=>absurd h (by decide),fun k F=>absurd F (qbb k)⟩
theorem qix:qbP 0 (zq []):=fun i F=>absurd F (qbb i)
theorem ord_nil (W:World):Calls prog 13 #[.slice none 0 0] W fun e w'=>∃g,e=.returned (.tuple #[.slice (some ⟨g,0,none⟩) 0 0,.int .i64 0])/\Below W.heap.size W w' :=
 (qdU 0 0 0 0 none (told 0 (zq [])) W rfl (by decide) (fun _=>by decide) (qiw W)).mono fun e w' h=>by
  obtain⟨F,g,he,_⟩:=h.only qix (by decide);exact⟨g,he,F⟩
theorem best_nil (W:World):Calls prog 16 #[.slice none 0 0,.int .i64 0] W fun e w'=>∃g,e=.returned (.tuple #[.slice (some ⟨g,0,none⟩) 0 0,.int .i64 0])/\Below W.heap.size W w' :=
 (qdh 0 0 0 0 0 none (told 0 (zq [])) W rfl (by decide) (fun _=>by decide) (qiw W)).mono fun e w' h=>by
  obtain⟨F,g,he,_⟩:=qeS.only (k:=0) h qix (by decide) (by decide);exact⟨g,he,F⟩
theorem qhF (G a2:Option Addr) (c d b:Nat) (w:World) (I:w.heap[b]? = some (.cells #[.slice a2 0 d] 30 (0,0))) :
  Calls prog 72 #[.slice G 0 c,.int .i64 0,.pointer (some ⟨b,0,none⟩)] w fun e w'=>e=.returned (.bool true)/\Below w.heap.size w w':=by
 have H:=qC _ _ 0 _ _ _ I;have F:=qH (Tryz.slices_Equal_int_empty G a2 c 0 d w (by decide));go_enter func72,ntmps72;go_wp2_with fail;refine F.o.mono ?_;rintro e J ⟨rfl,rfl⟩;clear F H;go_wp2;go_ret;exact⟨rfl,Below.refl _ _⟩
