import Derived.Deep.SlicePairs
import Derived.Test.YtjalhnlhcdfncaaGreatDoorBf18
import Derived.Test.YtjalhnlhcdfncaaGreatDoorBf19
set_option maxRecDepth 100000
set_option maxHeartbeats 0
namespace Go.Proofs.YtjalhnlhcdfncaaGreatDoor
open Go.RowKit
def gR (n:Nat) (f:Nat->Nat->Rat) (b:Nat->Rat) (i c:Nat):Rat:=if c<n then f i c else b i
def normR (R n:Nat) (f:Nat->Nat->Rat) (b w:Nat->Rat) (r c:Nat):Rat:=sumQ R fun i=>w i*(gR n f b i r*gR n f b i c)
theorem qhV {R n:Nat} {f:Nat->Nat->Rat} {b:Nat->Rat} {i:Nat} (F:i<R):besides (ttab R n f) (told R b) i=told n (f i)++[ftxt (b i)]:=by
 unfold besides;rw [qem F,qdy F]
theorem qfB {R n:Nat} {f:Nat->Nat->Rat} {b:Nat->Rat} {i c:Nat} (F:i<R) (G:c<=n):lval (besides (ttab R n f) (told R b) i) c=gR n f b i c:=by
 rw [qhV F];unfold gR
 by_cases h:c<n
 ·rw [if_pos h,qgc (by rw [qbT];exact h),qcH h]
 ·obtain rfl:c=n:=by omega
  rw [if_neg h];have:=qgb (l:=told c (f i)) (x:=ftxt (b i));rw [qbT] at this;rw [this,qc9]
theorem qha {R n:Nat} {f:Nat->Nat->Rat} {b w:Nat->Rat} {r c:Nat} (H:r<=n) (G:c<=n):normQ (ttab R n f) (told R b) (told R w) R r c=normR R n f b w r c :=
 qbQ fun i F=>by rw [qcH F,qfB F H,qfB F G]
theorem qkK {R n:Nat} {f:Nat->Nat->Rat} {b w x:Nat->Rat}:measQ (ttab R n f) (told R b) (told R w) (told n x) n R=msR R n f b w x :=
 qbQ fun i F=>by
  have:resQ (ttab R n f) (told R b) (told n x) n i=resR n f b x i:=by
   unfold resQ resR;rw [qcH F]
   congr 1
   exact qbQ fun j G=>by rw [ttab_val F G,qcH G]
  rw [qcH F,this]
def qfR (R n:Nat) (f:Nat->Nat->Rat) (b w:Nat->Rat) (e:Ending) (w':World):Prop :=
 (Sing n (normR R n f b w)/\e=.returned (.tuple #[.slice none 0 0,.int .i64 7]))\/(¬Sing n (normR R n f b w)/\∃x,qcs n (normR R n f b w) (fun r=>normR R n f b w r n) x/\Tells n x e w')
theorem qj0 {R:Nat} {w:Nat->Rat} (h:∀i,i<R->0<=w i):¬Neg (told R w):=by
 rintro ⟨k,F,G⟩;rw [qbT] at F;rw [qdy F,show (ftxt (w k)).1.data.toList=itxt (w k).num from rfl,qdt] at G;have:=Rat.num_nonneg.2 (h k F);omega
theorem qfQ.told {U:World} {R n:Nat} {f:Nat->Nat->Rat} {b w:Nat->Rat} {e:Ending} {w':World} (h:qfQ U (ttab R n f) (told R b) (told R w) e w') (V:1<=R) (Z:R<=40) (h3:1<=n) (h4:n<=10) (hf:∀i,i<R->qbS n (f i)) (hb:qbS R b) (hw:qbS R w) (O:∀i,i<R->0<=w i):qfR R n f b w e w'/\Below U.heap.size U w':=by
 have hT:=qm5 V Z h3 h4 hf;refine⟨?_,h.2⟩;rcases h.1 with h | h | h | h
 ·exact absurd hT h.1
 ·exact absurd ⟨qcR hb,qcR hw⟩ h.2.1
 ·exact absurd ⟨by rw [qbT,qcz],by rw [qbT,qcz],qj0 O⟩ h.2.2.2.1
 ·have Y:=h.2.2.2.2.2.2;rw [qey V,qcz] at Y;have F:∀r,r<n->∀c,c<n->normQ (ttab R n f) (Go.Proofs.YtjalhnlhcdfncaaGreatDoor.told R b) (Go.Proofs.YtjalhnlhcdfncaaGreatDoor.told R w) R r c=normR R n f b w r c:=fun r H c F=>qha (by omega) (by omega)
  rcases Y with ⟨I,he⟩ | ⟨I,x,hx,ht⟩
  ·exact qaw ⟨I.congr F,he⟩
  ·exact qak ⟨fun J=>I (J.congr fun r H c G=>(F r H c G).symm),x,hx.congr F (fun r H=>qha (by omega) qN) (fun _ _=>rfl),ht⟩
open Go.Lib Go.Proofs.Tryz
def fv (l:List Rat) (i:Nat):Rat:=l.getD i 0
def fm (t:List (List Rat)) (i j:Nat):Rat:=(t.getD i []).getD j 0
theorem num_lt {u:Nat} (h:u<10):num u=⟨#[UInt8.ofNat (48+u)]⟩:=by
 unfold num;rw [qbU h]
theorem qir {n:Nat} {A:Nat->Nat->Rat} (B:Nat->Nat->Rat) (h:∀k,k<n->∀j,j<n->sumQ n (fun i=>B k i*A i j)=if k=j then 1 else 0):¬Sing n A:=by
 rintro ⟨y,⟨k,G,V⟩,H⟩;apply V;have e:sumQ n (fun i=>B k i*sumQ n fun j=>A i j*y j)=y k:=by
  have I:sumQ n (fun i=>B k i*sumQ n fun j=>A i j*y j)=sumQ n fun i=>sumQ n fun j=>y j*(B k i*A i j):=qbQ fun i _=>by
   rw [<-qb1];exact qbQ fun j _=>by grind
  rw [I,qcX];have J:sumQ n (fun j=>sumQ n fun i=>y j*(B k i*A i j))=sumQ n fun j=>y j*(if k=j then 1 else 0):=qbQ fun j U=>by rw [qb1,h k G j U]
  rw [J,qcY n k _ G fun j _ F=>by rw [if_neg (fun h=>F h.symm)];grind];rw [if_pos rfl];grind
 rw [<-e];exact qcv _ _ fun i O=>by rw [H i O];grind
theorem qjz.told {H:World} {R n:Nat} {f:Nat->Nat->Rat} {b w x:Nat->Rat} {e:Ending} {w':World} (h:qjz H (ttab R n f) (told R b) (told R w) (told n x) e w') (F:1<=R) (J:R<=40) (O:1<=n) (U:n<=10) (Y:∀i,i<R->qbS n (f i)) (V:qbS R b) (Z:qbS R w) (hx:qbS n x) (G:∀i,i<R->0<=w i) :
  (Short (msR R n f b w x)/\e=.returned (.tuple #[fstr (msR R n f b w x),.int .i64 0])\/¬Short (msR R n f b w x)/\e=.returned (.tuple #[.agg #[.string ⟨#[]⟩,.string ⟨#[]⟩],.int .i64 6]))/\Below H.heap.size H w':=by
 have hT:=qm5 F J O U Y;refine⟨?_,h.2⟩;rcases h.1 with h | h | h | h
 ·exact absurd hT h.1
 ·exact absurd ⟨qcR V,qcR Z,qcR hx⟩ h.2.1
 ·exact absurd ⟨by rw [qbT,qcz],by rw [qbT,qcz],by rw [qbT,qey F],qj0 G⟩ h.2.2.2.2.1
 ·have I:=h.2.2.2.2.2.2.2.2;rw [qey F,qcz,qkK] at I;exact I
theorem qgu {q:Rat} (h:q.num.natAbs<10/\q.den<10):Short q:=⟨by rw [num_lt h.1];exact (by decide:1<=600),by rw [num_lt h.2];exact (by decide:1<=600)⟩
theorem qcO {n:Nat} {x:Nat->Rat} (h:∀i,i<n->(x i).num.natAbs<=1000/\(x i).den<=1000):qbS n x:=fun i F=>qdj (N:=1000) (h i F) (by decide +kernel)
theorem qiM {n m:Nat} {f:Nat->Nat->Rat} (G:m<=1000):∀k,k<n->((ttab n m f).getD k []).length<=4611686018427387904:=fun k F=>by rw [qem F,qbT];omega
theorem qlV {R n:Nat} {f:Nat->Nat->Rat} {b v:Nat->Rat} {H:Option Addr} {g c:Nat} {F:Option Addr} {O c2:Nat} {G:Option Addr} {U c3:Nat} {w:World} (V:1<=R) (Y:R<=40) (Z:1<=n) (h4:n<=10) (hf:∀i,i<R->qbS n (f i)) (hb:qbS R b) (hv:qbS R v) (J:∀i,i<R->0<=v i) (hT:TCells w H g 0 (ttab R n f)) (hF:FCells w F O 0 (told R b)) (I:FCells w G U 0 (told R v)) (hP:HasT w) :
  Calls prog 117 #[.slice H R c,.slice F R c2,.slice G R c3] w fun e w'=>qfR R n f b v e w'/\Below w.heap.size w w' :=
 (qkF H g 0 R c _ F O 0 R c2 _ G U 0 R c3 _ w (qcz _ _ _) (by omega) (qiM (by omega)) hT (qbT _ _) (by omega) hF (qbT _ _) (by omega) I hP).mono fun _ _ h=>h.told V Y Z h4 hf hb hv J
theorem qjs {kind:Nat} {d:List Int} (I:kind=1\/kind=2\/kind=3) (H:qeA d) (_h4:d.length<=4) (Y:kind=3->d.length<=3):∀p∈termL kind d,Short p:=by
 have O:∀k,Short (dq d k):=fun k=>(dq_cd H k).short (by decide) (by decide +kernel) (by decide +kernel)
 have U:∀k,Short (dq d k*dq d k):=fun k=>((dq_cd H k).mul (dq_cd H k) (by decide) (by decide)).short (by decide) (by decide +kernel) (by decide +kernel)
 have J:∀k,k<=3->∀p∈prods d k,Short p:=fun k I p F=>(qfe (by decide) (dq_cd H) k p F).short (qbh (Nat.pow_pos (by decide))) (qaY (qa1 (by decide) I) qjC) (qaY (qa1 (by decide) I) qjC)
 have V:Short 1:=qgu ⟨by decide,by decide⟩;have G:∀p∈lin d,Short p:=fun p F=>by
  unfold lin at F;rcases qaz.1 F with rfl | F
  ·exact V
  ·obtain⟨j,_,rfl⟩:=qbo.1 F;exact O j
 rcases I with rfl | rfl | rfl
 ·exact G
 ·intro p F;rw [qmY] at F;rcases qaH.1 F with F | F
  ·exact G p F
  ·unfold sqs at F;obtain⟨j,_,rfl⟩:=qbo.1 F;exact U j
 ·intro p F;rw [qmZ] at F;exact J _ (Y rfl) p F
theorem qm0 {kind:Nat} {d:List Int} {j:Nat} (F:j<many kind d.length):termQ kind d j∈termL kind d:=by
 unfold termQ;rw [qab,qad (by rw [qgB];exact F)];exact qbx _
theorem PtsOk.terms {l:List Pt} (h:PtsOk l) {k:Nat} {kind:Int} (O:qcN kind k) (U:¬(k=3/\chans l=4)):∀i,i<l.length->qbS (many k (chans l)) (tqf l k i):=fun i I j J=>by
 obtain⟨F,G⟩:=h.rows i I;have H:=F.n4;refine qjs (by obtain⟨_,a,b⟩:=O;omega) F.vals H (fun e=>by have:=h.n4;omega) _ (qm0 (by rw [G];exact J))
theorem PtsOk.labs {l:List Pt} (h:PtsOk l) {c:Nat}:qbS l.length (labq l c):=fun i H=>by
 have F:=(h.rows i H).1;have:=F.l0;have:=F.l1;have:=F.l2;have G:((l.getD i pt0).lab c).natAbs<1000000000000000000000:=by unfold Pt.lab;(repeat' split) <;> omega
 exact qgn (d:=100) (by decide) G (by decide)
theorem PtsOk.bound {l:List Pt} (h:PtsOk l) (c:Nat):∀k,k<l.length->-9223372036854775808<=(l.getD k pt0).lab c/\(l.getD k pt0).lab c<=9223372036854775807:=fun i G=>by
 have F:=(h.rows i G).1;have:=F.l0;have:=F.l1;have:=F.l2;unfold Pt.lab;(repeat' split) <;> omega
theorem WOk.short {F:List Int} (h:WOk F):qbS F.length (wq F):=fun i G=>by
 obtain⟨H,I⟩:=h i G;have:Short ((F.getD i 0:Int) / ((1:Int):Rat)):=qgn (d:=1) (by decide) (by omega) (by decide);rw [show ((1:Int):Rat)=1 from rfl,Rat.div_def,show (1:Rat)⁻¹=1 by decide +kernel,Rat.mul_one] at this;exact this
theorem WOk.pos {F:List Int} (h:WOk F):∀i,i<F.length->0<=wq F i:=fun i G=>by unfold wq;exact Rat.intCast_nonneg.2 (h i G).1
theorem qeK {k n:Nat} {kind:Int} (F:qcN kind k) (G:1<=n) (I:n<=4) (H:¬(k=3/\n=4)):1<=many k n/\many k n<=10:=by
 obtain⟨_,a,b⟩:=F;unfold many;rcases (show k=1\/k=2\/k=3 by omega) with rfl | rfl | rfl
 ·simp;omega
 ·simp;omega
 ·rcases (show n=1\/n=2\/n=3 by omega) with rfl | rfl | rfl <;> decide
def nq (l:List Pt) (k:Nat) (F:List Int) (c:Nat):Nat->Nat->Rat:=normR l.length (many k (chans l)) (tqf l k) (labq l c) (wq F)
theorem qeM {l:List Pt} {k:Nat} {H:List Int} {c c':Nat} (h:Sing (many k (chans l)) (nq l k H c)):Sing (many k (chans l)) (nq l k H c'):=h.congr fun i F j G=>by
 unfold nq normR;refine qbQ fun r _=>?_
 unfold gR;rw [if_pos F,if_pos G,if_pos F,if_pos G]
def FitX (l:List Pt) (k:Nat) (F:List Int) (c:Nat) (x:Nat->Rat):Prop:=qcs (many k (chans l)) (nq l k F c) (fun r=>nq l k F c r (many k (chans l))) x
def FitG (l:List Pt) (kind:Int) (F:List Int) (W:World) (v:Value):Prop :=
 PtsOk l/\F.length=l.length/\WOk F/\∃k,qcN kind k/\¬(k=3/\chans l=4)/\¬Sing (many k (chans l)) (nq l k F 0) /\
  ∃x:Nat->Nat->Rat,(∀c,c<3->FitX l k F c (x c)/\qbS (many k (chans l)) (x c))/\MdAt W v (mdq k (chans l) (many k (chans l)) x)
def FitF (l:List Pt) (kind:Int) (F:List Int) (e:Int):Prop :=
 (¬PtsOk l/\e=310)\/(PtsOk l/\¬((∃k,qcN kind k)/\F.length=l.length/\WOk F)/\e=2) \/
 (PtsOk l/\F.length=l.length/\WOk F/\∃k,qcN kind k/\((k=3/\chans l=4/\e=5)\/(¬(k=3/\chans l=4) /\
  ((Sing (many k (chans l)) (nq l k F 0)/\e=7)\/(¬Sing (many k (chans l)) (nq l k F 0)/\∃c x,c<3/\FitX l k F c x/\¬qbS (many k (chans l)) x/\e=6)))))
def FitAs (w:World) (l:List Pt) (kind:Int) (F:List Int) (e:Ending) (w':World):Prop :=
 Below w.heap.size w w'/\((∃v,e=.returned (.tuple #[v,.int .i64 0])/\FitG l kind F w' v)\/∃c,e=.returned (.tuple #[mdv0,.int .i64 c])/\FitF l kind F c)
theorem fct_mono {n m:Nat} (h:n<=m):fct n<=fct m:=by
 induction h with
 | refl=>exact qaf _
 | step _ ih =>
  refine qaj ih ?_
  show _<=(_+1)*fct _
  exact Nat.le_mul_of_pos_left _ (Nat.succ_pos _)
def fitS:Nat:=26214400
def fitB:Nat:=362387865600
def QB:Nat:=fct 10*fitB ^ 10
def PB:Nat:=fct 11*fitB ^ 11
theorem qen {n m:Nat} (h:n<=m):fct n*fitB ^ n<=fct m*fitB ^ m:=Nat.mul_le_mul (fct_mono h) (qa1 (by decide) h)
def qdc (l:List Pt):Prop:=l.length<=12/\∀i,i<l.length->∀j,∃m:Nat,m<=8/\(l.getD i pt0).dev.getD j 0=1250*m
def W9 (F:List Int) (n:Nat):Prop:=∀i,i<n->0<=F.getD i 0/\F.getD i 0<=9
theorem W9.cd {F:List Int} {n i:Nat} (h:W9 F n) (G:i<n):Cd (wq F i) 1 9:=by
 obtain⟨H,I⟩:=h i G;exact (Cd.int (F.getD i 0)).mono (by omega)
theorem PtsOk.lab_cd {l:List Pt} (h:PtsOk l) (c:Nat) {i:Nat} (H:i<l.length):Cd (labq l c i) 100 12800:=by
 have F:=(h.rows i H).1;have:=F.l0;have:=F.l1;have:=F.l2;have G:((l.getD i pt0).lab c).natAbs<=12800:=by unfold Pt.lab;(repeat' split) <;> omega
 exact (Cd.frac ((l.getD i pt0).lab c) 100).mono G
theorem PtsOk.term_cd {l:List Pt} (h:PtsOk l) (G:qdc l) {k:Nat} (I:1<=k/\k<=3) (H:¬(k=3/\chans l=4)) {i:Nat} (F:i<l.length) (j:Nat):Cd (tqf l k i j) 512 512:=by
 have:=(h.rows i F).2;have:=h.n4;exact termQ_cd (E:=8) (by decide) (dq_cd8 (G.2 i F)) (by omega) j
def fitE (l:List Pt) (k:Nat) (F:List Int) (r c:Nat):Rat:=if c<many k (chans l) then nq l k F 0 r c else nq l k F (c-many k (chans l)) r (many k (chans l))
theorem qlz {l:List Pt} (h:PtsOk l) (H:qdc l) {k:Nat} (U:1<=k/\k<=3) (J:¬(k=3/\chans l=4)) {I:List Int} (Y:W9 I l.length) {r c:Nat} (V:r<many k (chans l)):Cd (fitE l k I r c) fitS fitB:=by
 unfold fitE;have G:=H.1
 by_cases O:c<many k (chans l)
 ·rw [if_pos O];unfold nq normR;have:=Cd.sum (n:=l.length) (f:=fun i=>wq I i*(gR (many k (chans l)) (tqf l k) (labq l 0) i r*gR (many k (chans l)) (tqf l k) (labq l 0) i c)) (D:=1*(512*512)) (N:=9*(512*512)) fun i F=>by
   unfold gR;rw [if_pos V,if_pos O];exact (Y.cd F).mul ((h.term_cd H U J F r).mul (h.term_cd H U J F c) (by decide) (by decide)) (by decide) (by decide)
  have:=(this.up 100 (by omega) (by omega)).mono (M:=fitB) (by
   have:l.length*(9*(512*512))<=12*(9*(512*512)):=qaQ _ G;unfold fitB;omega)
  exact this
 ·rw [if_neg O];unfold nq normR;have:=Cd.sum (n:=l.length) (f:=fun i=>wq I i*(gR (many k (chans l)) (tqf l k) (labq l (c-many k (chans l))) i r*gR (many k (chans l)) (tqf l k) (labq l (c-many k (chans l))) i (many k (chans l)))) (D:=1*(512*100)) (N:=9*(512*12800)) fun i F=>by
   unfold gR;rw [if_pos V,if_neg (Nat.lt_irrefl _)];exact (Y.cd F).mul ((h.term_cd H U J F r).mul (h.lab_cd _ F) (by decide) (by decide)) (by decide) (by decide)
  have:=(this.up 512 (by omega) (by omega)).mono (M:=fitB) (by
   have:l.length*(9*(512*12800))<=12*(9*(512*12800)):=qaQ _ G;unfold fitB;omega)
  exact this
theorem qmi {l:List Pt} {k:Nat} {H:List Int} {c c' r j:Nat} (G:r<many k (chans l)) (F:j<many k (chans l)):nq l k H c r j=nq l k H c' r j:=by
 unfold nq normR;refine qbQ fun i _=>?_
 unfold gR;rw [if_pos G,if_pos F,if_pos G,if_pos F]
theorem qlB {l:List Pt} (h:PtsOk l) (h8:qdc l) {k:Nat} (hk:1<=k/\k<=3) (h3:¬(k=3/\chans l=4)) {I:List Int} (hw:W9 I l.length) {x:Nat->Nat->Rat} (hs:¬Sing (many k (chans l)) (nq l k I 0)) (Y:∀c,c<3->FitX l k I c (x c)) :
  ∃D:Nat,D≠0/\D<=QB/\∀c,c<3->∀i,i<many k (chans l)->Cd (x c i) D PB:=by
 obtain⟨n,H⟩:=qX (many k (chans l));have U:n<=10:=by rw [<-H];exact (qeK (kind:=k) ⟨rfl,hk⟩ h.n1 h.n4 h3).2
 have hE:∀r c,∃a:Int,r<n->fitE l k I r c=(a:Rat) / (fitS:Rat)/\a.natAbs<=fitB:=fun r c=>by
  by_cases O:r<n
  ·obtain⟨a,e,ha⟩:=qlz h h8 hk h3 hw (c:=c) (by rw [H];exact O);exact⟨a,fun _=>⟨e,ha⟩⟩
  ·exact⟨0,fun h=>absurd h O⟩
 obtain⟨A,hA⟩:∃A:Nat->Nat->Int,∀r c,r<n->fitE l k I r c=(A r c:Rat) / (fitS:Rat)/\(A r c).natAbs<=fitB:=⟨fun r c=>(hE r c).choose,fun r c=>(hE r c).choose_spec⟩;have hS:(fitS:Rat)≠0:=qfq (by decide);have G:∀r c,r<n->castM A r c=(fitS:Rat)*fitE l k I r c:=fun r c O=>by
  rw [(hA r c O).1]
  show (A r c:Rat)=_
  generalize (fitS:Rat)=S at *
  grind
 have hl:∀r j,r<n->j<n->castM A r j=(fitS:Rat)*nq l k I 0 r j:=fun r j O J=>by
  rw [G r j O];unfold fitE;rw [H,if_pos J]
 have af:¬Sing n (castM A):=fun ag=>hs (by
  rw [H];obtain⟨y,hy,h0⟩:=ag;refine⟨y,hy,fun i F=>?_⟩;have:=h0 i F;rw [qbQ fun j J=>show castM A i j*y j=(fitS:Rat)*(nq l k I 0 i j*y j) by rw [hl i j F J,Rat.mul_assoc],qb1] at this;rcases Rat.mul_eq_zero.1 this with e | e
  ·exact absurd e hS
  ·exact e)
 obtain⟨q,p,hq,aa,hp⟩:=qiE (R:=n) (m:=3) (B:=fitB) (A:=A) (x:=x) (by decide) (fun i j F _=>(hA i j F).2) af fun c Z i F=>by
  have Y:=Y c Z i (by rw [H];exact F);rw [H] at Y;rw [qbQ fun j J=>show castM A i j*x c j=(fitS:Rat)*(nq l k I c i j*x c j) by rw [hl i j F J,qmi (c:=0) (c':=c) (by rw [H];exact F) (by rw [H];exact J),Rat.mul_assoc],qb1,Y]
  show (fitS:Rat)*nq l k I c i n=castM A i (n+c)
  rw [G i (n+c) F];unfold fitE;rw [H,if_neg (by omega),Nat.add_sub_cancel_left]
 refine⟨q.natAbs,by omega,qaj aa (qen U),fun c Z i F=>?_⟩;rw [H] at F;obtain⟨e,V⟩:=hp c Z i F;have V:(p c i).natAbs<=PB:=qaj V (qen (by omega));have ae:(q:Rat)≠0:=fun e=>hq (by exact_mod_cast e)
 rcases Int.natAbs_eq q with hq2 | hq2
 ·refine⟨p c i,?_,V⟩;rw [e];have:(q:Rat)=(q.natAbs:Rat):=by rw [<-Rat.intCast_natCast,<-hq2]
  rw [<-this]
 ·refine⟨-(p c i),?_,by rw [qbv];exact V⟩;rw [e];have:(q:Rat) = -(q.natAbs:Rat):=by rw [<-Rat.intCast_natCast,<-Rat.intCast_neg,<-hq2]
  rw [Rat.intCast_neg];generalize (q.natAbs:Rat)=Q at *;rw [this];have:Q≠0:=fun e=>ae (by rw [this,e];rfl)
  grind
def patD (z:Int):Int:=((z.natAbs % 9*1250:Nat):Int)
def nmL:List ByteArray:=[⟨#[112,48]⟩,⟨#[112,49]⟩,⟨#[112,50]⟩,⟨#[112,51]⟩,⟨#[112,52]⟩,⟨#[112,53]⟩,⟨#[112,54]⟩,⟨#[112,55]⟩,⟨#[112,56]⟩,⟨#[112,57]⟩,⟨#[112,49,48]⟩,⟨#[112,49,49]⟩]
def nmD (i:Nat):ByteArray:=nmL.getD i ⟨#[112]⟩
theorem nm_eq (i:Nat) (F:i<12):⟨#[112]⟩++num i=nmD i:=by
 rcases (show i=0\/i=1\/i=2\/i=3\/i=4\/i=5\/i=6\/i=7\/i=8\/i=9\/i=10\/i=11 by omega) with rfl | rfl | rfl | rfl | rfl | rfl | rfl | rfl | rfl | rfl | rfl | rfl
 all_goals first
  | (unfold num;rw [qbU (by decide)];rfl)
  | (unfold num;rw [qcc (by decide),qbU (by decide)];rfl)
theorem nm_name:∀i,i<12->qgN (nmD i):=fun i F=>by
 rcases (show i=0\/i=1\/i=2\/i=3\/i=4\/i=5\/i=6\/i=7\/i=8\/i=9\/i=10\/i=11 by omega) with rfl | rfl | rfl | rfl | rfl | rfl | rfl | rfl | rfl | rfl | rfl | rfl
 all_goals exact⟨by decide,by decide,by decide⟩
theorem nm_apart:∀i k,k<i->i<12->nmD k≠nmD i:=by
 have h:∀i,i<12->∀k,k<i->nmD k≠nmD i:=by decide
 exact fun i k G F=>h i F k G
def ptD (n i:Nat) (F:List Int):Pt:=⟨nmD i,(List.range n).map fun k=>patD (F.getD k 0),5000+(F.getD 4 0).tmod 5000,(F.getD 5 0).tmod 12700,(F.getD 6 0).tmod 12700⟩
def ptE (n:Nat):Pt:=⟨⟨#[112]⟩,List.replicate n 0,0,0,0⟩
def ptsD (n:Nat) (L:List (List Int)):List Pt:=if L.length=0 then [ptE n] else (List.range (min L.length 12)).map fun i=>ptD n i (L.getD i [])
theorem qmt (z:Int):0<=patD z/\patD z<=10000:=by unfold patD;omega
theorem qmw {n i k:Nat} {F:List Int} (G:k<n):(ptD n i F).dev.getD k 0=patD (F.getD k 0):=by
 show ((List.range n).map _).getD k 0=_
 rw [qab,qaL,qby G];rfl
theorem qd3 (n i:Nat) (F:List Int):(ptD n i F).dev.length=n:=by show ((List.range n).map _).length=n;simp
theorem ptD_ok {n i:Nat} {F:List Int} (H:1<=n) (I:n<=4) (J:i<12):PtOk (ptD n i F) where
 name:=nm_name i J
 n1:=by rw [qd3];exact H
 n4:=by rw [qd3];exact I
 vals:=fun k G=>by rw [qd3] at G;rw [qmw G];exact qmt _
 l0:=by
  have a:=Int.lt_tmod_of_pos (F.getD 4 0) (show (0:Int)<5000 by decide);have b:=Int.tmod_lt_of_pos (F.getD 4 0) (show (0:Int)<5000 by decide)
  show 0<=5000+(F.getD 4 0).tmod 5000/\5000+(F.getD 4 0).tmod 5000<=10000
  omega
 l1:=by
  have a:=Int.lt_tmod_of_pos (F.getD 5 0) (show (0:Int)<12700 by decide);have b:=Int.tmod_lt_of_pos (F.getD 5 0) (show (0:Int)<12700 by decide)
  show -12800<=(F.getD 5 0).tmod 12700/\(F.getD 5 0).tmod 12700<=12700
  omega
 l2:=by
  have a:=Int.lt_tmod_of_pos (F.getD 6 0) (show (0:Int)<12700 by decide);have b:=Int.tmod_lt_of_pos (F.getD 6 0) (show (0:Int)<12700 by decide)
  show -12800<=(F.getD 6 0).tmod 12700/\(F.getD 6 0).tmod 12700<=12700
  omega
theorem qmx (n k:Nat):(ptE n).dev.getD k 0=0:=by
 show (List.replicate n (0:Int)).getD k 0=0
 rw [qab,qbs];split <;> rfl
theorem ptE_ok {n:Nat} (F:1<=n) (G:n<=4):PtOk (ptE n) where
 name:=show qgN ⟨#[112]⟩ from ⟨by decide,by decide,by decide⟩
 n1:=by show 1<=(List.replicate n (0:Int)).length;rw [qa5];exact F
 n4:=by show (List.replicate n (0:Int)).length<=4;rw [qa5];exact G
 vals:=fun k _=>by rw [qmx];exact⟨by decide,by decide⟩
 l0:=show (0:Int)<=0/\(0:Int)<=10000 from by decide
 l1:=show (-12800:Int)<=0/\(0:Int)<=12700 from by decide
 l2:=show (-12800:Int)<=0/\(0:Int)<=12700 from by decide
theorem qfN (n:Nat) (L:List (List Int)):1<=(ptsD n L).length/\(ptsD n L).length<=12:=by
 unfold ptsD;split
 ·exact⟨qaf 1,show 1<=12 from by decide⟩
 ·rw [qay,qbl];omega
theorem qgk {n:Nat} {L:List (List Int)} {i:Nat} (F:i<(ptsD n L).length):(L.length=0/\i=0/\(ptsD n L).getD i pt0=ptE n)\/(L.length≠0/\i<12/\(ptsD n L).getD i pt0=ptD n i (L.getD i [])):=by
 unfold ptsD at F ⊢;split
 ·rename_i h;rw [if_pos h] at F;obtain rfl:i=0:=by have:i<1:=F;omega
  exact .inl ⟨h,rfl,rfl⟩
 ·rename_i h;rw [if_neg h,qay,qbl] at F;refine .inr ⟨h,by omega,?_⟩;rw [qab,qaL,qby F];rfl
theorem qj8 (n:Nat) (L:List (List Int)) {i:Nat} (F:i<(ptsD n L).length):((ptsD n L).getD i pt0).dev.length=n:=by
 rcases qgk F with ⟨_,_,e⟩ | ⟨_,_,e⟩
 ·rw [e];exact qa5
 ·rw [e];exact qd3 _ _ _
theorem qkQ (n:Nat) (L:List (List Int)):chans (ptsD n L)=n:=qj8 n L (qfN n L).1
theorem ptsD_ok {n:Nat} (L:List (List Int)) (G:1<=n) (H:n<=4):PtsOk (ptsD n L) where
 r1:=(qfN n L).1
 r2:=by have:=(qfN n L).2;omega
 rows:=fun k F=>⟨by
  rcases qgk F with ⟨_,_,e⟩ | ⟨_,h,e⟩
  ·rw [e];exact ptE_ok G H
  ·rw [e];exact ptD_ok G H h,by rw [qkQ];exact qj8 n L F⟩
 apart:=fun i k F I=>by
  rcases qgk I with ⟨_,h,_⟩ | ⟨J,h,e⟩
  ·omega
  ·rcases qgk (Nat.lt_trans F I) with ⟨G,_,_⟩ | ⟨_,_,e2⟩
   ·exact absurd G J
   ·rw [e,e2];exact nm_apart i k F h
theorem qiy {n:Nat} (L:List (List Int)):qdc (ptsD n L):=⟨(qfN n L).2,fun i F j=>by
 rcases qgk F with ⟨_,_,e⟩ | ⟨_,_,e⟩
 ·rw [e,qmx];exact⟨0,by decide,rfl⟩
 ·rw [e];rcases qaT j n with hj | hj
  ·rw [qmw hj];refine⟨((L.getD i []).getD j 0).natAbs % 9,by omega,?_⟩;unfold patD;omega
  ·refine⟨0,by decide,?_⟩;rw [qab,qaX (by rw [qd3];exact hj)];rfl⟩
theorem qhk {H:Array Oper} {rest:List Oper} {o:Oper} {a:Act} {w:World} {Q:Exit->Act->World->Prop} (J:o.guard=none) (s x:Operand)
  (Y:o.op=.call { callee:=.builtin .append,args:=#[s,x],argTypes:=#[30,30] }) {B:Nat} {v:Value} {l:List Int} {z:Int} (G:IOwn w B v l) (V:B<=w.heap.size) (hs:a.eval s=v) {g:Nat} (hx:a.eval x=.slice (some ⟨g,0,none⟩) 1 1) (hg:g=w.heap.size) (hn:l.length<1000000)
  (h:∀F w',Hu (IOwn w' B F (l++[z]))->Hu (F.ownBlock=v.ownBlock/\(w.alloc (.cells #[.int .i64 z] 3)).grownBy w' v.ownBlock\/F.ownBlock=some (w.alloc (.cells #[.int .i64 z] 3)).heap.size/\(w.alloc (.cells #[.int .i64 z] 3)).grownBy w' none)->wpList prog H Q rest (a.put o.dst F) w') :
  wpList prog H Q (o :: rest) a (w.alloc (.cells #[.int .i64 z] 3)):=by
 subst hg;have I:Below w.heap.size w (w.alloc (.cells #[.int .i64 z] 3)):=qbN qB qN;obtain⟨F,w',Z,O,U⟩:=run_ints o.type (own_below G I) (by rw [qaa];exact qan V) (qjO (q:=[z]) (qM w (.cells #[.int .i64 z] 3) _ rfl) 0) (c:=1) rfl (Nat.zero_lt_one) (by show l.length+1<=_;omega);exact qdr J s x _ Y hs hx Z (h F w' (qH O) (qH U))
theorem conv4s (F G H I:UInt8) (J n1 O U:Int) (V:J=(F.toNat:Nat)) (Y:n1=(G.toNat:Nat)) (Z:O=(H.toNat:Nat)) (h3:U=(I.toNat:Nat)) (W:World) :
  (convert 299 9 (.slice (some ⟨W.heap.size,0,none⟩) 4 4)).run prog (W.alloc (.cells #[.int .u8 J,.int .u8 n1,.int .u8 O,.int .u8 U] 5))=.ok (.string ⟨#[F,G,H,I]⟩) (W.alloc (.cells #[.int .u8 J,.int .u8 n1,.int .u8 O,.int .u8 U] 5)):=by
 subst V Y Z h3;refine run_convert_bytes_back (P:=prog) _ 299 9 5 ⟨W.heap.size,0,none⟩ 4 [F,G,H,I] underlying299 underlying5 underlying9 ?_;intro j hj;have hg:=heap_alloc_new W (.cells #[.int .u8 (F.toNat:Nat),.int .u8 (G.toNat:Nat),.int .u8 (H.toNat:Nat),.int .u8 (I.toNat:Nat)] 5)
 match j,hj with
 | 0,_=>exact qC _ _ 0 _ _ _ hg
 | 1,_=>exact qC _ _ 1 _ _ _ hg
 | 2,_=>exact qC _ _ 2 _ _ _ hg
 | 3,_=>exact qC _ _ 3 _ _ _ hg
def g4 (i:Nat):ByteArray:=⟨#[48,48,UInt8.ofNat (48+i / 10),UInt8.ofNat (48+i % 10)]⟩
theorem qmq {n:Nat} (h:n<12):(UInt8.ofNat (48+n)).toNat=48+n:=by
 rcases (show n=0\/n=1\/n=2\/n=3\/n=4\/n=5\/n=6\/n=7\/n=8\/n=9\/n=10\/n=11 by omega) with rfl | rfl | rfl | rfl | rfl | rfl | rfl | rfl | rfl | rfl | rfl | rfl <;> rfl
theorem fourS (i:Nat) (J:i<12) (w:World):Calls prog 205 #[.int .i64 (i:Int)] w fun e w'=>e=.returned (.string (g4 i))/\Below w.heap.size w w':=by
 obtain⟨b,H⟩:=qX (i / 10);obtain⟨c,I⟩:=qX (i % 10);have F:=conv4s 48 48 (UInt8.ofNat (48+b)) (UInt8.ofNat (48+c)) 48 48 (48+(b:Int)) (48+(c:Int)) rfl rfl (by rw [qmq (by omega)];omega) (by rw [qmq (by omega)];omega);have hg:g4 i=⟨#[48,48,UInt8.ofNat (48+b),UInt8.ofNat (48+c)]⟩:=by unfold g4;rw [H,I]
 rw [<-hg] at F;have V:(i:Int) / 1000=0:=by omega
 have t2:(i:Int) / 100=0:=by omega
 have t4:(i:Int) / 10=b:=by omega
 have t5:(b:Int) % 10=b:=by omega
 have Y:(i:Int) % 10=c:=by omega
 have O:b<2:=by omega
 have U:c<10:=by omega
 clear H I hg;generalize g4 i=G at *;go_enter func205,ntmps205;go_wp2;go_ret;exact⟨rfl,qbN qB qN⟩
def PlS (W:World) (v:Value) (i:Nat):Prop:=∃(F:Option Addr) (n c:Nat),v=.agg #[.bool false,.slice F n c]/\((i=0/\n=0)\/(i≠0/\n=1/\∃g,F=some ⟨g,0,none⟩/\W.cell? ⟨g,0,none⟩=some (.int .i64 (i:Int))))
theorem cutS0 (w:World):Calls prog 235 #[.slice none 0 0] w fun e w'=>e=.returned (.slice none 0 0)/\w'=w:=by
 go_enter func235,ntmps235;go_wp2_with fail
 go_loopw [3] (fun x3 W=>x3=.int .i64 0/\W=w) (fun _ _=>0)
 case atStart=>exact⟨rfl,rfl⟩
 case round =>
  obtain⟨rfl,rfl⟩:=hrel;go_wp2;go_ret;exact⟨rfl,rfl⟩
theorem cutS1 (g c:Nat) (z:Int) (J:z≠0) (U:1<=c) (I:c<=9223372036854775807) (w:World) (G:w.cell? ⟨g,0,none⟩=some (.int .i64 z)):Calls prog 235 #[.slice (some ⟨g,0,none⟩) 1 c] w fun e w'=>e=.returned (.slice (some ⟨g,0,none⟩) 1 c)/\w'=w:=by
 have O:(z == 0)=false:=by rw [beq_eq_false_iff_ne];exact J
 have H:=qH G;clear G;go_enter func235,ntmps235;go_wp2_with fail
 go_loopw [3] (fun x3 W=>x3=.int .i64 1/\Hu (W=w)) (fun _ _=>0)
 case atStart=>exact⟨rfl,qH rfl⟩
 case round =>
  obtain⟨rfl,F⟩:=hrel;have F:=F.o.symm;subst F;have G:=H.o;go_wp2;go_ret;exact⟨rfl,rfl⟩
theorem madeS (F:Option Addr) (n c:Nat) (w:World) (_hn:n<=1) (I:∀W,Below w.heap.size w W->Calls prog 235 #[.slice F n c] W fun e w'=>e=.returned (.slice F n c)/\w'=W) :
  Calls prog 174 #[.bool false,.slice F n c] w fun e w'=>e=.returned (.agg #[.bool false,.slice F n c])/\Below w.heap.size w w':=by
 obtain⟨O,G,H⟩:=nw1 w #[.bool false,.slice none 0 0] 105;have J:=qH (I O H.o.1);clear I;go_enter func174,ntmps174;go_upto_region 1 with fail;rw [<-G];clear G;go_wp2_with fail;refine J.o.mono ?_;rintro e V ⟨rfl,U⟩;subst U
 go_wp2_with ((with_reducible refine sR_ rfl 105 _ _ rfl (w.heap.size) #[.bool false,.slice F n c] H.o.2 2 ?_))
 exact qR (v:=.agg #[.bool false,.slice F n c]) (rA_ rfl (w.heap.size) (qT _ _ _ _ _ _ H.o.2) underlying105 2) rfl ⟨rfl,qS H.o.1 qN _⟩
theorem integerS (i:Nat) (hi:i<12) (w:World):Calls prog 98 #[.int .i64 (i:Int)] w fun e w'=>∃v,e=.returned v/\PlS w' v i/\Below w.heap.size w w':=by
 obtain⟨F,aa,K1⟩:=nw1 w #[.bool false,.slice none 0 0] 105;have h0:¬(i:Int)<0:=by omega
 go_enter func98,ntmps98;go_upto_region 1 with fail;rw [<-aa];clear aa;go_wp2_with fail
 go_loopw [0,3] (fun x0 x3 W=>(x0=.int .i64 (i:Int)/\x3=.slice none 0 0/\Hu (W=F))\/(i≠0/\x0=.int .i64 0/\Hu (IOwn W F.heap.size x3 [(i:Int)]/\Below F.heap.size F W))) (fun x0 _ _=>(RowKit.intOf x0).toNat)
 case atStart=>exact .inl ⟨rfl,rfl,qH rfl⟩
 case round =>
  rcases hrel with ⟨rfl,rfl,J⟩ | ⟨ah,rfl,Z⟩
  ·have J:=J.o.symm;subst J
   by_cases hz:i=0
   ·have HC:=qH (madeS none 0 0 F (by decide) (fun W _=>cutS0 W));subst hz;go_wp2_with fail;refine HC.o.mono ?_;rintro e w2 ⟨rfl,G⟩;have K2:=K1.below G;clear G
    go_wp2_with ((with_reducible refine sR_ rfl 105 _ _ rfl (w.heap.size) #[.bool false,.slice none 0 0] K2.o.2 2 ?_))
    exact qR (v:=.agg #[.bool false,.slice none 0 0]) (rA_ rfl (w.heap.size) (qT _ _ _ _ _ _ K2.o.2) underlying105 2) rfl ⟨_,rfl,⟨none,0,0,rfl,.inl ⟨rfl,rfl⟩⟩,qS K2.o.1 qN _⟩
   ·have hne:((i:Int) != 0)=true:=by rw [bne_iff_ne];omega
    have m1:(i:Int) % 10000=i:=by omega
    have m2:(i:Int) / 10000=0:=by omega
    have ai:IOwn F F.heap.size (.slice none 0 0) []:=⟨rfl,.inl ⟨rfl,rfl⟩⟩;have HN:=qH hz;clear hz
    go_wp2_with (first | (at_builtin;refine qhk rfl _ _ rfl ai qN rfl rfl rfl (by decide) ?_;intro v' w' aj ae;have af:Hu (Below F.heap.size F w'):=qH (qc7 (B:=F.heap.size) (qbN qB qN) (fun q hq=>by cases hq) (by simp only [qaa];omega) ae.o);clear ae) | fail)
    go_roundw
    case rel=>exact .inr ⟨HN.o,rfl,qH ⟨aj.o,af.o⟩⟩
    case measure=>have:=HN.o;simp [RowKit.intOf];omega
  ·obtain⟨g,c,e,hN⟩:=IOwn.cells Z.o.1 Nat.zero_lt_one;have U:1<=c/\c<=9223372036854775807:=by
    rcases Z.o.1.2 with ⟨e2,h⟩ | ⟨g',cap,cur,e2,_,_,h1,h2,_⟩
    ·cases h
    ·rw [e] at e2;injection e2 with _ _ e3;subst e3;unfold maxLen at h2;exact⟨h1,by omega⟩
   have H:wr.cell? ⟨g,0,none⟩=some (.int .i64 (i:Int)):=hN.cell 0 Nat.zero_lt_one;have K2:=K1.below Z.o.2;have V:=(qac wr _ H:g<_);have ag:w.heap.size<g\/w.heap.size=g\/g<w.heap.size:=by omega
   have HC:=qH (madeS (some ⟨g,0,none⟩) 1 c wr (by decide) (fun W G=>cutS1 g c i (by omega) U.1 U.2 W ((G.cell (p:=⟨g,0,none⟩) V).trans H)));have HH:=qH (qA H (qA V Z.o.1));rw [show [(i:Int)].length=1 from rfl] at e;subst e;clear Z hN U H V ag;go_wp2_with fail;refine HC.o.mono ?_;rintro e w2 ⟨rfl,G⟩;have K3:=K2.below G;have Y:=own_below HH.o.2.2 G;have O:=(G.cell (p:=⟨g,0,none⟩) HH.o.2.1).trans HH.o.1;have I:g≠w.heap.size:=fun e=>by
    subst e;have:=qC _ _ 0 _ _ _ K3.o.2;rw [O] at this;cases this
   have HE:=qH (qA O I);clear G Y O I K2
   go_wp2_with ((with_reducible refine sR_ rfl 105 _ _ rfl (w.heap.size) #[.bool false,.slice (some ⟨g,0,none⟩) 1 c] K3.o.2 2 ?_))
   exact qR (v:=.agg #[.bool false,.slice (some ⟨g,0,none⟩) 1 c]) (rA_ rfl (w.heap.size) (qT _ _ _ _ _ _ K3.o.2) underlying105 2) rfl ⟨_,rfl,⟨some ⟨g,0,none⟩,1,c,rfl,.inr ⟨ah,rfl,g,rfl,(World.cell?_of_block (setRow_other _ _ _ _ HE.o.2)).trans HE.o.1⟩⟩,qS K3.o.1 qN _⟩
def z4 (i:Nat):Nat:=if i<10 then 3 else 2
theorem qmd {a:ByteArray} (h:a.size≠0):a.toList.isEmpty=false:=by
 rw [ByteArray.toList_eq];cases e:a.data.toList with
 | nil=>exact absurd (show a.size=0 by show a.data.size=0;rw [<-Array.length_toList,e];rfl) h
 | cons x l=>rfl
theorem ext4 (i:Nat) (G:i<12) (F:i≠0):(g4 i).extract (z4 i) (g4 i).size=num i:=by
 unfold num;rcases (show i=1\/i=2\/i=3\/i=4\/i=5\/i=6\/i=7\/i=8\/i=9\/i=10\/i=11 by omega) with rfl | rfl | rfl | rfl | rfl | rfl | rfl | rfl | rfl | rfl | rfl <;> first | (rw [qbU (by decide)];rfl) | (rw [qcc (by decide),qbU (by decide)];rfl)
theorem textS (i:Nat) (hi:i<12) (v:Value) (w:World) (hv:PlS w v i):Calls prog 138 #[v] w fun e w'=>e=.returned (.string (num i))/\Below w.heap.size w w':=by
 obtain⟨ao,n,c,rfl,h⟩:=hv;obtain⟨O,G,I⟩:=nw1 w #[.bool false,.slice ao n c] 105;rcases h with ⟨rfl,rfl⟩ | ⟨aa,rfl,g,rfl,Z⟩
 ·have J:=qC _ _ 0 _ _ _ I.o.2;have c1:=qC _ _ 1 _ _ _ I.o.2;go_enter func138,ntmps138;go_upto_region 1 with fail;rw [<-G];clear G;go_wp2_with fail
  go_loopw [3,4] (fun x3 x4 W=>x3=.string ⟨#[]⟩/\x4=.int .i64 (-1)/\Hu (W=O)) (fun _ _ _=>0)
  case atStart=>exact⟨rfl,rfl,qH rfl⟩
  case round =>
   obtain⟨rfl,rfl,F⟩:=hrel;have F:=F.o.symm;subst F;go_wp2_with fail
   go_loopw [5] (fun x5 W=>x5=.int .i64 0/\Hu (W=O)) (fun _ _=>0)
   case atStart=>exact⟨rfl,qH rfl⟩
   case round =>
    obtain⟨rfl,F⟩:=hrel;have F:=F.o.symm;subst F;go_wp2;go_ret;exact⟨by unfold num;rw [qbU (by decide)];rfl,I.o.1⟩
 ·have HF:=qH fun W=>fourS i hi W
  have V:=(I.o.1.cell (qac w _ Z)).trans Z;have J:=qC _ _ 0 _ _ _ I.o.2;have c1:=qC _ _ 1 _ _ _ I.o.2;have H:=qH (qA V (qA J c1));clear Z V J c1;go_enter func138,ntmps138;go_upto_region 1 with fail;rw [<-G];clear G;have c1:=H.o.2.2;go_wp2_with fail;clear c1
  go_loopw [3,4] (fun x3 x4 W=>(x3=.string ⟨#[]⟩/\x4=.int .i64 0\/x3=.string (g4 i)/\x4=.int .i64 (-1))/\Hu (Below O.heap.size O W)) (fun _ x4 _=>(RowKit.intOf x4+1).toNat)
  case atStart=>exact⟨.inl ⟨rfl,rfl⟩,qH qB⟩
  case round =>
   obtain⟨hx,U⟩:=hrel;have c1:=(U.o.cell (qac O _ H.o.2.2)).trans H.o.2.2;have cv:=(U.o.cell (qac O _ H.o.1)).trans H.o.1;have J:=(U.o.cell (qac O _ H.o.2.1)).trans H.o.2.1;rcases hx with ⟨rfl,rfl⟩ | ⟨rfl,rfl⟩
   ·have af:∀W,(Op.stringOp .add ⟨#[]⟩ (g4 i)).run prog W=.ok (.string (g4 i)) W:=fun W=>by
     have h:=run_string_add_sum (P:=prog) W ⟨#[]⟩ (g4 i) (by have h1:(⟨#[]⟩:ByteArray).size=0:=rfl;have h2:(g4 i).size=4:=rfl;omega);have e:(⟨#[]⟩:ByteArray)++g4 i=g4 i:=by rcases (show i=1\/i=2\/i=3\/i=4\/i=5\/i=6\/i=7\/i=8\/i=9\/i=10\/i=11 by omega) with rfl | rfl | rfl | rfl | rfl | rfl | rfl | rfl | rfl | rfl | rfl <;> rfl
     rwa [e] at h
    go_wp2_with fail;refine (HF.o _).mono ?_;rintro e w2 ⟨rfl,hb⟩;have HB:=qH (U.o.trans (hb.mono U.o.size));clear hb c1 cv J;go_wp2;go_roundw
    case rel=>exact⟨.inr ⟨rfl,rfl⟩,HB⟩
    case measure=>simp [RowKit.intOf]
   ·go_wp2_with fail;have HK:=qH (I.o.1.trans (U.o.mono I.o.1.size));clear c1 cv;have K0:=qH J;clear J U HF H
    go_loopw [5] (fun x5 W=>∃k:Nat,x5=.int .i64 (k:Int)/\k<=z4 i/\Hu (W=wr)) (fun x5 _=>4-(RowKit.intOf x5).toNat)
    case atStart=>exact⟨0,rfl,qam _,qH rfl⟩
    case round =>
     obtain⟨k,rfl,Y,F⟩:=hrel;have F:=F.o.symm;subst F;have J:_=some (Value.bool false):=K0.o;clear K0;have ae:k<=3:=by unfold z4 at Y;split at Y <;> omega
     rcases (show i=1\/i=2\/i=3\/i=4\/i=5\/i=6\/i=7\/i=8\/i=9\/i=10\/i=11 by omega) with rfl | rfl | rfl | rfl | rfl | rfl | rfl | rfl | rfl | rfl | rfl
     all_goals rcases (show k=0\/k=1\/k=2\/k=3 by omega) with rfl | rfl | rfl | rfl
     all_goals try exact absurd Y (by decide)
     all_goals clear Y ae
     all_goals go_wp2_with fail
     all_goals first
      | exact⟨⟨1,rfl,by decide,qH trivial⟩,by decide⟩
      | exact⟨⟨2,rfl,by decide,qH trivial⟩,by decide⟩
      | exact⟨⟨3,rfl,by decide,qH trivial⟩,by decide⟩
      | skip
     all_goals go_ret
     all_goals first | exact⟨congrArg (fun s=>Ending.returned (Value.string s)) (ext4 _ hi aa),HK.o⟩ | exact absurd ‹((g4 _).extract _ _).toList.isEmpty=true› (by rw [qmd (by decide)];decide)
theorem qmo (i:Nat) (F:i<12):(num i).size<=4:=by
 rcases (show i=0\/i=1\/i=2\/i=3\/i=4\/i=5\/i=6\/i=7\/i=8\/i=9\/i=10\/i=11 by omega) with rfl | rfl | rfl | rfl | rfl | rfl | rfl | rfl | rfl | rfl | rfl | rfl <;> (unfold num;first | (rw [qbU (by decide)];decide) | (rw [qcc (by decide),qbU (by decide)];decide))
theorem outS (i:Nat) (V:i<12) (v:Value) (w:World) (hv:PlS w v i):Calls prog 102 #[v] w fun e w'=>e=.returned (.tuple #[.string (num i),.int .i64 0])/\Below w.heap.size w w':=by
 obtain⟨ao,n,c,rfl,h⟩:=hv;obtain⟨J,F,H⟩:=nw1 w #[.bool false,.slice ao n c] 105;have G:PlS J (.agg #[.bool false,.slice ao n c]) i:=⟨ao,n,c,rfl,h.imp id fun⟨a,b,g,e,U⟩=>⟨a,b,g,e,(H.o.1.cell (qac w _ U)).trans U⟩⟩;have Z:=qH (textS i V _ J G);have I:=qmo i V;have Y:¬(((num i).size:Nat):Int) > 600:=by omega
 clear G h I;generalize num i=S at *;go_enter func102,ntmps102;go_upto_region 1 with fail;rw [<-F];clear F
 go_wp2_with ((with_reducible refine lW_ rfl 105 _ rfl (w.heap.size) #[.bool false,.slice ao n c] H.o.2 underlying105 2 ?_))
 refine Z.o.mono ?_;rintro e w2 ⟨rfl,O⟩;have K2:=H.below O;have c0:=qC _ _ 0 _ _ _ K2.o.2;clear O H;go_wp2_with fail
 go_ret2
 exact⟨rfl,K2.o.1⟩
end Go.Proofs.YtjalhnlhcdfncaaGreatDoor
namespace Go.Proofs.YtjalhnlhcdfncaaGreatDoor
open Go.RowKit Go.Proofs.Tryz
theorem rof_any (i:Nat) (I:i<12) (w:World):Calls prog 84 #[.int .i64 (i:Int)] w fun e w'=>e=.returned (.string (num i))/\Below w.heap.size w w':=by
 have V:=qH (integerS i I w);have Y:=qH fun v W G=>outS i I v W G
 clear I;go_enter func84,ntmps84;go_wp2_with fail;refine V.o.mono ?_;rintro e Z ⟨v,rfl,G,O⟩;have U:=qH (Y.o v Z G);have J:=qH O;clear O G;go_wp2_with fail;refine U.o.mono ?_;rintro e w3 ⟨rfl,F⟩;have H:=qH (J.o.trans (F.mono J.o.size));clear F;go_wp2;go_ret;exact⟨rfl,H.o⟩
structure PRws (W:World) (ao:Option Addr) (b off:Nat) (L:List (List Int)):Prop where
 addr:0<L.length->ao=some ⟨b,off,none⟩
 cell:∀k,k<L.length->∀j,j<7->W.cell? ⟨b,off+k*7+j,none⟩=some (.int .i16 ((L.getD k []).getD j 0))
 rng:∀k j,-32768<=(L.getD k []).getD j 0/\(L.getD k []).getD j 0<=32767
theorem PRws.below {W W':World} {G:Option Addr} {b F:Nat} {L:List (List Int)} (h:PRws W G b F L) (J:Below W.heap.size W W'):PRws W' G b F L :=
 ⟨h.addr,fun k I j H=>(J.cell (qac W _ (h.cell k I j H))).trans (h.cell k I j H),h.rng⟩
instance stays_prws {G:Option Addr} {b F:Nat} {L:List (List Int)}:Stays fun W=>PRws W G b F L:=⟨fun h H=>h.below H⟩
def devD (k:Nat) (F:List Int):List Int:=(List.range k).map fun j=>patD (F.getD j 0)
theorem qfI (k:Nat) (F:List Int):(devD k F).length=k:=by unfold devD;simp
theorem qlm (k:Nat) (F:List Int):devD (k+1) F=devD k F++[patD (F.getD k 0)]:=by unfold devD;rw [List.range_succ,qbc];rfl
theorem qfn {W:World} {B m:Nat} {v:Value} {l:List Int} (h:IOwn W B v l) (G:l.length=m):∃(F:Option Addr) (cap:Nat),v=.slice F m cap:=by subst G;exact qiv h
structure PoSt (w3 W:World) (g8 B:Nat) (nm:ByteArray) (Z:Array Value) (zs:List Int) (k:Nat) (v:Value):Prop where
 old:Below w3.heap.size w3 W
 row:W.heap[w3.heap.size]? = some (.cells #[.string nm,v,.int .i64 0,.int .i64 0,.int .i64 0] 72 (0,0))
 zr:W.heap[g8]? = some (.cells Z 153 (0,0))
 base:w3.heap.size<g8/\g8<B/\B<=W.heap.size
 own:IOwn W B v (devD k zs)
theorem PoSt.push {G W I w':World} {O B:Nat} {nm:ByteArray} {Z:Array Value} {zs:List Int} {k:Nat} {v H:Value} (h:PoSt G W O B nm Z zs k v) (hb:Below W.heap.size W I) (ho:IOwn w' B H (devD (k+1) zs))
  (hk:H.ownBlock=v.ownBlock/\I.grownBy w' v.ownBlock\/H.ownBlock=some I.heap.size/\I.grownBy w' none) :
  (w'.cell? ⟨G.heap.size,1,none⟩=some v/\w'.frozen? ⟨G.heap.size,1,none⟩=false)/\PoSt G (w'.setCell ⟨G.heap.size,1,none⟩ H) O B nm Z zs (k+1) H:=by
 have V:=h.own.lt;have U:Below B I w':=by
  have hs:=hb.size;have aa:=h.base.2.2;rcases hk with ⟨_,hg⟩ | ⟨_,hg⟩
  ·exact⟨hg.os,hg.tape,hg.output,hg.size,fun q hq=>hg.block q (by omega) (fun e=>by have:=(V q e.symm).1;omega)⟩
  ·exact⟨hg.os,hg.tape,hg.output,hg.size,fun q hq=>hg.block q (by omega) (fun e=>by cases e)⟩
 have J:Below B W w':=(hb.mono h.base.2.2).trans U;have F:=(J.block _ (Nat.lt_trans h.base.1 h.base.2.1)).trans h.row;have Y:=(J.block _ h.base.2.1).trans h.zr;refine⟨⟨qC _ _ 1 _ _ _ F,qF _ _ _ _ _ F⟩,(h.old.trans (J.mono (by have:=h.base.1;have:=h.base.2.1;omega))).setCell (p:=⟨G.heap.size,1,none⟩) qN _,heap_setCell_same _ _ 1 _ _ _ F,?_,⟨h.base.1,h.base.2.1,by rw [qbu];exact qaj h.base.2.2 J.size⟩,?_⟩
 ·rw [qW _ _ _ _ (show O≠G.heap.size by have:=h.base.1;omega)];exact Y
 ·exact World.ownsRow.kept ho (qbP w' G.heap.size 1 H) (by
   cases e:H.ownBlock with
   | none=>exact .inl rfl
   | some q=>exact .inr (fun e2=>by have:=(ho.lt q e).1;have:=qag e2;have:=h.base;omega))
def PtV (W:World) (u:Value) (p:Pt):Prop:=∃(B:Nat) (F:Option Addr) (G:Nat),u=.agg #[.string p.name,.slice F p.dev.length G,.int .i64 p.l0,.int .i64 p.l1,.int .i64 p.l2]/\IOwn W B (.slice F p.dev.length G) p.dev
theorem one_any (ch:Nat) (L:List (List Int)) (ao:Option Addr) (b aJ c i n:Nat) (w:World) (hi:i<L.length) (U:i<12) (h1:1<=n) (h4:n<=4) (hl:L.length<=9223372036854775807) (hP:PRws w ao b aJ L) :
  Calls prog 47 #[.agg #[.int .u8 (ch:Int),.slice ao L.length c],.int .i64 (i:Int),.int .i64 (n:Int)] w fun e w'=>∃u,e=.returned u/\PtV w' u (ptD n i (L.getD i []))/\Below w.heap.size w w':=by
 obtain⟨W2,aK,N2⟩:=nw2 w #[.int .u8 (ch:Int),.slice ao L.length c] 43 #[.string ⟨#[]⟩,.slice none 0 0,.int .i64 0,.int .i64 0,.int .i64 0] 72;have K2:=N2.also (q:=fun W=>PRws W ao b aJ L) (hP.below N2.o.1);obtain rfl:=hP.addr (by omega);have hr:=fun j=>hP.rng i j
 obtain⟨zs,aI⟩:=qX (L.getD i []);rw [aI] at hr ⊢;have bg:=qH aI;clear hP N2 aI;go_enter func47,ntmps47;go_upto_region 1 with fail;rw [<-aK];clear aK;go_wp2_with fail;refine (rof_any i U W2).mono ?_;rintro e F ⟨rfl,hb⟩;have K3:=K2.below hb;clear hb K2;obtain⟨W4,ah,N4⟩:=nw1 F #[.string (nmD i),.slice none 0 0,.int .i64 0,.int .i64 0,.int .i64 0] 72;have au:=nm_eq i U;obtain⟨nm,V⟩:∃x,nmD i=x:=⟨_,rfl⟩;rw [V] at au ah N4;have bB:=qmo i U;have af:∀W,(Op.stringOp .add ⟨#[112]⟩ (num i)).run prog W=.ok (.string nm) W:=fun W=>by
  rw [<-au];exact run_string_add_sum W _ _ (by have:(⟨#[112]⟩:ByteArray).size=1:=rfl;omega)
 obtain⟨ni,aO⟩:∃x,num i=x:=⟨_,rfl⟩;rw [aO] at af ⊢;clear bB au aO;go_upto_region 2 with fail;rw [<-ah];clear af;have bi:=qH V;clear ah V;have K4:=K3.below N4.o.1;have c1:=qC _ _ 1 _ _ _ K4.o.1.2.1;have z0:W4.cell? ⟨b,aJ+i*7,none⟩=_:=K4.o.2.cell i hi 0 (by decide);have z1:=K4.o.2.cell i hi 1 (by decide);have z2:=K4.o.2.cell i hi 2 (by decide);have z3:=K4.o.2.cell i hi 3 (by decide);have z4:=K4.o.2.cell i hi 4 (by decide);have z5:=K4.o.2.cell i hi 5 (by decide);have z6:=K4.o.2.cell i hi 6 (by decide);rw [bg.o] at z0 z1 z2 z3 z4 z5 z6;obtain⟨y0,aA⟩:∃y,zs.getD 0 0=y:=⟨_,rfl⟩;obtain⟨y1,aB⟩:∃y,zs.getD 1 0=y:=⟨_,rfl⟩;obtain⟨y2,aC⟩:∃y,zs.getD 2 0=y:=⟨_,rfl⟩;obtain⟨y3,aD⟩:∃y,zs.getD 3 0=y:=⟨_,rfl⟩;obtain⟨y4,aF⟩:∃y,zs.getD 4 0=y:=⟨_,rfl⟩;obtain⟨I,aG⟩:∃y,zs.getD 5 0=y:=⟨_,rfl⟩;obtain⟨y6,aH⟩:∃y,zs.getD 6 0=y:=⟨_,rfl⟩;rw [aA] at z0;rw [aB] at z1;rw [aC] at z2;rw [aD] at z3;rw [aF] at z4;rw [aG] at z5;rw [aH] at z6;have Z:=qH (qA (qA aA (qA aB (qA aC aD))) (qA aF (qA aG aH)));have HR:=qH hr;have bq:(i:Int)<(L.length:Int):=by omega
 clear aA aB aC aD aF aG aH hr;obtain⟨W5,aL,N5⟩:=nw1 W4 #[.int .i16 y0,.int .i16 y1,.int .i16 y2,.int .i16 y3,.int .i16 y4,.int .i16 I,.int .i16 y6] 153;have aS:F.heap.size<W4.heap.size:=(qG N4.o.2).1;have aT:W4.heap.size<W5.heap.size:=(qG N5.o.2).1;have H0:Hu (PoSt F W5 W4.heap.size W5.heap.size nm #[.int .i16 y0,.int .i16 y1,.int .i16 y2,.int .i16 y3,.int .i16 y4,.int .i16 I,.int .i16 y6] zs 0 (.slice none 0 0)):=qH
  ⟨N4.o.1.trans (N5.o.1.mono N4.o.1.size),zkeep N5.o.1 _ _ N4.o.2,N5.o.2,⟨aS,aT,qaf _⟩,⟨rfl,.inl ⟨rfl,rfl⟩⟩⟩
 go_upto_region 3 with fail;rw [<-aL];obtain⟨B,hB⟩:=qX W5.heap.size;obtain⟨g8,ak⟩:=qX W4.heap.size;rw [hB,ak] at H0;rw [ak];clear aL hB ak aS aT N4 N5 K4 c1 z0 z1 z2 z3 z4 z5 z6 bq;go_wp2_with fail
 go_loopw [9] (fun x9 W=>∃k:Nat,x9=.int .i64 (k:Int)/\k<=n/\Hu (∃v,PoSt F W g8 B nm #[.int .i16 y0,.int .i16 y1,.int .i16 y2,.int .i16 y3,.int .i16 y4,.int .i16 I,.int .i16 y6] zs k v)) (fun x9 _=>n-(intOf x9).toNat)
 case atStart=>exact⟨0,rfl,qam _,qH ⟨_,H0.o⟩⟩
 case round =>
  obtain⟨k,rfl,hk,hS⟩:=hrel;obtain⟨v,hm⟩:=hS.o;have G:=qH hm;clear hS
  by_cases bz:k<n
  ·have bv:(k:Int)<(n:Int):=by omega
   obtain⟨z,hz⟩:=qX (zs.getD k 0);have bE:wr.cell? ⟨g8,k,none⟩=some (.int .i16 z):=by
    rcases (show k=0\/k=1\/k=2\/k=3 by omega) with rfl | rfl | rfl | rfl
    ·rw [<-hz,Z.o.1.1];exact qC _ _ 0 _ _ _ hm.zr
    ·rw [<-hz,Z.o.1.2.1];exact qC _ _ 1 _ _ _ hm.zr
    ·rw [<-hz,Z.o.1.2.2.1];exact qC _ _ 2 _ _ _ hm.zr
    ·rw [<-hz,Z.o.1.2.2.2];exact qC _ _ 3 _ _ _ hm.zr
   have aX:=HR.o k;rw [hz] at aX;have HZ:=qH hz;have bF:(k:Int)<7:=by omega
   clear hz hm
   go_upto_if 30 with fail
   go_cut [10] (fun x10 W=>x10=.int .i64 (z.natAbs:Int)/\Hu (W=wr))
   case first =>
    by_cases bH:z<0
    ·go_wp2;go_meet;exact⟨congrArg (Value.int .i64) (by omega),qH rfl⟩
    ·go_wp2;go_meet;exact⟨congrArg (Value.int .i64) (by omega),qH rfl⟩
   case rest =>
    obtain⟨rfl,ai⟩:=hcut;have ai:=ai.o.symm;subst ai;obtain⟨p,hp⟩:=qX (patD z);have aQ:(z.natAbs:Int) % 9*1250=p:=by
     rw [<-hp];unfold patD;omega
    have bC:=qmt z;rw [hp] at bC;have aZ:=qH (qA hp aQ);obtain⟨x,hx⟩:=qX z.natAbs;rw [hx] at aQ ⊢;have bG:x<=32768:=by omega
    have c1:=qC _ _ 1 _ _ _ G.o.row;obtain⟨va,vc,az⟩:=qfn G.o.own (qfI _ _);subst az;have aY:=qH G.o.own;have bn:=G.o.base.2.2;have bA:(devD k zs).length<1000000:=by rw [qfI];omega
    clear hp hx bE aX
    go_wp2_with (first | (at_builtin;refine qhk rfl _ _ rfl aY.o bn rfl rfl rfl bA ?_;intro v' w' aP bu;(have ae:=G.o.push (qbN qB qN) (by rw [qlm,HZ.o,aZ.o.1];exact aP.o) bu.o);obtain⟨bI,bJ,aU⟩:=qfn (m:=k+1) aP.o (by rw [qae,qfI];rfl);subst aU;have b1:=ae.1.1;have f1:=ae.1.2;have bf:=qH ae.2;clear ae) | fail)
    go_roundw
    case rel=>exact⟨k+1,by go_num,bz,qH ⟨_,bf.o⟩⟩
    case measure=>simp [intOf];omega
  ·obtain rfl:k=n:=by omega
   have bv:¬(k:Int)<(k:Int):=by omega
   obtain⟨va,vc,az⟩:=qfn hm.own (qfI _ _);subst az;clear hm;have b4:=HR.o 4;rw [Z.o.2.1] at b4;have l4:=Int.lt_tmod_of_pos y4 (show (0:Int)<5000 by decide);have m4:=Int.tmod_lt_of_pos y4 (show (0:Int)<5000 by decide);have q4:=qC _ _ 4 _ _ _ G.o.zr;have p2:=qC _ _ 2 _ _ _ G.o.row;have r2:=qF _ _ 2 _ _ G.o.row;obtain⟨Wa,J⟩:=qY (wr.setCell ⟨F.heap.size,2,none⟩ (.int .i64 (5000+y4.tmod 5000)));go_upto_region 11 with fail;rw [<-J];have ax:=heap_setCell_same _ F.heap.size 2 _ _ (.int .i64 (5000+y4.tmod 5000)) G.o.row;rw [<-J] at ax;have aV:Wa.heap[g8]? = _:=J▸(qW wr ⟨F.heap.size,2,none⟩ _ _ (show g8≠F.heap.size by have:=G.o.base.1;omega)).trans G.o.zr;have aM:wr.grownBy Wa (some F.heap.size):=J▸qbP wr F.heap.size 2 _;have HA:=qH (qA ax (qA aV aM));clear ax aV aM J q4 p2 r2 l4 m4 b4;have b5:=HR.o 5;rw [Z.o.2.2.1] at b5;have l5:=Int.lt_tmod_of_pos I (show (0:Int)<12700 by decide);have m5:=Int.tmod_lt_of_pos I (show (0:Int)<12700 by decide);have q5:=qC _ _ 5 _ _ _ HA.o.2.1;have p3:=qC _ _ 3 _ _ _ HA.o.1;have r3:=qF _ _ 3 _ _ HA.o.1;obtain⟨Wb,O⟩:=qY (Wa.setCell ⟨F.heap.size,3,none⟩ (.int .i64 (I.tmod 12700)));go_upto_region 12 with fail;rw [<-O];have ay:=heap_setCell_same _ F.heap.size 3 _ _ (.int .i64 (I.tmod 12700)) HA.o.1;rw [<-O] at ay;have aW:Wb.heap[g8]? = _:=O▸(qW Wa ⟨F.heap.size,3,none⟩ _ _ (show g8≠F.heap.size by have:=G.o.base.1;omega)).trans HA.o.2.1;have aN:wr.grownBy Wb (some F.heap.size):=qbR HA.o.2.2 (O▸qbP Wa F.heap.size 3 _);have HB:=qH (qA ay (qA aW aN));clear ay aW aN O q5 p3 r3 l5 m5 b5;have b6:=HR.o 6;rw [Z.o.2.2.2] at b6;have l6:=Int.lt_tmod_of_pos y6 (show (0:Int)<12700 by decide);have m6:=Int.tmod_lt_of_pos y6 (show (0:Int)<12700 by decide);have q6:=qC _ _ 6 _ _ _ HB.o.2.1;have p4:=qC _ _ 4 _ _ _ HB.o.1;have r4:=qF _ _ 4 _ _ HB.o.1;obtain⟨Wc,aa⟩:=qY (Wb.setCell ⟨F.heap.size,4,none⟩ (.int .i64 (y6.tmod 12700)));go_upto_region 13 with fail;rw [<-aa];have Y:=heap_setCell_same _ F.heap.size 4 _ _ (.int .i64 (y6.tmod 12700)) HB.o.1;rw [<-aa] at Y;have Y:Wc.heap[F.heap.size]? = some (.cells #[.string nm,.slice va k vc,.int .i64 (5000+y4.tmod 5000),.int .i64 (I.tmod 12700),.int .i64 (y6.tmod 12700)] 72 (0,0)):=Y;have H:wr.grownBy Wc (some F.heap.size):=qbR HB.o.2.2 (aa▸qbP Wb F.heap.size 4 _);clear aa q6 p4 r4 l6 m6 b6;have bD:w.heap.size+1<F.heap.size:=(qG K3.o.1.2.2).1;have aj:Below F.heap.size F Wc:=G.o.old.trans ⟨H.os,H.tape,H.output,H.size,fun q hq=>H.block q (qai hq G.o.old.size) (fun e=>by have:=qag e;omega)⟩;have aR:=zkeep aj _ _ K3.o.1.2.2;have ag:IOwn Wc B (.slice va k vc) (devD k zs):=World.ownsRow.kept G.o.own H (.inr (fun e=>by have:=(G.o.own.lt _ e).1;have:=G.o.base;omega));have HE:=qH (qA Y (qA aR (qA ag (K3.o.1.1.trans (aj.mono K3.o.1.1.size)))));clear Y H bD aj aR ag
   go_wp2_with (first | (with_reducible refine lW_ rfl 72 _ rfl (F.heap.size) #[.string nm,.slice va k vc,.int .i64 (5000+y4.tmod 5000),.int .i64 (I.tmod 12700),.int .i64 (y6.tmod 12700)] HE.o.1 underlying72 5 ?_) | (with_reducible refine sR_ rfl 72 _ _ rfl (w.heap.size+1) #[.string nm,.slice va k vc,.int .i64 (5000+y4.tmod 5000),.int .i64 (I.tmod 12700),.int .i64 (y6.tmod 12700)] HE.o.2.1 5 ?_))
   refine qR (v:=.agg #[.string nm,.slice va k vc,.int .i64 (5000+y4.tmod 5000),.int .i64 (I.tmod 12700),.int .i64 (y6.tmod 12700)]) (rA_ rfl (w.heap.size+1) (qT _ _ _ _ _ _ HE.o.2.1) underlying72 5) rfl ?_;refine⟨_,rfl,?_,qS HE.o.2.2.2 (qa9 _) _⟩;have av:IOwn (Wc.setRow (w.heap.size+1) #[.string nm,.slice va k vc,.int .i64 (5000+y4.tmod 5000),.int .i64 (I.tmod 12700),.int .i64 (y6.tmod 12700)]) B (.slice va k vc) (devD k zs) :=
    World.ownsRow.kept HE.o.2.2.1 (qb5 _ _ _) (.inr (fun e=>by
     have h1:=(HE.o.2.2.1.lt _ e).1;have h2:w.heap.size+1<F.heap.size:=(qG K3.o.1.2.2).1;have:=G.o.base;omega))
   have e1:(ptD k i zs).dev.length=k:=qd3 _ _ _;refine⟨B,va,vc,?_,by rw [e1];exact av⟩;rw [e1]
   show _=Value.agg #[.string (nmD i),_,.int .i64 (5000+(zs.getD 4 0).tmod 5000),.int .i64 ((zs.getD 5 0).tmod 12700),.int .i64 ((zs.getD 6 0).tmod 12700)]
   rw [bi.o,Z.o.2.1,Z.o.2.2.1,Z.o.2.2.2]
theorem infoPt:(Tryz.prog.info? 72).map (fun i=>(i.zero,i.size,i.bytes))=some (some (.agg #[.string ⟨#[]⟩,.slice none 0 0,.int .i64 0,.int .i64 0,.int .i64 0]),5,64):=by kernel_rfl
theorem qiD {w:World} {B:Nat} {v:Value} {n:Nat} {U:List Value} {u0 u1 u2 u3 u4:Value} {g c:Nat} {t:TypeId} (V:TypeId) (G:w.ownsRow B 72 5 v n U) (Y:B<=w.heap.size) (hg:w.heap[g]? = some (.cells #[u0,u1,u2,u3,u4] t (0,0))) (hu:∀u∈[u0,u1,u2,u3,u4],u.oneCell'=true) (hn:n<1000000) :
  ∃H w',(Builtin.append_ #[48,48] V #[v,.slice (some ⟨g,0,none⟩) 1 c]).run prog w=.ok H w'/\w'.ownsRow B 72 5 H (n+1) (U++[u0,u1,u2,u3,u4])/\(H.ownBlock=v.ownBlock/\w.grownBy w' v.ownBlock\/H.ownBlock=some w.heap.size/\w.grownBy w' none):=by
 obtain⟨i0,Z,I,J,O⟩:=info_parts infoPt;exact qek (P:=prog) w B 48 V 72 i0 _ 5 64 underlying48 Z I J O rfl (by decide) v n U G ⟨g,0,none⟩ 1 c [u0,u1,u2,u3,u4] rfl (fun j x F=>by
   rw [Addr.add_mid]
   match j,F with
   | 0,F=>exact (qC _ _ _ _ _ _ hg).trans F
   | 1,F=>exact (qC _ _ _ _ _ _ hg).trans F
   | 2,F=>exact (qC _ _ _ _ _ _ hg).trans F
   | 3,F=>exact (qC _ _ _ _ _ _ hg).trans F
   | 4,F=>exact (qC _ _ _ _ _ _ hg).trans F
   | j+5,F=>cases F) hu (by decide) (by unfold maxLen;omega) (by omega) Y
def PaAt (W:World) (F:List Value) (j:Nat) (p:Pt):Prop:=∃(B:Nat) (G:Option Addr) (H:Nat),(F[j*5]? = some (.string p.name)/\F[j*5+1]? = some (.slice G p.dev.length H)/\F[j*5+2]? = some (.int .i64 p.l0)/\F[j*5+3]? = some (.int .i64 p.l1)/\F[j*5+4]? = some (.int .i64 p.l2))/\IOwn W B (.slice G p.dev.length H) p.dev
def PaOwn (W:World) (B:Nat) (v:Value) (l:List Pt):Prop:=∃F,W.ownsRow B 72 5 v l.length F/\∀j,j<l.length->PaAt W F j (l.getD j pt0)
theorem PaOwn.below {W W':World} {B:Nat} {v:Value} {l:List Pt} (h:PaOwn W B v l) (F:Below W.heap.size W W'):PaOwn W' B v l:=by
 obtain⟨U,G,H⟩:=h;refine⟨U,own_below G F,fun j O=>?_⟩;obtain⟨B',da,dc,I,J⟩:=H j O;exact⟨B',da,dc,I,J.below F⟩
instance stays_paown {B:Nat} {v:Value} {l:List Pt}:Stays fun W=>PaOwn W B v l:=⟨fun h F=>h.below F⟩
theorem PaOwn.nil (W:World) (B:Nat):PaOwn W B (.slice none 0 0) []:=⟨[],⟨rfl,.inl ⟨rfl,rfl⟩⟩,fun j F=>absurd F (by simp)⟩
theorem PaOwn.shape {W:World} {B m:Nat} {v:Value} {l:List Pt} (h:PaOwn W B v l) (H:l.length=m):∃(F:Option Addr) (cap:Nat),v=.slice F m cap:=by
 obtain⟨I,G,_⟩:=h;subst H;exact qiv G
theorem PaOwn.cells {W:World} {B:Nat} {v:Value} {l:List Pt} (h:PaOwn W B v l) (Y:0<l.length) (J:∀j,j<l.length->0<(l.getD j pt0).dev.length):∃g c,v=.slice (some ⟨g,0,none⟩) l.length c/\PCells W (some ⟨g,0,none⟩) g 0 l:=by
 obtain⟨V,G,I⟩:=h;have F:=G;rcases G.2 with ⟨_,h⟩ | ⟨g,cap,cur,rfl,_,_,_⟩
 ·omega
 ·refine⟨g,cap,rfl,fun _=>rfl,fun k H=>?_⟩;obtain⟨B',da,dc,⟨e0,e1,e2,e3,e4⟩,U⟩:=I k H;obtain⟨ga,ca,e,hN⟩:=IOwn.cells U (J k H);have c:∀j u,V[j]? = some u->W.cell? ⟨g,0+j,none⟩=some u:=fun j u O=>by
   have:=F.cells (g:=g) rfl j u O
   rwa [Addr.add_mid] at this
  exact⟨c _ _ e0,⟨_,ga,0,ca,by rw [<-e];exact c _ _ e1,hN⟩,c _ _ e2,c _ _ e3,c _ _ e4⟩
theorem PaOwn.push {W F w':World} {B:Nat} {v I:Value} {l:List Pt} {p:Pt} {J:Option Addr} {O Bd:Nat} (h:PaOwn W B v l) (hb:Below W.heap.size W F) (hp:IOwn F Bd (.slice J p.dev.length O) p.dev)
  (ho:∀G,F.ownsRow B 72 5 v l.length G->w'.ownsRow B 72 5 I (l.length+1) (G++[.string p.name,.slice J p.dev.length O,.int .i64 p.l0,.int .i64 p.l1,.int .i64 p.l2])) (Z:I.ownBlock=v.ownBlock/\F.grownBy w' v.ownBlock\/I.ownBlock=some F.heap.size/\F.grownBy w' none):PaOwn w' B I (l++[p]):=by
 obtain⟨G,H,h2⟩:=h.below hb;refine⟨_,by rw [qae];exact ho G H,fun j Y=>?_⟩;have U:G.length=l.length*5:=H.1;rcases qaT j l.length with hjl | hjl
 ·obtain⟨B',d',c',⟨e0,e1,e2,e3,e4⟩,V⟩:=h2 j hjl;have e:(l++[p]).getD j pt0=l.getD j pt0:=by rw [qab,qav hjl,<-qab]
  rw [e];refine⟨B',d',c',⟨?_,?_,?_,?_,?_⟩,(qj4 V (own_ne V H (by decide)) Z).1⟩
  ·rw [qav (by omega)];exact e0
  ·rw [qav (by omega)];exact e1
  ·rw [qav (by omega)];exact e2
  ·rw [qav (by omega)];exact e3
  ·rw [qav (by omega)];exact e4
 ·obtain rfl:j=l.length:=by rw [qae] at Y;have:j<l.length+1:=Y;omega
  have e:(l++[p]).getD l.length pt0=p:=by rw [qab,qar qN,qaK];rfl
  rw [e];refine⟨Bd,J,O,⟨?_,?_,?_,?_,?_⟩,(qj4 hp (own_ne hp H (by decide)) Z).1⟩
  all_goals
   rw [qar (by omega)];simp only [U,qaK,Nat.add_sub_cancel_left]
   rfl
def ptsK (n k:Nat) (L:List (List Int)):List Pt:=(List.range k).map fun i=>ptD n i (L.getD i [])
theorem qhJ (n k:Nat) (L:List (List Int)):(ptsK n k L).length=k:=by unfold ptsK;simp
theorem qmy (n k:Nat) (L:List (List Int)):ptsK n (k+1) L=ptsK n k L++[ptD n k (L.getD k [])]:=by unfold ptsK;rw [List.range_succ,qbc];rfl
theorem qcP {Y:Array Oper} {rest:List Oper} {o:Oper} {a:Act} {w:World} {Q:Exit->Act->World->Prop} (aa:o.guard=none) (s x:Operand)
  (ho:o.op=.call { callee:=.builtin .append,args:=#[s,x],argTypes:=#[48,48] }) {B:Nat} {v:Value} {l:List Pt} {p:Pt} {F:Option Addr} {G Bd:Nat} (I:PaOwn w B v l) (hp:IOwn w Bd (.slice F p.dev.length G) p.dev) (hB:B<=w.heap.size) (hs:a.eval s=v) {g:Nat} (hx:a.eval x=.slice (some ⟨g,0,none⟩) 1 1) (hg:g=w.heap.size) (hn:l.length<1000000)
  {V:ByteArray} {k:Nat} {z0 Z z2:Int} (e0:V=p.name) (e1:k=p.dev.length) (e2:z0=p.l0) (e3:Z=p.l1) (e4:z2=p.l2)
  (h:∀O w',Hu (PaOwn w' B O (l++[p]))->Hu (O.ownBlock=v.ownBlock/\(w.alloc (.cells #[.string V,.slice F k G,.int .i64 z0,.int .i64 Z,.int .i64 z2] 72)).grownBy w' v.ownBlock\/O.ownBlock=some (w.alloc (.cells #[.string V,.slice F k G,.int .i64 z0,.int .i64 Z,.int .i64 z2] 72)).heap.size/\(w.alloc (.cells #[.string V,.slice F k G,.int .i64 z0,.int .i64 Z,.int .i64 z2] 72)).grownBy w' none)->wpList prog Y Q rest (a.put o.dst O) w') :
  wpList prog Y Q (o :: rest) a (w.alloc (.cells #[.string V,.slice F k G,.int .i64 z0,.int .i64 Z,.int .i64 z2] 72)):=by
 subst hg e0 e1 e2 e3 e4;have J:Below w.heap.size w (w.alloc (.cells #[.string p.name,.slice F p.dev.length G,.int .i64 p.l0,.int .i64 p.l1,.int .i64 p.l2] 72)):=qbN qB qN;obtain⟨ah,af,_⟩:=I.below J;have hg:=qM w (.cells #[.string p.name,.slice F p.dev.length G,.int .i64 p.l0,.int .i64 p.l1,.int .i64 p.l2] 72) _ rfl;have H:∀u∈[Value.string p.name,.slice F p.dev.length G,.int .i64 p.l0,.int .i64 p.l1,.int .i64 p.l2],u.oneCell'=true:=fun u hu=>by
  simp only [qaz,List.not_mem_nil,or_false] at hu;rcases hu with rfl | rfl | rfl | rfl | rfl <;> rfl
 have U:B<=(w.alloc (.cells #[.string p.name,.slice F p.dev.length G,.int .i64 p.l0,.int .i64 p.l1,.int .i64 p.l2] 72)).heap.size:=by simp only [qaa];omega
 obtain⟨O,w',hr,h1,h2⟩:=qiD o.type af U hg H hn (c:=1);refine qdr aa s x _ ho hs hx hr (h O w' (qH (PaOwn.push I J (hp.below J) (fun vs ag=>?_) h2)) (qH h2));obtain⟨v2,w2,ae,h3,_⟩:=qiD o.type ag U hg H hn (c:=1);rw [ae] at hr;cases hr;exact h3
theorem qjl (O:Nat) (L:List (List Int)) (ao:Option Addr) (b ak c:Nat) (w:World) (hl:L.length<=9223372036854775807) (hP:PRws w ao b ak L) :
  Calls prog 19 #[.agg #[.int .u8 (O:Int),.slice ao L.length c]] w fun e w'=>∃u,e=.returned u/\(∃B,w.heap.size<=B/\PaOwn w' B u (ptsD (1+O % 4) L))/\Below w.heap.size w w':=by
 obtain⟨G,ax,N1⟩:=nw1 w #[.int .u8 (O:Int),.slice ao L.length c] 43;have Y:=N1.also (q:=fun W=>PRws W ao b ak L) (hP.below N1.o.1);have k0:=qC _ _ 0 _ _ _ N1.o.2;have aA:(O:Int) % 4=((O % 4:Nat):Int):=by omega
 obtain⟨x,hx⟩:=qX (O % 4);have aO:x<4:=by omega
 rw [hx];rw [hx] at aA;have HL:=qH hl;clear N1 hP hx hl;go_enter func19,ntmps19;go_upto_region 1 with fail;rw [<-ax];clear ax;go_wp2_with fail;clear k0 aA;obtain⟨n,hn⟩:=qX (1+x);have aB:(1:Int)+(x:Int)=(n:Int):=by omega
 rw [aB];have V:=qH (qA hn (show 1<=n/\n<=4 by omega));have H0:Hu (PaOwn G G.heap.size (.slice none 0 0) (ptsK n 0 L)):=qH (PaOwn.nil _ _);clear aB hn aO
 go_loopw [4,5] (fun x4 x5 W=>∃i:Nat,x5=.int .i64 (i:Int)/\i<=12/\i<=L.length/\Hu (PaOwn W G.heap.size x4 (ptsK n i L))/\Hu (Below G.heap.size G W)) (fun _ x5 _=>12-(intOf x5).toNat)
 case atStart=>exact⟨0,rfl,qam _,qam _,H0,qH qB⟩
 case round =>
  obtain⟨i,rfl,aP,aR,J,hB⟩:=hrel;have Z:=Y.below hB.o;have I:=hB;obtain⟨va,vc,aN⟩:=J.o.shape (qhJ n i L);subst aN;have c1:=qC _ _ 1 _ _ _ Z.o.1.2;clear hB
  by_cases F:i<L.length/\i<12
  ·obtain⟨ai,ay⟩:=F;have ah:(i:Int)<(L.length:Int):=by omega
   have aQ:(i:Int)<12:=by omega
   have HP:=qH (one_any O L ao b ak c i n wr ai ay V.o.2.1 V.o.2.2 HL.o Z.o.2)
   go_wp2_with ((with_reducible refine lW_ rfl 43 _ rfl (w.heap.size) #[.int .u8 (O:Int),.slice ao L.length c] Z.o.1.2 underlying43 2 ?_))
   refine HP.o.mono ?_;rintro e w3 ⟨u,rfl,⟨Bd,da,dc,rfl,ag⟩,af⟩;rw [qd3] at ag ⊢;have HD:=qH ag;have aJ:=qH (J.o.below af);have au:=qH (I.o.trans (af.mono I.o.size));have aK:G.heap.size<=w3.heap.size:=au.o.size;have aG:∀q,(Value.slice va i vc).ownBlock=some q->G.heap.size<=q:=fun q hq=>by obtain⟨vs,h1,_⟩:=J.o;exact (h1.lt q hq).1
   have HQ:=qH aG;have aM:(ptsK n i L).length<1000000:=by rw [qhJ];omega
   obtain⟨nm,l0,l1,l2,e0,e1,e2,e3⟩:∃nm l0 l1 l2,(ptD n i (L.getD i [])).name=nm/\(ptD n i (L.getD i [])).l0=l0/\(ptD n i (L.getD i [])).l1=l1/\(ptD n i (L.getD i [])).l2=l2:=⟨_,_,_,_,rfl,rfl,rfl,rfl⟩;rw [e0,e1,e2,e3];have HE:=qH (qA e0 (qA e1 (qA e2 e3)));clear ag af e0 e1 e2 e3 HP c1 Z J I aG
   go_wp2_with (first | (at_builtin;refine qcP rfl _ _ rfl (p:=ptD n i (L.getD i [])) (Bd:=Bd) aJ.o (by rw [qd3];exact HD.o) aK rfl rfl rfl aM HE.o.1.symm (qd3 _ _ _).symm HE.o.2.1.symm HE.o.2.2.1.symm HE.o.2.2.2.symm ?_;intro v' w' aC az;obtain⟨aU,aV,aF⟩:=(Hu.o aC).shape (m:=i+1) (by rw [qae,qhJ];rfl);subst aF;have aI:Hu (Below G.heap.size G w'):=qH (qc7 (B:=G.heap.size) (qbN au.o qN) HQ.o (by simp only [qaa];omega) az.o);clear az) | fail)
   go_roundw
   case rel=>exact⟨i+1,by go_num,by omega,ai,by rw [qmy];exact aC,aI⟩
   case measure=>simp [intOf];omega
  ·by_cases av:L.length=0
   ·obtain rfl:i=0:=by omega
    have ah:¬(0:Int)<(L.length:Int):=by omega
    have e:ptsD n L=[ptE n]:=by unfold ptsD;rw [if_pos av]
    have aT:=fun W=>qhC n (by have:=V.o.2;omega) W
    obtain⟨W7,aa,N7⟩:=nw1 wr (madeCells #[.int .i64 0] n) 3;obtain⟨W8,ae,N8⟩:=nw1 W7 #[.string ⟨#[112]⟩,.slice (some ⟨wr.heap.size,0,none⟩) n n,.int .i64 0,.int .i64 0,.int .i64 0] 72;have aH:=zkeep N8.o.1 _ _ N7.o.2;have ho:=qgD aH (B:=wr.heap.size) qN (by have:=V.o.2;omega);have aD:W7.heap.size=wr.heap.size+1:=by rw [aa];simp
    have aj:PaOwn W8 G.heap.size (.slice (some ⟨W7.heap.size,0,none⟩) 1 1) (ptsD n L):=by
     rw [e];refine⟨[.string ⟨#[112]⟩,.slice (some ⟨wr.heap.size,0,none⟩) n n,.int .i64 0,.int .i64 0,.int .i64 0],⟨rfl,.inr ⟨W7.heap.size,1,_,rfl,qaj I.o.size N7.o.1.size,N8.o.2,qaf _,by decide,rfl,rfl⟩⟩,fun j hj=>?_⟩;obtain rfl:j=0:=by have:j<1:=hj;omega
     have hl:(ptE n).dev.length=n:=qa5;exact⟨wr.heap.size,some ⟨wr.heap.size,0,none⟩,n,⟨rfl,by show _=some (Value.slice _ (ptE n).dev.length n);rw [hl];rfl,rfl,rfl,rfl⟩,by show IOwn W8 _ (.slice _ (ptE n).dev.length n) (ptE n).dev;rw [hl];exact ho⟩
    rw [aD] at aj;have U:=qH (qA aj (Y.o.1.1.trans ((I.o.trans ((N7.o.1.trans (N8.o.1.mono N7.o.1.size)).mono I.o.size)).mono Y.o.1.1.size)));have HW:=qH (show w.heap.size<=G.heap.size from Y.o.1.1.size);rw [aa] at ae;clear N7 N8 aH ho aD aj e Z J I F aa;go_wp2_with fail;rw [<-ae];clear ae;go_ret;exact⟨_,rfl,⟨G.heap.size,HW.o,by rw [V.o.1];exact U.o.1⟩,U.o.2⟩
   ·have H:i=min L.length 12:=by omega
    have e:ptsK n i L=ptsD n L:=by unfold ptsD ptsK;rw [if_neg av,H]
    have aL:¬(i:Int)=0:=by omega
    have aS:((i:Int) == 0)=false:=by rw [beq_eq_false_iff_ne];exact aL
    rw [e] at J;have U:=qH (qA J.o (Y.o.1.1.trans (I.o.mono Y.o.1.1.size)));have HW:=qH (show w.heap.size<=G.heap.size from Y.o.1.1.size)
    by_cases ai:i<L.length
    ·have ah:(i:Int)<(L.length:Int):=by omega
     have ay:¬(i:Int)<12:=by omega
     clear e H Z J I F;go_wp2;go_ret;exact⟨_,rfl,⟨G.heap.size,HW.o,by rw [V.o.1];exact U.o.1⟩,U.o.2⟩
    ·have ah:¬(i:Int)<(L.length:Int):=by omega
     clear e H Z J I F;go_wp2;go_ret;exact⟨_,rfl,⟨G.heap.size,HW.o,by rw [V.o.1];exact U.o.1⟩,U.o.2⟩
def PdAt (W:World) (v:Value) (H:Nat) (L:List (List Int)):Prop:=∃(G:Option Addr) (b F c:Nat),v=.agg #[.int .u8 (H:Int),.slice G L.length c]/\H<256/\L.length<=9223372036854775807/\PRws W G b F L
open Go.ChangeShapes Go.WideShapes Go.ChangeAt Go.Deep
theorem wf_u8 {z:Int} (h:(Lit.int .u8 z).wf=true):∃n:Nat,z=(n:Int)/\n<256:=by
 have F:0<=z/\z<=255:=by simpa [Lit.wf,IntKind.min,IntKind.max,IntKind.signed,IntKind.bits] using h
 exact⟨z.toNat,by omega,by omega⟩
section
variable {H:Type} {enc:TypeId×Value->H} {w:World} {sp:Nat->Bool} {held:Bool} {fuel:Nat} {v:Value} {x:DataW H×List MemPlace}
theorem qmM {a:Addr} {u:Value} (h:w.cell? (a.add 0)=some u):a=⟨a.block,a.off,none⟩:=by
 obtain⟨b,off,s⟩:=a;have:=World.cell?_spot h;have e:s=none:=by simpa [Addr.add] using this
 rw [e]
theorem open_u8 {r:DataW H×List MemPlace} (h:DataW.trod enc prog w 0 sp held fuel 5 [v]=some r):∃n:Nat,v=.int .u8 (n:Int)/\n<256:=by
 obtain⟨z,e,_,F⟩:=DataW.trod_int underlying5 h;have this:0<=z/\z<=255:=by simpa [Lit.wf,IntKind.min,IntKind.max,IntKind.signed,IntKind.bits] using F
 refine⟨z.toNat,?_,by omega⟩;rw [Int.toNat_of_nonneg this.1];injection e
theorem c7A:Tryz.prog.cellsOf 153=7:=by kernel_rfl
theorem c1I:Tryz.prog.cellsOf 152=1:=by kernel_rfl
theorem qmr {cs:List Value} (h:DataW.trod enc prog w 0 sp held fuel 153 cs=some x) {a:Addr} (hc:w.cells? 0 a 7=some cs) (I:a.spot=none) :
  ∃J:List Int,(∀j,j<7->w.cell? ⟨a.block,a.off+j,none⟩=some (.int .i16 (J.getD j 0)))/\∀j,-32768<=J.getD j 0/\J.getD j 0<=32767:=by
 obtain⟨_,aa,G⟩:=World.cells?_some hc;obtain⟨xs,n,_,_,_,ae,hf⟩:=DataW.trod_array underlying153 h;obtain⟨ab,ao,asp⟩:=a;have I:asp=none:=I;subst I;have H:∀i,i<7->∃z:Int,w.cell? ⟨ab,ao+i,none⟩=some (.int .i16 z)/\-32768<=z/\z<=32767:=fun i Z=>by
  have O:=hf i Z;rw [c1I,qbI,List.drop_eq_getElem_cons (by omega),qad (show i<xs.length by omega)] at O;obtain⟨z,e1,_,hw⟩:=DataW.trod_int underlying152 O;have e2:cs[i]'(by omega)=Value.int .i16 z:=(List.cons.inj (show [cs[i]'(by omega)]=[Value.int .i16 z] from e1)).1;have U:=G i Z;rw [Addr.add_mid,qad (by omega),e2] at U;have h2:-32768<=z/\z<=32767:=by simpa [Lit.wf,IntKind.min,IntKind.max,IntKind.signed,IntKind.bits] using hw
  exact⟨z,U,h2⟩
 obtain⟨Y,V⟩:=choose_lt H;have hg:∀j,j<7->((List.range 7).map Y).getD j 0=Y j:=fun j F=>by
  rw [qab,qaL,qby F];rfl
 refine⟨(List.range 7).map Y,fun j F=>by rw [hg j F];exact (V j F).1,fun j=>?_⟩;rcases qaT j 7 with F | F
 ·rw [hg j F];exact (V j F).2
 ·rw [qab,qaX (by simpa using F)];exact⟨by decide,by decide⟩
theorem qkO (h:DataW.trod enc prog w 0 sp held fuel 41 [v]=some x):∃(a:Option Addr) (b off c:Nat) (L:List (List Int)),v=.slice a L.length c/\L.length<=maxLen/\PRws w a b off L:=by
 rcases open_slice underlying41 h with ⟨I,_⟩ | ⟨a,len,cap,m,n,D,Pl,I,_,hl,hm,aa,_,hx⟩
 ·exact⟨none,0,0,0,[],by injection I,by decide,⟨fun h=>absurd h (by decide),fun k h=>absurd h (by simp),fun k j=>by simp⟩⟩
 ·have af:len<=m:=by rw [aa];split <;> omega
  have V:0<len->a=⟨a.block,a.off,none⟩:=fun Z=>by
   obtain⟨cs',J,_⟩:=hx 0 (by omega);rw [c7A] at J;obtain⟨_,ae,H⟩:=World.cells?_some J;have h3:=H 0 (by decide);rw [add_add] at h3;have h4:w.cell? (a.add 0)=cs'[0]?:=h3;rw [qad (by omega)] at h4;exact qmM h4
  have O:∀i,i<len->∃zs:List Int,(∀j,j<7->w.cell? ⟨a.block,a.off+i*7+j,none⟩=some (.int .i16 (zs.getD j 0)))/\∀j,-32768<=zs.getD j 0/\zs.getD j 0<=32767:=fun i hi=>by
   obtain⟨cs',J,h2⟩:=hx i (by omega);rw [c7A] at J;have ha:=V (by omega);have U:a.add (i*7)=⟨a.block,a.off+i*7,none⟩:=by rw [ha,Addr.add_mid]
   rw [U] at J;exact qmr h2 J rfl
  obtain⟨Y,hY⟩:=choose_lt O;have hg:∀k,k<len->((List.range len).map Y).getD k []=Y k:=fun k G=>by
   rw [qab,qaL,qby G];rfl
  have F:((List.range len).map Y).length=len:=by rw [qay,qbl]
  refine⟨some a,a.block,a.off,cap,(List.range len).map Y,by rw [F];injection I,by rw [F];omega,⟨fun Z=>?_,fun k G=>?_,fun k j=>?_⟩⟩
  ·rw [F] at Z;exact congrArg some (V Z)
  ·rw [F] at G;rw [hg k G];exact (hY k G).1
  ·rcases qaT k len with G | G
   ·rw [hg k G];exact (hY k G).2 j
   ·have e:((List.range len).map Y).getD k []=[]:=by rw [qab,qaX (by rw [F];exact G)];rfl
    rw [e];simp
theorem open_pd {r:Reach} {I:Nat} {d:DataW H} {p:List MemPlace} (V:Value.okWide prog w r I 43 v) (h:DataW.Trod enc prog w 0 sp held 43 v d p) :
  ∃(F:Nat) (L:List (List Int)),PdAt w v F L:=by
 obtain⟨v0,Y,y0,y1,n,rfl,rfl,rfl,J,O⟩:=Joins.open_agg2 underlying43 (by kernel_rfl) (by kernel_rfl) V h;obtain⟨F,rfl,G⟩:=open_u8 J;obtain⟨a,b,off,c,L,rfl,U,hC⟩:=qkO O;unfold maxLen at U;exact⟨F,L,a,b,off,c,rfl,G,by omega,hC⟩
end
end Go.Proofs.YtjalhnlhcdfncaaGreatDoor
namespace Go.Proofs.YtjalhnlhcdfncaaGreatDoor
def Ord {α:Type} (lt:α->α->Prop) (l:List α):Prop:=l.Pairwise fun a b=>¬lt b a
theorem ord_last {α:Type} {lt:α->α->Prop} {A:List α} {y x:α} (H:∀a b c,lt a b->¬lt c b->lt a c) (h:Ord lt (A++[y])) (I:¬lt x y):∀a∈A++[y],¬lt x a:=fun a G F=>by
 rcases qaH.1 G with G | G
 ·have:=(List.pairwise_append.1 h).2.2 a G y (qao.2 rfl);exact I (H x a y F this)
 ·rw [qao.1 G] at F;exact I F
section
variable {α:Type} (lt:α->α->Prop) [DecidableRel lt]
def insR (x:α):List α->List α
 | []=>[x]
 | y :: ys=>if lt x y then x :: y :: ys else y :: insR x ys
def isort (l:List α):List α:=l.foldl (fun F x=>insR lt x F) []
theorem qep (l:List α) (x:α):isort lt (l++[x])=insR lt x (isort lt l):=by unfold isort;rw [List.foldl_append];rfl
variable {lt}
theorem qe3 (x:α):∀l:List α,(insR lt x l).Perm (x :: l)
 | []=>List.Perm.refl _
 | y :: ys=>by
  unfold insR;split
  ·exact List.Perm.refl _
  ·exact ((qe3 x ys).cons y).trans (List.Perm.swap x y ys)
theorem qdm (l:List α):(isort lt l).Perm l:=by
 have G:∀(l F:List α),(l.foldl (fun F x=>insR lt x F) F).Perm (l++F):=by
  intro l
  induction l with
  | nil=>exact fun F=>List.Perm.refl _
  | cons x l ih=>exact fun F=>(ih _).trans ((List.Perm.append_left l (qe3 x F)).trans List.perm_middle)
 have:=G l []
 rwa [qbB] at this
theorem qf5 (l:List α):(isort lt l).length=l.length:=(qdm l).length_eq
theorem qgV (x:α):∀(A B:List α),(∀a∈A,¬lt x a)->(∀b∈B,lt x b)->insR lt x (A++B)=A++x :: B
 | [],[],_,_=>rfl
 | [],b :: B,_,hB=>by show insR lt x (b :: B)=_;unfold insR;rw [if_pos (hB b (qa7 ..))];rfl
 | a :: A,B,F,hB=>by
  show insR lt x (a :: (A++B))=_
  unfold insR;rw [if_neg (F a (qa7 ..)),qgV x A B (fun c G=>F c (qbn _ G)) hB];rfl
theorem qjM (I:∀a b c,lt a b->¬lt c b->lt a c) (G:∀a b,lt a b->¬lt b a) (x:α):∀{l:List α},Ord lt l->Ord lt (insR lt x l)
 | [],_=>List.pairwise_singleton _ _
 | y :: ys,h=>by
  obtain⟨J,O⟩:=qbC.1 h;unfold insR;split
  ·rename_i F;refine qbC.2 ⟨fun b H=>?_,h⟩;rcases qaz.1 H with rfl | H
   ·exact G _ _ F
   ·exact G _ _ (I x y b F (J b H))
  ·rename_i F;refine qbC.2 ⟨fun b H=>?_,qjM I G x O⟩;rcases qaz.1 ((qe3 x ys).mem_iff.1 H) with rfl | H
   ·exact F
   ·exact J b H
theorem qh9 (H:∀a b c,lt a b->¬lt c b->lt a c) (G:∀a b,lt a b->¬lt b a) (l:List α):Ord lt (isort lt l):=by
 have I:∀(l F:List α),Ord lt F->Ord lt (l.foldl (fun F x=>insR lt x F) F):=by
  intro l
  induction l with
  | nil=>exact fun F h=>h
  | cons x l ih=>exact fun F h=>ih _ (qjM H G x h)
 exact I l [] List.Pairwise.nil
end
def Stab (F:Nat->Rat) (l:List Nat):Prop:=l.Pairwise fun a b=>F a<F b\/(F a=F b/\a<b)
theorem qh5 (F:Nat->Rat) (x:Nat):∀{l:List Nat},(∀a∈l,a<x)->Stab F l->Stab F (insR (fun a b=>F a<F b) x l)
 | [],_,_=>List.pairwise_singleton _ _
 | y :: ys,J,h=>by
  obtain⟨I,O⟩:=qbC.1 h;unfold insR;split
  ·rename_i H;refine qbC.2 ⟨fun b G=>?_,h⟩;rcases qaz.1 G with rfl | G
   ·exact .inl H
   ·rcases I b G with e | ⟨e,_⟩
    ·exact .inl (by grind)
    ·exact .inl (by grind)
  ·rename_i H;refine qbC.2 ⟨fun b G=>?_,qh5 F x (fun a U=>J a (qbn _ U)) O⟩;rcases qaz.1 ((qe3 x ys).mem_iff.1 G) with rfl | G
   ·have:=J y (qa7 ..)
    by_cases e:F y=F b
    ·exact .inr ⟨e,this⟩
    ·exact .inl (by grind)
   ·exact I b G
theorem qgW (F:Nat->Rat):∀n,Stab F (isort (fun a b=>F a<F b) (List.range n))
 | 0=>List.Pairwise.nil
 | n+1=>by
  rw [List.range_succ,qep];refine qh5 F n (fun a G=>?_) (qgW F n);exact qat.1 ((qdm _).mem_iff.1 G)
def sumL (s:Nat->Rat):List Nat->Rat
 | []=>0
 | a :: l=>s a+sumL s l
theorem qiH {s:Nat->Rat} {l F:List Nat} (h:l.Perm F):sumL s l=sumL s F:=by
 induction h with
 | nil=>rfl
 | cons x _ ih=>show _+_=_+_;rw [ih]
 | swap x y l=>show s y+(s x+sumL s l)=s x+(s y+sumL s l);grind
 | trans _ _ h1 h2=>exact h1.trans h2
theorem qjq (s:Nat->Rat) (l F:List Nat):sumL s (l++F)=sumL s l+sumL s F:=by
 induction l with
 | nil=>show _=0+_;grind
 | cons a l ih=>show s a+sumL s (l++F)=s a+sumL s l+sumL s F;rw [ih];grind
theorem qhi {s:Nat->Rat} {a:Nat}:∀{l:List Nat} {k:Nat},(∀b∈l,s a<=s b)->l.Pairwise (fun x y=>s x<=s y)->k<l.length->s a+sumL s (l.take k)<=sumL s (l.take (k+1))
 | b :: l,0,h,_,_=>by
  show s a+0<=s b+sumL s (l.take 0)
  have:=h b (qa7 ..)
  show s a+0<=s b+0
  grind
 | b :: l,k+1,h,I,hk=>by
  obtain⟨F,G⟩:=qbC.1 I;have:=qhi (a:=b) (l:=l) (k:=k) F G (by simpa using hk);have H:=h b (qa7 ..)
  show s a+(s b+sumL s (l.take k))<=s b+sumL s (l.take (k+1))
  grind
theorem qf8 {s:Nat->Rat}:∀{o K:List Nat},o.Pairwise (fun x y=>s x<=s y)->(∃F:List Nat,F.Perm K/\F.Sublist o)->sumL s (o.take K.length)<=sumL s K
 | [],K,_,h=>by
  obtain⟨F,O,G⟩:=h;have e:F=[]:=List.sublist_nil.1 G;subst e;have U:K=[]:=List.Perm.eq_nil O.symm;subst U;exact Rat.le_refl
 | a :: o,K,O,h=>by
  obtain⟨V,J⟩:=qbC.1 O;obtain⟨F,I,G⟩:=h;have Y:=I.length_eq;rw [<-qiH I,<-Y];cases G with
  | cons _ G =>
   cases F with
   | nil=>exact Rat.le_refl
   | cons b F =>
    have ih:=qf8 (o:=o) (K:=b :: F) J ⟨b :: F,List.Perm.refl _,G⟩;have H:(b :: F).length<=o.length:=G.length_le;have Z:=qhi (a:=a) (l:=o) (k:=F.length) V J (by have:F.length+1<=o.length:=H;omega)
    show s a+sumL s (o.take F.length)<=_
    have e:(b :: F).length=F.length+1:=rfl;rw [e] at ih
    grind
  | cons_cons _ G =>
   rename_i F;have ih:=qf8 (o:=o) (K:=F) J ⟨F,List.Perm.refl _,G⟩
   show s a+sumL s (o.take F.length)<=s a+sumL s F
   grind
