import Derived.Test.YtplkdeknjghobaaGreatDoorBb27
set_option maxRecDepth 100000
set_option maxHeartbeats 0
namespace Go.Proofs.YtplkdeknjghobaaGreatDoor
open Go.RowKit
def eOne (z:Int):Rat:=(z:Rat) / ((1:Int):Rat)
theorem eOne_cd (z:Int):Cd (eOne z) 1 z.natAbs:=⟨z,rfl,qae _⟩
theorem eOne_eq (z:Int):eOne z=(z:Rat):=by unfold eOne;rw [show ((1:Int):Rat)=1 from rfl];grind
theorem rb_cd {q:Rat} {N:Nat} (h:Rb q N):Cd q q.den N:=⟨q.num,by
 have e:=Rat.num_divInt_den q;rw [Rat.divInt_eq_div,Rat.intCast_natCast] at e;exact e.symm,h.1⟩
def rr (l:List Pt) (k:Nat) (x:Nat->Nat->Rat) (c i:Nat):Rat:=sumQ (many k (chans l)) (fun j=>tqf l k i j*x c j)-labq l c i
def RN:Nat:=10*(512*PB)*100+12800*(512*QB)
theorem rr_cd {l:List Pt} (h:PtsOk l) (Y:qef l) {k:Nat} (O:1<=k/\k<=3) (H:¬(k=3/\chans l=4)) {x:Nat->Nat->Rat} {D:Nat} (F:D≠0) (Z:D<=QB) (hx:∀c,c<3->∀i,i<many k (chans l)->Cd (x c i) D PB) {c i:Nat} (hc:c<3) (J:i<l.length):Cd (rr l k x c i) (512*D*100) RN:=by
 have hM:many k (chans l)<=10:=(qe7 (kind:=k) ⟨rfl,O⟩ h.n1 h.n4 H).2;have U:Cd (sumQ (many k (chans l)) (fun j=>tqf l k i j*x c j)) (512*D) (many k (chans l)*(512*PB)):=Cd.sum fun j hj=>(h.term_cd Y O H J j).mul (hx c hc j hj) (by decide) F
 have V:=(U.mono (qaH _ hM)).up 100 (qbo (by decide) F) (by decide);have I:=(h.lab_cd c J).up (512*D) (by decide) (qbo (by decide) F);rw [qat 100] at I;unfold rr RN;exact (V.sub I).mono (Nat.add_le_add_left (qaC _ (qaC _ Z)) _)
theorem qk4 {l:List Pt} (h:PtsOk l) (h8:qef l) {k:Nat} (hk:1<=k/\k<=3) (Y:¬(k=3/\chans l=4)) {J:List Int} (hw:W9 J l.length) {c:Nat} (hc:c<3) {x:Nat->Rat} (hs:¬Sing (many k (chans l)) (nq l k J 0)) (hx:FitX l k J c x):qb2 (many k (chans l)) x:=by
 obtain⟨n,I⟩:=qX (many k (chans l));have V:n<=10:=by rw [<-I];exact (qe7 (kind:=k) ⟨rfl,hk⟩ h.n1 h.n4 Y).2
 have hE:∀r j,∃a:Int,r<n->fitE l k J r (if j<n then j else n+c)=(a:Rat) / (fitS:Rat)/\a.natAbs<=fitB:=fun r j=>by
  by_cases U:r<n
  ·obtain⟨a,e,ha⟩:=qmi h h8 hk Y hw (c:=if j<n then j else n+c) (by rw [I];exact U);exact⟨a,fun _=>⟨e,ha⟩⟩
  ·exact⟨0,fun h=>absurd h U⟩
 obtain⟨A,hA⟩:∃A:Nat->Nat->Int,∀r j,r<n->fitE l k J r (if j<n then j else n+c)=(A r j:Rat) / (fitS:Rat)/\(A r j).natAbs<=fitB:=⟨fun r j=>(hE r j).choose,fun r j=>(hE r j).choose_spec⟩;have hS:(fitS:Rat)≠0:=qeG (by decide);have H:∀r j,r<n->castM A r j=(fitS:Rat)*fitE l k J r (if j<n then j else n+c):=fun r j U=>by
  rw [(hA r j U).1]
  show (A r j:Rat)=_
  generalize (fitS:Rat)=S at *
  grind
 have hl:∀r j,r<n->j<n->castM A r j=(fitS:Rat)*nq l k J 0 r j:=fun r j U O=>by
  rw [H r j U,if_pos O];unfold fitE;rw [I,if_pos O]
 have aa:¬Sing n (castM A):=fun ae=>hs (by
  rw [I];obtain⟨y,hy,h0⟩:=ae;refine⟨y,hy,fun i F=>?_⟩;have:=h0 i F;rw [qbX fun j O=>show castM A i j*y j=(fitS:Rat)*(nq l k J 0 i j*y j) by rw [hl i j F O,Rat.mul_assoc],qcb] at this;rcases Rat.mul_eq_zero.1 this with e | e
  ·exact absurd e hS
  ·exact e)
 obtain⟨q,p,hq,Z,hp⟩:=qje (R:=n) (m:=1) (B:=fitB) (A:=A) (x:=fun _=>x) (by decide) (fun i j F _=>(hA i j F).2) aa fun c' af i F=>by
  obtain rfl:c'=0:=by omega
  have hx:=hx i (by rw [I];exact F);rw [I] at hx;rw [qbX fun j O=>show castM A i j*x j=(fitS:Rat)*(nq l k J c i j*x j) by rw [hl i j F O,qm7 (c:=0) (c':=c) (by rw [I];exact F) (by rw [I];exact O),Rat.mul_assoc],qcb,hx]
  show (fitS:Rat)*nq l k J c i n=castM A i (n+0)
  rw [H i (n+0) F,if_neg (by omega)];unfold fitE;rw [I,if_neg (by omega),Nat.add_sub_cancel_left]
 intro i F;rw [I] at F;obtain⟨e,hb⟩:=hp 0 (by decide) i F;have hb:(p 0 i).natAbs<=PB:=qaj hb (qeL (by omega));have ag:q.natAbs<=QB:=qaj Z (qeL V);exact qdk (N:=PB+QB) (qgX hq (by omega) (by omega) e) (by have Y:PB+QB<10 ^ 600:=(by decide +kernel);exact Y)
theorem term12 {k:Nat} (H:k=1\/k=2) (d:List Int) {j:Nat} (F:j<d.length):termQ k d (j+1)=dq d j:=by
 unfold termQ termL;rcases H with rfl | rfl
 ·rw [if_pos rfl,List.getD_cons_succ,qaa,qay,qbb F];rfl
 ·rw [if_neg (by decide),if_pos rfl,List.cons_append,List.getD_cons_succ,qaa,qas (by rw [qav,qbx];exact F),qay,qbb F];rfl
theorem qlD {n m:Nat} {f:Nat->Rat} (I:n<=m) (h:∀j,n<=j->j<m->f j=0):sumQ m f=sumQ n f:=by
 induction m with
 | zero=>have e:n=0:=(by omega);subst e;rfl
 | succ m ih =>
  by_cases e:n=m+1
  ·rw [e]
  ·rw [show sumQ (m+1) f=sumQ m f+f m from rfl,ih (by omega) fun j F H=>h j F (by omega),h m (by omega) (by omega)];grind
theorem sqq_rr {l:List Pt} {k i:Nat} {X:Nat->Nat->Rat}:sqq (mdq k (chans l) (many k (chans l)) X) l k i=sumQ 3 fun c=>rr l k X c i*rr l k X c i:=by
 unfold sqq msR;refine qbX fun c F=>?_
 have e:resR (many k (chans l)) (fun q=>lval ((mdq k (chans l) (many k (chans l)) X).row q)) (fun q=>labq l q i) (tqf l k i) c=rr l k X c i:=by
  unfold resR rr;rw [qbX fun j H=>show lval ((mdq k (chans l) (many k (chans l)) X).row c) j*tqf l k i j=tqf l k i j*X c j by rw [qeo F,qcU H];exact Rat.mul_comm _ _]
 rw [e];grind
def csum (f:Nat->Rat) (F:List Int):Nat->Rat
 | 0=>0
 | k+1=>csum f F k+f k*eOne (F.getD k 0)
theorem rr_cdg {l:List Pt} (h:PtsOk l) (Y:qef l) {k:Nat} (O:1<=k/\k<=3) (H:¬(k=3/\chans l=4)) {x:Nat->Nat->Rat} {D Q P:Nat} (F:D≠0) (Z:D<=Q) (hx:∀c,c<3->∀i,i<many k (chans l)->Cd (x c i) D P) {c i:Nat} (hc:c<3) (J:i<l.length):Cd (rr l k x c i) (512*D*100) (10*(512*P)*100+12800*(512*Q)):=by
 have hM:many k (chans l)<=10:=(qe7 (kind:=k) ⟨rfl,O⟩ h.n1 h.n4 H).2;have U:Cd (sumQ (many k (chans l)) (fun j=>tqf l k i j*x c j)) (512*D) (many k (chans l)*(512*P)):=Cd.sum fun j hj=>(h.term_cd Y O H J j).mul (hx c hc j hj) (by decide) F
 have V:=(U.mono (qaH _ hM)).up 100 (qbo (by decide) F) (by decide);have I:=(h.lab_cd c J).up (512*D) (by decide) (qbo (by decide) F);rw [qat 100] at I;unfold rr;exact (V.sub I).mono (Nat.add_le_add_left (qaC _ (qaC _ Z)) _)
structure CostOk (f:Nat->Rat) (ws:List Int) (n:Nat):Prop where
 sq:qb2 n f
 one:∀i,i<n->Short (eOne (ws.getD i 0))
 pr:∀i,i<n->Short (f i*eOne (ws.getD i 0))
 cs:∀i,i<=n->Short (csum f ws i)
theorem qjw (f:Nat->Rat) (F:List Int):∀n,csum f F n=sumQ n fun i=>f i*eOne (F.getD i 0)
 | 0=>rfl
 | n+1=>by show csum f F n+_=sumQ n _+_;rw [qjw f F n]
theorem qke {l:List Pt} {k:Nat} {O:List Int} {X:Nat->Nat->Rat} {D N E M:Nat} (h8:l.length<=12) (hw:W9 O l.length) (U:D≠0) (hE:D<=E) (hM:N<=M) (hr:∀c i,c<3->i<l.length->Cd (rr l k X c i) D N) (b1:E*E<10 ^ 600) (b2:12*(3*(M*M)*9)<10 ^ 600):CostOk (sqq (mdq k (chans l) (many k (chans l)) X) l k) O l.length:=by
 have H:D*D≠0:=qbo U U;have J:D*D<10 ^ 600:=qaL (Nat.mul_le_mul hE hE) b1;have Z:∀i,i<l.length->Cd (sqq (mdq k (chans l) (many k (chans l)) X) l k i) (D*D) (3*(M*M)):=fun i F=>by
  rw [sqq_rr];exact Cd.sum fun c hc=>((hr c i hc F).mono hM).mul ((hr c i hc F).mono hM) U U
 have I:∀i,i<l.length->Cd (eOne (O.getD i 0)) 1 9:=fun i F=>(eOne_cd _).mono (by have:=hw i F;omega)
 have h2:∀i,i<l.length->Cd (sqq (mdq k (chans l) (many k (chans l)) X) l k i*eOne (O.getD i 0)) (D*D) (3*(M*M)*9):=fun i F=>by
  have:=(Z i F).mul (I i F) H (by decide)
  rwa [qbO] at this
 have V:3*(M*M)*9<10 ^ 600:=by omega
 have Y:3*(M*M)<10 ^ 600:=by omega
 refine⟨fun i F=>(Z i F).short H Y J,fun i F=>(I i F).short (by decide) (by decide +kernel) (by decide +kernel),fun i F=>(h2 i F).short H V J,fun i F=>?_⟩;rw [qjw];have:=Cd.sum (n:=i) (f:=fun i=>sqq (mdq k (chans l) (many k (chans l)) X) l k i*eOne (O.getD i 0)) fun j hj=>h2 j (by omega)
 exact (this.mono (show i*(3*(M*M)*9)<=12*(3*(M*M)*9) from qaH _ (by omega))).short H b2 J
theorem qkk {l:List Pt} (h:PtsOk l) (I:qef l) {k:Nat} (V:1<=k/\k<=3) (O:¬(k=3/\chans l=4)) {H:List Int} (Y:W9 H l.length) {x:Nat->Nat->Rat} (hs:¬Sing (many k (chans l)) (nq l k H 0)) (hx:∀c,c<3->FitX l k H c (x c)):CostOk (sqq (mdq k (chans l) (many k (chans l)) x) l k) H l.length:=by
 obtain⟨D,F,U,Z⟩:=qmk h I V O Y hs hx;exact qke (E:=512*QB*100) (M:=RN) I.1 Y (qbo (qbo (by decide) F) (by decide)) (qaH _ (qaC _ U)) qN (fun c i J hi=>rr_cd h I V O F U Z J hi) (by decide +kernel) (by decide +kernel)
theorem qhP {l:List Pt} {k:Nat} {F:List Int} {X:Nat->Nat->Rat}:csum (sqq (mdq k (chans l) (many k (chans l)) X) l k) F l.length=sumQ 3 fun c=>msR l.length (many k (chans l)) (tqf l k) (labq l c) (wq F) (X c):=by
 rw [qjw];unfold msR;rw [qdl];refine qbX fun i _=>?_
 rw [sqq_rr,eOne_eq,Rat.mul_comm,<-qcb];exact qbX fun c _=>rfl
theorem qnO:∀{n:Nat} {f g:Nat->Rat},(∀i,i<n->f i<=g i)->sumQ n f<=sumQ n g
 | 0,_,_,_=>Rat.le_refl
 | n+1,f,g,h=>by
  have F:=qnO (n:=n) fun i I=>h i (by omega)
  have H:=h n (by omega)
  show sumQ n f+f n<=sumQ n g+g n
  grind
theorem qiz {l:List Pt} {k:Nat} {F:List Int} {x:Nat->Nat->Rat} (O:W9 F l.length) (J:¬Sing (many k (chans l)) (nq l k F 0)) (hx:∀c,c<3->FitX l k F c (x c)) (Y:Nat->Nat->Rat):csum (sqq (mdq k (chans l) (many k (chans l)) x) l k) F l.length<=csum (sqq (mdq k (chans l) (many k (chans l)) Y) l k) F l.length:=by
 rw [qhP,qhP];refine qnO fun c H=>fit_best (fun i I=>?_) (fun h=>J (qgR h)) (hx c H) (Y c)
 unfold wq;exact Rat.intCast_nonneg.2 (O i I).1
open Go.Proofs.Tryz
theorem cmp_le {p q:Rat} (h:p<=q):cmp3 (p.num*(q.den:Int) + -(q.num*(p.den:Int))) 0<=0:=by
 have F:=(Rat.le_iff p q).1 h;generalize p.num*(q.den:Int)=X at *;generalize q.num*(p.den:Int)=Y at *;unfold cmp3;split
 ·omega
 ·split <;> omega
theorem qlU {p q:Rat} (U:Short p) (V:Short q) (h:p<=q) (w:World) :
  Calls prog 17 #[.agg #[.string (ftxt p).1,.string (ftxt p).2],.agg #[.string (ftxt q).1,.string (ftxt q).2]] w fun e F=>∃c:Int,e=.returned (.tuple #[.int .i64 c,.int .i64 0])/\c<=0/\Below w.heap.size w F:=by
 refine (qkj _ _ _ _ w).mono ?_;rintro e F ⟨⟨_,rfl⟩ | ⟨O,_⟩,J⟩
 ·have H:fval (ftxt p).1.data.toList (ftxt p).2.data.toList=p:=qcN p;have I:fval (ftxt q).1.data.toList (ftxt q).2.data.toList=q:=qcN q;rw [H,I];exact⟨_,rfl,cmp_le h,J⟩
 ·exact absurd ⟨qdh U,qdh V⟩ O
theorem addq {p q:Rat} (I:Short p) (sq:Short q) (J:Short (p+q)) (w:World) (hT:HasT w) :
  Calls prog 27 #[.agg #[.string (ftxt p).1,.string (ftxt p).2],.agg #[.string (ftxt q).1,.string (ftxt q).2]] w fun e F=>e=.returned (.tuple #[.agg #[.string (ftxt (p+q)).1,.string (ftxt (p+q)).2],.int .i64 0])/\Below w.heap.size w F:=by
 refine (fadd_any _ _ _ _ w hT).mono ?_;rintro e F ⟨⟨_,h⟩ | ⟨h,_⟩,H⟩
 ·rw [qcN,qcN] at h;rcases h with ⟨_,h⟩ | ⟨h,_⟩
  ·exact⟨h,H⟩
  ·exact absurd J h
 ·exact absurd ⟨qdh I,qdh sq⟩ h
theorem IOwn.set {W:World} {B:Nat} {H:Option Addr} {n c:Nat} {l:List Int} (h:IOwn W B (.slice H n c) l) {i:Nat} (V:i<l.length) (z:Int):∃g,H=some ⟨g,0,none⟩/\B<=g/\(W.cell? ⟨g,i,none⟩=some (.int .i64 (l.getD i 0))/\W.frozen? ⟨g,i,none⟩=false)/\IOwn (W.setCell ⟨g,i,none⟩ (.int .i64 z)) B (.slice H n c) (l.set i z):=by
 have F:=h;rcases h.2 with ⟨_,h0⟩ | ⟨g,cap,cur,e,O,hg,Z,Y,I,J⟩
 ·omega
 ·injection e with e1 e2 e3;subst e1 e3;have U:=World.ownsRow.cells (g:=g) F rfl i (.int .i64 (l.getD i 0)) (by rw [qay,qad V,qaa,qad V];rfl);rw [Addr.add_mid,qaM] at U;refine⟨g,rfl,O,⟨U,qF _ _ _ _ _ hg⟩,by simp,.inr ⟨g,c,_,by rw [qa6,e2],O,heap_setCell_same _ g i _ _ (.int .i64 z) hg,by rw [qa6];exact Z,Y,by rw [Array.size_setIfInBounds];exact I,?_⟩⟩;rw [qa6,Array.toList_setIfInBounds,List.take_set,J,List.map_set]
structure OwK (w0 W:World):Prop where
 kb:Below w0.heap.size w0 W
 kt:HasT W
 ke:HasE W
theorem OwK.below {H W W':World} (h:OwK H W) (F:Below W.heap.size W W'):OwK H W':=⟨h.kb.trans (F.mono h.kb.size),h.kt.below F,h.ke.below F⟩
theorem qn3 (w0:World) (hT:HasT w0) (hE:HasE w0):Calls prog 11 #[] w0 fun e w'=>e=.returned (.bool true)/\Below w0.heap.size w0 w':=by
 have O:OwK w0 w0:=⟨Below.refl _ _,hT,hE⟩;clear hT hE;go_enter func11,ntmps11;go_wp2_with fail;refine (qiH _ [⟨#[49]⟩,⟨#[49,47,50]⟩,⟨#[49]⟩,⟨#[49,47,50]⟩] 4 rfl).mono ?_;rintro e w1 ⟨bH,rfl,hi,F⟩;have I1:=qH hi;replace O:=O.below F;clear F hi;go_wp2_with fail;refine (ex_tm1 _ O.kt).mono ?_;rintro e w2 ⟨bU,bS,bK,rfl,hf,F⟩;have F1:=qH hf;replace O:=O.below F;replace I1:=qH (I1.o.below F);clear F hf;go_wp2_with fail;refine (qfM (L:=[⟨#[49]⟩,⟨#[49,47,50]⟩,⟨#[49]⟩,⟨#[49,47,50]⟩]) (l:=[(1:Rat),1 / 2,1,1 / 2]) I1.o rfl rfl (by decide) (by simp only [qbv,qbQ,ft_1,ft_12];decide +kernel) (by decide) F1.o).mono ?_;rintro e I ⟨rfl,F⟩;replace O:=O.below F;replace I1:=qH (I1.o.below F);replace F1:=qH (F1.o.below F);clear F I1 F1;go_wp2_with fail;refine (qiH _ [⟨#[49]⟩,⟨#[49,47,50]⟩,⟨#[49,47,52]⟩] 3 rfl).mono ?_;rintro e w4 ⟨bI,rfl,hi,F⟩;have I2:=qH hi;replace O:=O.below F;clear F hi;go_wp2_with fail;refine (ex_tm2 _ O.kt).mono ?_;rintro e w5 ⟨bV,bT,bL,rfl,hf,F⟩;have F2:=qH hf;replace O:=O.below F;replace I2:=qH (I2.o.below F);clear F hf;go_wp2_with fail;refine (qfM (L:=[⟨#[49]⟩,⟨#[49,47,50]⟩,⟨#[49,47,52]⟩]) (l:=[(1:Rat),1 / 2,1 / 4]) I2.o rfl rfl (by decide) (by simp only [qbv,qbQ,ft_1,ft_12,ft_14];decide +kernel) (by decide) F2.o).mono ?_;rintro e w6 ⟨rfl,F⟩;replace O:=O.below F;replace I2:=qH (I2.o.below F);replace F2:=qH (F2.o.below F);clear F I2 F2;go_wp2_with fail;refine (none_any 2 _).mono ?_;rintro e w7 ⟨bJ,rfl,F,hi⟩;have I3:=qH hi;replace O:=O.below F;clear F hi;go_wp2_with fail;refine (ex_tm3 _ O.kt).mono ?_;rintro e w8 ⟨rfl,F⟩;replace O:=O.below F;replace I3:=qH (zkeep F _ _ I3.o);clear F;go_wp2_with fail;refine (qm4 2 _ _ I3.o).mono ?_;rintro e w9 ⟨rfl,hw⟩;subst hw;clear I3;go_wp2_with fail;refine (qgq _).mono ?_;rintro e cB ⟨gP,rfl,hp,F⟩;have P1:=qH hp;replace O:=O.below F;clear F hp;go_wp2_with fail;refine (ex_f1 _ gP 3 P1.o O.kt).mono ?_;rintro e bu ⟨v1,rfl,hm,F⟩;have M1:=qH hm;replace O:=O.below F;replace P1:=qH (P1.o.below F);clear F hm P1;obtain⟨a0,a1,a2,b0,o0,c0,b1,o1,c1,b2,o2,c2,rfl,aI,aJ,aK⟩:=M1.o.lit;clear aI aJ aK;obtain⟨Vm,aS,Nm⟩:=nw1 bu #[.int .i64 1,.int .i64 1,.slice a0 2 c0,.slice a1 2 c1,.slice a2 2 c2] 38;go_upto_region 3 with fail;rw [<-aS];have F:=Nm.o.1;have U:=qH Nm.o.2;clear aS Nm;replace O:=O.below F;replace M1:=qH (M1.o.below F);clear F;go_wp2_with fail;refine (qgq _).mono ?_;rintro e cK ⟨bi,rfl,hp,F⟩;have P2:=qH hp;replace O:=O.below F;replace M1:=qH (M1.o.below F);replace U:=qH (zkeep F _ _ U.o);clear F hp;go_wp2_with fail;refine (ex_f2 _ bi 3 P2.o O.kt).mono ?_;rintro e bv ⟨v2,rfl,hm,F⟩;have M2:=qH hm;replace O:=O.below F;replace M1:=qH (M1.o.below F);replace U:=qH (zkeep F _ _ U.o);replace P2:=qH (P2.o.below F);clear F hm P2;obtain⟨d0,d1,d2,e0,f0,k0,e1,f1,k1,e2,f2,k2,rfl,aI,aJ,aK⟩:=M2.o.lit;clear aI aJ aK;obtain⟨Vs,aT,Ns⟩:=nw1 bv #[.int .i64 2,.int .i64 1,.slice d0 3 k0,.slice d1 3 k1,.slice d2 3 k2] 38;go_upto_region 4 with fail;rw [<-aT];have F:=Ns.o.1;have Rs:=qH Ns.o.2;clear aT Ns;replace O:=O.below F;replace M1:=qH (M1.o.below F);replace U:=qH (zkeep F _ _ U.o);replace M2:=qH (M2.o.below F);clear F;obtain⟨cO,cZ,df,dh,dz,dn,di,dA,dw,dm,dB,dx,aY,X0,X1,_⟩:=M1.o.lit;simp only [qaP,qaV,qaN,qbH,and_true,true_and] at aY;obtain⟨⟨rfl,rfl⟩,⟨rfl,rfl⟩,rfl,rfl⟩:=aY;obtain⟨dC,dD,dE,dF,dL,dI,dG,dM,dJ,dH,dN,dK,aZ,Y0,_,_⟩:=M2.o.lit;simp only [qaP,qaV,qaN,qbH,and_true,true_and] at aZ;obtain⟨⟨rfl,rfl⟩,⟨rfl,rfl⟩,rfl,rfl⟩:=aZ;rw [show told 2 (fitX1 0)=told 2 (fv [10 / 3,100]) from rfl] at X0;rw [show told 2 (fitX1 1)=told 2 (fv [0,0]) from rfl] at X1;rw [show told 3 (fitX2 0)=told 3 (fv [0,140,-40]) from rfl] at Y0;have au:=qH (qA X0 (qA X1 Y0));have bf:=qH (Below.refl Vs.heap.size Vs);have lm:=(qG U.o).1;have ls:=(qG Rs.o).1;have m2:=rowC (B:=Vs.heap.size) U.o 2;have m3:=rowC (B:=Vs.heap.size) U.o 3;have s2:=rowC (B:=Vs.heap.size) Rs.o 2;clear X0 X1 Y0;refine wp_region_held_drew (S:=fun W=>Below Vs.heap.size Vs W) (by kernel_rfl) qB.drew (fun hS0=>?_);refine hT 0 (h:=hT 1 (h:=hT 2 (h:=hT 3 (h:=hT 4 (h:=hT 5 (h:=?_))))));have ah:Below Vs.heap.size Vs Vs.drew:=qB.drew;refine hT 6 (hS:=ah) (h:=hT 7 (hS:=ah) (h:=hT 8 (hS:=ah) (h:=?_)));refine hE 9 (h:=⟨qbU ah qN,hN (h:=?_)⟩);refine hC 10 (q_lit _ [⟨#[49,48,47,51]⟩,⟨#[49,48,48]⟩] [(10 / 3:Rat),100] 2 rfl rfl (by decide) (by simp only [qbv,qbQ,ft_100,ft_103];decide +kernel) (by decide)) (h:=?_);rintro e u0 ⟨bW,bZ,bq,rfl,aV,ay⟩;have ai:Below Vs.heap.size Vs u0:=ah.trans (ay.mono ah.size);refine⟨_,rfl,ai,hN (h:=?_)⟩;refine hC 11 (qfC _ _ _ 2 c0 _ _ _ _ 2 bq _ u0 (qb0 _ _) (by decide) (au.o.1.below ai) (qb0 _ _) (by decide) aV) (h:=?_);rintro e t0 ⟨ok0,rfl,aF,aB⟩;obtain rfl:ok0=true:=aF.2 rfl;have ae:Below Vs.heap.size Vs t0:=ai.trans (aB.mono ai.size);refine⟨_,rfl,ae,hN (h:=?_)⟩;clear aV ay aF aB ai;refine hT 12 (hS:=ae) (h:=hT 13 (hS:=ae) (h:=hT 14 (hS:=ae) (h:=hT 15 (hS:=ae) (h:=hT 16 (hS:=ae) (h:=?_)))));refine hE 17 (h:=⟨qbU ae qN,hN (h:=?_)⟩);refine hC 18 (q_lit _ [⟨#[48]⟩,⟨#[48]⟩] [(0:Rat),0] 2 rfl rfl (by decide) (by simp only [qbv,qbQ,ft_0];decide +kernel) (by decide)) (h:=?_);rintro e u1 ⟨bX,cu,qc1,rfl,aW,az⟩;have aj:Below Vs.heap.size Vs u1:=ae.trans (az.mono ae.size);refine⟨_,rfl,aj,hN (h:=?_)⟩;refine hC 19 (qfC _ _ _ 2 c1 _ _ _ _ 2 qc1 _ u1 (qb0 _ _) (by decide) (au.o.2.1.below aj) (qb0 _ _) (by decide) aW) (h:=?_);rintro e t1 ⟨ok1,rfl,aG,aC⟩;obtain rfl:ok1=true:=aG.2 rfl;have Y:Below Vs.heap.size Vs t1:=aj.trans (aC.mono aj.size);refine⟨_,rfl,Y,hN (h:=?_)⟩;clear aW az aG aC aj;refine hT 20 (hS:=Y) (h:=hT 21 (hS:=Y) (h:=hT 22 (hS:=Y) (h:=hT 23 (hS:=Y) (h:=hT 24 (hS:=Y) (h:=hT 25 (hS:=Y) (h:=hT 26 (hS:=Y) (h:=hT 27 (hS:=Y) (h:=hT 28 (hS:=Y) (h:=?_)))))))));refine hE 29 (h:=⟨qbU Y qN,hN (h:=?_)⟩);refine hC 30 (q_lit _ [⟨#[48]⟩,⟨#[49,52,48]⟩,⟨#[45,52,48]⟩] [(0:Rat),140,-40] 3 rfl rfl (by decide) (by simp only [qbv,qbQ,ft_0,ft_140,ft_m40];decide +kernel) (by decide)) (h:=?_);rintro e u2 ⟨bY,cz,qc2,rfl,aX,aA⟩;have ak:Below Vs.heap.size Vs u2:=Y.trans (aA.mono Y.size);refine⟨_,rfl,ak,hN (h:=?_)⟩;refine hC 31 (qfC _ _ _ 3 k0 _ _ _ _ 3 qc2 _ u2 (qb0 _ _) (by decide) (au.o.2.2.below ak) (qb0 _ _) (by decide) aX) (h:=?_);rintro e t2 ⟨bn,rfl,aH,aD⟩;obtain rfl:bn=true:=aH.2 rfl;have ag:Below Vs.heap.size Vs t2:=ak.trans (aD.mono ak.size);refine⟨_,rfl,ag,hN (h:=?_)⟩;clear aX aA aH aD ak;refine hT 32 (hS:=ag) (h:=hT 33 (hS:=ag) (h:=?_));refine gr [(34,80),(35,81),(36,82),(37,83),(38,84),(39,85),(40,86)] [(37,[35,36]),(38,[37]),(39,[37]),(40,[34,38,39])] [0,1,2,3,4,5,6,7,8,9,10,11,12,13,14,15,16,17,18,19,20,21,22,23,24,25,26,27,28,29,30,31,32,33] [34,35,36,37,38,39,40] [] 41 43 (fl2 [(34,fun z W=>∃b:Nat,z=.func (.func 121) #[] #[.pointer (some ⟨b,0,none⟩)]/\W.heap[b]? = some (.cells #[.int .i64 7] 39 (0,0))),(35,fun z W=>∃g:Nat,z=.slice (some ⟨g,0,none⟩) 3 3/\PCells W (some ⟨g,0,none⟩) g 0 ramp),(36,fun z W=>∃g:Nat,z=.slice (some ⟨g,0,none⟩) 3 3/\W.heap[g]? = some (.cells #[.int .i64 1,.int .i64 1,.int .i64 0] 3 (0,0))),(37,fun z _=>z=.tuple #[mdv0,.int .i64 7]),(38,fun z _=>z=mdv0),(39,fun z _=>z=.int .i64 7),(40,fun z _=>z=.bool true)]) _ 2
  (hS:=fun w' h=>ag.trans (h.mono ag.size)) (hstep:=⟨⟨_,rfl,fun v I F H K J=>?_⟩,⟨_,rfl,fun v I F H K J=>?_⟩,⟨_,rfl,fun v I F H K J=>?_⟩,⟨_,rfl,fun v I F H K J=>?_⟩,⟨_,rfl,fun v I F H K J=>?_⟩,⟨_,rfl,fun v I F H K J=>?_⟩,⟨_,rfl,fun v I F H K J=>?_⟩,trivial⟩) (hend:=fun v I F H _ fu=>?_)
 ·exact gC J (qma 7 I) (h:=fun e w4 ⟨b,e1,h1,h2⟩=>⟨_,e1,⟨b,rfl,h2⟩,h1⟩)
 ·exact gC J (qgq I) (h:=fun e w4 ⟨g,e1,h1,h2⟩=>⟨_,e1,⟨g,rfl,h1⟩,h2⟩)
 ·exact gW J (h:=⟨⟨I.heap.size,rfl,qM _ _ _ rfl⟩,qbU qB qN⟩)
 ·obtain⟨g5,e35,Z⟩:∃g:Nat,_:=H.1;obtain⟨g6,e36,h6⟩:∃g:Nat,_:=H.2.1;exact gC J (ex_f3 I g5 g6 3 Z h6 ((O.kt.below ag).below F)) (h:=fun e w4 ⟨e1,h1⟩=>⟨_,e1,rfl,h1⟩)
 ·have bg:v 37=_:=H.1;exact gV J rfl
 ·have bg:v 37=_:=H.1;exact gV J rfl
 ·obtain⟨b4,e34,h4⟩:∃b:Nat,_:=H.1;have bQ:v 38=_:=H.2.1;have bR:v 39=_:=H.2.2.1;exact gC J (qkZ 7 b4 I h4) (h:=fun e w4 ⟨e1,h1⟩=>⟨_,e1,rfl,h1⟩)
 have aP:v 40=_:=H 40 (by decide) (by decide);have ax:Below Vs.heap.size Vs I:=ag.trans (F.mono ag.size);rw [aP];clear aP H F;refine hT 41 (hS:=ax) (h:=hT 42 (hS:=ax) (h:=?_));refine wpAnyH_done (by kernel_rfl) ?_ _;have F:=ax;clear au bf lm ls m2 m3 s2 hS0 ah ae Y ag ax M2 Rs;replace O:=O.below F;replace M1:=qH (M1.o.below F);replace U:=qH (zkeep F _ _ U.o);clear F;have y0:=qC _ _ 0 _ _ _ U.o;have y1:=qC _ _ 1 _ _ _ U.o;have y2:=qC _ _ 2 _ _ _ U.o;have y3:=qC _ _ 3 _ _ _ U.o;have y4:=qC _ _ 4 _ _ _ U.o;go_wp2_with fail;refine (ex_a1 _ _ M1.o O.kt).mono ?_;rintro e bz ⟨rfl,F⟩;replace O:=O.below F;replace M1:=qH (M1.o.below F);replace U:=qH (zkeep F _ _ U.o);clear F y0 y1 y2 y3 y4;obtain⟨Va,aQ,Na⟩:=nw1 bz #[.string ⟨#[49,54,48]⟩,.string ⟨#[51]⟩,.string ⟨#[48]⟩,.string ⟨#[49]⟩,.string ⟨#[48]⟩,.string ⟨#[49]⟩] 65;go_upto_region 6 with fail;rw [<-aQ];have F:=Na.o.1;have Ra:=qH Na.o.2;clear aQ Na;replace O:=O.below F;replace M1:=qH (M1.o.below F);replace U:=qH (zkeep F _ _ U.o);clear F;have y0:=qC _ _ 0 _ _ _ U.o;have y1:=qC _ _ 1 _ _ _ U.o;have y2:=qC _ _ 2 _ _ _ U.o;have y3:=qC _ _ 3 _ _ _ U.o;have y4:=qC _ _ 4 _ _ _ U.o;go_wp2_with fail;refine (ex_e1 _ _ M1.o O.kt O.ke).mono ?_;rintro e bA ⟨gr,cr,g0,aL,g1,aM,go,co,rfl,aU,F⟩;have EL:=qH aU;replace O:=O.below F;replace M1:=qH (M1.o.below F);replace U:=qH (zkeep F _ _ U.o);replace Ra:=qH (zkeep F _ _ Ra.o);clear F aU y0 y1 y2 y3 y4;obtain⟨V,aR,Ne⟩:=nw1 bA #[.int .i64 2,.slice none 0 0,.slice (some ⟨gr,0,none⟩) 3 cr,.slice (some ⟨go,0,none⟩) 3 co,.slice none 0 0,.int .i64 0,.slice none 0 0,.slice none 0 0,.int .i64 0,.int .i64 0] 82;go_upto_region 7 with fail;rw [<-aR];have F:=Ne.o.1;have Re:=qH Ne.o.2;clear aR Ne;replace O:=O.below F;replace M1:=qH (M1.o.below F);replace U:=qH (zkeep F _ _ U.o);replace Ra:=qH (zkeep F _ _ Ra.o);replace EL:=qH (qA ((F.cell (qac _ _ EL.o.1)).trans EL.o.1) (qA ((F.cell (qac _ _ EL.o.2.1)).trans EL.o.2.1) (qA (EL.o.2.2.1.below F) (qA (EL.o.2.2.2.1.below F) (EL.o.2.2.2.2.below F)))));clear F;simp only [List.append_eq,List.cons_append,qbq];have la:=(qG Ra.o).1;have lm:=(qG U.o).1;have le:=(qG Re.o).1;have bB:=rowC (B:=V.heap.size) Ra.o 0;have bC:=rowC (B:=V.heap.size) Ra.o 1;have bD:=rowC (B:=V.heap.size) Ra.o 2;have bE:=rowC (B:=V.heap.size) Ra.o 3;have bF:=rowC (B:=V.heap.size) Ra.o 4;have bG:=rowC (B:=V.heap.size) Ra.o 5;have y0:=rowC (B:=V.heap.size) U.o 0;have y1:=rowC (B:=V.heap.size) U.o 1;have y2:=rowC (B:=V.heap.size) U.o 2;have y3:=rowC (B:=V.heap.size) U.o 3;have y4:=rowC (B:=V.heap.size) U.o 4;have x0:=rowC (B:=V.heap.size) Re.o 0;have x2:=rowC (B:=V.heap.size) Re.o 2;have x3:=rowC (B:=V.heap.size) Re.o 3;have r0:∀W,Below V.heap.size V W->W.cell? ⟨gr,0,none⟩=some (.slice (some ⟨g0,0,none⟩) 1 aL):=fun W h=>(h.cell (qac V _ EL.o.1)).trans EL.o.1
 have r1:∀W,Below V.heap.size V W->W.cell? ⟨gr,1,none⟩=some (.slice (some ⟨g1,0,none⟩) 1 aM):=fun W h=>(h.cell (qac V _ EL.o.2.1)).trans EL.o.2.1
 refine wp_region_held_drew (S:=fun W=>Below V.heap.size V W) (by kernel_rfl) qB.drew (fun hS0=>?_);refine hT 0 (h:=hT 1 (h:=hT 2 (h:=?_)));refine Go.Proofs.YtplkdeknjghobaaGreatDoor.gr [(3,102),(4,103),(5,104),(6,105),(7,106),(8,107),(9,108),(10,109),(11,110),(12,111),(13,112),(14,113),(15,114),(16,115)] [(4,[3]),(5,[4]),(6,[5]),(8,[7]),(9,[8]),(10,[9]),(12,[11]),(13,[12]),(14,[13]),(15,[6,10,14]),(16,[15])] [0,1,2] [3,4,5,6,7,8,9,10,11,12,13,14,15,16] [] 17 70 (fl2 [(3,SC ⟨#[49,54,48,47,51]⟩),(4,QC ⟨#[49,54,48]⟩ ⟨#[51]⟩),(5,PC ⟨#[49,54,48]⟩ ⟨#[51]⟩),(6,fun z _=>z=.agg #[.string ⟨#[49,54,48]⟩,.string ⟨#[51]⟩]),(7,SC ⟨#[48]⟩),(8,QC ⟨#[48]⟩ ⟨#[49]⟩),(9,PC ⟨#[48]⟩ ⟨#[49]⟩),(10,fun z _=>z=.agg #[.string ⟨#[48]⟩,.string ⟨#[49]⟩]),(11,SC ⟨#[48]⟩),(12,QC ⟨#[48]⟩ ⟨#[49]⟩),(13,PC ⟨#[48]⟩ ⟨#[49]⟩),(14,fun z _=>z=.agg #[.string ⟨#[48]⟩,.string ⟨#[49]⟩]),(15,fun z _=>z=.agg #[.string ⟨#[49,54,48]⟩,.string ⟨#[51]⟩,.string ⟨#[48]⟩,.string ⟨#[49]⟩,.string ⟨#[48]⟩,.string ⟨#[49]⟩]),(16,fun z _=>z=.bool true)]) _ 53
  (hS:=fun w' h=>qb4 h) (hstep:=⟨⟨_,rfl,fun v I F H K J=>?_⟩,⟨_,rfl,fun v I F H K J=>?_⟩,⟨_,rfl,fun v I F H K J=>?_⟩,⟨_,rfl,fun v I F H K J=>?_⟩,⟨_,rfl,fun v I F H K J=>?_⟩,⟨_,rfl,fun v I F H K J=>?_⟩,⟨_,rfl,fun v I F H K J=>?_⟩,⟨_,rfl,fun v I F H K J=>?_⟩,⟨_,rfl,fun v I F H K J=>?_⟩,⟨_,rfl,fun v I F H K J=>?_⟩,⟨_,rfl,fun v I F H K J=>?_⟩,⟨_,rfl,fun v I F H K J=>?_⟩,⟨_,rfl,fun v I F H K J=>?_⟩,⟨_,rfl,fun v I F H K J=>?_⟩,trivial⟩) (hend:=fun v I F H _ fu=>?_)
 ·exact gW J (h:=⟨⟨I.heap.size,rfl,qM _ _ _ rfl⟩,qbU qB qN⟩)
 ·obtain⟨g5,eg,Z⟩:SC ⟨#[49,54,48,47,51]⟩ _ I:=H.1;exact gC J (q1_at I g5 ⟨#[49,54,48,47,51]⟩ _ _ (160 / 3:Rat) Z (by rw [qmo];decide +kernel) qmo (by decide)) (h:=fun e w4 ⟨g,c,e1,h1,h2⟩=>⟨_,e1,⟨g,c,rfl,h1⟩,h2⟩)
 ·obtain⟨g5,c5,eg,Z⟩:QC ⟨#[49,54,48]⟩ ⟨#[51]⟩ _ I:=H.1;exact gV J ⟨g5,rfl,Z⟩
 ·obtain⟨g5,eg,Z,h6⟩:PC ⟨#[49,54,48]⟩ ⟨#[51]⟩ _ I:=H.1;exact gV J rfl
 ·exact gW J (h:=⟨⟨I.heap.size,rfl,qM _ _ _ rfl⟩,qbU qB qN⟩)
 ·obtain⟨g5,eg,Z⟩:SC ⟨#[48]⟩ _ I:=H.1;exact gC J (q1_at I g5 ⟨#[48]⟩ _ _ (0:Rat) Z (by rw [ft_0];decide +kernel) ft_0 (by decide)) (h:=fun e w4 ⟨g,c,e1,h1,h2⟩=>⟨_,e1,⟨g,c,rfl,h1⟩,h2⟩)
 ·obtain⟨g5,c5,eg,Z⟩:QC ⟨#[48]⟩ ⟨#[49]⟩ _ I:=H.1;exact gV J ⟨g5,rfl,Z⟩
 ·obtain⟨g5,eg,Z,h6⟩:PC ⟨#[48]⟩ ⟨#[49]⟩ _ I:=H.1;exact gV J rfl
 ·exact gW J (h:=⟨⟨I.heap.size,rfl,qM _ _ _ rfl⟩,qbU qB qN⟩)
 ·obtain⟨g5,eg,Z⟩:SC ⟨#[48]⟩ _ I:=H.1;exact gC J (q1_at I g5 ⟨#[48]⟩ _ _ (0:Rat) Z (by rw [ft_0];decide +kernel) ft_0 (by decide)) (h:=fun e w4 ⟨g,c,e1,h1,h2⟩=>⟨_,e1,⟨g,c,rfl,h1⟩,h2⟩)
 ·obtain⟨g5,c5,eg,Z⟩:QC ⟨#[48]⟩ ⟨#[49]⟩ _ I:=H.1;exact gV J ⟨g5,rfl,Z⟩
 ·obtain⟨g5,eg,Z,h6⟩:PC ⟨#[48]⟩ ⟨#[49]⟩ _ I:=H.1;exact gV J rfl
 ·have e6:v 6=_:=H.1;have bM:v 10=_:=H.2.1;have bN:v 14=_:=H.2.2.1;exact gV J rfl
 ·have bO:v 15=_:=H.1;exact gV J (he:=by go_simp;rw [eq_3f];rfl) rfl
 have aN:v 16=_:=H 16 (by decide) (by decide);rw [aN];have hA:Below V.heap.size V I:=qb4 F;clear aN H F;refine hT 17 (hS:=hA) (h:=hT 18 (hS:=hA) (h:=hT 19 (hS:=hA) (h:=hT 20 (hS:=hA) (h:=hT 21 (hS:=hA) (h:=hT 22 (hS:=hA) (h:=hT 25 (hS:=hA) (h:=?_)))))));refine Go.Proofs.YtplkdeknjghobaaGreatDoor.gr [(23,122),(24,123),(26,125),(27,126),(28,127),(29,128),(30,129)] [(24,[23]),(27,[26]),(28,[27]),(29,[27]),(30,[24,28,29])] [0,1,2,3,4,5,6,7,8,9,10,11,12,13,14,15,16,17,18,19,20,21,22,25] [23,24,26,27,28,29,30] [] 31 70 (fl2 [(23,fun z W=>∃g:Nat,z=.slice (some ⟨g,0,none⟩) 3 3/\SCells W g 0 [⟨#[49,48,48,47,57]⟩,⟨#[52,48,48,47,57]⟩,⟨#[49,48,48,47,57]⟩]),(24,fun z W=>∃b:Nat,z=.func (.func 120) #[] #[.pointer (some ⟨b,0,none⟩)]/\IsAt W b [⟨#[49,48,48,47,57]⟩,⟨#[52,48,48,47,57]⟩,⟨#[49,48,48,47,57]⟩]),(26,fun z W=>∃g:Nat,z=.slice (some ⟨g,0,none⟩) 3 3/\PCells W (some ⟨g,0,none⟩) g 0 ramp),(27,fun z W=>∃g:Nat,z=.tuple #[.slice (some ⟨g,0,none⟩) 3 3,.int .i64 0]/\FCells W (some ⟨g,0,none⟩) g 0 (told 3 (fv [(100 / 9:Rat),400 / 9,100 / 9]))),(28,fun z W=>∃g:Nat,z=.slice (some ⟨g,0,none⟩) 3 3/\FCells W (some ⟨g,0,none⟩) g 0 (told 3 (fv [(100 / 9:Rat),400 / 9,100 / 9]))),(29,fun z _=>z=.int .i64 0),(30,fun z _=>z=.bool true)]) _ 39
  (hS:=fun w' h=>hA.trans (h.mono hA.size)) (hstep:=⟨⟨_,rfl,fun v I F H K J=>?_⟩,⟨_,rfl,fun v I F H K J=>?_⟩,⟨_,rfl,fun v I F H K J=>?_⟩,⟨_,rfl,fun v I F H K J=>?_⟩,⟨_,rfl,fun v I F H K J=>?_⟩,⟨_,rfl,fun v I F H K J=>?_⟩,⟨_,rfl,fun v I F H K J=>?_⟩,trivial⟩) (hend:=fun v w4 F H _ fu=>?_)
 ·exact gW J (h:=⟨⟨I.heap.size,rfl,SCells.row (L:=[⟨#[49,48,48,47,57]⟩,⟨#[52,48,48,47,57]⟩,⟨#[49,48,48,47,57]⟩]) (qM _ _ _ rfl)⟩,qbU qB qN⟩)
 ·obtain⟨g5,eg,Z⟩:∃g:Nat,_:=H.1;exact gC J (qiG g5 [⟨#[49,48,48,47,57]⟩,⟨#[52,48,48,47,57]⟩,⟨#[49,48,48,47,57]⟩] I Z) (h:=fun e w4 ⟨b,e1,h1,h2⟩=>⟨_,e1,⟨b,rfl,h2⟩,h1⟩)
 ·exact gC J (qgq I) (h:=fun e w4 ⟨g,e1,h1,h2⟩=>⟨_,e1,⟨g,rfl,h1⟩,h2⟩)
 ·obtain⟨g5,eg,Z⟩:∃g:Nat,_:=H.1;exact gC J (ex_s1 I _ g5 3 ((M1.o.below hA).below F) Z ((O.kt.below hA).below F)) (h:=fun e w4 ⟨g,e1,h1,h2⟩=>⟨_,e1,⟨g,rfl,h1⟩,h2⟩)
 ·obtain⟨g5,eg,Z⟩:∃g:Nat,_:=H.1;exact gV J ⟨g5,rfl,Z⟩
 ·obtain⟨g5,eg,Z⟩:∃g:Nat,_:=H.1;exact gV J rfl
 ·obtain⟨b5,eb,Z⟩:∃b:Nat,_:=H.1;obtain⟨g6,eg,h6⟩:∃g:Nat,_:=H.2.1;have bP:v 29=_:=H.2.2.1;exact gC J (qfM (L:=[⟨#[49,48,48,47,57]⟩,⟨#[52,48,48,47,57]⟩,⟨#[49,48,48,47,57]⟩]) (l:=[(100 / 9:Rat),400 / 9,100 / 9]) (c:=3) Z rfl rfl (by decide) (by simp only [qbv,qbQ,ft_1009,ft_4009];decide +kernel) (by decide) h6) (h:=fun e w4 ⟨e1,h1⟩=>⟨_,e1,rfl,h1⟩)
 have aO:v 30=_:=H 30 (by decide) (by decide);rw [aO];have hB:Below V.heap.size V w4:=hA.trans (F.mono hA.size);clear aO H F;refine hT 31 (hS:=hB) (h:=hT 32 (hS:=hB) (h:=hT 33 (hS:=hB) (h:=hT 34 (hS:=hB) (h:=hT 35 (hS:=hB) (h:=hT 36 (hS:=hB) (h:=hT 37 (hS:=hB) (h:=hT 38 (hS:=hB) (h:=hT 39 (hS:=hB) (h:=hT 40 (hS:=hB) (h:=hT 41 (hS:=hB) (h:=hT 42 (hS:=hB) (h:=hT 43 (hS:=hB) (h:=hT 44 (hS:=hB) (h:=hT 45 (hS:=hB) (h:=hT 46 (hS:=hB) (h:=hT 47 (hS:=hB) (h:=hT 48 (hS:=hB) (h:=hT 49 (hS:=hB) (h:=hT 50 (hS:=hB) (h:=hT 51 (hS:=hB) (h:=?_)))))))))))))))))))));refine hE 52 (h:=⟨qbU hB qN,hN (h:=?_)⟩);refine hC 53 (ql8 _ g0 0 aL [1000000] 1 rfl (by decide) (EL.o.2.2.1.below hB)) (h:=?_);rintro e w5 ⟨rfl,F⟩;have aa:Below V.heap.size V w5:=hB.trans (F.mono hB.size);clear F;refine⟨_,rfl,aa,hN (h:=?_)⟩;refine hT 54 (hS:=aa) (h:=hT 55 (hS:=aa) (h:=hT 56 (hS:=aa) (h:=hT 57 (hS:=aa) (h:=hT 58 (hS:=aa) (h:=hT 59 (hS:=aa) (h:=?_))))));refine hE 60 (h:=⟨qbU aa qN,hN (h:=?_)⟩);refine hC 61 (ql8 _ g1 0 aM [0] 1 rfl (by decide) (EL.o.2.2.2.1.below aa)) (h:=?_);rintro e w6 ⟨rfl,F⟩;have af:Below V.heap.size V w6:=aa.trans (F.mono aa.size);clear F;refine⟨_,rfl,af,hN (h:=?_)⟩;refine hT 62 (hS:=af) (h:=hT 63 (hS:=af) (h:=hT 64 (hS:=af) (h:=hT 65 (hS:=af) (h:=?_))));refine hE 66 (h:=⟨qbU af qN,hN (h:=?_)⟩);refine hC 67 (ql8 _ go 0 co [33333,500000,500000] 3 rfl (by decide) (EL.o.2.2.2.2.below af)) (h:=?_);rintro e w7 ⟨rfl,F⟩;have av:Below V.heap.size V w7:=af.trans (F.mono af.size);clear F;refine⟨_,rfl,av,hN (h:=?_)⟩;refine hT 68 (hS:=av) (h:=hT 69 (hS:=av) (h:=?_));refine wpAnyH_done (by kernel_rfl) ?_ _;have KE:=qH (O.kb.trans (av.mono O.kb.size));go_wp2;go_ret;exact⟨rfl,KE.o⟩
def PdAt (W:World) (v:Value) (H:Nat) (L:List (List Int)):Prop:=∃(F:Option Addr) (b off c:Nat),v=.agg #[.int .u8 (H:Int),.slice F L.length c]/\H<256/\L.length<=9223372036854775807/\PRws W F b off L
theorem kindN {k:Nat} (h:1<=k/\k<=3):qcA (k:Int) k:=⟨rfl,h.1,h.2⟩
theorem qi4 {l:List Pt} (h:PtsOk l) {m:Nat} (J:l.length=m):∀q,q<m->(l.getD q pt0).name.size<=4611686018427387904/\(l.getD q pt0).dev.length<=4611686018427387904:=fun q O=>by
 have F:=(h.rows q (by omega)).1;have H:=F.name.2.1;have I:=F.n4;exact⟨by omega,by omega⟩
structure SuSt (wc W:World) (gs:Nat) (q:Rat):Prop where
 old:Below gs wc W
 row:∃s1 s2,ftxt q=(s1,s2)/\W.heap[gs]? = some (.cells #[.string s1,.string s2] 44 (0,0))
 lt:gs<W.heap.size
open Go.ChangeShapes Go.WideShapes Go.ChangeAt Go.Deep
section
variable {H:Type} {enc:TypeId×Value->H} {w:World} {sp:Nat->Bool} {held:Bool} {fuel:Nat} {v:Value} {x:DataW H×List MemPlace}
theorem c7A:Tryz.prog.cellsOf 201=7:=by kernel_rfl
theorem c1I:Tryz.prog.cellsOf 200=1:=by kernel_rfl
theorem qni {cs:List Value} (h:DataW.trod enc prog w 0 sp held fuel 201 cs=some x) {a:Addr} (hc:w.cells? 0 a 7=some cs) (J:a.spot=none) :
  ∃O:List Int,(∀j,j<7->w.cell? ⟨a.block,a.off+j,none⟩=some (.int .i16 (O.getD j 0)))/\∀j,-32768<=O.getD j 0/\O.getD j 0<=32767:=by
 obtain⟨_,aa,H⟩:=World.cells?_some hc;obtain⟨xs,n,_,_,_,ae,hf⟩:=DataW.trod_array underlying201 h;obtain⟨ab,ao,asp⟩:=a;have J:asp=none:=J;subst J;have I:∀i,i<7->∃z:Int,w.cell? ⟨ab,ao+i,none⟩=some (.int .i16 z)/\-32768<=z/\z<=32767:=fun i hi=>by
  have U:=hf i hi;rw [c1I,qbO,qby (by omega),qad (show i<xs.length by omega)] at U;obtain⟨z,e1,_,hw⟩:=DataW.trod_int underlying200 U;have e2:cs[i]'(by omega)=Value.int .i16 z:=(List.cons.inj (show [cs[i]'(by omega)]=[Value.int .i16 z] from e1)).1;have V:=H i hi;rw [Addr.add_mid,qad (by omega),e2] at V;have h2:-32768<=z/\z<=32767:=by simpa [Lit.wf,IntKind.min,IntKind.max,IntKind.signed,IntKind.bits] using hw
  exact⟨z,V,h2⟩
 obtain⟨Y,Z⟩:=choose_lt I;have hg:∀j,j<7->((List.range 7).map Y).getD j 0=Y j:=fun j F=>by
  rw [qaa,qay,qbb F];rfl
 refine⟨(List.range 7).map Y,fun j F=>by rw [hg j F];exact (Z j F).1,fun j=>?_⟩;rcases qaQ j 7 with F | F
 ·rw [hg j F];exact (Z j F).2
 ·rw [qaa,qaS (by simpa using F)];exact⟨by decide,by decide⟩
theorem qln (h:DataW.trod enc prog w 0 sp held fuel 22 [v]=some x):∃(a:Option Addr) (b off c:Nat) (L:List (List Int)),v=.slice a L.length c/\L.length<=maxLen/\PRws w a b off L:=by
 rcases open_slice underlying22 h with ⟨J,_⟩ | ⟨a,len,cap,m,n,D,Pl,J,_,hl,hm,aa,_,hx⟩
 ·exact⟨none,0,0,0,[],by injection J,by decide,⟨fun h=>absurd h (by decide),fun k h=>absurd h (by simp),fun k j=>by simp⟩⟩
 ·have af:len<=m:=by rw [aa];split <;> omega
  have Z:0<len->a=⟨a.block,a.off,none⟩:=fun h0=>by
   obtain⟨cs',O,_⟩:=hx 0 (by omega);rw [c7A] at O;obtain⟨_,ae,I⟩:=World.cells?_some O;have h3:=I 0 (by decide);rw [add_add] at h3;have h4:w.cell? (a.add 0)=cs'[0]?:=h3;rw [qad (by omega)] at h4;exact qfE h4
  have U:∀i,i<len->∃zs:List Int,(∀j,j<7->w.cell? ⟨a.block,a.off+i*7+j,none⟩=some (.int .i16 (zs.getD j 0)))/\∀j,-32768<=zs.getD j 0/\zs.getD j 0<=32767:=fun i hi=>by
   obtain⟨cs',O,h2⟩:=hx i (by omega);rw [c7A] at O;have ha:=Z (by omega);have V:a.add (i*7)=⟨a.block,a.off+i*7,none⟩:=by rw [ha,Addr.add_mid]
   rw [V] at O;exact qni h2 O rfl
  obtain⟨Y,hY⟩:=choose_lt U;have hg:∀k,k<len->((List.range len).map Y).getD k []=Y k:=fun k H=>by
   rw [qaa,qay,qbb H];rfl
  have F:((List.range len).map Y).length=len:=by rw [qav,qbx]
  refine⟨some a,a.block,a.off,cap,(List.range len).map Y,by rw [F];injection J,by rw [F];omega,⟨fun h0=>?_,fun k H=>?_,fun k j=>?_⟩⟩
  ·rw [F] at h0;exact congrArg some (Z h0)
  ·rw [F] at H;rw [hg k H];exact (hY k H).1
  ·rcases qaQ k len with H | H
   ·rw [hg k H];exact (hY k H).2 j
   ·have e:((List.range len).map Y).getD k []=[]:=by rw [qaa,qaS (by rw [F];exact H)];rfl
    rw [e];simp
theorem open_pd {r:Reach} {J:Nat} {d:DataW H} {p:List MemPlace} (Y:Value.okWide prog w r J 24 v) (h:DataW.Trod enc prog w 0 sp held 24 v d p) :
  ∃(F:Nat) (L:List (List Int)),PdAt w v F L:=by
 obtain⟨v0,Z,y0,y1,n,rfl,rfl,rfl,O,U⟩:=Joins.open_agg2 underlying24 (by kernel_rfl) (by kernel_rfl) Y h;obtain⟨F,rfl,I⟩:=qjS O;obtain⟨a,b,off,c,L,rfl,V,hC⟩:=qln U;unfold maxLen at V;exact⟨F,L,a,b,off,c,rfl,I,by omega,hC⟩
theorem open_us {r:Reach} {I:Nat} {d:DataW H} {p:List MemPlace} (Z:Value.okWide prog w r I 28 v) (h:DataW.Trod enc prog w 0 sp held 28 v d p) :
  ∃(a:Option Addr) (b off c:Nat) (G:List Int),v=.slice a G.length c/\G.length<=9223372036854775807/\KCells w .u16 a b off G/\∀k,0<=G.getD k 0/\G.getD k 0<65536:=by
 obtain⟨fuel,U⟩:=h;have O:=okWide_slice underlying28 Z;obtain⟨a,n,c,rfl⟩:=O;have F:DataW.trod enc prog w 0 sp held fuel 28 [.slice a n c]=some (d,p):=U;obtain⟨a,b,off,c,l,e,V,J,Y⟩:=qiX F;unfold maxLen at V;exact⟨a,b,off,c,l,e,by omega,J,Y⟩
end
end Go.Proofs.YtplkdeknjghobaaGreatDoor
namespace Go.Proofs.YtplkdeknjghobaaGreatDoor
open Go.RowKit Go.Proofs.Tryz
theorem cost_any (H:Md) (k m gp cp gw vc:Nat) (l:List Pt) (Y:List Int) (v:Value) (w:World) (hM:MdAt w v H) (aN:MdOk H k (chans l)) (ay:PtsOk l) (hm:l.length=m) (bi:m<=12) (aM:∀q,q<3->(H.row q).length<=4611686018427387904) (hP:PCells w (some ⟨gp,0,none⟩) gp 0 l)
  (hN:NCells w (some ⟨gw,0,none⟩) gw 0 Y) (aP:Y.length=m) (aO:W9 Y m) (aa:qb2 m (sqq H l k)) (af:∀i,i<m->Short (eOne (Y.getD i 0))) (az:∀i,i<m->Short (sqq H l k i*eOne (Y.getD i 0))) (av:∀i,i<=m->Short (csum (sqq H l k) Y i)) (hT:HasT w) :
  Calls prog 15 #[v,.slice (some ⟨gp,0,none⟩) m cp,.slice (some ⟨gw,0,none⟩) m vc] w fun e w'=>e=.returned (.tuple #[.agg #[.string (ftxt (csum (sqq H l k) Y m)).1,.string (ftxt (csum (sqq H l k) Y m)).2],.bool true])/\Below w.heap.size w w':=by
 obtain⟨a,b',o,d,rfl,hF⟩:=hM.parts;obtain⟨W1,aG,K1⟩:=nw2 w #[.int .i64 H.kind,.int .i64 H.inn,.slice (a 0) (H.row 0).length (d 0),.slice (a 1) (H.row 1).length (d 1),.slice (a 2) (H.row 2).length (d 2)] 38 #[.string ⟨#[]⟩,.string ⟨#[]⟩] 44;have HS:=qH (qg7 H _ m gp 0 cp (some ⟨gp,0,none⟩) l W1 (hM.below K1.o.1) hm (by omega) (qi4 ay hm) aM (hP.below K1.o.1) (hT.below K1.o.1));obtain⟨f,hf⟩:=qX (sqq H l k);have HA:=qH (qA aN (qA ay (qA aa (qA hf hm))));rw [hf] at az av aa ⊢;have HQ:=qH (qA aa (qA af (qA az av)));have HN:=qH (qA hN (qA aP (qA aO hT)));clear hf hF hM aN ay hm aM hP hN aP aO aa af az av hT;go_enter func15,ntmps15;go_upto_region 1 with fail;rw [<-aG];clear aG
 go_wp2_with ((with_reducible refine lW_ rfl 38 _ rfl (w.heap.size) #[.int .i64 H.kind,.int .i64 H.inn,.slice (a 0) (H.row 0).length (d 0),.slice (a 1) (H.row 1).length (d 1),.slice (a 2) (H.row 2).length (d 2)] K1.o.2.1 underlying38 5 ?_))
 refine HS.o.mono ?_;intro e w2 aF;obtain⟨aJ,g,rfl,au⟩:=aF.only HA.o.2.1 HA.o.1 (by rw [HA.o.2.2.2.2];exact HA.o.2.2.1);rw [HA.o.2.2.2.2,HA.o.2.2.2.1] at au;rw [HA.o.2.2.2.2];have K2:=(K1.below aJ).also (q:=fun W=>FCells W (some ⟨g,0,none⟩) g 0 (told m f)) au;clear aF aJ au K1 HS;go_wp2_with fail;refine (q1_at _ w2.heap.size ⟨#[48]⟩ ⟨#[48]⟩ ⟨#[49]⟩ (0:Rat) (qM _ _ _ rfl) (by rw [ft_0];decide +kernel) ft_0 (by decide)).mono ?_;rintro e wq ⟨gq,cq,rfl,⟨aY,aZ⟩,aK⟩;have Kq:=K2.below ((qbU qB qN).trans (aK.mono (qbU qB qN).size));clear aK K2;obtain⟨Ws,aI,Ns⟩:=nw1 wq #[.string ⟨#[48]⟩,.string ⟨#[49]⟩] 44;have ak:Hu (SuSt wq Ws wq.heap.size (csum f Y 0)):=qH ⟨Ns.o.1,⟨_,_,ft_0,Ns.o.2⟩,(qG Ns.o.2).1⟩;go_upto_region 5 with fail;rw [<-aI];clear aI Ns aY aZ;go_wp2_with fail
 go_loopw [39] (fun x39 W=>∃i:Nat,x39=.int .i64 (i:Int)/\i<=m/\Hu (SuSt wq W wq.heap.size (csum f Y i))) (fun x39 _=>m-(intOf x39).toNat)
 case atStart=>exact⟨0,rfl,qal _,ak⟩
 case round =>
  obtain⟨i,rfl,hi,hS⟩:=hrel;obtain⟨s1,s2,Z,U⟩:=hS.o.row;have KB:=Kq.below hS.o.old
  by_cases J:i<m
  case neg =>
   obtain rfl:m=i:=by omega
   have aX:¬(m:Int)<(m:Int):=by omega
   have aD:=qH Z;have y0:=qC _ _ 0 _ _ _ U;have y1:=qC _ _ 1 _ _ _ U;have HE:=qH (qA KB.o.1.2.2 (qS KB.o.1.1 (g:=w.heap.size+1) (qbB _) #[.string s1,.string s2]));clear Z U hS ak
   go_wp2_with ((with_reducible refine sR_ rfl 44 _ _ rfl (w.heap.size+1) #[.string s1,.string s2] HE.o.1 2 ?_))
   exact qR (v:=.tuple #[.agg #[.string s1,.string s2],.bool true]) (rB_ rfl (w.heap.size+1) (qT _ _ _ _ _ _ HE.o.1) underlying44 2) rfl ⟨by rw [aD.o],HE.o.2⟩
  have aX:(i:Int)<(m:Int):=by omega
  have aj:=qH (qA hS.o.old (qA Z hS.o.lt));have V:=qH U;obtain⟨aV,aW,ax⟩:=qcd (f i);obtain⟨x0,x1⟩:=KB.o.2.cell i (by rw [qb0];exact J);rw [qdr J,qaM,ax] at x0 x1;obtain⟨Wp,aH,Np⟩:=nw1 wr #[.string aV,.string aW] 44;clear Z U hS ak;go_upto_region 8 with fail;rw [<-aH];clear aH x0 x1;replace V:=qH (zkeep Np.o.1 _ _ V.o);have rX:=qH Np.o.2;have F:Kn (fun W=>Below wr.heap.size wr W) Wp:=.of Np.o.1;have I:Hu (Below w.heap.size w wr/\wq.heap.size<wr.heap.size):=qH ⟨KB.o.1.1,aj.o.2.2⟩;clear Np;obtain⟨z,hz⟩:=qX (Y.getD i 0);have o0:=(HN.o.1.below (I.o.1.trans (F.o.mono I.o.1.size))).cell i (by rw [HN.o.2.1];exact J);rw [qaM,hz] at o0;have aT:=HN.o.2.2.1 i J;have aA:=HQ.o.2.1 i J;have ae:=HQ.o.2.2.1 i J;have aQ:=HQ.o.2.2.2 i hi;have aB:Short (csum f Y (i+1)):=HQ.o.2.2.2 (i+1) J;have aC:csum f Y (i+1)=csum f Y i+f i*eOne z:=by rw [<-hz];rfl
  have aR:=HQ.o.1 i J;rw [hz] at aT aA ae;rw [aC] at aB;have ai:=qH fun (W:World) (O:Below wr.heap.size wr W)=>of_int z 1 (by decide) ⟨by omega,by omega⟩ (by decide) W (HN.o.2.2.2.below (I.o.1.trans (O.mono I.o.1.size)))
  rw [show ((z:Int):Rat) / ((1:Int):Rat)=eOne z from rfl] at ai;have ah:=qH fun (W:World) (O:Below wr.heap.size wr W)=>mulq (p:=f i) (q:=eOne z) aR aA ae W (HN.o.2.2.2.below (I.o.1.trans (O.mono I.o.1.size)))
  have ag:=qH fun (W:World) (O:Below wr.heap.size wr W)=>addq (p:=csum f Y i) (q:=f i*eOne z) aQ ae aB W (HN.o.2.2.2.below (I.o.1.trans (O.mono I.o.1.size)))
  rw [<-aC] at ag;obtain⟨bf,bg,aS⟩:=qcd (eOne z);obtain⟨y1,y2,hy⟩:=qcd (f i*eOne z);obtain⟨t1,t2,ht⟩:=qcd (csum f Y (i+1));rw [aS] at ai ah;rw [ax,hy] at ah;rw [hy,aj.o.2.1,ht] at ag;have aU:=qH ht;clear hz aA ae aQ aB aC aR aS hy ht ax;go_wp2_with fail;refine (ai.o Wp F.o).mono ?_;rintro e v1 ⟨rfl,O⟩;replace V:=qH (zkeep O _ _ V.o);replace rX:=qH (zkeep O _ _ rX.o);replace F:=Kn.below F O;clear O o0 aT;obtain⟨V1,hV,N⟩:=nw1 v1 #[.string bf,.string bg] 44;go_upto_region 9 with fail;rw [<-hV];replace V:=qH (zkeep N.o.1 _ _ V.o);replace rX:=qH (zkeep N.o.1 _ _ rX.o);replace F:=Kn.below F N.o.1;have rZ:=qH N.o.2;clear hV N;have x0:=qC _ _ 0 _ _ _ rX.o;have x1:=qC _ _ 1 _ _ _ rX.o;have z0:=qC _ _ 0 _ _ _ rZ.o;have z1:=qC _ _ 1 _ _ _ rZ.o;go_wp2_with fail;refine (ah.o V1 F.o).mono ?_;rintro e v2 ⟨rfl,O⟩;replace V:=qH (zkeep O _ _ V.o);replace F:=Kn.below F O;clear O x0 x1 z0 z1 rX rZ;obtain⟨V2,hV,N⟩:=nw1 v2 #[.string y1,.string y2] 44;go_upto_region 10 with fail;rw [<-hV];replace V:=qH (zkeep N.o.1 _ _ V.o);replace F:=Kn.below F N.o.1;have rY:=qH N.o.2;clear hV N;have x0:=qC _ _ 0 _ _ _ V.o;have x1:=qC _ _ 1 _ _ _ V.o;have z0:=qC _ _ 0 _ _ _ rY.o;have z1:=qC _ _ 1 _ _ _ rY.o;go_wp2_with fail;refine (ag.o V2 F.o).mono ?_;rintro e v3 ⟨rfl,O⟩;replace V:=qH (zkeep O _ _ V.o);replace F:=Kn.below F O;clear O x0 x1 z0 z1 rY;have aL:wq.heap.size<=wr.heap.size:=qar I.o.2;have HE:Hu (SuSt wq (v3.setRow wq.heap.size #[.string t1,.string t2]) wq.heap.size (csum f Y (i+1))):=qH ⟨qS (aj.o.1.trans (F.o.mono aL)) qN _,⟨t1,t2,aU.o,qT _ _ _ _ _ _ V.o⟩,(qG (qT _ _ _ #[.string t1,.string t2] _ _ V.o)).1⟩;clear aL
  go_wp2_with ((with_reducible refine sR_ rfl 44 _ _ rfl (wq.heap.size) #[.string t1,.string t2] V.o 2 ?_))
  go_roundw
  case rel=>exact⟨i+1,by go_num,J,HE⟩
  case measure=>simp [intOf];omega
theorem cd_all (f:Nat->Rat) (h:∀j,Rb (f j) 1000):∀n,∃D,D≠0/\D<=1000 ^ n/\∀j,j<n->Cd (f j) D (1000 ^ n)
 | 0=>⟨1,by decide,qae _,fun j O=>absurd O (qbR j)⟩
 | n+1=>by
  obtain⟨D,F,J,U⟩:=cd_all f h n;have H:=(f n).den_nz;have I:=h n;refine⟨D*(f n).den,qbo F H,by rw [qaB];exact Nat.mul_le_mul J I.2,fun j O=>?_⟩
  by_cases e:j<n
  ·exact ((U j e).up (f n).den F H).mono (by rw [qaB];exact qaC _ I.2)
  ·obtain rfl:j=n:=by omega
   have:=((rb_cd I).up D H F).mono (show 1000*D<=1000 ^ (j+1) by rw [qaB,qat];exact qaH _ J)
   rwa [qat] at this
theorem qlo {l:List Pt} (h:PtsOk l) (O:qef l) (hn:chans l<=3) {V:List Int} (hw:W9 V l.length) (x:Nat->Nat->Rat) (hx:∀c j,Rb (x c j) 1000):CostOk (sqq (mdq 1 (chans l) (many 1 (chans l)) x) l 1) V l.length:=by
 obtain⟨D,J,U,Y⟩:=cd_all (fun t=>x (t / 4) (t % 4)) (fun t=>hx _ _) 12;have I:∀c,c<3->∀i,i<many 1 (chans l)->Cd (x c i) D (1000 ^ 12):=fun c F i H=>by
  have Z:i<4:=by unfold many at H;simp at H;omega
  have:=Y (4*c+i) (by omega);rw [show (4*c+i) / 4=c by omega,show (4*c+i) % 4=i by omega] at this;exact this
 exact qke (E:=512*1000 ^ 12*100) O.1 hw (qbo (qbo (by decide) J) (by decide)) (qaH _ (qaC _ U)) qN (fun c i F H=>rr_cdg h O ⟨by decide,by decide⟩ (fun e=>absurd e.1 (by decide)) J U I F H) (by decide +kernel) (by decide +kernel)
def emb (k n:Nat) (x:Nat->Rat) (j:Nat):Rat:=if k=2 then (if j<=n then x j else 0) else if j=0 then x 0 else if j=1 then x 1 else if j=2 then x 2 else if j=4 then x 3 else 0
theorem emb_sum {k n:Nat} {d:List Int} (O:d.length=n) (hn:1<=n/\n<=3) (Z:k=2\/k=3) (x:Nat->Rat):sumQ (many k n) (fun j=>termQ k d j*emb k n x j)=sumQ (many 1 n) (fun j=>termQ 1 d j*x j):=by
 rcases Z with rfl | rfl
 ·rw [qlD (show many 1 n<=many 2 n by unfold many;simp;omega) fun j J _=>by unfold emb;rw [if_pos rfl,if_neg (by unfold many at J;simp at J;omega)];grind];refine qbX fun j U=>?_
  have H:j<=n:=by unfold many at U;simp at U;omega
  unfold emb;rw [if_pos rfl,if_pos H];cases j with
  | zero=>rw [qfV (by omega),qfV (by omega)]
  | succ j=>rw [term12 (.inr rfl) d (by omega),term12 (.inl rfl) d (by omega)]
 ·have e:∀j,termQ 3 d j=(prods d n).getD j 0:=fun j=>by unfold termQ;rw [qhc,O]
  have F:∀j,termQ 1 d j=(lin d).getD j 0:=fun j=>rfl
  have I:lin d=1 :: (List.range n).map (dq d):=by unfold lin;rw [O]
  have V:∀f:Nat->Rat,sumQ 2 f=0+f 0+f 1:=fun f=>rfl
  have s3:∀f:Nat->Rat,sumQ 3 f=0+f 0+f 1+f 2:=fun f=>rfl
  have Y:∀f:Nat->Rat,sumQ 4 f=0+f 0+f 1+f 2+f 3:=fun f=>rfl
  have s8:∀f:Nat->Rat,sumQ 8 f=0+f 0+f 1+f 2+f 3+f 4+f 5+f 6+f 7:=fun f=>rfl
  rcases (show n=1\/n=2\/n=3 by omega) with rfl | rfl | rfl
  ·rw [show many 3 1=2 from rfl,show many 1 1=2 from rfl,V,V];simp [e,F,I,emb,prods,List.range,List.range.loop]
  ·rw [show many 3 2=4 from rfl,show many 1 2=3 from rfl,Y,s3];simp [e,F,I,emb,prods,List.range,List.range.loop]
   grind
  ·rw [show many 3 3=8 from rfl,show many 1 3=4 from rfl,s8,Y];simp [e,F,I,emb,prods,List.range,List.range.loop]
   grind
theorem emb_cost {l:List Pt} {k:Nat} {F:List Int} (h:PtsOk l) (J:chans l<=3) (I:k=2\/k=3) (x:Nat->Nat->Rat):csum (sqq (mdq k (chans l) (many k (chans l)) fun c=>emb k (chans l) (x c)) l k) F l.length=csum (sqq (mdq 1 (chans l) (many 1 (chans l)) x) l 1) F l.length:=by
 rw [qhP,qhP];refine qbX fun c _=>?_
 unfold msR;refine qbX fun i H=>?_
 have e:resR (many k (chans l)) (tqf l k) (labq l c) (emb k (chans l) (x c)) i=resR (many 1 (chans l)) (tqf l 1) (labq l c) (x c) i:=by
  unfold resR;have:=emb_sum (d:=(l.getD i pt0).dev) (h.rows i H).2 ⟨h.n1,J⟩ I (x c);unfold tqf;rw [this]
 rw [e]
theorem fit_more {l:List Pt} {k:Nat} {F:List Int} {x:Nat->Nat->Rat} (h:PtsOk l) (I:chans l<=3) (H:k=2\/k=3) (O:W9 F l.length) (J:¬Sing (many k (chans l)) (nq l k F 0)) (hx:∀c,c<3->FitX l k F c (x c)) (Y:Nat->Nat->Rat):csum (sqq (mdq k (chans l) (many k (chans l)) x) l k) F l.length<=csum (sqq (mdq 1 (chans l) (many 1 (chans l)) Y) l 1) F l.length:=by
 rw [<-emb_cost h I H Y];exact qiz O J hx _
def wsB (G:List Int) (m i:Nat):List Int:=(List.range m).map fun j=>if j<i then wtz G j % 9 else wtz G j
theorem qii (G:List Int) (m i:Nat):(wsB G m i).length=m:=by unfold wsB;simp
theorem wsB_at {G:List Int} {m i j:Nat} (F:j<m):(wsB G m i).getD j 0=if j<i then wtz G j % 9 else wtz G j:=by
 unfold wsB;rw [qaa,qay,qbb F];rfl
theorem wsB_zero (G:List Int) (m:Nat):wts G m=wsB G m 0:=by
 unfold wts wsB;exact List.map_congr_left fun j _=>by rw [if_neg (qbR j)]
theorem qn7 (G:List Int) (m q j:Nat):(wsB G m q)[j]? = if j<m then some (if j<q then wtz G j % 9 else wtz G j) else none:=by
 unfold wsB;rw [qay]
 by_cases h:j<m
 ·rw [qbb h,if_pos h];rfl
 ·rw [qaS (by rw [qbx];omega),if_neg h];rfl
theorem wsB_succ {G:List Int} {m i:Nat} (F:i<m):(wsB G m i).set i (wtz G i % 9)=wsB G m (i+1):=by
 refine List.ext_getElem? fun j=>?_
 rw [List.getElem?_set,qn7,qn7,qii]
 by_cases e:i=j
 ·subst e;rw [if_pos rfl,if_pos F,if_pos F,if_pos (Nat.lt_succ_self _)]
 ·rw [if_neg e]
  by_cases h:j<i
  ·rw [if_pos h,if_pos (show j<i+1 by omega)]
  ·rw [if_neg h,if_neg (show ¬j<i+1 by omega)]
theorem wsB_w9 {G:List Int} {m:Nat}:W9 (wsB G m m) m:=fun i F=>by
 rw [wsB_at F,if_pos F];omega
theorem wsB_ok {G:List Int} {m:Nat}:WOk (wsB G m m):=fun i F=>by
 rw [qii] at F;have:=wsB_w9 (G:=G) i F;omega
theorem mo_mod (x:Nat) (hx:x<3) (L:List Dr):moM 0 x L=mdq 1 (1+x) (many 1 (1+x)) (mox L):=by
 have F:mok 0=1:=rfl;have H:mon 0 x=1+x:=by unfold mon;rw [F,if_neg (by omega)];omega
 unfold moM;rw [F,H]
def Ku (W W':World):Prop:=∀(a:Addr) (v:Value),W.cell? a=some v->(∀z,v≠.int .u8 z)->W'.cell? a=some v
theorem ku_set {W:World} {p:Addr} {z:Int} (I:Int) (h:W.cell? p=some (.int .u8 z)):Ku W (W.setCell p (.int .u8 I)):=fun a v F H =>
 (World.cell?_setCell_other _ _ _ _ (fun e=>by subst e;rw [h] at F;injection F with e;exact H _ e.symm)).trans F
theorem Ku.trans {W W' F:World} (h:Ku W W') (k:Ku W' F):Ku W F:=fun a v I H=>k a v (h a v I H) H
theorem NCells.ku {W W':World} {F:Option Addr} {b off:Nat} {l:List Int} (h:NCells W F b off l) (k:Ku W W'):NCells W' F b off l:=⟨h.addr,fun i H=>k _ _ (h.cell i H) (fun z e=>by cases e)⟩
theorem PCells.ku {W W':World} {H:Option Addr} {b off:Nat} {l:List Pt} (h:PCells W H b off l) (k:Ku W W'):PCells W' H b off l :=
 ⟨h.addr,fun i F=>by
  obtain⟨I,⟨ra,rb,ro,rc,J,F⟩,O,U,V⟩:=h.cell i F;exact⟨k _ _ I (fun z e=>by cases e),⟨ra,rb,ro,rc,k _ _ J (fun z e=>by cases e),F.ku k⟩,k _ _ O (fun z e=>by cases e),k _ _ U (fun z e=>by cases e),k _ _ V (fun z e=>by cases e)⟩⟩
theorem qjE (ch gb go gc:Nat) (L:List (List Int)) (cO cK:Nat) (Lo:List Dr) (G:List Int) (ga:Option Addr) (v u:Value) (I:World) (hv:PdAt I v ch L) (ho:MoAt I u cO cK Lo) (hG:KCells I .u16 ga gb go G) (dz:G.length<=9223372036854775807) (dZ:∀k,0<=G.getD k 0/\G.getD k 0<65536) (hT:HasT I) (hE:HasE I) :
  Calls prog 3 #[v,u,.slice ga G.length gc] I fun e w'=>e=.returned (.bool true)/\Below I.heap.size I w':=by
 obtain⟨ao,b,off,cd,rfl,eO,hL,hP⟩:=hv;obtain⟨aB,b2,eu,aC,rfl,_,_,dA,hC⟩:=ho;obtain⟨W1,dE,K1⟩:=nw2 I #[.int .u8 (ch:Int),.slice ao L.length cd] 24 #[.int .u8 (cO:Int),.int .u8 (cK:Int),.slice aB Lo.length aC] 27;have H0:=qH (qA hP (qA hT (qA hE (qA hG hC))));have HG:=qH (qA dz dZ);have HL:=qH (qA hL dA);clear hP hT hE hG dz dZ hL hC dA;go_enter func3,ntmps3;go_upto_region 1 with fail;rw [<-dE];clear dE;go_wp2_with fail;refine (qn3 W1 (H0.o.2.1.below K1.o.1) (H0.o.2.2.1.below K1.o.1)).mono ?_;rintro e w2 ⟨rfl,hb⟩;have K2:=K1.below hb;clear hb K1;have f0:=qF _ _ 0 _ _ K2.o.2.1;have c0:=qC _ _ 0 _ _ _ K2.o.2.1;have hm:(ch:Int) % 3=((ch % 3:Nat):Int):=by omega
 obtain⟨x,hx⟩:=qX (ch % 3);rw [hx] at hm;have d9:x<3:=by omega
 obtain⟨W3,aG⟩:=qY (w2.setCell ⟨I.heap.size,0,none⟩ (.int .u8 (x:Int)));have K3:Kn (fun W=>Below I.heap.size I W/\W.heap[I.heap.size]? = some (.cells #[.int .u8 (x:Int),.slice ao L.length cd] 24 (0,0))/\W.heap[I.heap.size+1]? = some (.cells #[.int .u8 (cO:Int),.int .u8 (cK:Int),.slice aB Lo.length aC] 27 (0,0))) W3:=.of
  ⟨aG▸K2.o.1.setCell (p:=⟨I.heap.size,0,none⟩) qN _,aG▸heap_setCell_same _ _ 0 _ _ _ K2.o.2.1,aG▸(qW _ _ _ _ (by simp)).trans K2.o.2.2⟩
 go_upto_region 4 with fail;rw [<-aG];clear aG f0 c0 K2 hm hx eO
 go_wp2_with ((with_reducible refine lW_ rfl 24 _ rfl (I.heap.size) #[.int .u8 (x:Int),.slice ao L.length cd] K3.o.2.1 underlying24 2 ?_))
 refine (qjU x L ao b off cd W3 HL.o.1 (H0.o.1.below K3.o.1)).mono ?_;rintro e w4 ⟨u,rfl,⟨Bp,_,bn⟩,hb⟩;have K4:=K3.below hb;clear hb K3;obtain⟨n,hn⟩:=qX (1+x % 4);have bX:1<=n/\n<=3:=by omega
 have ed:1+x=n:=by omega
 rw [hn] at bn;have ax:=ptsD_ok L bX.1 (show n<=4 by omega);have h8:=qi3 (n:=n) L;have bS:=qhG n L;obtain⟨l,hl⟩:=qX (ptsD n L);rw [hl] at bn ax h8 bS;obtain⟨gp,cp,rfl,dD⟩:=bn.cells ax.r1 (fun j hj=>(ax.rows j hj).1.n1);obtain⟨m,hm⟩:=qX l.length;have dV:m<=12:=by rw [<-hm];exact h8.1
 have dU:1<=m:=by rw [<-hm];exact ax.r1
 rw [hm];have F:=qH (qA dD (qA ax (qA h8 (qA bS hm))));have bG:=qH (qA d9 ed);have dw:=qH (qj2 (some ⟨gp,0,none⟩) ga m cp gb go gc G w4 (by omega) HG.o.1 (H0.o.2.2.2.1.below K4.o.1) HG.o.2);clear bn ax h8 bS hl hn dD d9 hm ed;go_wp2_with fail;refine dw.o.mono ?_;rintro e w5 ⟨u2,rfl,aF,dJ⟩;obtain⟨va,vc,rfl⟩:=qdI aF (qhj G m);obtain⟨O,rfl⟩:∃O,va=some ⟨O,0,none⟩:=by
  obtain⟨g,c,e,_⟩:=IOwn.cells aF (by rw [qhj];exact dU);injection e with e1;exact⟨g,e1⟩
 rw [wsB_zero] at aF;have dn:=qH (qA aF dJ);clear aF dJ dw;go_wp2_with fail
 go_loopw [39] (fun x39 W=>∃i:Nat,x39=.int .i64 (i:Int)/\i<=m/\Hu (IOwn W w4.heap.size (.slice (some ⟨O,0,none⟩) m vc) (wsB G m i)/\Below w4.heap.size w4 W)) (fun x39 _=>m-(intOf x39).toNat)
 case atStart=>exact⟨0,rfl,qal _,dn⟩
 case round =>
  obtain⟨i,rfl,hi,hS⟩:=hrel
  by_cases bf:i<m
  case pos =>
   have eQ:(i:Int)<(m:Int):=by omega
   obtain⟨g',e',dx,⟨hc,hf⟩,af⟩:=IOwn.set hS.o.1 (i:=i) (by rw [qii];exact bf) (wtz G i % 9);obtain rfl:O=g':=by injection e' with e1;injection e1
   rw [wsB_at bf,if_neg (Nat.lt_irrefl _)] at hc;rw [wsB_succ bf] at af;have ek:=wtz_le HG.o.2 i;obtain⟨z,hz⟩:=qX (wtz G i);rw [hz] at hc af ek;obtain⟨r,hr⟩:=qX (z % 9);have fe:0<=r/\r<9:=by omega
   have eZ:z.tmod 9=r:=by rw [Int.tmod_eq_emod_of_nonneg ek.1];exact hr
   rw [hr] at af;have HN:=qH (qA af (hS.o.2.setCell (p:=⟨O,i,none⟩) dx (.int .i64 r)));clear e' dx af hz hS;go_wp2;go_roundw
   case rel=>exact⟨i+1,by go_num,bf,HN⟩
   case measure=>simp [intOf];omega
  have eQ:¬(i:Int)<(m:Int):=by omega
  obtain rfl:m=i:=by omega
  obtain⟨J,aT⟩:=qX (wsB G m m);have ay:J.length=m:=by rw [<-aT];exact qii _ _ _
  have bq:W9 J m:=by rw [<-aT];exact wsB_w9
  have cB:WOk J:=by rw [<-aT];exact wsB_ok
  obtain⟨bL,bH⟩:=hS.o;rw [aT] at bL;obtain⟨gx,cx,ex,dC⟩:=IOwn.cells bL (by rw [ay];exact dU);obtain rfl:O=gx:=by injection ex with e1;injection e1 with e1;injection e1
  have bC:=fun (W:World) (kz:Int) (h1:PCells W (some ⟨gp,0,none⟩) gp 0 l) (h2:NCells W (some ⟨O,0,none⟩) O 0 J) (hT:HasT W)=>qjF m gp 0 cp O 0 m vc (some ⟨gp,0,none⟩) (some ⟨O,0,none⟩) l kz J W F.o.2.2.2.2 (by omega) (qi4 F.o.2.1 F.o.2.2.2.2) ay (by omega) h1 h2 hT
  have HF:=qH bC;have KX:=(K4.below bH).also (q:=fun W=>PCells W (some ⟨gp,0,none⟩) gp 0 l/\NCells W (some ⟨O,0,none⟩) O 0 J) ⟨F.o.1.below bH,dC⟩;have aR:W9 J l.length:=by rw [F.o.2.2.2.2];exact bq
  have aS:J.length=l.length:=by rw [F.o.2.2.2.2];exact ay
  have aA:=qH (qA ay (qA bq (qA aR (qA aS cB))));have bD:∀(k:Nat) (W W':World) (e:Ending),1<=k/\k<=3->FitAs W l (k:Int) J e W'->Below W.heap.size W W'/\(e=.returned (.tuple #[mdv0,.int .i64 7])\/∃v X,e=.returned (.tuple #[v,.int .i64 0])/\¬Sing (many k (chans l)) (nq l k J 0)/\(∀c,c<3->FitX l k J c (X c))/\MdOk (mdq k (chans l) (many k (chans l)) X) k (chans l)/\MdAt W' v (mdq k (chans l) (many k (chans l)) X)):=fun k W W' e Z V=>by
   have bT:¬(k=3/\chans l=4):=by rw [F.o.2.2.2.1];omega
   refine⟨V.1,?_⟩;rcases V.2 with ⟨v6,rfl,eH⟩ | ⟨c6,rfl,eG⟩
   ·right
    obtain⟨_,_,_,kk,bU,_,aM,X,hX,ag⟩:=eH;obtain rfl:k=kk:=((kindN Z).uniq bU).symm;exact⟨v6,X,rfl,aM,fun c hc=>(hX c hc).1,qmT (n:=chans l) Z F.o.2.1.n1 F.o.2.1.n4 bT (fun c hc=>(hX c hc).2),ag⟩
   ·left
    obtain rfl:c6=7:=by
     rcases eG with ⟨h,_⟩ | ⟨_,h,_⟩ | ⟨_,_,_,kk,bU,h⟩
     ·exact absurd F.o.2.1 h
     ·exact absurd ⟨⟨k,kindN Z⟩,aS,cB⟩ h
     ·obtain rfl:=(kindN Z).uniq bU;rcases h with ⟨h1,h2,_⟩ | ⟨_,⟨_,h⟩ | ⟨hs,c,X,hc,hX,hn,_⟩⟩
      ·exact absurd ⟨h1,h2⟩ bT
      ·exact h
      ·exact absurd (qk4 F.o.2.1 F.o.2.2.1 Z bT aR hc hs hX) hn
    rfl
  have aI:∀(k:Nat) (X:Nat->Nat->Rat) (v:Value) (W:World),MdAt W v (mdq k (chans l) (many k (chans l)) X)->MdOk (mdq k (chans l) (many k (chans l)) X) k (chans l)->CostOk (sqq (mdq k (chans l) (many k (chans l)) X) l k) J l.length->PCells W (some ⟨gp,0,none⟩) gp 0 l->NCells W (some ⟨O,0,none⟩) O 0 J->HasT W->Calls prog 15 #[v,.slice (some ⟨gp,0,none⟩) m cp,.slice (some ⟨O,0,none⟩) m vc] W fun e w'=>e=.returned (.tuple #[.agg #[.string (ftxt (csum (sqq (mdq k (chans l) (many k (chans l)) X) l k) J m)).1,.string (ftxt (csum (sqq (mdq k (chans l) (many k (chans l)) X) l k) J m)).2],.bool true])/\Below W.heap.size W w':=fun k X v W hM ah hC h1 h2 hT=>by
   have aD:=hC;rw [F.o.2.2.2.2] at aD;have eY:many k (chans l)<=16:=qmP k _ F.o.2.1.n4;exact cost_any _ k m gp cp O vc l J v W hM ah F.o.2.1 F.o.2.2.2.2 dV (fun q hq=>by rw [qeo hq,qb0];omega) h1 h2 ay bq aD.sq aD.one aD.pr aD.cs hT
  have U:=qH (qA bD aI);clear aT ay bq cB bL bH ex dC hS dn bC aR aS bD aI;have di:=qH (HF.o wr 1 KX.o.2.1 KX.o.2.2 (H0.o.2.1.below KX.o.1.1));go_wp2_with fail;refine di.o.mono ?_;intro e w6 V;obtain⟨dK,hA⟩:=U.o.1 1 wr w6 e (by decide) V;have aW:=KX.below dK;clear V dK di KX;rcases hA with rfl | ⟨v6,X,rfl,aM,hX,ah,ag⟩
  ·have bF:=qH (qbU (o:=.cells #[.int .i64 0,.int .i64 0,.slice none 0 0,.slice none 0 0,.slice none 0 0] 38) aW.o.1.1 qN);unfold mdv0;go_wp2;go_ret;exact⟨rfl,bF.o⟩
  have bI:=qkk F.o.2.1 F.o.2.2.1 (k:=1) (by decide) (fun e=>absurd e.1 (by decide)) aA.o.2.2.1 aM hX;have av:chans l<=3:=by rw [F.o.2.2.2.1];exact bX.2
  have bg:=fun Y=>qiz (k:=1) aA.o.2.2.1 aM hX Y
  have bi:=fun (k:Nat) (X2:Nat->Nat->Rat) (hk:k=2\/k=3) hs hx2=>fit_more (k:=k) (x:=X2) F.o.2.1 av hk aA.o.2.2.1 hs hx2 X
  have aO:=bI.cs m (by rw [F.o.2.2.2.2];exact qae _);rw [F.o.2.2.2.2] at bg bi;obtain⟨q1,bY⟩:∃q,csum (sqq (mdq 1 (chans l) (many 1 (chans l)) X) l 1) J m=q:=⟨_,rfl⟩;rw [bY] at bg bi aO;have aZ:=fun W v h1 h2 h3 h4=>U.o.2 1 X v W h1 ah bI h2 h3 h4
  rw [bY] at aZ;obtain⟨s1,s2,aL⟩:=qcd q1;rw [aL] at aZ;have HQ:=qH (qA bg (qA bi (qA aO aL)));have dh:=qH aZ;obtain⟨a,b',o,d,rfl,hF⟩:=ag.parts;have H:∀c,c<3->((mdq 1 (chans l) (many 1 (chans l)) X).row c).length=many 1 (chans l):=fun c hc=>by rw [qeo hc,qb0]
  have ae:(mdq 1 (chans l) (many 1 (chans l)) X).kind=1:=rfl;have aa:(mdq 1 (chans l) (many 1 (chans l)) X).inn=((chans l:Nat):Int):=rfl;obtain⟨M,aX⟩:=qX (many 1 (chans l));rw [ae,aa,H 0 (by decide),H 1 (by decide),H 2 (by decide),F.o.2.2.2.1] at ag ⊢;rw [F.o.2.2.2.1] at aX;rw [aX] at ag ⊢;clear bI av bg bi aO bY aZ aL hF H ae aa aM hX ah;have eT:(Below I.heap.size I w6):=aW.o.1.1;obtain⟨W7,dF,N7⟩:=nw1 w6 #[.int .i64 1,.int .i64 (n:Int),.slice (a 0) M (d 0),.slice (a 1) M (d 1),.slice (a 2) M (d 2)] 38;have K7:=(aW.below N7.o.1).also (q:=fun W=>W.heap[w6.heap.size]? = some (.cells #[.int .i64 1,.int .i64 (n:Int),.slice (a 0) M (d 0),.slice (a 1) M (d 1),.slice (a 2) M (d 2)] 38 (0,0))) N7.o.2;have bA:=ag.below N7.o.1;have bz:=qH (dh.o W7 _ (by rw [F.o.2.2.2.1,aX];exact bA) K7.o.1.2.1 K7.o.1.2.2 (H0.o.2.1.below K7.o.1.1.1));clear ag bA N7 aW aX eT;go_upto_region 14 with fail;rw [<-dF];clear dF
  go_wp2_with ((with_reducible refine lW_ rfl 38 _ rfl (w6.heap.size) #[.int .i64 1,.int .i64 (n:Int),.slice (a 0) M (d 0),.slice (a 1) M (d 1),.slice (a 2) M (d 2)] K7.o.2 underlying38 5 ?_))
  refine bz.o.mono ?_;rintro e w8 ⟨rfl,bP⟩;obtain⟨W9,dG,N9⟩:=nw1 w8 #[.string s1,.string s2] 44;have K9:=(K7.below (bP.trans (N9.o.1.mono bP.size))).also (q:=fun W=>W.heap[w8.heap.size]? = some (.cells #[.string s1,.string s2] 44 (0,0))) N9.o.2;clear bP N9 bz K7 dh;go_upto_region 15 with fail;rw [<-dG];clear dG;have x0:=qC _ _ 0 _ _ _ K9.o.1.1.1.2.1;have o0:=qC _ _ 0 _ _ _ K9.o.1.1.1.2.2;have o1:=qC _ _ 1 _ _ _ K9.o.1.1.1.2.2;have f0:=qF _ _ 0 _ _ K9.o.1.1.1.2.2;have f1:=qF _ _ 1 _ _ K9.o.1.1.1.2.2;go_wp2_with fail;obtain⟨WA,au⟩:∃W,W=((W9.setCell ⟨I.heap.size+1,0,none⟩ (.int .u8 0)).setCell ⟨I.heap.size+1,1,none⟩ (.int .u8 (x:Int))).drew:=⟨_,rfl⟩;have r1:=heap_setCell_same _ _ 0 _ _ (.int .u8 0) K9.o.1.1.1.2.2;have r2:=heap_setCell_same _ _ 1 _ _ (.int .u8 (x:Int)) r1;have bV:Ku W9 WA:=by rw [au];exact (ku_set 0 o0).trans (ku_set (x:Int) (qC _ _ 1 _ _ _ r1))
  have bW:w8.heap.size≠I.heap.size+1:=by
   have:=(qG K9.o.1.1.1.2.2).1;intro e;have h9:=K9.o.2;rw [e,K9.o.1.1.1.2.2] at h9;cases h9
  have KA:Kn (fun W=>(PCells W (some ⟨gp,0,none⟩) gp 0 l/\NCells W (some ⟨O,0,none⟩) O 0 J)/\Below I.heap.size I W/\W.heap[I.heap.size+1]? = some (.cells #[.int .u8 0,.int .u8 (x:Int),.slice aB Lo.length aC] 27 (0,0))/\W.heap[w8.heap.size]? = some (.cells #[.string s1,.string s2] 44 (0,0))) WA:=.of
   ⟨⟨K9.o.1.1.2.1.ku bV,K9.o.1.1.2.2.ku bV⟩,au▸((K9.o.1.1.1.1.setCell (p:=⟨I.heap.size+1,0,none⟩) (qbB _) _).setCell (p:=⟨I.heap.size+1,1,none⟩) (qbB _) _).drew,by rw [au];exact r2,by rw [au];exact ((qW _ _ _ _ bW).trans ((qW _ _ _ _ bW).trans K9.o.2))⟩
  go_region
  rw [<-au];clear au bW bV r1 r2 x0 o0 o1 f0 f1 K9
  go_wp2_with ((with_reducible refine lW_ rfl 27 _ rfl (I.heap.size+1) #[.int .u8 0,.int .u8 (x:Int),.slice aB Lo.length aC] KA.o.2.2.1 underlying27 3 ?_))
  refine (qmV 0 x Lo _ WA ⟨aB,b2,eu,aC,rfl,by decide,by have:=bG.o.1;omega,HL.o.2,H0.o.2.2.2.2.below KA.o.2.1⟩).mono ?_;rintro e wM ⟨uM,rfl,bM,dO⟩;rw [mo_mod x bG.o.1,bG.o.2] at bM;have KM:=KA.below dO;have av:chans l=n:=F.o.2.2.2.1;have bK:=qlo F.o.2.1 F.o.2.2.1 (by rw [av];exact bX.2) aA.o.2.2.1 (mox Lo) (fun c j=>mox_rb Lo c j);have ah:MdOk (mdq 1 (chans l) (many 1 (chans l)) (mox Lo)) 1 (chans l):=qmT (by decide) F.o.2.1.n1 F.o.2.1.n4 (fun e=>absurd e.1 (by decide)) (fun c hc j hj=>qmW Lo c j);have aj:=U.o.2 1 (mox Lo) uM wM (by rw [av];exact bM) ah bK KM.o.1.1 KM.o.1.2 (H0.o.2.1.below KM.o.2.1);have aJ:=HQ.o.1 (mox Lo);have bZ:=bK.cs m (by rw [F.o.2.2.2.2];exact qae _);obtain⟨q2,dX⟩:∃q,csum (sqq (mdq 1 (chans l) (many 1 (chans l)) (mox Lo)) l 1) J m=q:=⟨_,rfl⟩;rw [dX] at aj aJ bZ;obtain⟨t1,t2,aP⟩:=qcd q2;rw [aP] at aj;have bR:=fun W=>qlU HQ.o.2.2.1 bZ aJ W
  rw [HQ.o.2.2.2,aP] at bR;have df:=qH bR;have bv:=qH aj;clear bR aj aP dX bZ aJ ah bK av bM dO KA;go_wp2_with fail;refine bv.o.mono ?_;rintro e wC ⟨rfl,dL⟩;obtain⟨WD,dH,ND⟩:=nw1 wC #[.string t1,.string t2] 44;have KD:=((KM.below dL).below ND.o.1).also (q:=fun W=>W.heap[wC.heap.size]? = some (.cells #[.string t1,.string t2] 44 (0,0))) ND.o.2;clear dL ND bv KM;go_upto_region 17 with fail;rw [<-dH];clear dH;have y0:=qC _ _ 0 _ _ _ KD.o.1.2.2.2;have y1:=qC _ _ 1 _ _ _ KD.o.1.2.2.2;have v0:=qC _ _ 0 _ _ _ KD.o.2;have v1:=qC _ _ 1 _ _ _ KD.o.2;go_wp2_with fail;refine (df.o WD).mono ?_;rintro e wE ⟨cz,rfl,eP,dM⟩;have dP:¬(0<cz):=by omega
  have KE:=KD.below dM;clear y0 y1 v0 v1 dM KD df eP;go_wp2_with fail;clear dP
  go_loopw [99] (fun x99 W=>∃j:Nat,x99=.int .i64 (j:Int)/\j<=2/\Hu (Below wE.heap.size wE W)) (fun x99 _=>2-(intOf x99).toNat)
  case atStart=>exact⟨0,rfl,qal _,qH qB⟩
  case round =>
   obtain⟨j,rfl,hj,aV⟩:=hrel
   by_cases dR:j<2
   case neg =>
    obtain rfl:j=2:=by omega
    have eD:=qH ((KE.below aV.o).o.1.2.1);go_wp2;go_ret;exact⟨rfl,eD.o⟩
   have eX:(j:Int)<2:=by omega
   obtain⟨k,hk⟩:=qX (2+j);have dS:k=2\/k=3:=by omega
   have eU:∀W,(Instr.index 50 (.agg #[.int .i64 2,.int .i64 3]) (.int .i64 (j:Int))).run prog W=.ok (.int .i64 (k:Int)) W:=by
    rcases (show j=0\/j=1 by omega) with rfl | rfl
    ·subst hk;intro W;kernel_rfl
    ·subst hk;intro W;kernel_rfl
   have Kj:=KE.below aV.o;have dm:=qH (HF.o wr (k:Int) Kj.o.1.1.1 Kj.o.1.1.2 (H0.o.2.1.below Kj.o.1.2.1));clear hk;go_wp2_with fail;refine dm.o.mono ?_;intro e wF V;obtain⟨bQ,hA⟩:=U.o.1 k wr wF e (by omega) V;have KF:=Kj.below bQ;have aU:=qH (aV.o.trans (bQ.mono aV.o.size));clear V bQ dm eU Kj;rcases hA with rfl | ⟨vF,X2,rfl,aN,bO,bB,ai⟩
   ·have bF:=qH (qbU (o:=.cells #[.int .i64 0,.int .i64 0,.slice none 0 0,.slice none 0 0,.slice none 0 0] 38) aU.o qN);unfold mdv0;go_wp2;go_roundw
    case rel=>exact⟨j+1,by go_num,dR,bF⟩
    case measure=>simp [intOf];omega
   have bJ:=qkk F.o.2.1 F.o.2.2.1 (k:=k) (by omega) (fun e=>by have:=F.o.2.2.2.1;omega) aA.o.2.2.1 aN bO;have aK:=HQ.o.2.1 k X2 dS aN bO;have cu:=bJ.cs m (by rw [F.o.2.2.2.2];exact qae _);have ak:=fun W v h1 h2 h3 h4=>U.o.2 k X2 v W h1 bB bJ h2 h3 h4
   obtain⟨q3,dY⟩:∃q,csum (sqq (mdq k (chans l) (many k (chans l)) X2) l k) J m=q:=⟨_,rfl⟩;rw [dY] at ak aK cu;obtain⟨t3,t4,aQ⟩:=qcd q3;rw [aQ] at ak;have aH:=fun W=>qlU cu HQ.o.2.2.1 aK W
   rw [HQ.o.2.2.2,aQ] at aH;have bu:=qH aH;obtain⟨a,b',o,d,rfl,hF⟩:=ai.parts;have H:∀c,c<3->((mdq k (chans l) (many k (chans l)) X2).row c).length=many k (chans l):=fun c hc=>by rw [qeo hc,qb0]
   have ae:(mdq k (chans l) (many k (chans l)) X2).kind=(k:Int):=rfl;have aa:(mdq k (chans l) (many k (chans l)) X2).inn=((chans l:Nat):Int):=rfl;rw [ae,aa,H 0 (by decide),H 1 (by decide),H 2 (by decide)] at ai ⊢;obtain⟨M2,dB⟩:∃M,many k (chans l)=M:=⟨_,rfl⟩;obtain⟨n2,dW⟩:∃n,chans l=n:=⟨_,rfl⟩;obtain⟨WG,bN,NG⟩:=nw1 wF #[.int .i64 (k:Int),.int .i64 ((chans l:Nat):Int),.slice (a 0) (many k (chans l)) (d 0),.slice (a 1) (many k (chans l)) (d 1),.slice (a 2) (many k (chans l)) (d 2)] 38;have KG:=(KF.below NG.o.1).also (q:=fun W=>W.heap[wF.heap.size]? = some (.cells #[.int .i64 (k:Int),.int .i64 ((chans l:Nat):Int),.slice (a 0) (many k (chans l)) (d 0),.slice (a 1) (many k (chans l)) (d 1),.slice (a 2) (many k (chans l)) (d 2)] 38 (0,0))) NG.o.2;have az:=qH (ak WG _ (ai.below NG.o.1) KG.o.1.1.1.1 KG.o.1.1.1.2 (H0.o.2.1.below KG.o.1.1.2.1));have bE:=qH (aU.o.trans (NG.o.1.mono aU.o.size));rw [dB,dW] at KG az bN ⊢;clear bJ aK cu ak dY aQ aH hF H ae aa dB dW ai NG KF aU aN bO bB;go_upto_region 25 with fail;rw [<-bN];clear bN
   go_wp2_with ((with_reducible refine lW_ rfl 38 _ rfl (wF.heap.size) #[.int .i64 (k:Int),.int .i64 (n2:Int),.slice (a 0) M2 (d 0),.slice (a 1) M2 (d 1),.slice (a 2) M2 (d 2)] KG.o.2 underlying38 5 ?_))
   refine az.o.mono ?_;rintro e wH ⟨rfl,aY⟩;obtain⟨WI,dI,NI⟩:=nw1 wH #[.string t3,.string t4] 44;have KI:=((KG.below aY).below NI.o.1).also (q:=fun W=>W.heap[wH.heap.size]? = some (.cells #[.string t3,.string t4] 44 (0,0))) NI.o.2;have cZ:=qH (bE.o.trans ((aY.trans (NI.o.1.mono aY.size)).mono bE.o.size));clear aY NI az KG bE;go_upto_region 26 with fail;rw [<-dI];clear dI;have y0:=qC _ _ 0 _ _ _ KI.o.1.1.1.2.2.2;have y1:=qC _ _ 1 _ _ _ KI.o.1.1.1.2.2.2;have v0:=qC _ _ 0 _ _ _ KI.o.2;have v1:=qC _ _ 1 _ _ _ KI.o.2;go_wp2_with fail;refine (bu.o WI).mono ?_;rintro e wJ ⟨eF,rfl,dQ,dN⟩;have dP:¬(0<eF):=by omega
   have eB:=qH (cZ.o.trans (dN.mono cZ.o.size));clear y0 y1 v0 v1 dN KI bu dQ;go_wp2;go_roundw
   case rel=>exact⟨j+1,by go_num,dR,eB⟩
   case measure=>simp [intOf];omega
end Go.Proofs.YtplkdeknjghobaaGreatDoor
section
namespace Go.Proofs.YtplkdeknjghobaaGreatDoor
open Go.ChangeShapes Go.WideShapes Go.ChangeAt Go.RowKit Go.Proofs.Tryz
open Go.ChangeMaps (open_string shut_string)
namespace LfitBest
theorem lifted (os:Os) (J:os.Started) (H:Type) (enc:TypeId×Value->H) :
  ReturnsInHanded {} Tryz.checked os 3 .any (fun w args=>(Rows.fitBestSpec.pre enc prog Tryz.f3 [] false w args/\laidMetH prog laidK w)/\sizedMet enc prog Tryz.f3 (OpenSpec.ofChange Rows.fitBestSpec) false w args)
   (Rows.fitBestSpec.post enc prog Tryz.f3 false true false false):=by
 refine returnsInHanded_of_change_and (C:=Tryz.checked) (X:=fun w _=>laidMetH prog laidK w) (fun _ _ _ hh h=>h.of_heap hh) Tryz.own J (by kernel_rfl) func3
  (ChangeSpec.witness_shaped (enc:=enc) (C:=Tryz.checked) (os:=os) (X:=fun w _=>laidMetH prog laidK w) false (World.laidAll prog os laidK) #[.agg #[.int .u8 0,.slice none 0 0],.agg #[.int .u8 0,.int .u8 0,.slice none 0 0],.slice none 0 0] 8 (World.laidAll_os _ _ _) (World.shaped_of_ZipB (by kernel_rfl) (by kernel_rfl)) (by kernel_rfl) (by kernel_rfl) (by kernel_rfl) (by rw [MakeChecks.laidMetH_plain _ _ _ (by kernel_rfl)];exact laidMet_laidAll _ (by kernel_rfl) (by kernel_rfl))) ?_
 intro W base args ds gs Z I hW _ av hL _;have F:∀(j:Nat) t v,Tryz.f3.params[j]? = some t->args[j]? = some v->Value.okWide prog W .any base t v:=I;have V:=hW;obtain⟨p,q,U,hV,rfl,aA,aB⟩:=hW;have hA:DataW.TrodAll enc prog W 0 (fun _=>true) true Tryz.f3.params.toList args.toList ds p:=U;rw [Tryz.params3] at hA F;obtain⟨v0,v1,v2,d0,d1,d2,p0,p1,p2,rfl,rfl,rfl,h0,h1,h2⟩:=trodAll_three hA;obtain⟨rfl,rfl⟩:=trodVars_none hV;have k0:=h0;have ax:∀x∈p0,x.block<W.heap.size:=by obtain⟨m,Y⟩:=k0;exact DataW.trod_lt m _ _ _ Y
 obtain⟨ch,L,ak⟩:=open_pd (F 0 24 v0 rfl rfl) h0;have k1:=h1;have ay:∀x∈p1,x.block<W.heap.size:=by obtain⟨m,Y⟩:=k1;exact DataW.trod_lt m _ _ _ Y
 obtain⟨kd,inn,Lo,au⟩:=open_mo (F 1 27 v1 rfl rfl) h1;have k2:=h2;have az:∀x∈p2,x.block<W.heap.size:=by obtain⟨m,Y⟩:=k2;exact DataW.trod_lt m _ _ _ Y
 obtain⟨aa,ae,ah,af,G2,rfl,ag,aj,ai⟩:=open_us (F 2 28 v2 rfl rfl) h2;clear U I av;simp only [List.append_nil] at V;refine (qjE ch ae ah af L kd inn Lo G2 aa _ _ W ak au aj ag ai (qng hL).1 (qng hL).2).mono fun e W' ⟨he,hb⟩=>?_
 subst he;exact⟨_,rfl,qh6 (pa:=p0++(p1++p2)) (pv:=[]) V (fun _ _ _=>trodAll_mk1 (shut_bool underlying4 _)) (fun sp O=>(by have h:=trodAll_mk3 (show DataW.Trod enc prog _ 0 sp true 24 _ d0 p0 from (WideElems.Trod_stays Tryz.laidOut (by kernel_rfl) (of_decide_eq_true (by kernel_rfl)) k0 (fun x hx=>hb.same (ax x hx)) (fun x hx=>O x (by simp [hx])))) (show DataW.Trod enc prog _ 0 sp true 27 _ d1 p1 from (WideElems.Trod_stays Tryz.laidOut (by kernel_rfl) (of_decide_eq_true (by kernel_rfl)) k1 (fun x hx=>hb.same (ay x hx)) (fun x hx=>O x (by simp [hx])))) (show DataW.Trod enc prog _ 0 sp true 28 _ d2 p2 from (WideElems.Trod_stays Tryz.laidOut (by kernel_rfl) (of_decide_eq_true (by kernel_rfl)) k2 (fun x hx=>hb.same (az x hx)) (fun x hx=>O x (by simp [hx]))));exact h)) (fun _ _=>rfl) (by simp) hb (ok_one (by kernel_rfl) rfl (okWide_bool_mk underlying4 _))⟩
theorem j1:(Rows.fitBestRow.inPlace == Tryz.prog.inPlace 3)=true:=by kernel_rfl
theorem j2:(Rows.fitBestRow.unfollowed == Tryz.prog.unfollowed 3)=true:=by kernel_rfl
theorem j3:(Rows.fitBestRow.recurses == Tryz.prog.recurses 3)=true:=by kernel_rfl
theorem j4:(Rows.fitBestRow.named == Tryz.prog.varsNamed 3)=true:=by kernel_rfl
theorem j5:Rows.fitBestRow.wf (OpenSpec.ofChange Rows.fitBestSpec)=true:=by kernel_rfl
theorem j6:(Rows.fitBestRow.lifted == Tryz.prog.liftsFinal)=true:=jf6
theorem j7:(Tryz.prog.make == some Rows.fitBestRow.make)=true:=jf7
theorem facts:joinedFacts prog 3 Tryz.f3 Rows.fitBestSpec Rows.fitBestRow=true:=by
 simp only [joinedFacts,jf1,jf2,jf3,jf4,jf5,j1,j2,j3,j4,j5,j6,j7,Bool.and_true,Bool.true_and]
 kernel_rfl
theorem holds:Rows.FitBestSaid :=
 OpenClaim.holds_of_wide 3 Tryz.f3 rfl rfl rfl rfl rfl rfl rfl ⟨rfl,rfl,rfl,rfl,rfl⟩ rfl rfl rfl rfl rfl (by kernel_rfl) func3 facts
  (of_decide_eq_true (by kernel_rfl)) (by unfold Func.isWrapper;first | (rw [if_pos (by decide +kernel)];kernel_rfl) | (rw [if_neg (by decide +kernel)];exact⟨rfl,rfl⟩))
  (fun os F H enc _=>lifted os F H enc)
end LfitBest
theorem fitBest_card:Rows.FitBestCardSaid :=
 Claim7.holds_tied_plain_at .later [] [.data,.data,.data,.sentinel,.sentinel] true (true, "9b05d2fc1ff85d5dc0477f326f390b72a370e4f499729e5259227d07228ba241") true
  LfitBest.holds (fun _ h=>by cases h) (by as_aux_lemma=>kernel_rfl) (fun _ h=>by cases h) fitBest_row_tie rfl ⟨rfl,rfl⟩ (by as_aux_lemma=>kernel_rfl) rfl
  (fun f J O H=>by
   obtain rfl:f=3:=qah ((show Tryz.prog.funcNamed "verdigris/verdigrislaw32.FitBest" = some 3 by as_aux_lemma=>kernel_rfl).symm.trans O) |>.symm
   obtain rfl:J=Tryz.f3:=(qah (Tryz.func3.symm.trans H)).symm;exact⟨by as_aux_lemma=>kernel_rfl,fun j t I=>by
    rw [Tryz.params3] at I;have U:t∈([24,27,28]:List Nat):=by simpa using Array.mem_of_getElem? I
    have F:(([24,27,28]:List Nat).all fun u=>!Tryz.prog.wantsStandIn u)=true:=by as_aux_lemma=>kernel_rfl
    exact (show Tryz.prog.wantsStandIn t=false by simpa using qa7.1 F t U)⟩)
  (by as_aux_lemma=>kernel_rfl)
#print axioms fitBest_card
