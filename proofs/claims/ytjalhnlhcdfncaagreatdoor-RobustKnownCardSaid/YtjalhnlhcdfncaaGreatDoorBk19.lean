import Derived.Lib.ParseIntBCases
import Derived.Test.YtjalhnlhcdfncaaGreatDoorBk18
set_option maxRecDepth 100000
set_option maxHeartbeats 0
namespace Go.Proofs.YtjalhnlhcdfncaaGreatDoor
open Go.RowKit Go.Lib
theorem cmp_lt (p q:Rat):cmp3 (p.num*(q.den:Int) + -(q.num*(p.den:Int))) 0<0↔p<q:=by
 rw [Rat.lt_iff];unfold cmp3;generalize p.num*(q.den:Int)=A;generalize q.num*(p.den:Int)=B;split
 ·constructor <;> intro h <;> omega
 ·split
  ·constructor <;> intro h <;> omega
  ·constructor <;> intro h <;> omega
theorem fct_mono {n m:Nat} (h:n<=m):fct n<=fct m:=by
 induction h with
 | refl=>exact qae _
 | step _ ih =>
  refine qak ih ?_
  show _<=(_+1)*fct _
  exact Nat.le_mul_of_pos_left _ (Nat.succ_pos _)
def fitS:Nat:=26214400
def fitB:Nat:=362387865600
def QB:Nat:=fct 10*fitB ^ 10
def PB:Nat:=fct 11*fitB ^ 11
theorem qeo {n m:Nat} (h:n<=m):fct n*fitB ^ n<=fct m*fitB ^ m:=Nat.mul_le_mul (fct_mono h) (qaZ (by decide) h)
def qdr (l:List Pt):Prop:=l.length<=12/\∀i,i<l.length->∀j,∃m:Nat,m<=8/\(l.getD i pt0).dev.getD j 0=1250*m
def W9 (F:List Int) (n:Nat):Prop:=∀i,i<n->0<=F.getD i 0/\F.getD i 0<=9
theorem W9.cd {F:List Int} {n i:Nat} (h:W9 F n) (G:i<n):Cd (wq F i) 1 9:=by
 obtain⟨H,I⟩:=h i G;exact (Cd.int (F.getD i 0)).mono (by omega)
theorem PtsOk.lab_cd {l:List Pt} (h:PtsOk l) (c:Nat) {i:Nat} (H:i<l.length):Cd (labq l c i) 100 12800:=by
 have F:=(h.rows i H).1;have:=F.l0;have:=F.l1;have:=F.l2;have G:((l.getD i pt0).lab c).natAbs<=12800:=by unfold Pt.lab;(repeat' split) <;> omega
 exact (Cd.frac ((l.getD i pt0).lab c) 100).mono G
theorem PtsOk.term_cd {l:List Pt} (h:PtsOk l) (G:qdr l) {k:Nat} (I:1<=k/\k<=3) (H:¬(k=3/\chans l=4)) {i:Nat} (F:i<l.length) (j:Nat):Cd (tqf l k i j) 512 512:=by
 have:=(h.rows i F).2;have:=h.n4;exact termQ_cd (E:=8) (by decide) (dq_cd8 (G.2 i F)) (by omega) j
def fitE (l:List Pt) (k:Nat) (F:List Int) (r c:Nat):Rat:=if c<many k (chans l) then nq l k F 0 r c else nq l k F (c-many k (chans l)) r (many k (chans l))
theorem qlv {l:List Pt} (h:PtsOk l) (H:qdr l) {k:Nat} (U:1<=k/\k<=3) (J:¬(k=3/\chans l=4)) {I:List Int} (V:W9 I l.length) {r c:Nat} (hr:r<many k (chans l)):Cd (fitE l k I r c) fitS fitB:=by
 unfold fitE;have G:=H.1
 by_cases O:c<many k (chans l)
 ·rw [if_pos O];unfold nq normR;have:=Cd.sum (n:=l.length) (f:=fun i=>wq I i*(gR (many k (chans l)) (tqf l k) (labq l 0) i r*gR (many k (chans l)) (tqf l k) (labq l 0) i c)) (D:=1*(512*512)) (N:=9*(512*512)) fun i F=>by
   unfold gR;rw [if_pos hr,if_pos O];exact (V.cd F).mul ((h.term_cd H U J F r).mul (h.term_cd H U J F c) (by decide) (by decide)) (by decide) (by decide)
  have:=(this.up 100 (by omega) (by omega)).mono (M:=fitB) (by
   have:l.length*(9*(512*512))<=12*(9*(512*512)):=qaP _ G;unfold fitB;omega)
  exact this
 ·rw [if_neg O];unfold nq normR;have:=Cd.sum (n:=l.length) (f:=fun i=>wq I i*(gR (many k (chans l)) (tqf l k) (labq l (c-many k (chans l))) i r*gR (many k (chans l)) (tqf l k) (labq l (c-many k (chans l))) i (many k (chans l)))) (D:=1*(512*100)) (N:=9*(512*12800)) fun i F=>by
   unfold gR;rw [if_pos hr,if_neg (Nat.lt_irrefl _)];exact (V.cd F).mul ((h.term_cd H U J F r).mul (h.lab_cd _ F) (by decide) (by decide)) (by decide) (by decide)
  have:=(this.up 512 (by omega) (by omega)).mono (M:=fitB) (by
   have:l.length*(9*(512*12800))<=12*(9*(512*12800)):=qaP _ G;unfold fitB;omega)
  exact this
theorem qmf {l:List Pt} {k:Nat} {G:List Int} {c c' r j:Nat} (hr:r<many k (chans l)) (F:j<many k (chans l)):nq l k G c r j=nq l k G c' r j:=by
 unfold nq normR;refine qbS fun i _=>?_
 unfold gR;rw [if_pos hr,if_pos F,if_pos hr,if_pos F]
theorem qlw {l:List Pt} (h:PtsOk l) (h8:qdr l) {k:Nat} (hk:1<=k/\k<=3) (h3:¬(k=3/\chans l=4)) {I:List Int} (hw:W9 I l.length) {x:Nat->Nat->Rat} (hs:¬Sing (many k (chans l)) (nq l k I 0)) (V:∀c,c<3->FitX l k I c (x c)) :
  ∃D:Nat,D≠0/\D<=QB/\∀c,c<3->∀i,i<many k (chans l)->Cd (x c i) D PB:=by
 obtain⟨n,H⟩:=qX (many k (chans l));have O:n<=10:=by rw [<-H];exact (qfv (kind:=k) ⟨rfl,hk⟩ h.n1 h.n4 h3).2
 have hE:∀r c,∃a:Int,r<n->fitE l k I r c=(a:Rat) / (fitS:Rat)/\a.natAbs<=fitB:=fun r c=>by
  by_cases hr:r<n
  ·obtain⟨a,e,ha⟩:=qlv h h8 hk h3 hw (c:=c) (by rw [H];exact hr);exact⟨a,fun _=>⟨e,ha⟩⟩
  ·exact⟨0,fun h=>absurd h hr⟩
 obtain⟨A,hA⟩:∃A:Nat->Nat->Int,∀r c,r<n->fitE l k I r c=(A r c:Rat) / (fitS:Rat)/\(A r c).natAbs<=fitB:=⟨fun r c=>(hE r c).choose,fun r c=>(hE r c).choose_spec⟩;have hS:(fitS:Rat)≠0:=qfx (by decide);have G:∀r c,r<n->castM A r c=(fitS:Rat)*fitE l k I r c:=fun r c hr=>by
  rw [(hA r c hr).1]
  show (A r c:Rat)=_
  generalize (fitS:Rat)=S at *
  grind
 have hl:∀r j,r<n->j<n->castM A r j=(fitS:Rat)*nq l k I 0 r j:=fun r j hr J=>by
  rw [G r j hr];unfold fitE;rw [H,if_pos J]
 have ae:¬Sing n (castM A):=fun af=>hs (by
  rw [H];obtain⟨y,hy,h0⟩:=af;refine⟨y,hy,fun i F=>?_⟩;have:=h0 i F;rw [qbS fun j J=>show castM A i j*y j=(fitS:Rat)*(nq l k I 0 i j*y j) by rw [hl i j F J,Rat.mul_assoc],qcc] at this;rcases Rat.mul_eq_zero.1 this with e | e
  ·exact absurd e hS
  ·exact e)
 obtain⟨q,p,hq,Z,hp⟩:=qiH (R:=n) (m:=3) (B:=fitB) (A:=A) (x:=x) (by decide) (fun i j F _=>(hA i j F).2) ae fun c Y i F=>by
  have V:=V c Y i (by rw [H];exact F);rw [H] at V;rw [qbS fun j J=>show castM A i j*x c j=(fitS:Rat)*(nq l k I c i j*x c j) by rw [hl i j F J,qmf (c:=0) (c':=c) (by rw [H];exact F) (by rw [H];exact J),Rat.mul_assoc],qcc,V]
  show (fitS:Rat)*nq l k I c i n=castM A i (n+c)
  rw [G i (n+c) F];unfold fitE;rw [H,if_neg (by omega),Nat.add_sub_cancel_left]
 refine⟨q.natAbs,by omega,qak Z (qeo O),fun c Y i F=>?_⟩;rw [H] at F;obtain⟨e,U⟩:=hp c Y i F;have U:(p c i).natAbs<=PB:=qak U (qeo (by omega));have aa:(q:Rat)≠0:=fun e=>hq (by exact_mod_cast e)
 rcases Int.natAbs_eq q with hq2 | hq2
 ·refine⟨p c i,?_,U⟩;rw [e];have:(q:Rat)=(q.natAbs:Rat):=by rw [<-Rat.intCast_natCast,<-hq2]
  rw [<-this]
 ·refine⟨-(p c i),?_,by rw [qbu];exact U⟩;rw [e];have:(q:Rat) = -(q.natAbs:Rat):=by rw [<-Rat.intCast_natCast,<-Rat.intCast_neg,<-hq2]
  rw [Rat.intCast_neg];generalize (q.natAbs:Rat)=Q at *;rw [this];have:Q≠0:=fun e=>aa (by rw [this,e];rfl)
  grind
end Go.Proofs.YtjalhnlhcdfncaaGreatDoor
namespace Go.Proofs.YtjalhnlhcdfncaaGreatDoor
open Go.RowKit Go.Proofs.Tryz
theorem str_ext {s t:ByteArray} (h:s.data.toList=t.data.toList):s=t:=by
 have:s.data=t.data:=Array.toList_inj.1 h;cases s;cases t;simp at this;subst this;rfl
def qeG (l:List Pt) (k:Nat):Lit->Value
 | .string s=>.bool (decide (∃j,j<k/\(l.getD j pt0).name.data.toList=s))
 | _=>.bool false
theorem qjm (l:List Pt):∀F,(Value.bool false)=qeG l 0 F:=fun F=>by
 unfold qeG;split
 ·rw [qU (by rintro ⟨j,h,_⟩;omega)]
 ·rfl
theorem qiu (l:List Pt) (k:Nat):∀x,x≠Lit.string (l.getD k pt0).name.data.toList->qeG l (k+1) x=qeG l k x:=fun x G=>by
 unfold qeG;split
 ·rename_i s
  congr 1
  rw [decide_eq_decide]
  constructor
  ·rintro ⟨j,h,e⟩;rcases (show j<k\/j=k by omega) with F | rfl
   ·exact⟨j,F,e⟩
   ·exact absurd (by rw [e]) G
  ·rintro ⟨j,h,e⟩;exact⟨j,by omega,e⟩
 ·rfl
theorem qkK (l:List Pt) (k:Nat):qeG l (k+1) (.string (l.getD k pt0).name.data.toList)=.bool true:=by
 unfold qeG;exact congrArg Value.bool (qV ⟨k,by omega,rfl⟩)
structure PtsTo (l:List Pt) (k:Nat):Prop where
 rows:∀j,j<k->PtOk (l.getD j pt0)/\(l.getD j pt0).dev.length=chans l
 apart:∀i j,j<i->i<k->(l.getD j pt0).name≠(l.getD i pt0).name
theorem PtsTo.zero (l:List Pt):PtsTo l 0:=⟨fun j h=>absurd h (by omega),fun i j _ h=>absurd h (by omega)⟩
theorem PtsTo.next {l:List Pt} {k:Nat} (h:PtsTo l k) (G:PtOk (l.getD k pt0)) (H:(l.getD k pt0).dev.length=chans l) (I:¬∃j,j<k/\(l.getD j pt0).name.data.toList=(l.getD k pt0).name.data.toList):PtsTo l (k+1) :=
 ⟨fun j O=>by
  rcases (show j<k\/j=k by omega) with h4 | rfl
  ·exact h.rows j h4
  ·exact⟨G,H⟩,fun i j F J=>by
  rcases (show i<k\/i=k by omega) with h4 | rfl
  ·exact h.apart i j F h4
  ·exact fun e=>I ⟨j,F,by rw [e]⟩⟩
theorem qfB (ao:Option Addr) (b Z R c:Nat) (l:List Pt) (w:World) (hR:l.length=R) (hl:R<=4611686018427387904) (hs:∀k,k<R->(l.getD k pt0).name.size<=4611686018427387904/\(l.getD k pt0).dev.length<=4611686018427387904) (hP:PCells w ao b Z l) :
  Calls prog 55 #[.slice ao R c] w fun e w'=>qeT w (PtsOk l) 310 e w':=by
 by_cases h1:1<=R
 case neg =>
  have hi:(R:Int)<1:=by omega
  have HR:=qH hR;clear hP hR;go_enter func55,ntmps55;go_wp2;go_ret;exact⟨310,rfl,qaj ⟨rfl,fun h=>by have:=h.r1;have:=HR.o;omega⟩,Below.refl _ _⟩
 have aR:¬(R:Int)<1:=by omega
 by_cases h2:R<=40
 case neg =>
  have hi:(40:Int)<R:=by omega
  have HR:=qH hR;clear hP hR;go_enter func55,ntmps55;go_wp2;go_ret;exact⟨310,rfl,qaj ⟨rfl,fun h=>by have:=h.r2;have:=HR.o;omega⟩,Below.refl _ _⟩
 have aS:¬(40:Int)<R:=by omega
 have aK:=hP.addr (by omega);subst aK;have J:=qH (qA hP (qA hR hs));have aM:=@run_makeMap prog;have av:MapAt (w.alloc (.map #[] 0)) prog 9 w.heap.size 0 (.bool false) (qeG l 0):=(MapAt.made w prog 9 (.bool false)).congr fun kl _=>qjm l kl
 have aG:=qH av;have aD:=qH (show Below w.heap.size w (w.alloc (.map #[] 0)) from qB.alloc qN _);clear hP hR hs av;go_enter func55,ntmps55;go_wp2_with fail;clear aM
 go_loopw [17] (fun x17 W=>∃k:Nat,x17=.int .i64 k/\k<=R/\Hu (PtsTo l k)/\Hu (Below w.heap.size w W/\MapAt W prog 9 w.heap.size k (.bool false) (qeG l k))) (fun x17 _=>R-(intOf x17).toNat)
 case atStart=>exact⟨0,rfl,qan _,qH (PtsTo.zero l),qH ⟨aD.o,aG.o⟩⟩
 case round =>
  obtain⟨k,rfl,hk,hJ,K⟩:=hrel
  by_cases ay:k<R
  ·have aT:(k:Int)<R:=by omega
   obtain⟨d0,⟨ra,rb,ro,rc,d1,hN⟩,d2,d3,d4⟩:=(J.o.1.below K.o.1).cell k (by have:=J.o.2.1;omega);obtain⟨_,⟨aN,aX,aY,aO,f1,_⟩,_⟩:=(J.o.1.below K.o.1).cell 0 (by have:=J.o.2.1;omega);rw [Nat.zero_mul,qbA] at f1;obtain⟨p,hp⟩:=qX (l.getD k pt0);obtain⟨n0,ai⟩:∃n,(l.getD 0 pt0).dev.length=n:=⟨_,rfl⟩;have Y:=J.o.2.2 k ay;rw [ai] at f1;rw [hp] at d0 d1 d2 d3 d4 hN Y;obtain⟨nm,dev,l0,l1,l2⟩:=p;simp only [] at d0 d1 d2 d3 d4 hN Y;obtain⟨n,hn⟩:=qX dev.length;rw [hn] at d1;have F:=qH (qA hp (qA ai (qA hn (qA Y hN))));have aA:b<wr.heap.size:=qac wr _ f1;obtain⟨I,ax,O⟩:=nw1 wr #[.string nm,.slice ra n rc,.int .i64 l0,.int .i64 l1,.int .i64 l2] 72;have aB:=qmD (.agg #[.string nm,.slice ra n rc,.int .i64 l0,.int .i64 l1,.int .i64 l2]) ⟨nm,dev,l0,l1,l2⟩;have aI:=qH (fun (W:World) (h:Below wr.heap.size wr W)=>aB W ⟨ra,rb,ro,rc,by rw [F.o.2.2.1],F.o.2.2.2.2.below h⟩ F.o.2.2.2.1.1 F.o.2.2.2.1.2);have aV:w.heap.size<wr.heap.size:=K.o.2.lt;have KM:=qH (qA O.o.1 (K.o.2.below O.o.1));have af:∀W,Below I.heap.size I W->W.cell? ⟨b,Z+1,none⟩=some (.slice aN n0 aO):=fun W h=>(h.cell (p:=⟨b,Z+1,none⟩) (qai aA O.o.1.size)).trans ((O.o.1.cell (p:=⟨b,Z+1,none⟩) aA).trans f1)
   have aU:=(qG O.o.2).1;have c0:=rowC (B:=I.heap.size) O.o.2 0;have c1:=rowC (B:=I.heap.size) O.o.2 1;have c2:=rowC (B:=I.heap.size) O.o.2 2;have c3:=rowC (B:=I.heap.size) O.o.2 3;have c4:=rowC (B:=I.heap.size) O.o.2 4;have aQ:(0:Int)<R:=by omega
   have aP:0<R:=by omega
   clear aB hp ai hn Y hN;go_wp2_with fail;rw [<-ax];clear ax d0 d1 d2 d3 d4 f1;refine wp_region_held_drew (S:=fun W=>Below I.heap.size I W) (by kernel_rfl) qB.drew (fun hS0=>?_);refine hT 0 (h:=?_);refine hC 1 (aI.o _ ((O.o.1).drew)) (h:=?_);rintro e w6 ⟨bb,rfl,V,ag⟩;have G:Below I.heap.size I w6:=qcf ag;have K6:=qH (qA (K.o.1.trans ((KM.o.1.trans (G.mono KM.o.1.size)).mono K.o.1.size)) (qA (KM.o.2.below G) (zkeep G _ _ O.o.2)));refine⟨_,rfl,G,hN (h:=?_)⟩;cases bb with
   | false =>
    have aH:=qH (show ¬PtOk ⟨nm,dev,l0,l1,l2⟩ from fun h=>by have:=V.2 h;cases this);clear V ag;refine hT 2 (h:=hT 3 (h:=hU 4 (h:=hU 5 (h:=hU 6 (h:=hU 7 (h:=hU 8 (h:=hU 9 (h:=hU 10 (h:=hU 11 (h:=hU 12 (h:=hT 13 (h:=hT 14 (h:=hU 15 (h:=hU 16 (h:=hU 17 (h:=hU 18 (h:=hT 19 (h:=?_))))))))))))))))));refine wpAnyH_done (by kernel_rfl) ?_ _;clear G hS0 c0 c1 c2 c3 c4 af;go_wp2;go_ret;exact⟨310,rfl,qaj ⟨rfl,fun h=>aH.o (by rw [<-F.o.1];exact (h.rows k (by have:=J.o.2.1;omega)).1)⟩,K6.o.1⟩
   | true =>
    have aJ:=qH (V.1 rfl);clear V ag
    by_cases U:n=n0
    case neg =>
     have hne:((n:Int) != (n0:Int))=true:=by rw [bne_iff_ne];omega
     have ae:=qH U;clear U;refine hT 2 (h:=hT 3 (h:=hT 4 (h:=hT 5 (h:=hT 6 (h:=hT 7 (h:=hT 8 (h:=hT 9 (h:=hT 10 (h:=hT 11 (h:=hT 12 (h:=hT 13 (h:=hT 14 (h:=hU 15 (h:=hU 16 (h:=hU 17 (h:=hU 18 (h:=hT 19 (h:=?_))))))))))))))))));refine wpAnyH_done (by kernel_rfl) ?_ _;clear G hS0 c0 c1 c2 c3 c4 af;go_wp2;go_ret;exact⟨310,rfl,qaj ⟨rfl,fun h=>ae.o (by
      have:=(h.rows k (by have:=J.o.2.1;omega)).2;rw [F.o.1] at this;unfold chans at this;rw [F.o.2.1] at this;exact F.o.2.2.1.symm.trans this)⟩,K6.o.1⟩
    have hne:((n:Int) != (n0:Int))=false:=by simp [U]
    have ae:=qH U;clear U;have az:Maps.Keyed prog 9:=Maps.string_keyed underlying9;have aC:Tryz.prog.underlying 172=some (.map 9 4):=underlying172;have aa:keyOf prog 9 (.string nm)=some (.string nm.data.toList):=WideMaps.keyOf_string_mk underlying9 (by have:=F.o.2.2.2.1.1;unfold maxLen;omega);obtain⟨seen,H⟩:∃s,decide (∃j,j<k/\(l.getD j pt0).name.data.toList=nm.data.toList)=s:=⟨_,rfl⟩;have ah:∀W,Below I.heap.size I W->(Instr.lookup 172 (.map (some w.heap.size)) (.string nm) false).run prog W=.ok (.bool seen) W:=fun W h=>by
     rw [<-H];exact (KM.o.2.below h).look az aC (by kernel_rfl) aa
    have ak:=qH H;clear H;refine hT 2 (h:=hT 3 (h:=hT 4 (h:=hT 5 (h:=hT 6 (h:=hT 7 (h:=hT 8 (h:=hT 9 (h:=hT 10 (h:=hT 11 (h:=hT 12 (h:=hT 13 (h:=hT 14 (h:=hT 15 (h:=hT 16 (h:=hT 17 (h:=hT 18 (h:=hT 19 (h:=?_))))))))))))))))));refine wpAnyH_done (by kernel_rfl) ?_ _;clear G hS0 c0 c1 c2 c3 c4 af ah;cases seen with
    | true =>
     go_wp2;go_ret;exact⟨310,rfl,qaj ⟨rfl,fun h=>by
      obtain⟨j,hj,e⟩:=of_decide_eq_true ak.o;refine h.apart k j hj (by have:=J.o.2.1;omega) ?_;rw [F.o.1];exact str_ext e⟩,K6.o.1⟩
    | false =>
     have au:PtsTo l (k+1):=by
      refine hJ.o.next (by rw [F.o.1];exact aJ.o) ?_ (by rw [F.o.1];exact of_decide_eq_false ak.o)
      rw [F.o.1];unfold chans;rw [F.o.2.1];exact F.o.2.2.1.trans ae.o
     have aF:=qH au;obtain⟨W7,aW,f7,g7⟩:=K6.o.2.1.store az aC (by unfold maxLen;omega) aa (.bool true);have aj:l.getD k pt0=⟨nm,dev,l0,l1,l2⟩:=F.o.1;have m7:=f7 (qeG l (k+1)) (by have:=qkK l k;rw [aj] at this;exact this) (by have:=qiu l k;rw [aj] at this;exact this);have K7:=qH (qA (qd1 K6.o.1 g7 qN) m7);have q0:=qC w6 _ 0 _ _ _ K6.o.2.2;clear au aj m7 f7 g7;go_wp2;go_roundw
     case rel=>exact⟨k+1,by go_num,ay,aF,K7⟩
     case measure=>simp [intOf];omega
  ·obtain rfl:k=R:=by omega
   go_wp2;go_ret;exact⟨0,rfl,qav ⟨rfl,⟨by have:=J.o.2.1;omega,by have:=J.o.2.1;omega,fun j hj=>hJ.o.rows j (by have:=J.o.2.1;omega),fun i j aL hi=>hJ.o.apart i j aL (by have:=J.o.2.1;omega)⟩⟩,K.o.1⟩
theorem chan_any (U:Option Addr) (b I R c:Nat) (l:List Pt) (w:World) (Y:l.length=R) (hl:R<=4611686018427387904) (hs:∀k,k<R->(l.getD k pt0).name.size<=4611686018427387904/\(l.getD k pt0).dev.length<=4611686018427387904) (V:PCells w U b I l) :
  Calls prog 144 #[.slice U R c] w fun e w'=>((PtsOk l/\e=.returned (.tuple #[.int .i64 (chans l:Nat),.int .i64 0]))\/(¬PtsOk l/\e=.returned (.tuple #[.int .i64 0,.int .i64 310])))/\Below w.heap.size w w':=by
 have HC:=qH (qfB U b I R c l w Y hl hs V);have G:=qH (qA V Y);clear V Y hs;go_enter func144,ntmps144;go_wp2_with fail;refine HC.o.mono ?_;rintro e w2 ⟨cc,rfl,aa,O⟩;have HB:=qH O;rcases aa with ⟨rfl,F⟩ | ⟨rfl,H⟩
 ·have h1:1<=R:=by have:=F.r1;have:=G.o.2;omega
  have Z:=G.o.1.addr (by have:=G.o.2;omega);subst Z;obtain⟨_,⟨ra,rb,ro,rc,f1,_⟩,_⟩:=(G.o.1.below O).cell 0 (by have:=G.o.2;omega);rw [Nat.zero_mul,qbA] at f1;obtain⟨n,hn⟩:=qX ((l.getD 0 pt0).dev.length);rw [hn] at f1;have af:(0:Int)<R:=by omega
  have ae:0<R:=by omega
  have J:=qH (qA F (show chans l=n from hn));clear F hn O;go_wp2_with fail
  go_ret2
  exact⟨qav ⟨J.o.1,by rw [J.o.2];rfl⟩,HB.o⟩
 ·have J:=qH H;clear H O;go_wp2_with fail
  go_ret2
  exact⟨qaj ⟨J.o,rfl⟩,HB.o⟩
def qjA (H:FuncId) (G:Array Value) (w:World) (n:Nat) (P:Nat->FT->Prop) (F:Nat->Int->Prop):Prop :=
 ∀i,i<n->∀W,Below w.heap.size w W->Calls prog H (#[.int .i64 (i:Int)]++G) W fun e w'=>Below W.heap.size W w'/\((∃x y,e=.returned (.agg #[.string x,.string y])/\P i (x,y))\/∃c,e=thrown c/\F i c)
theorem qd6 (fc:FuncId) (G:Array Value) (n:Nat) (hn:n<=1000) (P:Nat->FT->Prop) (F:Nat->Int->Prop) (w:World) (ae:∀a W,(callFunc fc (#[a]++G)).run prog W=.ok (.enter fc (#[a]++G)) W) (hf:qjA fc G w n P F) :
  Calls prog 68 #[.int .i64 (n:Int),.func (.func fc) #[] G] w fun e w'=>Below w.heap.size w w' /\
   ((∃(l:List FT) (g:Nat),l.length=n/\(∀i,i<n->P i (l.getD i fd0))/\e=.returned (.slice (some ⟨g,0,none⟩) n n)/\FCells w' (some ⟨g,0,none⟩) g 0 l/\w.heap.size<=g)\/∃i c,i<n/\e=thrown c/\F i c):=by
 have aa:=qeu n (by omega) w;obtain⟨W5,I⟩:=qY (w.alloc (.cells (madeCells #[.string ⟨#[]⟩,.string ⟨#[]⟩] (n*2)) 27));rw [<-I] at aa;have Z:FRow W5 w.heap.size n []:=I▸FRow.made w n;have Y:Below w.heap.size w W5:=I▸qB.alloc qN _;have H0:=qH (qA Z (qA Y hf));clear Z Y hf I;go_enter func68,ntmps68;go_wp2_with fail
 go_loopw [10] (fun x10 W=>∃i:Nat,x10=.int .i64 i/\i<=n/\Hu (∃l:List FT,l.length=i/\(∀j,j<i->P j (l.getD j fd0))/\FRow W w.heap.size n l/\Below w.heap.size w W)) (fun x10 _=>n-(intOf x10).toNat)
 case atStart=>exact⟨0,rfl,qan _,qH ⟨[],rfl,fun j hj=>absurd hj (by omega),H0.o.1,H0.o.2.1⟩⟩
 case round =>
  obtain⟨i,rfl,ag,hI⟩:=hrel;obtain⟨l,hl,hP,O,hB⟩:=hI.o
  by_cases hi:i<n
  ·subst hl;have af:(l.length:Int)<n:=by omega
   have HC:=qH (H0.o.2.2 l.length hi _ hB);have V:=qH (qA hP (qA O hB));clear hI hP O hB;go_wp2_with fail;refine HC.o.mono ?_;rintro e w2 ⟨H,h⟩;rcases h with ⟨x,y,rfl,hp⟩ | ⟨c,rfl,O⟩
   ·have U:=V.o.2.1.below H;obtain⟨⟨q0,q1⟩,qf⟩:=U.at hi;have ah:=qf (l.length*2);have ai:=qf (l.length*2+1);have J:=qH (qA (U.set hi (x,y)) (qA (((V.o.2.2.trans (H.mono V.o.2.2.size)).setCell (p:=⟨w.heap.size,l.length*2,none⟩) qN (.string x)).setCell (p:=⟨w.heap.size,l.length*2+1,none⟩) qN (.string y)) hp));clear U qf H hp;go_wp2;go_roundw
    case rel =>
     refine⟨l.length+1,by go_num,hi,qH ⟨l++[(x,y)],by simp,fun j hj=>?_,J.o.1,J.o.2.1⟩⟩;rcases qaV j l.length with hj2 | hj2
     ·rw [qab,qax hj2,<-qab];exact V.o.1 j hj2
     ·have:j=l.length:=by omega
      subst this;rw [qab,qar qN,qaK];exact J.o.2.2
    case measure=>simp [intOf];omega
   ·have J:=qH (qA (V.o.2.2.trans (H.mono V.o.2.2.size)) O);clear H O;unfold thrown;go_wp2_with fail;exact⟨rfl,J.o.1,qaj ⟨_,c,hi,rfl,J.o.2⟩⟩
  ·obtain rfl:i=n:=by omega
   have J:=qH (qA hl (qA hP (qA (O.cells hl) hB)));clear hI hl hP O hB;go_wp2;go_ret;obtain⟨h1,h2,h3,h4⟩:=J.o;exact⟨h4,qav ⟨l,_,h1,h2,rfl,h3,qae _⟩⟩
def VRow (W:World) (g n:Nat) (z:Value) (e:TypeId) (F:List Value):Prop:=W.heap[g]? = some (.cells (F++List.replicate (n-F.length) z).toArray e (0,0))/\F.length<=n
theorem VRow.below {W W':World} {g n:Nat} {z:Value} {e:TypeId} {F:List Value} (h:VRow W g n z e F) (G:Below W.heap.size W W'):VRow W' g n z e F :=
 ⟨(G.block _ (qG h.1).1).trans h.1,h.2⟩
theorem VRow.at {W:World} {g n:Nat} {z:Value} {e:TypeId} {F:List Value} (h:VRow W g n z e F) (G:F.length<n):W.cell? ⟨g,F.length,none⟩=some z/\∀j,W.frozen? ⟨g,j,none⟩=false:=by
 refine⟨(qC _ _ _ _ _ _ h.1).trans ((qaz ..).trans ?_),fun j=>qF _ _ _ _ _ h.1⟩;rw [qar qN,qaK,qbq,if_pos (by omega)]
theorem VRow.set {W:World} {g n:Nat} {z:Value} {e:TypeId} {F:List Value} (h:VRow W g n z e F) (H:F.length<n) (v:Value):VRow (W.setCell ⟨g,F.length,none⟩ v) g n z e (F++[v]):=by
 refine⟨?_,by rw [qaf,qaB];omega⟩;rw [heap_setCell_same _ g F.length _ _ _ h.1]
 congr 3
 obtain⟨m,G⟩:∃m,n-F.length=m+1:=⟨n-F.length-1,by omega⟩;rw [qaH,G,qbn,qaf,qaB,show n-(F.length+1)=m by omega,qa4 _ _ qN,qaK,qbh,qaA]
 rfl
theorem VRow.made (W:World) (n:Nat) (z:Value) (e:TypeId):VRow (W.alloc (.cells (Array.replicate n z) e)) W.heap.size n z e []:=by
 refine⟨?_,qan _⟩;rw [qM _ _ _ rfl,qbw,List.length_nil,Nat.sub_zero,List.toArray_replicate]
theorem VRow.cells {W:World} {g n:Nat} {z:Value} {e:TypeId} {F:List Value} (h:VRow W g n z e F) (I:F.length=n):VCells W (some ⟨g,0,none⟩) g 0 F:=by
 have G:=h.1;rw [I,qaK,List.replicate_zero,qbE] at G;refine⟨fun _=>rfl,fun k H=>?_⟩;rw [qaL];refine (qC _ _ _ _ _ _ G).trans ((qaz ..).trans ?_);rw [qab,qad H];rfl
theorem VRow.made' (W:World) (n:Nat) (z:Value) (e:TypeId):VRow (W.alloc (.cells (madeCells #[z] n) e)) W.heap.size n z e []:=by
 have:madeCells #[z] n=Array.replicate n z:=by
  apply Array.ext
  ·simp [madeCells]
  ·intro i F G;simp [madeCells,Nat.mod_one]
 rw [this];exact VRow.made W n z e
def RVals (W:World) (G:List Value) (t:Tbl):Prop:=G.length=t.length/\∀k,k<t.length->∃(F:Option Addr) (rb H rc:Nat),G.getD k undef=.slice F (t.getD k []).length rc/\FCells W F rb H (t.getD k [])
theorem RVals.below {W W':World} {F:List Value} {t:Tbl} (h:RVals W F t) (I:Below W.heap.size W W'):RVals W' F t :=
 ⟨h.1,fun k J=>by
  obtain⟨ra,rb,ro,rc,G,H⟩:=h.2 k J;exact⟨ra,rb,ro,rc,G,H.below I⟩⟩
theorem RVals.tcells {W:World} {G:Option Addr} {b F:Nat} {J:List Value} {t:Tbl} (h:RVals W J t) (I:VCells W G b F J):TCells W G b F t :=
 ⟨fun O=>I.addr (by rw [h.1];exact O),fun k H=>by
  obtain⟨ra,rb,ro,rc,U,V⟩:=h.2 k H;exact⟨ra,rb,ro,rc,(I.cell k (by rw [h.1];exact H)).trans (by rw [U]),V⟩⟩
theorem RVals.append {W:World} {G F:List Value} {t t2:Tbl} (h:RVals W G t) (J:RVals W F t2):RVals W (G++F) (t++t2):=by
 refine⟨by rw [qaf,qaf,h.1,J.1],fun k O=>?_⟩;rw [qaf] at O
 by_cases e:k<t.length
 ·have H:(G++F).getD k undef=G.getD k undef:=by rw [qab,qax (by rw [h.1];exact e),<-qab]
  have I:(t++t2).getD k []=t.getD k []:=by rw [qab,qax e,<-qab]
  rw [H,I];exact h.2 k e
 ·have H:(G++F).getD k undef=F.getD (k-t.length) undef:=by rw [qab,qar (by rw [h.1];omega),h.1,<-qab]
  have I:(t++t2).getD k []=t2.getD (k-t.length) []:=by rw [qab,qar (by omega),<-qab]
  rw [H,I];exact J.2 _ (by omega)
theorem RVals.one {W:World} {F:Option Addr} {rb G m rc:Nat} {l:List FT} (I:l.length=m) (h:FCells W F rb G l):RVals W [.slice F m rc] [l] :=
 ⟨rfl,fun k H=>by
  obtain rfl:k=0:=by simp at H;omega
  exact⟨F,rb,G,rc,by rw [show ([l]:Tbl).getD 0 []=l from rfl,I];rfl,h⟩⟩
theorem FCells.kept {W W':World} {G:Option Addr} {b F:Nat} {l:List FT} (h:FCells W G b F l) (I:∀a s,W.cell? a=some (.string s)->W'.cell? a=some (.string s)):FCells W' G b F l :=
 ⟨h.addr,fun k H=>⟨I _ _ (h.cell k H).1,I _ _ (h.cell k H).2⟩⟩
theorem RVals.kept {W W':World} {F:List Value} {t:Tbl} (h:RVals W F t) (J:∀a s,W.cell? a=some (.string s)->W'.cell? a=some (.string s)):RVals W' F t :=
 ⟨h.1,fun k H=>by
  obtain⟨a,b,o,c,G,I⟩:=h.2 k H;exact⟨a,b,o,c,G,I.kept J⟩⟩
theorem qka {W:World} {p:Addr} {v u:Value} (F:W.cell? p=some v) (G:∀s,v≠.string s):∀a s,W.cell? a=some (.string s)->(W.setCell p u).cell? a=some (.string s):=fun a s h=>by
 have hne:p≠a:=by rintro rfl;rw [F] at h;exact G s (qag h)
 rw [World.cell?_setCell_other (h:=hne)];exact h
def GivesL (H:FuncId) (G:Array Value) (w:World) (n:Nat) (P:Nat->List FT->Prop) (F:Nat->Int->Prop):Prop :=
 ∀i,i<n->∀W,Below w.heap.size w W->Calls prog H (#[.int .i64 (i:Int)]++G) W fun e w'=>Below W.heap.size W w'/\((∃(l:List FT) (a:Option Addr) (g m c:Nat),e=.returned (.slice a m c)/\l.length=m/\FCells w' a g 0 l/\P i l)\/∃c,e=thrown c/\F i c)
def RowsTo (W:World) (g n:Nat) (P:Nat->List FT->Prop) (i:Nat) (e:TypeId):Prop:=∃(F:List Value) (t:Tbl),F.length=i/\VRow W g n (.slice none 0 0) e F/\RVals W F t/\∀j,j<i->P j (t.getD j [])
theorem qi8 (fc:FuncId) (G:Array Value) (n:Nat) (hn:n<=1000) (P:Nat->List FT->Prop) (F:Nat->Int->Prop) (w:World) (ag:∀a W,(callFunc fc (#[a]++G)).run prog W=.ok (.enter fc (#[a]++G)) W) (hf:GivesL fc G w n P F) :
  Calls prog 65 #[.int .i64 (n:Int),.func (.func fc) #[] G] w fun e w'=>Below w.heap.size w w' /\
   ((∃(t:Tbl) (g:Nat),t.length=n/\(∀i,i<n->P i (t.getD i []))/\e=.returned (.slice (some ⟨g,0,none⟩) n n)/\TCells w' (some ⟨g,0,none⟩) g 0 t/\w.heap.size<=g)\/∃i c,i<n/\e=thrown c/\F i c):=by
 have af:=run_make_row' (P:=prog) 131 22 (.slice none 0 0) 24 underlying131 infoFs rfl .i64 .i64 n (by omega) (by omega) w;obtain⟨W5,J⟩:=qY (w.alloc (.cells (madeCells #[.slice none 0 0] n) 22));rw [<-J] at af;have aa:VRow W5 w.heap.size n (.slice none 0 0) 22 []:=J▸VRow.made' w n _ _;have Z:Below w.heap.size w W5:=J▸qB.alloc qN _;have H0:=qH (qA aa (qA Z hf));clear aa Z hf J;go_enter func65,ntmps65;go_wp2_with fail
 go_loopw [10] (fun x10 W=>∃i:Nat,x10=.int .i64 i/\i<=n/\Hu (RowsTo W w.heap.size n P i 22/\Below w.heap.size w W)) (fun x10 _=>n-(intOf x10).toNat)
 case atStart=>exact⟨0,rfl,qan _,qH ⟨⟨[],[],rfl,H0.o.1,⟨rfl,fun k hk=>absurd hk (qbb _)⟩,fun j hj=>absurd hj (by omega)⟩,H0.o.2.1⟩⟩
 case round =>
  obtain⟨i,rfl,ai,hI⟩:=hrel;obtain⟨⟨vs,t,hl,hV,Y,hP⟩,hB⟩:=hI.o
  by_cases hi:i<n
  ·subst hl;have ah:(vs.length:Int)<n:=by omega
   have HC:=qH (H0.o.2.2 vs.length hi _ hB);have O:=qH (qA hP (qA hV (qA Y hB)));clear hI hP hV Y hB;go_wp2_with fail;refine HC.o.mono ?_;rintro e w2 ⟨H,h⟩;rcases h with ⟨l,a,g,m,c,rfl,hm,V,hp⟩ | ⟨c,rfl,V⟩
   ·have U:=O.o.2.1.below H;obtain⟨q0,qf⟩:=U.at hi;have aj:=qf vs.length;have I:=qH (qA (U.set hi (.slice a m c)) (qA ((O.o.2.2.2.trans (H.mono O.o.2.2.2.size)).setCell (p:=⟨w.heap.size,vs.length,none⟩) qN (.slice a m c)) (qA (((O.o.2.2.1.below H).append (RVals.one hm V (rc:=c))).kept (qka (u:=.slice a m c) q0 (fun s h=>by cases h))) hp)));clear U qf H hp V;go_wp2;go_roundw
    case rel =>
     refine⟨vs.length+1,by go_num,hi,qH ⟨⟨_,_,by simp,I.o.1,I.o.2.2.1,fun j hj=>?_⟩,I.o.2.1⟩⟩;have ae:=O.o.2.2.1.1;rcases qaV j t.length with hj2 | hj2
     ·rw [qab,qax hj2,<-qab];exact O.o.1 j (by omega)
     ·have:j=t.length:=by omega
      subst this;rw [qab,qar qN,qaK,<-ae];exact I.o.2.2.2
    case measure=>simp [intOf];omega
   ·have I:=qH (qA (O.o.2.2.2.trans (H.mono O.o.2.2.2.size)) V);clear H V;unfold thrown;go_wp2_with fail;exact⟨rfl,I.o.1,qaj ⟨_,c,hi,rfl,I.o.2⟩⟩
  ·obtain rfl:i=n:=by omega
   have I:=qH (qA (Y.1.symm.trans hl) (qA hP (qA (Y.tcells (hV.cells hl)) hB)));clear hI hl hP hV Y hB;go_wp2;go_ret;obtain⟨h1,h2,h3,h4⟩:=I.o;exact⟨h4,qav ⟨t,_,h1,h2,rfl,h3,qae _⟩⟩
def FOwn (W:World) (B:Nat) (v:Value) (l:List FT):Prop:=Rws W B 27 2 v l.length (fflat l)
theorem FOwn.below {W W':World} {B:Nat} {v:Value} {l:List FT} (h:FOwn W B v l) (F:Below W.heap.size W W'):FOwn W' B v l:=Rws.below h F
theorem FOwn.cells {W:World} {B:Nat} {v:Value} {l:List FT} {n:Nat} (h:FOwn W B v l) (J:l.length=n):∃(F:Option Addr) (g cap:Nat),v=.slice F n cap/\FCells W F g 0 l/\n<=cap:=by
 obtain⟨F,g,cap,G,I,H⟩:=qdL h rfl;rw [J] at G H;exact⟨F,g,cap,G,I,H⟩
def ways (a b c:Value):Lit->Value
 | .int .i64 1=>a
 | .int .i64 2=>b
 | .int .i64 3=>c
 | _=>.nilFunc
theorem ways_a (a:Value):∀x,x≠Lit.int .i64 1->ways a .nilFunc .nilFunc x=.nilFunc:=fun x h=>by
 unfold ways;split
 ·exact absurd rfl h
 ·rfl
 ·rfl
 ·rfl
theorem ways_b (a b:Value):∀x,x≠Lit.int .i64 2->ways a b .nilFunc x=ways a .nilFunc .nilFunc x:=fun x h=>by
 unfold ways;split
 ·rfl
 ·exact absurd rfl h
 ·rfl
 ·rfl
theorem ways_c (a b c:Value):∀x,x≠Lit.int .i64 3->ways a b c x=ways a b .nilFunc x:=fun x h=>by
 unfold ways;split
 ·rfl
 ·rfl
 ·exact absurd rfl h
 ·rfl
theorem qiM (kind:Int) (k:Nat) (hk:qcG kind k) (ao:Option Addr) (b aU n c:Nat) (d:List Int) (w:World) (hn:d.length=n) (h1:1<=n) (h4:n<=4) (h3:k=3->n<=3) (hN:NCells w ao b aU d) (hV:qeC d) (hT:HasT w) :
  Calls prog 67 #[.int .i64 kind,.slice ao n c] w fun e w'=>∃v,e=.returned v/\FOwn w' w.heap.size v ((termL k d).map ftxt)/\Below w.heap.size w w':=by
 have aQ:=hN.addr (by omega);subst aQ;have Z:=qH (qA hk (qA hn (qA h3 (qA hN (qA hV hT)))));have aR:=qeu n (by omega);have aD:=@run_makeMap prog;have aC:=@hmf_ prog;obtain⟨W1,af⟩:∃W,W=(w.alloc (.cells (madeCells #[.string ⟨#[]⟩,.string ⟨#[]⟩] (n*2)) 27)).alloc (.cells #[.slice (some ⟨w.heap.size,0,none⟩) n n] 22):=⟨_,rfl⟩;have F:Below w.heap.size w W1:=af▸qbM (qbM qB qN) qN;have aJ:FRow W1 w.heap.size n []:=by rw [af];exact (FRow.made w n).below (qbM qB qN)
 have aK:W1.heap[w.heap.size+1]? = some (.cells #[.slice (some ⟨w.heap.size,0,none⟩) n n] 22 (0,0)):=by rw [af];exact qM _ _ _ (by simp)
 have K1:=qH (qA F (qA aJ aK));clear hk hn hN hV hT F aJ aK h3;go_enter func67,ntmps67;go_wp2_with fail;rw [<-af]
 go_loopw [16] (fun x16 W=>∃k:Nat,x16=.int .i64 k/\k<=n/\Hu (Below w.heap.size w W/\FRow W w.heap.size n (told k (dq d))/\W.heap[w.heap.size+1]? = some (.cells #[.slice (some ⟨w.heap.size,0,none⟩) n n] 22 (0,0)))) (fun x16 _=>n-(intOf x16).toNat)
 case atStart=>exact⟨0,rfl,qan _,K1⟩
 case round =>
  clear aR af K1;have aN:=qH aD;have aM:=qH aC;clear aD aC;obtain⟨j,rfl,hj,K⟩:=hrel
  by_cases aB:j<n
  ·have bg:(j:Int)<n:=by omega
   have d0:=(Z.o.2.2.2.1.below K.o.1).cell j (by have:=Z.o.2.1;omega);obtain⟨x,hx⟩:=qX (d.getD j 0);rw [hx] at d0;have aT:=Z.o.2.2.2.2.1.at j;rw [hx] at aT;obtain⟨t1,t2,ht⟩:=qcs (dq d j);have aa:=fun (W:World) (h:Below w.heap.size w W)=>of_int x 10000 (by decide) (by omega) (by decide) W (Z.o.2.2.2.2.2.below h)
   have aH:(x:Rat) / ((10000:Int):Rat)=dq d j:=by unfold dq;rw [hx];rfl
   rw [aH,ht] at aa;have HO:=qH aa;have aG:=qH ht;have bi:=(qG K.o.2.2).1;have q5:=rowG (g0:=w.heap.size) K.o.2.2 0;have au:(told j (dq d)).length=j:=qbQ _ _;have HL:=qH au;clear hx ht aH aa au;go_wp2_with fail;refine wp_region_held_drew (S:=fun W=>wr.grownBy W (some w.heap.size)) (by kernel_rfl) (keepB qB.drew) (fun hS0=>?_);refine hT 0 (h:=hT 1 (h:=hT 2 (h:=?_)));refine hC 3 (HO.o _ (K.o.1.drew)) (h:=?_);rintro e w1 ⟨rfl,F⟩;have az:=qjT (g:=w.heap.size) F;refine⟨_,rfl,az,hN (h:=?_)⟩;refine hT 4 (h:=hT 5 (h:=?_));refine hC 6 (qdk t1 t2 w1) (h:=?_);rintro e J ⟨rfl,O⟩;have aA:=qca az O;have Y:Below wr.heap.size wr J:=(qcf F).trans (O.mono (qcf F).size);have K2:=qH (qA (K.o.1.trans (Y.mono K.o.1.size)) (qA (K.o.2.1.below Y) (zkeep Y _ _ K.o.2.2)));refine⟨_,rfl,aA,hN (h:=?_)⟩;obtain⟨⟨z0,z1⟩,zf⟩:=K2.o.2.1.at (by rw [HL.o];exact aB);rw [HL.o] at z0 z1;have aV:=zf (j*2);have aW:=zf (j*2+1);have ag:=K2.o.2.1.set (by rw [HL.o];exact aB) (t1,t2);refine hT 7 (h:=?_);refine hSg 8 (h:=⟨qbR (qbR aA (qbO _ _ _ _)) (qbO _ _ _ _),?_⟩);refine wpAnyH_done (by kernel_rfl) ?_ _;rw [HL.o,show (t1,t2)=ftxt (dq d j) from aG.o.symm,<-qfo] at ag;have K3:Hu (Below w.heap.size w ((J.setCell ⟨w.heap.size,j*2,none⟩ (.string t1)).setCell ⟨w.heap.size,j*2+1,none⟩ (.string t2))/\FRow ((J.setCell ⟨w.heap.size,j*2,none⟩ (.string t1)).setCell ⟨w.heap.size,j*2+1,none⟩ (.string t2)) w.heap.size n (told (j+1) (dq d))/\((J.setCell ⟨w.heap.size,j*2,none⟩ (.string t1)).setCell ⟨w.heap.size,j*2+1,none⟩ (.string t2)).heap[w.heap.size+1]? = some (.cells #[.slice (some ⟨w.heap.size,0,none⟩) n n] 22 (0,0))) :=
    qH ⟨(K2.o.1.setCell (by exact qae _) _).setCell (by exact qae _) _,by have:=ag;rw [aG.o] at this;exact this,(qW _ _ _ _ (show w.heap.size+1≠w.heap.size by omega)).trans ((qW _ _ _ _ (show w.heap.size+1≠w.heap.size by omega)).trans K2.o.2.2)⟩
   obtain⟨W3,ai⟩:∃W,W=(J.setCell ⟨w.heap.size,j*2,none⟩ (.string t1)).setCell ⟨w.heap.size,j*2+1,none⟩ (.string t2):=⟨_,rfl⟩;rw [<-ai] at K3 ⊢;clear ai ag z0 z1 zf aV aW Y aA az O F q5 d0;go_wp2;go_roundw
   case rel=>exact⟨j+1,by go_num,aB,K3⟩
   case measure=>simp [intOf];omega
  ·obtain rfl:j=n:=by omega
   have hP:HasT wr:=Z.o.2.2.2.2.2.below K.o.1;obtain⟨t1,t2,ht⟩:=qcs 1;have aa:=fun (W:World) (h:Below w.heap.size w W)=>of_int 1 1 (by decide) (by decide) (by decide) W (Z.o.2.2.2.2.2.below h)
   rw [show ((1:Int):Rat) / ((1:Int):Rat)=1 by decide +kernel,ht] at aa;have HO:=qH aa;have Ht:=qH ht;clear hP ht aa;go_wp2_with fail;refine (HO.o wr K.o.1).mono ?_;rintro e w1 ⟨rfl,F⟩;go_wp2_with fail;refine (qdk t1 t2 w1).mono ?_;rintro e J ⟨rfl,O⟩;obtain⟨W3,ai,N3⟩:=nw2 J #[.string t1,.string t2] 27 #[.string t1,.string t2] 27;have Y:Below wr.heap.size wr W3:=F.trans ((O.trans (N3.o.1.mono O.size)).mono F.size);have K3:=qH (qA (K.o.1.trans (Y.mono K.o.1.size)) (qA (K.o.2.1.below Y) (qA (zkeep Y _ _ K.o.2.2) N3.o.2)));have aZ:w.heap.size<=J.heap.size:=qak K.o.1.size (qak F.size O.size);have aO:=qC W3 _ 0 _ _ _ K3.o.2.2.1;have aX:=qC J _ 0 _ _ _ (zkeep O _ _ (zkeep F _ _ K.o.2.2));have bn:w.heap.size+1<J.heap.size:=(qG (zkeep O _ _ (zkeep F _ _ K.o.2.2))).1;have aY:w.heap.size+1<J.heap.size+1:=by omega
   obtain⟨v',G,hr,aF,U⟩:=qgC (m:=j) (c:=j) 22 (qmy K3.o.2.2.2.2 (B:=w.heap.size) (by omega)) K3.o.1.size (K3.o.2.1.cells (qbQ _ _)) (qbQ _ _) (by omega) (by omega);have bf:W3.heap.size<=G.heap.size:=by rcases U with ⟨_,h⟩ | ⟨_,h⟩ <;> exact h.size
   obtain⟨h5,_⟩:=qcW K3.o.2.2.1 (by intro e;have:J.heap.size+1=w.heap.size+1:=qag e;omega) U;obtain⟨h8,_⟩:=qcW K3.o.2.2.2.1 (by intro e;have:J.heap.size+1=J.heap.size:=qag e;omega) U;obtain⟨hg,aI⟩:=qcW K3.o.2.1.1 (by intro e;have:J.heap.size+1=w.heap.size:=qag e;omega) U;have ax:=qdE (B:=w.heap.size) K3.o.1 (fun k hk=>by have:J.heap.size+1=k:=qag hk;omega) K3.o.1.size U;have aL:FOwn G w.heap.size v' ((lin d).map ftxt):=by
    unfold FOwn;rw [qaF,qlU,Z.o.2.1,lin_told,Z.o.2.1,Ht.o,show j+1=1+j by omega];exact aF
   have K4:=qH (qA ax (qA (show FRow G w.heap.size j (told j (dq d)) from ⟨hg,K3.o.2.1.2⟩) (qA h5 (qA h8 (qA aL aI)))));obtain⟨av,cv,rfl⟩:=aF.shape;clear F O Y N3 aF U h5 h8 hg aI ax aL aO;rw [ai] at hr;have aD:=aN.o;have aC:=aM.o;have bv:w.heap.size+1<G.heap.size:=(qG K4.o.2.2.1).1;have bz:J.heap.size<G.heap.size:=(qG K4.o.2.2.2.1).1;obtain⟨W5,ae⟩:∃W,W=(G.alloc (.cells #[.slice av (1+j) cv] 22)).alloc (.map #[] 0):=⟨_,rfl⟩;have I:Below G.heap.size G W5:=ae▸(qB.alloc qN _).alloc (by simp) _;have h9:W5.heap[G.heap.size]? = some (.cells #[.slice av (1+j) cv] 22 (0,0)):=by rw [ae,qL _ _ _ (by simp only [qaa];omega)];exact qM _ _ _ rfl
   have ah:MapAt W5 prog 3 (G.heap.size+1) 0 (.nilFunc) (fun _=>.nilFunc):=by
    have:=MapAt.made (G.alloc (.cells #[.slice av (1+j) cv] 22)) prog 3 .nilFunc;rw [qaa] at this;rw [ae];exact this
   have aj:Maps.Keyed prog 3:=Maps.int_keyed underlying3;have ak:Tryz.prog.underlying 183=some (.map 3 157):=underlying183;obtain⟨W6,aS,f6,g6⟩:=ah.store aj ak (by decide) (Maps.keyOf_int_mk (q:=.i64) (a:=1) underlying3 (by decide)) (.func (.func 112) #[] #[.pointer (some ⟨G.heap.size,0,none⟩)]);have m6:=f6 (ways (.func (.func 112) #[] #[.pointer (some ⟨G.heap.size,0,none⟩)]) .nilFunc .nilFunc) rfl (ways_a _);obtain⟨W7,bq,f7,g7⟩:=m6.store aj ak (by decide) (Maps.keyOf_int_mk (q:=.i64) (a:=2) underlying3 (by decide)) (.func (.func 113) #[] #[.pointer (some ⟨w.heap.size+1,0,none⟩),.pointer (some ⟨G.heap.size,0,none⟩)]);have m7:=f7 (ways (.func (.func 112) #[] #[.pointer (some ⟨G.heap.size,0,none⟩)]) (.func (.func 113) #[] #[.pointer (some ⟨w.heap.size+1,0,none⟩),.pointer (some ⟨G.heap.size,0,none⟩)]) .nilFunc) rfl (ways_b _ _);obtain⟨V,bu,f8,g8⟩:=m7.store aj ak (by decide) (Maps.keyOf_int_mk (q:=.i64) (a:=3) underlying3 (by decide)) (.func (.func 115) #[] #[.pointer (some ⟨J.heap.size,0,none⟩),.pointer (some ⟨w.heap.size+1,0,none⟩)]);have m8:=f8 (ways (.func (.func 112) #[] #[.pointer (some ⟨G.heap.size,0,none⟩)]) (.func (.func 113) #[] #[.pointer (some ⟨w.heap.size+1,0,none⟩),.pointer (some ⟨G.heap.size,0,none⟩)]) (.func (.func 115) #[] #[.pointer (some ⟨J.heap.size,0,none⟩),.pointer (some ⟨w.heap.size+1,0,none⟩)])) rfl (ways_c _ _ _);have hz:(zeroValue 157).run prog V=.ok .nilFunc V:=by kernel_rfl
   have look:=fun (kl:Int) (h:(Lit.int .i64 kl).wf=true)=>m8.look aj ak hz (Maps.keyOf_int_mk (q:=.i64) (a:=kl) underlying3 h)
   have H:W5.grownBy V (some (G.heap.size+1)):=qbR (qbR g6 g7) g8;have K8:Hu (Below w.heap.size w V/\FRow V w.heap.size j (told j (dq d))/\V.heap[w.heap.size+1]? = some (.cells #[.slice (some ⟨w.heap.size,0,none⟩) j j] 22 (0,0))/\V.heap[J.heap.size]? = some (.cells #[.string t1,.string t2] 27 (0,0))/\FOwn V w.heap.size (.slice av (1+j) cv) ((lin d).map ftxt)/\V.heap[G.heap.size]? = some (.cells #[.slice av (1+j) cv] 22 (0,0))):=by
    have row:∀g o,W5.heap[g]? = some o->g≠G.heap.size+1->V.heap[g]? = some o:=fun g o h hne=>(H.block g (qG h).1 (fun e=>hne (qag e))).trans h
    have aP:=K4.o.1.trans (I.mono K4.o.1.size);refine qH ⟨qd1 aP H (by omega),⟨row _ _ (zkeep I _ _ K4.o.2.1.1) (by omega),K4.o.2.1.2⟩,row _ _ (zkeep I _ _ K4.o.2.2.1) (by omega),row _ _ (zkeep I _ _ K4.o.2.2.2.1) (by omega),(K4.o.2.2.2.2.1.below I).kept H (qaj fun e=>?_),row _ _ h9 (by omega)⟩;have:=(K4.o.2.2.2.2.1.lt _ e).2;omega
   have Hn:=qH K4.o.2.2.2.2.2;rw [ae] at aS;rcases qg7 Z.o.1 with ⟨rfl,rfl⟩ | ⟨rfl,rfl⟩ | ⟨rfl,rfl⟩
   ·have hl:(Instr.lookup 183 (.map (some (G.heap.size+1))) (.int .i64 1) false).run prog V=.ok (.func (.func 112) #[] #[.pointer (some ⟨G.heap.size,0,none⟩)]) V:=look 1 (by decide);have hc:=qkX G.heap.size _ V K8.o.2.2.2.2.2 ⟨_,_,_,rfl⟩;have HC:=qH hc;clear hc look m8 m7 m6 f6 f7 f8 g6 g7 g8 ah h9 I ae H hz
    go_wp2_with ((with_reducible refine qdZ rfl (.tmp 35) (.tmp 36) 22 rfl ?_ ?_ hr ?_);(next=>rfl);(next=>rfl))
    refine HC.o.mono ?_;rintro e w9 ⟨rfl,hw⟩;have hw:=hw.symm;subst hw;have HR:=qH (qA K8.o.2.2.2.2.1 K8.o.1);go_wp2;go_ret;exact⟨_,rfl,HR.o.1,HR.o.2⟩
   ·have hl:(Instr.lookup 183 (.map (some (G.heap.size+1))) (.int .i64 2) false).run prog V=.ok (.func (.func 113) #[] #[.pointer (some ⟨w.heap.size+1,0,none⟩),.pointer (some ⟨G.heap.size,0,none⟩)]) V:=look 2 (by decide);have hc:=qkY w.heap.size (w.heap.size+1) G.heap.size w.heap.size j j d (.slice av (1+j) cv) V K8.o.1.size (by omega) (by omega) Z.o.2.1 (by omega) Z.o.2.2.2.2.1 (fun W h=>Z.o.2.2.2.2.2.below (K8.o.1.trans h)) ⟨Below.refl _ _,K8.o.2.2.1,K8.o.2.2.2.2.2,K8.o.2.1,by have h:=K8.o.2.2.2.2.1;unfold FOwn at h;rw [qaF,qlU,Z.o.2.1] at h;rw [show sqs d 0=[] from rfl,qbE,show 1+j=j+1 by omega];rw [show 1+j=j+1 by omega] at h;exact h,Hn.o⟩;have HC:=qH hc;clear hc look m8 m7 m6 f6 f7 f8 g6 g7 g8 ah h9 I ae H hz
    go_wp2_with ((with_reducible refine qdZ rfl (.tmp 35) (.tmp 36) 22 rfl ?_ ?_ hr ?_);(next=>rfl);(next=>rfl))
    refine HC.o.mono ?_;rintro e w9 ⟨y,rfl,hy,hb⟩;have HR:Hu (FOwn w9 w.heap.size y ((termL 2 d).map ftxt)/\Below w.heap.size w w9):=qH ⟨by
     unfold FOwn;have hl:((termL 2 d).map ftxt).length=j+1+j:=by
      have h:=hy.1;rw [qce] at h;omega
     rw [hl];exact hy,K8.o.1.trans hb⟩
    obtain⟨ay,cy,rfl⟩:=hy.shape;clear hy hb;go_wp2;go_ret;exact⟨_,rfl,HR.o.1,HR.o.2⟩
   ·have hl:(Instr.lookup 183 (.map (some (G.heap.size+1))) (.int .i64 3) false).run prog V=.ok (.func (.func 115) #[] #[.pointer (some ⟨J.heap.size,0,none⟩),.pointer (some ⟨w.heap.size+1,0,none⟩)]) V:=look 3 (by decide);have hc:=qkZ w.heap.size (w.heap.size+1) J.heap.size w.heap.size j j d V K8.o.1.size Z.o.2.1 (Z.o.2.2.1 rfl) Z.o.2.2.2.2.1 (fun W h=>Z.o.2.2.2.2.2.below (K8.o.1.trans h)) K8.o.2.2.1 (by rw [Ht.o];exact K8.o.2.2.2.1) K8.o.2.1;have HC:=qH hc;clear hc look m8 m7 m6 f6 f7 f8 g6 g7 g8 ah h9 I ae H hz
    go_wp2_with ((with_reducible refine qdZ rfl (.tmp 35) (.tmp 36) 22 rfl ?_ ?_ hr ?_);(next=>rfl);(next=>rfl))
    refine HC.o.mono ?_;rintro e w9 ⟨y,rfl,hy,hb⟩;have HR:Hu (FOwn w9 w.heap.size y ((termL 3 d).map ftxt)/\Below w.heap.size w w9):=qH ⟨by
     unfold FOwn;have hl:((termL 3 d).map ftxt).length=2 ^ j:=by
      have h:=hy.1;rw [qce] at h;omega
     rw [hl];exact hy,K8.o.1.trans hb⟩
    obtain⟨ay,cy,rfl⟩:=hy.shape;clear hy hb;go_wp2;go_ret;exact⟨_,rfl,HR.o.1,HR.o.2⟩
theorem qlS (k F R pb ib b U c:Nat) (ao:Option Addr) (l:List Pt) (ty ak:TypeId) (w:World) (hR:l.length=R) (hk:k<R) (au:R<=40) (ag:F<3) (O:w.heap[pb]? = some (.cells #[.slice ao R c] ty (0,0))) (J:w.heap[ib]? = some (.cells #[.int .i64 (F:Int)] ak (0,0)))
  (hP:PCells w ao b U l) (hl:-9223372036854775808<=(l.getD k pt0).lab F/\(l.getD k pt0).lab F<=9223372036854775807) (hT:HasT w) :
  Calls prog 191 #[.int .i64 (k:Int),.pointer (some ⟨pb,0,none⟩),.pointer (some ⟨ib,0,none⟩)] w fun e w'=>Below w.heap.size w w'/\e=.returned (.agg #[.string (ftxt (labq l F k)).1,.string (ftxt (labq l F k)).2]):=by
 have aj:=hP.addr (by omega);subst aj;obtain⟨t1,t2,ht⟩:=qcs (labq l F k);rw [ht];obtain⟨V,aa,G⟩:=nw1 w #[.string ⟨#[]⟩,.string ⟨#[]⟩] 27;have d0:V.cell? ⟨b,U+k*5+2+F,none⟩=some (.int .i64 ((l.getD k pt0).lab F)):=by
  obtain⟨_,_,d2,d3,d4⟩:=(hP.below G.o.1).cell k (by omega);rcases (show F=0\/F=1\/F=2 by omega) with rfl | rfl | rfl
  ·exact d2
  ·exact d3
  ·exact d4
 have aC:=qac _ _ d0;have av:b<w.heap.size:=by
  obtain⟨h1,_⟩:=hP.cell k (by omega);exact qac _ _ h1
 have aA:=(qG O).1;have aB:=(qG J).1;have q1:=rowG (g0:=w.heap.size) (zkeep G.o.1 _ _ O) 0;have q2:=rowG (g0:=w.heap.size) (zkeep G.o.1 _ _ J) 0;obtain⟨x,hx⟩:=qX ((l.getD k pt0).lab F);have H:=of_int x 100 (by decide) (by rw [<-hx];exact hl) (by decide) V.drew (((hT.below G.o.1)).below qB.drew);have ai:(x:Rat) / ((100:Int):Rat)=labq l F k:=by unfold labq;rw [hx];rfl
 rw [ai,ht] at H;rw [hx] at d0;have q3:∀W,V.grownBy W (some w.heap.size)->W.cell? ⟨b,U+k*5+2+F,none⟩=some (.int .i64 x):=fun W hg=>hg.cell d0 (fun e=>by have:=qag e;simp at this;omega)
 have HO:=qH H;have az:(k:Int)<R:=by omega
 have ay:(F:Int)<3:=by omega
 have ax:F<3:=ag;clear H ai hx hP O J hT ht hl;go_enter func191,ntmps191;go_upto_region 1 with fail;rw [<-aa];clear aa;refine wp_region_held_drew (S:=fun W=>V.grownBy W (some w.heap.size)) (by kernel_rfl) (keepB qB.drew) (fun hS0=>?_);refine hT 0 (h:=?_);refine hT 1 (h:=?_);refine hT 2 (h:=?_);refine hT 3 (h:=?_);refine hT 4 (h:=?_);refine hT 5 (h:=?_);refine hT 6 (h:=?_);refine hC 7 HO.o (h:=?_);rintro e w1 ⟨rfl,I⟩;have Y:=qjT (g:=w.heap.size) I;refine⟨_,rfl,Y,hN (h:=?_)⟩;refine hT 8 (h:=?_);refine hT 9 (h:=?_);refine hC 10 (qdk t1 t2 w1) (h:=?_);rintro e w2 ⟨rfl,ae⟩;have Z:=qca Y ae;have af:Below V.heap.size V w2:=(qcf I).trans (ae.mono (qcf I).size);have ah:=zkeep af _ _ G.o.2;refine⟨_,rfl,Z,hN (h:=?_)⟩;have HE:=qH (qA (qT _ _ _ #[.string t1,.string t2] _ _ ah) (qS ((G.o.1).trans (af.mono G.o.1.size)) qN #[.string t1,.string t2]));refine hSt 11 2 ah (h:=⟨qbR Z ?_,?_⟩)
 ·exact⟨rfl,rfl,rfl,by simp [World.setRow],fun k hk hne=>setRow_other _ _ _ _ (fun e=>hne (by rw [e]))⟩
 go_wp2_with fail;exact qR (v:=.agg #[.string t1,.string t2]) (rA_ rfl (w.heap.size) HE.o.1 underlying27 2) rfl ⟨HE.o.2,rfl⟩
theorem enters {P:Program} {f:FuncId} {F:Func} (H:P.funcs[f]? = some F) (I:(F.name == "runtime.NumGoroutine")=false) (G:F.body.isNone=false) (args:Array Value) (W:World):(callFunc f args).run P W=.ok (.enter f args) W:=by
 simp only [callFunc,Sem.run_bind,run_program,Result.andThen,H,I,G]
 rfl
theorem qhS {l:List FT} {n:Nat} {x:Nat->Rat} (J:l.length=n) (h:∀i,i<n->l.getD i fd0=ftxt (x i)):l=told n x:=by
 refine List.ext_getElem (by rw [qbQ,J]) fun i H I=>?_
 have F:=h i (by omega);have G:=qdB (x:=x) (show i<n by omega);rw [qab,qad H] at F;rw [qab,qad I] at G;exact F.trans G.symm
theorem labs_any (F R b O c:Nat) (U:Option Addr) (l:List Pt) (w:World) (hR:l.length=R) (Y:R<=40) (J:F<3) (hP:PCells w U b O l) (hl:∀k,k<R->-9223372036854775808<=(l.getD k pt0).lab F/\(l.getD k pt0).lab F<=9223372036854775807) (hT:HasT w) :
  Calls prog 118 #[.slice U R c,.int .i64 (F:Int)] w fun e w'=>Below w.heap.size w w'/\∃g,e=.returned (.slice (some ⟨g,0,none⟩) R R)/\FCells w' (some ⟨g,0,none⟩) g 0 (told R (labq l F)):=by
 obtain⟨W2,I,G⟩:=nw2 w #[.slice U R c] 138 #[.int .i64 (F:Int)] 3;have aa:=@hmf_ prog;have HG:=qH (qd6 191 #[.pointer (some ⟨w.heap.size,0,none⟩),.pointer (some ⟨w.heap.size+1,0,none⟩)] R (by omega) (fun i x=>x=ftxt (labq l F i)) (fun _ _=>False) W2 (fun a W=>enters func191 (by kernel_rfl) (by kernel_rfl) _ W)
  (fun i hi W H=>(qlS i F R w.heap.size (w.heap.size+1) b O c U l _ _ W hR hi Y J (zkeep H _ _ G.o.2.1) (zkeep H _ _ G.o.2.2) (hP.below (G.o.1.trans (H.mono G.o.1.size))) (hl i hi) (hT.below (G.o.1.trans (H.mono G.o.1.size)))).mono fun e w' h=>⟨h.1,qav ⟨_,_,h.2,rfl⟩⟩))
 clear hP hl hT;go_enter func118,ntmps118;go_upto_region 1 with fail;rw [<-I];clear I;have c0:=qC W2 _ 0 _ _ _ G.o.2.1;go_wp2_with fail;refine HG.o.mono ?_;rintro e w' ⟨H,h⟩;rcases h with ⟨l',g,Z,hv,rfl,V,_⟩ | ⟨_,_,_,_,V⟩
 ·have HE:=qH (qA (G.o.1.trans (H.mono G.o.1.size)) (qhS Z hv▸V));clear H hv V;go_wp2;go_ret;exact⟨HE.o.1,_,rfl,HE.o.2⟩
 ·exact V.elim
theorem qlt (i R k pb kb b Y c:Nat) (kind:Int) (ao:Option Addr) (l:List Pt) (ty af:TypeId) (w:World) (hk:qcG kind k) (hR:l.length=R) (hi:i<R) (h3:¬(k=3/\chans l=4)) (G:PtsOk l) (J:w.heap[pb]? = some (.cells #[.slice ao R c] ty (0,0))) (H:w.heap[kb]? = some (.cells #[.int .i64 kind] af (0,0)))
  (hP:PCells w ao b Y l) (hT:HasT w) :
  Calls prog 66 #[.int .i64 (i:Int),.pointer (some ⟨kb,0,none⟩),.pointer (some ⟨pb,0,none⟩)] w fun e w'=>Below w.heap.size w w'/\∃v,e=.returned v/\FOwn w' w.heap.size v (told (many k (chans l)) (tqf l k i)):=by
 have aa:=hP.addr (by omega);subst aa;obtain⟨_,⟨ra,rb,ro,rc,d1,hN⟩,_⟩:=hP.cell i (by omega);have F:=(G.rows i (by omega)).2;have U:=(G.rows i (by omega)).1;obtain⟨n,Z⟩:=qX (chans l);rw [Z] at F h3 ⊢;rw [F] at d1;have I:1<=n/\n<=4:=⟨Z▸G.n1,Z▸G.n4⟩;have HO:=qH (qiM kind k hk ra rb ro n rc (l.getD i pt0).dev w.drew F I.1 I.2 (fun e=>by have:=I.2;omega) (hN.below qB.drew) U.vals (hT.below qB.drew));have V:(termL k (l.getD i pt0).dev).map ftxt=told (many k n) (tqf l k i):=by
  rw [<-F];exact (qhn k (l.getD i pt0).dev).symm
 rw [V] at HO;have ah:=(qG J).1;have ai:=(qG H).1;have ae:=qac _ _ d1;have q1:=rowC (B:=w.heap.size) J 0;have q2:=rowC (B:=w.heap.size) H 0;have q3:∀W,Below w.heap.size w W->W.cell? ⟨b,Y+i*5+1,none⟩=some (.slice ra n rc):=fun W O=>(O.cell ae).trans d1
 have ag:(i:Int)<R:=by omega
 clear hP J H hT hN U G Z V hk h3 F;go_enter func66,ntmps66;go_upto_region 1 with fail;refine wp_region_held_drew (S:=fun W=>Below w.heap.size w W) (by kernel_rfl) qB.drew (fun hS0=>?_);refine hT 0 (h:=?_);refine hT 1 (h:=?_);refine hT 2 (h:=?_);refine hT 3 (h:=?_);refine hT 4 (h:=?_);refine hT 5 (h:=?_);refine hC 6 HO.o (h:=?_);rintro e w1 ⟨v,rfl,hv,O⟩;have HV:=qH (qA (qcf O) hv);refine⟨_,rfl,qcf O,hN (h:=?_)⟩;refine hT 7 (hS:=HV.o.1) (h:=?_);refine wpAnyH_done (by kernel_rfl) ?_ _;clear hv O;go_wp2;go_ret;exact⟨HV.o.1,v,rfl,HV.o.2⟩
theorem qlu (i R wb b ae c:Nat) (ao:Option Addr) (F:List Int) (ty:TypeId) (w:World) (hR:F.length=R) (hi:i<R) (hr:-9223372036854775808<=F.getD i 0/\F.getD i 0<=9223372036854775807) (V:w.heap[wb]? = some (.cells #[.slice ao R c] ty (0,0)))
  (hN:NCells w ao b ae F) (hT:HasT w) :
  Calls prog 69 #[.int .i64 (i:Int),.pointer (some ⟨wb,0,none⟩)] w fun e w'=>Below w.heap.size w w'/\e=.returned (.agg #[.string (ftxt (wq F i)).1,.string (ftxt (wq F i)).2]):=by
 have aa:=hN.addr (by omega);subst aa;obtain⟨t1,t2,ht⟩:=qcs (wq F i);rw [ht];obtain⟨W1,I,H⟩:=nw1 w #[.string ⟨#[]⟩,.string ⟨#[]⟩] 27;have d0:=(hN.below H.o.1).cell i (by omega);have q1:=qC W1 _ 0 _ _ _ (zkeep H.o.1 _ _ V);obtain⟨x,Y⟩:=qX (F.getD i 0);have G:=of_int x 1 (by decide) (by rw [<-Y];exact hr) (by decide) W1 (hT.below H.o.1);have U:(x:Rat) / ((1:Int):Rat)=wq F i:=by unfold wq;rw [Y];rw [show ((1:Int):Rat)=1 from rfl,Rat.div_def,show (1:Rat)⁻¹=1 by decide +kernel,Rat.mul_one]
 rw [U,ht] at G;rw [Y] at d0;have HO:=qH G;have af:(i:Int)<R:=by omega
 clear G U Y hN V hT ht hr;go_enter func69,ntmps69;go_upto_region 1 with fail;rw [<-I];clear I;go_wp2_with fail;refine HO.o.mono ?_;rintro e w1 ⟨rfl,J⟩;have K2:Kn (fun W=>Below w.heap.size w W/\W.heap[w.heap.size]? = some (.cells #[.string ⟨#[]⟩,.string ⟨#[]⟩] 27 (0,0))) w1:=H.below J;clear H J;go_wp2_with fail;refine (qdk t1 t2 w1).mono ?_;rintro e w2 ⟨rfl,O⟩;have Z:=K2.below O;clear K2 O;have HE:=qH (qA (qT _ _ _ #[.string t1,.string t2] _ _ Z.o.2) (qS Z.o.1 qN #[.string t1,.string t2]));rename_i hK;dsimp only;refine hK _ _ ?_
 go_wp2_with ((with_reducible refine sR_ rfl 27 _ _ rfl (w.heap.size) #[.string t1,.string t2] Z.o.2 2 ?_))
 exact qR (v:=.agg #[.string t1,.string t2]) (rA_ rfl (w.heap.size) HE.o.1 underlying27 2) rfl ⟨HE.o.2,rfl⟩
def RowAs (w:World) (R n:Nat) (f:Nat->Nat->Rat) (b v:Nat->Rat) (e:Ending) (w':World):Prop :=
 ((Sing n (normR R n f b v)/\e=thrown 7)\/(¬Sing n (normR R n f b v)/\∃x,qcv n (normR R n f b v) (fun r=>normR R n f b v r n) x /\
  ((qbP n x/\∃g,e=.returned (.slice (some ⟨g,0,none⟩) n n)/\FCells w' (some ⟨g,0,none⟩) g 0 (told n x))\/(¬qbP n x/\e=thrown 6))))/\Below w.heap.size w w'
theorem row_any (H R n b aj c g1 c1 g2 c2:Nat) (ao a1 a2:Option Addr) (l:List Pt) (f:Nat->Nat->Rat) (v:Nat->Rat) (w:World) (hR:l.length=R) (au:1<=R) (aa:R<=40) (av:1<=n) (ax:n<=10) (ah:H<3) (hP:PCells w ao b aj l) (hl:∀k,k<R->-9223372036854775808<=(l.getD k pt0).lab H/\(l.getD k pt0).lab H<=9223372036854775807)
  (hf:∀i,i<R->qbP n (f i)) (hb:qbP R (labq l H)) (hv:qbP R v) (ai:∀i,i<R->0<=v i) (hC:TCells w a1 g1 0 (ttab R n f)) (hF:FCells w a2 g2 0 (told R v)) (hT:HasT w) :
  Calls prog 71 #[.agg #[.slice ao R c,.slice a1 R c1,.slice a2 R c2],.int .i64 (H:Int)] w fun e w'=>RowAs w R n f (labq l H) v e w':=by
 obtain⟨V,ae,G⟩:=nw1 w #[.slice ao R c,.slice a1 R c1,.slice a2 R c2] 140;have HX:=qH (qA (hC.below G.o.1) (qA (hF.below G.o.1) (hT.below G.o.1)));have HL:=qH (labs_any H R b aj c ao l V.drew hR aa ah ((hP.below G.o.1).below qB.drew) hl ((hT.below G.o.1).below qB.drew));have HM:=qH (qA hf (qA hb (qA hv ai)));have ay:=(qG G.o.2).1;have q0:=rowC (B:=V.heap.size) G.o.2 0;have q1:=rowC (B:=V.heap.size) G.o.2 1;have q2:=rowC (B:=V.heap.size) G.o.2 2;clear hP hl hT hf hb hv ai hC hF;go_enter func71,ntmps71;go_upto_region 1 with fail;rw [<-ae];clear ae;refine wp_region_held_drew (S:=fun W=>Below V.heap.size V W) (by kernel_rfl) qB.drew (fun hS0=>?_);refine hT 0 (h:=?_);refine hT 1 (h:=?_);refine hT 2 (h:=?_);refine hT 3 (h:=?_);refine hT 4 (h:=?_);refine hT 6 (h:=?_);refine hT 7 (h:=?_);refine hC 5 HL.o (h:=?_);rintro e w1 ⟨af,g,rfl,Y⟩;have HB:=qH (qcf af);have I:=qH (qA HB.o Y);refine⟨_,rfl,HB.o,hN (h:=?_)⟩;have ak:=qH (qlT (c:=c1) (c2:=R) (c3:=c2) au aa av ax HM.o.1 HM.o.2.1 HM.o.2.2.1 HM.o.2.2.2 (HX.o.1.below I.o.1) I.o.2 (HX.o.2.1.below I.o.1) (HX.o.2.2.below I.o.1));clear af Y;refine hC 8 ak.o (h:=?_);rintro e w2 ⟨h,ag⟩;have F:=qH (I.o.1.trans (ag.mono I.o.1.size));clear ag;rcases h with ⟨U,rfl⟩ | ⟨U,x,hx,⟨J,g5,rfl,Z⟩ | ⟨J,rfl⟩⟩
 ·refine⟨_,rfl,F.o,hN (h:=?_)⟩;have O:=qH U;refine hT 9 (hS:=F.o) (h:=?_);refine hT 10 (hS:=F.o) (h:=?_);refine hCx 11 (qiv none 0 0 7 (by decide) w2) (h:=?_);rintro e w3 ⟨rfl,rfl⟩;refine qaj ⟨_,rfl,?_⟩;clear U;go_wp2_with fail;exact⟨rfl,qav ⟨O.o,rfl⟩,G.o.1.trans (F.o.mono G.o.1.size)⟩
 ·refine⟨_,rfl,F.o,hN (h:=?_)⟩;have O:=qH (qA U (qA hx (qA J Z)));refine hT 9 (hS:=F.o) (h:=?_);refine hT 10 (hS:=F.o) (h:=?_);refine hC 11 (needL_ok _ n n w2) (h:=?_);rintro e w3 ⟨rfl,rfl⟩;refine⟨_,rfl,F.o,hN (h:=?_)⟩;refine hT 12 (hS:=F.o) (h:=?_);refine wpAnyH_done (by kernel_rfl) ?_ _;clear U hx J Z;go_wp2;go_ret;exact⟨qaj ⟨O.o.1,x,O.o.2.1,qav ⟨O.o.2.2.1,g5,rfl,O.o.2.2.2⟩⟩,G.o.1.trans (F.o.mono G.o.1.size)⟩
 ·refine⟨_,rfl,F.o,hN (h:=?_)⟩;have O:=qH (qA U (qA hx J));refine hT 9 (hS:=F.o) (h:=?_);refine hT 10 (hS:=F.o) (h:=?_);refine hCx 11 (qiv none 0 0 6 (by decide) w2) (h:=?_);rintro e w3 ⟨rfl,rfl⟩;refine qaj ⟨_,rfl,?_⟩;clear U hx J;go_wp2_with fail;exact⟨rfl,qaj ⟨O.o.1,x,O.o.2.1,qaj ⟨O.o.2.2,rfl⟩⟩,G.o.1.trans (F.o.mono G.o.1.size)⟩
theorem ttab_of {t:Tbl} {n m:Nat} {f:Nat->Nat->Rat} (J:t.length=n) (h:∀i,i<n->t.getD i []=told m (f i)):t=ttab n m f:=by
 refine List.ext_getElem (by rw [qcx,J]) fun i H I=>?_
 have F:=h i (by omega);have G:=qem (m:=m) (f:=f) (show i<n by omega);rw [qab,qad H] at F;rw [qab,qad I] at G;exact F.trans G.symm
def SlT (n m:Nat) (f:Nat->Nat->Rat) (z:Value) (W:World):Prop:=∃g,z=.slice (some ⟨g,0,none⟩) n n/\TCells W (some ⟨g,0,none⟩) g 0 (ttab n m f)
def SlF (n:Nat) (f:Nat->Rat) (z:Value) (W:World):Prop:=∃g,z=.slice (some ⟨g,0,none⟩) n n/\FCells W (some ⟨g,0,none⟩) g 0 (told n f)
instance stays_slt {n m:Nat} {f:Nat->Nat->Rat} {z:Value}:Stays (SlT n m f z):=⟨fun⟨g,F,G⟩ hb=>⟨g,F,G.below hb⟩⟩
instance stays_slf {n:Nat} {f:Nat->Rat} {z:Value}:Stays (SlF n f z):=⟨fun⟨g,F,G⟩ hb=>⟨g,F,G.below hb⟩⟩
theorem qfq {W:World} {g:Nat} {G cs:Array Value} {t:TypeId} (hg:W.heap[g]? = some (.cells G t (0,0))) (I:∀x∈G.toList,x=.slice none 0 0) {a:Addr} {v:Value} (F:W.cell? a=some v) (H:v≠.slice none 0 0):(W.setRow g cs).cell? a=some v:=by
 have hne:a.block≠g:=by
  intro e;unfold World.cell? at F;rw [e,hg] at F;simp only at F;split at F
  ·cases F
  ·exact H (I v (by rw [<-Array.mem_def];exact Array.mem_of_getElem? F))
 exact (cell_setRow_other _ _ _ _ hne).trans F
theorem qd9 {W:World} {g:Nat} {G cs:Array Value} {t:TypeId} (hg:W.heap[g]? = some (.cells G t (0,0))) (H:∀b,.string b∉G.toList):∀a s,W.cell? a=some (.string s)->(W.setRow g cs).cell? a=some (.string s):=fun a s F=>by
 have hne:a.block≠g:=by
  intro e;unfold World.cell? at F;rw [e,hg] at F;simp only at F;split at F
  ·cases F
  ·exact H s (by rw [<-Array.mem_def];exact Array.mem_of_getElem? F)
 exact (cell_setRow_other _ _ _ _ hne).trans F
theorem SlF.keepZ {W:World} {g n:Nat} {F cs:Array Value} {t:TypeId} {f:Nat->Rat} {z:Value} (h:SlF n f z W) (hg:W.heap[g]? = some (.cells F t (0,0))) (J:∀x∈F.toList,x=.slice none 0 0):SlF n f z (W.setRow g cs):=by
 obtain⟨g1,G,H⟩:=h;exact⟨g1,G,H.kept fun a s I=>qfq hg J I (fun e=>by cases e)⟩
theorem SlT.keepZ {W:World} {g n m:Nat} {I cs:Array Value} {t:TypeId} {f:Nat->Nat->Rat} {z:Value} (h:SlT n m f z W) (Y:1<=m) (hg:W.heap[g]? = some (.cells I t (0,0))) (H:∀x∈I.toList,x=.slice none 0 0):SlT n m f z (W.setRow g cs):=by
 obtain⟨g1,J,G⟩:=h;refine⟨g1,J,G.addr,fun k F=>?_⟩;obtain⟨ra,rb,ro,rc,O,U⟩:=G.row k F;refine⟨ra,rb,ro,rc,qfq hg H O (fun e=>?_),U.kept fun a s V=>qfq hg H V (fun e=>by cases e)⟩;rw [qcx] at F;have:=(Value.slice.inj e).2.1;rw [qem F,qbQ] at this;omega
theorem qmO (R k I G b H c:Nat) (kind:Int) (U:Option Addr) (l:List Pt) (ty J:TypeId) (w:World) (hk:qcG kind k) (hR:l.length=R) (Z:¬(k=3/\chans l=4)) (F:PtsOk l) (ae:w.heap[I]? = some (.cells #[.slice U R c] ty (0,0))) (aa:w.heap[G]? = some (.cells #[.int .i64 kind] J (0,0)))
  (hP:PCells w U b H l) (hT:HasT w) :
  Calls prog 65 #[.int .i64 (R:Int),.func (.func 66) #[] #[.pointer (some ⟨G,0,none⟩),.pointer (some ⟨I,0,none⟩)]] w fun e w'=>Below w.heap.size w w'/\∃v,e=.returned v/\SlT R (many k (chans l)) (tqf l k) v w':=by
 have hg:GivesL 66 #[.pointer (some ⟨G,0,none⟩),.pointer (some ⟨I,0,none⟩)] w R (fun i r=>r=told (many k (chans l)) (tqf l k i)) (fun _ _=>False):=by
  intro i hi W O;refine (qlt i R k I G b H c kind U l ty J W hk hR hi Z F (zkeep O _ _ ae) (zkeep O _ _ aa) (hP.below O) (hT.below O)).mono ?_;rintro e w' ⟨V,v,Y,h4⟩;obtain⟨a,g,cap,rfl,hF,_⟩:=h4.cells (qbQ _ _);exact⟨V,qav ⟨_,a,g,_,cap,Y,qbQ _ _,hF,rfl⟩⟩
 have HG:=qi8 66 #[.pointer (some ⟨G,0,none⟩),.pointer (some ⟨I,0,none⟩)] R (by have:=F.r2;omega) (fun i r=>r=told (many k (chans l)) (tqf l k i)) (fun _ _=>False) w (fun a W=>enters func66 (by kernel_rfl) (by kernel_rfl) _ W) hg;refine HG.mono ?_;rintro e w' ⟨V,Y⟩;rcases Y with ⟨t,g,Z,h4,rfl,h5,_⟩ | ⟨_,_,_,_,h⟩
 ·exact⟨V,_,rfl,g,rfl,ttab_of Z h4▸h5⟩
 ·exact h.elim
theorem qjx (R H b G c:Nat) (I:Option Addr) (F:List Int) (Y:TypeId) (w:World) (hR:F.length=R) (aa:R<=40) (hW:WOk F) (V:w.heap[H]? = some (.cells #[.slice I R c] Y (0,0))) (hN:NCells w I b G F) (hT:HasT w) :
  Calls prog 68 #[.int .i64 (R:Int),.func (.func 69) #[] #[.pointer (some ⟨H,0,none⟩)]] w fun e w'=>Below w.heap.size w w'/\∃v,e=.returned v/\SlF R (wq F) v w':=by
 have hg:qjA 69 #[.pointer (some ⟨H,0,none⟩)] w R (fun i x=>x=ftxt (wq F i)) (fun _ _=>False):=by
  intro i hi W U;refine (qlu i R H b G c I F Y W hR hi (by have:=hW i (by omega);omega) (zkeep U _ _ V) (hN.below U) (hT.below U)).mono ?_;rintro e w' ⟨J,O⟩;exact⟨J,qav ⟨_,_,O,rfl⟩⟩
 have Z:=qd6 69 #[.pointer (some ⟨H,0,none⟩)] R (by omega) (fun i x=>x=ftxt (wq F i)) (fun _ _=>False) w (fun a W=>enters func69 (by kernel_rfl) (by kernel_rfl) _ W) hg;refine Z.mono ?_;rintro e w' ⟨J,O⟩;rcases O with ⟨t,g,h3,h4,rfl,h5,_⟩ | ⟨_,_,_,_,h⟩
 ·exact⟨J,_,rfl,g,rfl,qhS h3 h4▸h5⟩
 ·exact h.elim
