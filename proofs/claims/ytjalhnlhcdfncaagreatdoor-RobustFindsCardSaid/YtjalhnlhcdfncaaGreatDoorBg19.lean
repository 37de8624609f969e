import Derived.Test.YtjalhnlhcdfncaaGreatDoorBg17
import Derived.Test.YtjalhnlhcdfncaaGreatDoorBg18
import Derived.WalkMore
set_option maxRecDepth 100000
set_option maxHeartbeats 0
namespace Go.Proofs.YtjalhnlhcdfncaaGreatDoor
open Go.RowKit
def gR (n:Nat) (f:Nat->Nat->Rat) (b:Nat->Rat) (i c:Nat):Rat:=if c<n then f i c else b i
def normR (R n:Nat) (f:Nat->Nat->Rat) (b w:Nat->Rat) (r c:Nat):Rat:=sumQ R fun i=>w i*(gR n f b i r*gR n f b i c)
theorem qhJ {R n:Nat} {f:Nat->Nat->Rat} {b:Nat->Rat} {i:Nat} (E:i<R):besides (ttab R n f) (told R b) i=told n (f i)++[ftxt (b i)]:=by
 unfold besides;rw [qef E,qdu E]
theorem qft {R n:Nat} {f:Nat->Nat->Rat} {b:Nat->Rat} {i c:Nat} (E:i<R) (F:c<=n):lval (besides (ttab R n f) (told R b) i) c=gR n f b i c:=by
 rw [qhJ E];unfold gR
 by_cases h:c<n
 ·rw [if_pos h,qfY (by rw [qbP];exact h),qcG h]
 ·obtain rfl:c=n:=by omega
  rw [if_neg h];have:=qfX (l:=told c (f i)) (x:=ftxt (b i));rw [qbP] at this;rw [this,qdE]
theorem qgX {R n:Nat} {f:Nat->Nat->Rat} {b w:Nat->Rat} {r c:Nat} (G:r<=n) (F:c<=n):normQ (ttab R n f) (told R b) (told R w) R r c=normR R n f b w r c :=
 qbS fun i E=>by rw [qcG E,qft E G,qft E F]
theorem qko {R n:Nat} {f:Nat->Nat->Rat} {b w x:Nat->Rat}:measQ (ttab R n f) (told R b) (told R w) (told n x) n R=msR R n f b w x :=
 qbS fun i E=>by
  have:resQ (ttab R n f) (told R b) (told n x) n i=resR n f b x i:=by
   unfold resQ resR;rw [qcG E]
   congr 1
   exact qbS fun j F=>by rw [ttab_val E F,qcG F]
  rw [qcG E,this]
def qfJ (R n:Nat) (f:Nat->Nat->Rat) (b w:Nat->Rat) (e:Ending) (E:World):Prop :=
 (Sing n (normR R n f b w)/\e=.returned (.tuple #[.slice none 0 0,.int .i64 7]))\/(¬Sing n (normR R n f b w)/\∃x,qcv n (normR R n f b w) (fun r=>normR R n f b w r n) x/\Tells n x e E)
theorem qjI {R:Nat} {w:Nat->Rat} (h:∀i,i<R->0<=w i):¬Neg (told R w):=by
 rintro ⟨k,E,F⟩;rw [qbP] at E;rw [qdu E,show (ftxt (w k)).1.data.toList=itxt (w k).num from rfl,qdp] at F;have:=Rat.num_nonneg.2 (h k E);omega
theorem qfI.told {U:World} {R n:Nat} {f:Nat->Nat->Rat} {b w:Nat->Rat} {e:Ending} {O:World} (h:qfI U (ttab R n f) (told R b) (told R w) e O) (V:1<=R) (Z:R<=40) (h3:1<=n) (h4:n<=10) (hf:∀i,i<R->qbQ n (f i)) (hb:qbQ R b) (hw:qbQ R w) (J:∀i,i<R->0<=w i):qfJ R n f b w e O/\Below U.heap.size U O:=by
 have hT:=qmt V Z h3 h4 hf;refine⟨?_,h.2⟩;rcases h.1 with h | h | h | h
 ·exact absurd hT h.1
 ·exact absurd ⟨qcQ hb,qcQ hw⟩ h.2.1
 ·exact absurd ⟨by rw [qbP,qcy],by rw [qbP,qcy],qjI J⟩ h.2.2.2.1
 ·have Y:=h.2.2.2.2.2.2;rw [qeq V,qcy] at Y;have E:∀r,r<n->∀c,c<n->normQ (ttab R n f) (Go.Proofs.YtjalhnlhcdfncaaGreatDoor.told R b) (Go.Proofs.YtjalhnlhcdfncaaGreatDoor.told R w) R r c=normR R n f b w r c:=fun r G c E=>qgX (by omega) (by omega)
  rcases Y with ⟨H,he⟩ | ⟨H,x,hx,ht⟩
  ·exact qav ⟨H.congr E,he⟩
  ·exact qaj ⟨fun I=>H (I.congr fun r G c F=>(E r G c F).symm),x,hx.congr E (fun r G=>qgX (by omega) qN) (fun _ _=>rfl),ht⟩
open Go.Lib Go.Proofs.Tryz
def fv (l:List Rat) (i:Nat):Rat:=l.getD i 0
def fm (t:List (List Rat)) (i j:Nat):Rat:=(t.getD i []).getD j 0
theorem num_lt {u:Nat} (h:u<10):num u=⟨#[UInt8.ofNat (48+u)]⟩:=by
 unfold num;rw [qbW h]
theorem qig {n:Nat} {A:Nat->Nat->Rat} (B:Nat->Nat->Rat) (h:∀k,k<n->∀j,j<n->sumQ n (fun i=>B k i*A i j)=if k=j then 1 else 0):¬Sing n A:=by
 rintro ⟨y,⟨k,F,U⟩,G⟩;apply U;have e:sumQ n (fun i=>B k i*sumQ n fun j=>A i j*y j)=y k:=by
  have H:sumQ n (fun i=>B k i*sumQ n fun j=>A i j*y j)=sumQ n fun i=>sumQ n fun j=>y j*(B k i*A i j):=qbS fun i _=>by
   rw [<-qb3];exact qbS fun j _=>by grind
  rw [H,qdO];have I:sumQ n (fun j=>sumQ n fun i=>y j*(B k i*A i j))=sumQ n fun j=>y j*(if k=j then 1 else 0):=qbS fun j O=>by rw [qb3,h k F j O]
  rw [I,qdx n k _ F fun j _ E=>by rw [if_neg (fun h=>E h.symm)];grind];rw [if_pos rfl];grind
 rw [<-e];exact qcC _ _ fun i J=>by rw [G i J];grind
theorem qjk.told {G:World} {R n:Nat} {f:Nat->Nat->Rat} {b w x:Nat->Rat} {e:Ending} {I:World} (h:qjk G (ttab R n f) (told R b) (told R w) (told n x) e I) (E:1<=R) (J:R<=40) (O:1<=n) (U:n<=10) (Y:∀i,i<R->qbQ n (f i)) (V:qbQ R b) (Z:qbQ R w) (hx:qbQ n x) (F:∀i,i<R->0<=w i) :
  (Short (msR R n f b w x)/\e=.returned (.tuple #[fstr (msR R n f b w x),.int .i64 0])\/¬Short (msR R n f b w x)/\e=.returned (.tuple #[.agg #[.string ⟨#[]⟩,.string ⟨#[]⟩],.int .i64 6]))/\Below G.heap.size G I:=by
 have hT:=qmt E J O U Y;refine⟨?_,h.2⟩;rcases h.1 with h | h | h | h
 ·exact absurd hT h.1
 ·exact absurd ⟨qcQ V,qcQ Z,qcQ hx⟩ h.2.1
 ·exact absurd ⟨by rw [qbP,qcy],by rw [qbP,qcy],by rw [qbP,qeq E],qjI F⟩ h.2.2.2.2.1
 ·have H:=h.2.2.2.2.2.2.2.2;rw [qeq E,qcy,qko] at H;exact H
theorem qgk {q:Rat} (h:q.num.natAbs<10/\q.den<10):Short q:=⟨by rw [num_lt h.1];exact (by decide:1<=600),by rw [num_lt h.2];exact (by decide:1<=600)⟩
theorem qcN {n:Nat} {x:Nat->Rat} (h:∀i,i<n->(x i).num.natAbs<=1000/\(x i).den<=1000):qbQ n x:=fun i E=>qcw (N:=1000) (h i E) (by decide +kernel)
theorem qiw {n m:Nat} {f:Nat->Nat->Rat} (F:m<=1000):∀k,k<n->((ttab n m f).getD k []).length<=4611686018427387904:=fun k E=>by rw [qef E,qbP];omega
theorem qlw {R n:Nat} {f:Nat->Nat->Rat} {b v:Nat->Rat} {G:Option Addr} {g c:Nat} {E:Option Addr} {J c2:Nat} {F:Option Addr} {O c3:Nat} {w:World} (V:1<=R) (Y:R<=40) (Z:1<=n) (h4:n<=10) (hf:∀i,i<R->qbQ n (f i)) (hb:qbQ R b) (hv:qbQ R v) (I:∀i,i<R->0<=v i) (hT:TCells w G g 0 (ttab R n f)) (hF:FCells w E J 0 (told R b)) (H:FCells w F O 0 (told R v)) (hP:HasT w) :
  Calls prog 117 #[.slice G R c,.slice E R c2,.slice F R c3] w fun e U=>qfJ R n f b v e U/\Below w.heap.size w U :=
 (qkj G g 0 R c _ E J 0 R c2 _ F O 0 R c3 _ w (qcy _ _ _) (by omega) (qiw (by omega)) hT (qbP _ _) (by omega) hF (qbP _ _) (by omega) H hP).mono fun _ _ h=>h.told V Y Z h4 hf hb hv I
theorem qjd {kind:Nat} {d:List Int} (H:kind=1\/kind=2\/kind=3) (G:qet d) (_h4:d.length<=4) (V:kind=3->d.length<=3):∀p∈termL kind d,Short p:=by
 have J:∀k,Short (dq d k):=fun k=>(dq_cd G k).short (by decide) (by decide +kernel) (by decide +kernel)
 have O:∀k,Short (dq d k*dq d k):=fun k=>((dq_cd G k).mul (dq_cd G k) (by decide) (by decide)).short (by decide) (by decide +kernel) (by decide +kernel)
 have I:∀k,k<=3->∀p∈prods d k,Short p:=fun k H p E=>(qfG (by decide) (dq_cd G) k p E).short (qbi (Nat.pow_pos (by decide))) (qa4 (qa6 (by decide) H) qjp) (qa4 (qa6 (by decide) H) qjp)
 have U:Short 1:=qgk ⟨by decide,by decide⟩;have F:∀p∈lin d,Short p:=fun p E=>by
  unfold lin at E;rcases qaD.1 E with rfl | E
  ·exact U
  ·obtain⟨j,_,rfl⟩:=qbA.1 E;exact J j
 rcases H with rfl | rfl | rfl
 ·exact F
 ·intro p E;rw [qmm] at E;rcases qaI.1 E with E | E
  ·exact F p E
  ·unfold sqs at E;obtain⟨j,_,rfl⟩:=qbA.1 E;exact O j
 ·intro p E;rw [qmn] at E;exact I _ (V rfl) p E
theorem qmo {kind:Nat} {d:List Int} {j:Nat} (E:j<many kind d.length):termQ kind d j∈termL kind d:=by
 unfold termQ;rw [qab,qad (by rw [qgs];exact E)];exact qbB _
theorem PtsOk.terms {l:List Pt} (h:PtsOk l) {k:Nat} {kind:Int} (J:qcX kind k) (O:¬(k=3/\chans l=4)):∀i,i<l.length->qbQ (many k (chans l)) (tqf l k i):=fun i H j I=>by
 obtain⟨E,F⟩:=h.rows i H;have G:=E.n4;refine qjd (by obtain⟨_,a,b⟩:=J;omega) E.vals G (fun e=>by have:=h.n4;omega) _ (qmo (by rw [F];exact I))
theorem PtsOk.labs {l:List Pt} (h:PtsOk l) {c:Nat}:qbQ l.length (labq l c):=fun i G=>by
 have E:=(h.rows i G).1;have:=E.l0;have:=E.l1;have:=E.l2;have F:((l.getD i pt0).lab c).natAbs<1000000000000000000000:=by unfold Pt.lab;(repeat' split) <;> omega
 exact qgb (d:=100) (by decide) F (by decide)
theorem PtsOk.bound {l:List Pt} (h:PtsOk l) (c:Nat):∀k,k<l.length->-9223372036854775808<=(l.getD k pt0).lab c/\(l.getD k pt0).lab c<=9223372036854775807:=fun i F=>by
 have E:=(h.rows i F).1;have:=E.l0;have:=E.l1;have:=E.l2;unfold Pt.lab;(repeat' split) <;> omega
theorem WOk.short {E:List Int} (h:WOk E):qbQ E.length (wq E):=fun i F=>by
 obtain⟨G,H⟩:=h i F;have:Short ((E.getD i 0:Int) / ((1:Int):Rat)):=qgb (d:=1) (by decide) (by omega) (by decide);rw [show ((1:Int):Rat)=1 from rfl,Rat.div_def,show (1:Rat)⁻¹=1 by decide +kernel,Rat.mul_one] at this;exact this
theorem WOk.pos {E:List Int} (h:WOk E):∀i,i<E.length->0<=wq E i:=fun i F=>by unfold wq;exact Rat.intCast_nonneg.2 (h i F).1
theorem qi0 {k n:Nat} {kind:Int} (E:qcX kind k) (F:1<=n) (H:n<=4) (G:¬(k=3/\n=4)):1<=many k n/\many k n<=10:=by
 obtain⟨_,a,b⟩:=E;unfold many;rcases (show k=1\/k=2\/k=3 by omega) with rfl | rfl | rfl
 ·simp;omega
 ·simp;omega
 ·rcases (show n=1\/n=2\/n=3 by omega) with rfl | rfl | rfl <;> decide
def nq (l:List Pt) (k:Nat) (E:List Int) (c:Nat):Nat->Nat->Rat:=normR l.length (many k (chans l)) (tqf l k) (labq l c) (wq E)
theorem qfj {l:List Pt} {k:Nat} {G:List Int} {c H:Nat} (h:Sing (many k (chans l)) (nq l k G c)):Sing (many k (chans l)) (nq l k G H):=h.congr fun i E j F=>by
 unfold nq normR;refine qbS fun r _=>?_
 unfold gR;rw [if_pos E,if_pos F,if_pos E,if_pos F]
def FitX (l:List Pt) (k:Nat) (E:List Int) (c:Nat) (x:Nat->Rat):Prop:=qcv (many k (chans l)) (nq l k E c) (fun r=>nq l k E c r (many k (chans l))) x
def FitG (l:List Pt) (kind:Int) (E:List Int) (W:World) (v:Value):Prop :=
 PtsOk l/\E.length=l.length/\WOk E/\∃k,qcX kind k/\¬(k=3/\chans l=4)/\¬Sing (many k (chans l)) (nq l k E 0) /\
  ∃x:Nat->Nat->Rat,(∀c,c<3->FitX l k E c (x c)/\qbQ (many k (chans l)) (x c))/\MdAt W v (mdq k (chans l) (many k (chans l)) x)
def FitF (l:List Pt) (kind:Int) (E:List Int) (e:Int):Prop :=
 (¬PtsOk l/\e=310)\/(PtsOk l/\¬((∃k,qcX kind k)/\E.length=l.length/\WOk E)/\e=2) \/
 (PtsOk l/\E.length=l.length/\WOk E/\∃k,qcX kind k/\((k=3/\chans l=4/\e=5)\/(¬(k=3/\chans l=4) /\
  ((Sing (many k (chans l)) (nq l k E 0)/\e=7)\/(¬Sing (many k (chans l)) (nq l k E 0)/\∃c x,c<3/\FitX l k E c x/\¬qbQ (many k (chans l)) x/\e=6)))))
def FitAs (w:World) (l:List Pt) (kind:Int) (F:List Int) (e:Ending) (E:World):Prop :=
 Below w.heap.size w E/\((∃v,e=.returned (.tuple #[v,.int .i64 0])/\FitG l kind F E v)\/∃c,e=.returned (.tuple #[mdv0,.int .i64 c])/\FitF l kind F c)
end Go.Proofs.YtjalhnlhcdfncaaGreatDoor
namespace Go.Proofs.YtjalhnlhcdfncaaGreatDoor
open Go.RowKit Go.Proofs.Tryz
theorem qkV (kind:Int) (k n:Nat) (E:qcX kind k) (F:1<=n) (G:n<=4) (w:World):Calls prog 208 #[.int .i64 kind,.int .i64 (n:Int)] w fun e H=>e=.returned (.int .i64 (many k n:Nat))/\w=H:=by
 rcases qgN E with ⟨rfl,rfl⟩ | ⟨rfl,rfl⟩ | ⟨rfl,rfl⟩
 all_goals
  rcases (show n=1\/n=2\/n=3\/n=4 by omega) with rfl | rfl | rfl | rfl
  all_goals
   clear F G E;go_enter func208,ntmps208;go_wp2;go_ret;exact⟨rfl,rfl⟩
def qd4 (m:Md):Prop:=∃k n,MdOk m k n
theorem MdAt.parts {W:World} {v:Value} {m:Md} (h:MdAt W v m):∃(a:Nat->Option Addr) (b o c:Nat->Nat),v=.agg #[.int .i64 m.kind,.int .i64 m.inn,.slice (a 0) (m.row 0).length (c 0),.slice (a 1) (m.row 1).length (c 1),.slice (a 2) (m.row 2).length (c 2)]/\∀q,q<3->FCells W (a q) (b q) (o q) (m.row q):=by
 obtain⟨a0,a1,a2,b0,o0,c0,b1,o1,c1,b2,o2,c2,rfl,E,F,G⟩:=h;refine⟨fun q=>if q=0 then a0 else if q=1 then a1 else a2,fun q=>if q=0 then b0 else if q=1 then b1 else b2,fun q=>if q=0 then o0 else if q=1 then o1 else o2,fun q=>if q=0 then c0 else if q=1 then c1 else c2,rfl,fun q H=>?_⟩;rcases (show q=0\/q=1\/q=2 by omega) with rfl | rfl | rfl
 ·exact E
 ·exact F
 ·exact G
theorem qkn (m:Md) (v:Value) (w:World) (hM:MdAt w v m) (hl:∀q,q<3->(m.row q).length<=4611686018427387904):Calls prog 142 #[v] w fun e w'=>qeH w (qd4 m) 320 e w':=by
 obtain⟨a,b,o,c,rfl,hF⟩:=hM.parts;obtain⟨kind,G⟩:∃z,m.kind=z:=⟨_,rfl⟩;obtain⟨inn,U⟩:∃z,m.inn=z:=⟨_,rfl⟩;rw [G,U];obtain⟨L,hL⟩:∃L:Nat->Nat,∀q,(m.row q).length=L q:=⟨_,fun _=>rfl⟩;rw [hL,hL,hL];obtain⟨W1,av,J⟩:=nw1 w #[.int .i64 kind,.int .i64 inn,.slice (a 0) (L 0) (c 0),.slice (a 1) (L 1) (c 1),.slice (a 2) (L 2) (c 2)] 46;have c0:=qC _ _ 0 _ _ _ J.o.2;have c1:=qC _ _ 1 _ _ _ J.o.2;have c2:=qC _ _ 2 _ _ _ J.o.2;have c3:=qC _ _ 3 _ _ _ J.o.2;have c4:=qC _ _ 4 _ _ _ J.o.2;have I:=qH (qA G (qA U (qA hl (fun q hq=>(hF q hq).below J.o.1))));have aD:=qH hL;have E:=qH J.o.1;clear hM hF hl G U hL;go_enter func142,ntmps142;go_upto_region 1 with fail;rw [<-av];clear av
 go_step3
 go_wp2_with fail;refine (qhZ kind W1).mono ?_;rintro e w2 ⟨rfl,hw⟩;subst hw
 by_cases V:1<=kind/\kind<=3
 case neg =>
  rw [qU V];have HN:=qH V;clear V;go_wp2;go_ret;exact⟨320,rfl,qaj ⟨rfl,fun⟨k,n,h⟩=>HN.o (by have:=h.kind.1;have:=h.kind.2;have:=I.o.1;omega)⟩,E.o⟩
 obtain⟨k,aA⟩:∃k,qcX kind k:=⟨kind.toNat,by omega,by omega,by omega⟩;rw [qV V];have Hk:=qH aA;clear aA V
 by_cases ah:1<=inn/\inn<=4
 case neg =>
  have HN:=qH ah
  by_cases h1:inn<1
  ·clear ah;go_wp2;go_ret;exact⟨320,rfl,qaj ⟨rfl,fun⟨k,n,h⟩=>HN.o (by have:=h.inn;have:=I.o.2.1;omega)⟩,E.o⟩
  ·have h2:4<inn:=by omega
   clear ah;go_wp2;go_ret;exact⟨320,rfl,qaj ⟨rfl,fun⟨k,n,h⟩=>HN.o (by have:=h.inn;have:=I.o.2.1;omega)⟩,E.o⟩
 obtain⟨n,hn⟩:∃n:Nat,inn=n:=⟨inn.toNat,by omega⟩;subst hn;have aO:¬(n:Int)<1:=by omega
 have aQ:¬4<(n:Int):=by omega
 by_cases ae:kind=3/\n=4
 ·obtain⟨h3,h4⟩:=ae;subst h3 h4;go_wp2;go_ret;exact⟨320,rfl,qaj ⟨rfl,fun⟨k',n',h⟩=>h.both ⟨by have:=h.kind.1;have:=I.o.1;omega,by have:=h.inn;have:=I.o.2.1;omega⟩⟩,E.o⟩
 have aF:=qH ae;go_upto_region 3 with fail
 go_cut [29] (fun x29 W=>x29=.bool false/\Hu (W=W1))
 case first =>
  by_cases h3:kind=3
  ·have aP:¬(3:Int)<n:=fun h=>ae ⟨h3,by omega⟩
   subst h3;go_wp2;go_meet;exact⟨rfl,qH rfl⟩
  ·go_wp2;go_meet;exact⟨rfl,qH rfl⟩
 case rest =>
  obtain⟨rfl,ag⟩:=hcut;have ag:=ag.o.symm;subst ag;clear ae;go_wp2_with fail
  go_step3
  go_wp2_with fail
  go_loopw [3,32] (fun x3 x32 W=>x3=.bool true/\∃j:Nat,x32=.int .i64 j/\j<=3/\Hu ((∀q,q<j->(m.row q).length=many k n/\FAll (m.row q))/\Below W1.heap.size W1 W)) (fun _ x32 _=>3-(intOf x32).toNat)
  case atStart=>exact⟨rfl,0,rfl,qan _,qH ⟨fun q hq=>absurd hq (Nat.not_lt_zero _),Below.refl _ _⟩⟩
  case round =>
   obtain⟨rfl,j,rfl,hj,hI⟩:=hrel
   by_cases ai:j<3
   ·have aM:(j:Int)<3:=by omega
    obtain⟨row,F⟩:∃r,m.row j=r:=⟨_,rfl⟩;obtain⟨aj,O⟩:∃r,a j=r:=⟨_,rfl⟩;obtain⟨bj,ay⟩:∃r,b j=r:=⟨_,rfl⟩;obtain⟨oj,aB⟩:∃r,o j=r:=⟨_,rfl⟩;obtain⟨cj,af⟩:∃r,c j=r:=⟨_,rfl⟩;obtain⟨H,Y⟩:∃r,L j=r:=⟨_,rfl⟩;have hF:=I.o.2.2.2 j ai;rw [F,O,ay,aB] at hF;have ak:row.length=H:=by rw [<-F,aD.o,Y]
    have aN:H<=4611686018427387904:=by rw [<-ak,<-F];exact I.o.2.2.1 j ai
    have HR:=qH (qA F ak);have HF:=qH hF;have HI:=qH hI.o;obtain⟨wo,aJ⟩:=qY wr;have hB:=hI.o.2;have d0:=(rowC (B:=W1.heap.size) J.o.2 0 (hg:=by have:=(qG J.o.2).1;exact this)) _ hB;have d1:=(rowC (B:=W1.heap.size) J.o.2 1 (hg:=by have:=(qG J.o.2).1;exact this)) _ hB;have az:(j=0/\a 0=aj/\L 0=H/\c 0=cj)\/(j=1/\a 1=aj/\L 1=H/\c 1=cj)\/(j=2/\a 2=aj/\L 2=H/\c 2=cj):=by
     rcases (show j=0\/j=1\/j=2 by omega) with rfl | rfl | rfl
     ·exact qav ⟨rfl,O,Y,af⟩
     ·exact qaj (qav ⟨rfl,O,Y,af⟩)
     ·exact qaj (qaj ⟨rfl,O,Y,af⟩)
    have HJ:=qH ai;have aR:∀W,(Instr.index 44 (.agg #[.slice (a 0) (L 0) (c 0),.slice (a 1) (L 1) (c 1),.slice (a 2) (L 2) (c 2)]) (.int .i64 (j:Int))).run prog W=.ok (.slice aj H cj) W:=fun W=>by
     rcases az with ⟨rfl,h1,h2,h3⟩ | ⟨rfl,h1,h2,h3⟩ | ⟨rfl,h1,h2,h3⟩
     all_goals
      rw [<-h1,<-h2,<-h3]
      kernel_rfl
    clear hI hF F ak O ay aB af Y hB az;subst aJ;go_wp2_with fail;refine (qkV kind k n Hk.o (by omega) (by omega) _).mono ?_;rintro e w5 ⟨rfl,hw⟩;subst hw
    by_cases Z:H=many k n
    case neg =>
     have hne:((H:Int) != ((many k n:Nat):Int))=true:=by rw [bne_iff_ne];omega
     have aG:=qH Z;clear Z;go_wp2;go_ret;exact⟨320,rfl,qaj ⟨rfl,fun⟨k',n',h⟩=>aG.o (by
      have h1:=(h.rows j HJ.o).1;have h2:=h.kind.1;have h3:=h.inn.1;have h4:=I.o.1;have h5:=I.o.2.1;have h6:=Hk.o.1;obtain rfl:k'=k:=by omega
      obtain rfl:n'=n:=by omega
      rw [<-h1,HR.o.1,HR.o.2])⟩,E.o.trans (HI.o.2.mono E.o.size)⟩
    have hne:((H:Int) != ((many k n:Nat):Int))=false:=by simp [Z]
    have aC:=qH Z;clear Z;go_wp2_with fail
    go_loopw [3,45] (fun x3 x45 W=>x3=.bool true/\∃i:Nat,x45=.int .i64 i/\i<=H/\Hu ((∀q,q<i->FOk (row.getD q fd0).1.data.toList (row.getD q fd0).2.data.toList)/\Below wo.heap.size wo W)) (fun _ x45 _=>H-(intOf x45).toNat)
    case atStart=>exact⟨rfl,0,rfl,qan _,qH ⟨fun q hq=>absurd hq (Nat.not_lt_zero _),Below.refl _ _⟩⟩
    case round =>
     obtain⟨rfl,i,rfl,aL,hJ⟩:=hrel
     by_cases hi:i<H
     ·have aK:(i:Int)<H:=by omega
      have aH:=HF.o.addr (by have:=HR.o.2;omega);subst aH;obtain⟨e0,e1⟩:=(HF.o.below (HI.o.2.trans (hJ.o.2.mono HI.o.2.size))).cell i (by have:=HR.o.2;omega);obtain⟨N,hN⟩:=qX ((row.getD i fd0).1);obtain⟨D,hD⟩:=qX ((row.getD i fd0).2);rw [hN] at e0;rw [hD] at e1;have aa:=qH (qA hN hD);clear hN hD;go_wp2_with fail;refine (qeg N D _).mono ?_;rintro e w5 ⟨cc,rfl,aI,ax⟩;have au:=qH (hJ.o.2.trans ((qB.alloc qN _ |>.trans (ax.mono (by simp only [qaa];omega))).mono hJ.o.2.size));clear ax;rcases aI with ⟨rfl,hf⟩ | ⟨rfl,hf⟩
      ·have Hf:=qH hf;clear hf;go_wp2;go_roundw
       case rel =>
        refine⟨rfl,i+1,by go_num,hi,qH ⟨fun q hq=>?_,au.o⟩⟩;rcases qaV q i with h | h
        ·exact hJ.o.1 q h
        ·obtain rfl:q=i:=by omega
         rw [aa.o.1,aa.o.2];exact Hf.o
       case measure=>simp [intOf];omega
      ·have Hf:=qH hf;clear hf;go_wp2;go_ret;exact⟨320,rfl,qaj ⟨rfl,fun⟨k',n',h⟩=>Hf.o (by
        have h1:=(h.rows j HJ.o).2 i (by rw [HR.o.1,HR.o.2];exact hi);rw [HR.o.1,aa.o.1,aa.o.2] at h1;exact h1)⟩,E.o.trans ((HI.o.2.trans (au.o.mono HI.o.2.size)).mono E.o.size)⟩
     ·obtain rfl:i=H:=by omega
      go_wp2;go_roundw
      case rel =>
       refine⟨rfl,j+1,by go_num,HJ.o,qH ⟨fun q hq=>?_,HI.o.2.trans (hJ.o.2.mono HI.o.2.size)⟩⟩;rcases qaV q j with h | h
       ·exact HI.o.1 q h
       ·obtain rfl:q=j:=by omega
        rw [HR.o.1];exact⟨HR.o.2.trans aC.o,fun x hx=>hJ.o.1 x (by rw [HR.o.2] at hx;exact hx)⟩
      case measure=>simp [intOf];omega
   ·obtain rfl:j=3:=by omega
    go_wp2;go_ret;exact⟨0,rfl,qav ⟨rfl,k,n,⟨by rw [I.o.1];exact Hk.o,⟨I.o.2.1,by omega,by omega⟩,fun h=>aF.o ⟨by have:=Hk.o.1;omega,h.2⟩,fun q hq=>hI.o.1 q hq⟩⟩,E.o.trans (hI.o.2.mono E.o.size)⟩
