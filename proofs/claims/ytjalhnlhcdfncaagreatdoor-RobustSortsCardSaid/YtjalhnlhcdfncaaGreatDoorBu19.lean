import Derived.Deep.SlicePairs
import Derived.Test.YtjalhnlhcdfncaaGreatDoorBu17
import Derived.Test.YtjalhnlhcdfncaaGreatDoorBu18
set_option maxRecDepth 100000
set_option maxHeartbeats 0
namespace Go.Proofs.YtjalhnlhcdfncaaGreatDoor
open Go.RowKit
def gR (n:Nat) (f:Nat->Nat->Rat) (b:Nat->Rat) (i c:Nat):Rat:=if c<n then f i c else b i
def normR (R n:Nat) (f:Nat->Nat->Rat) (b w:Nat->Rat) (r c:Nat):Rat:=sumQ R fun i=>w i*(gR n f b i r*gR n f b i c)
theorem qin {R n:Nat} {f:Nat->Nat->Rat} {b:Nat->Rat} {i:Nat} (E:i<R):besides (ttab R n f) (told R b) i=told n (f i)++[ftxt (b i)]:=by
 unfold besides;rw [qeD E,qdr E]
theorem qf6 {R n:Nat} {f:Nat->Nat->Rat} {b:Nat->Rat} {i c:Nat} (E:i<R) (F:c<=n):lval (besides (ttab R n f) (told R b) i) c=gR n f b i c:=by
 rw [qin E];unfold gR
 by_cases h:c<n
 ·rw [if_pos h,qgH (by rw [qb1];exact h),qcU h]
 ·obtain rfl:c=n:=by omega
  rw [if_neg h];have:=qgG (l:=told c (f i)) (x:=ftxt (b i));rw [qb1] at this;rw [this,qdw]
theorem qhA {R n:Nat} {f:Nat->Nat->Rat} {b w:Nat->Rat} {r c:Nat} (hr:r<=n) (F:c<=n):normQ (ttab R n f) (told R b) (told R w) R r c=normR R n f b w r c :=
 qb4 fun i E=>by rw [qcU E,qf6 E hr,qf6 E F]
theorem qll {R n:Nat} {f:Nat->Nat->Rat} {b w x:Nat->Rat}:measQ (ttab R n f) (told R b) (told R w) (told n x) n R=msR R n f b w x :=
 qb4 fun i E=>by
  have:resQ (ttab R n f) (told R b) (told n x) n i=resR n f b x i:=by
   unfold resQ resR;rw [qcU E]
   congr 1
   exact qb4 fun j F=>by rw [ttab_val E F,qcU F]
  rw [qcU E,this]
def qgr (R n:Nat) (f:Nat->Nat->Rat) (b w:Nat->Rat) (e:Ending) (E:World):Prop :=
 (Sing n (normR R n f b w)/\e=.returned (.tuple #[.slice none 0 0,.int .i64 7]))\/(¬Sing n (normR R n f b w)/\∃x,qcO n (normR R n f b w) (fun r=>normR R n f b w r n) x/\Tells n x e E)
theorem qkB {R:Nat} {w:Nat->Rat} (h:∀i,i<R->0<=w i):¬Neg (told R w):=by
 rintro ⟨k,E,F⟩;rw [qb1] at E;rw [qdr E,show (ftxt (w k)).1.data.toList=itxt (w k).num from rfl,qdP] at F;have:=Rat.num_nonneg.2 (h k E);omega
theorem qgq.told {O:World} {R n:Nat} {f:Nat->Nat->Rat} {b w:Nat->Rat} {e:Ending} {J:World} (h:qgq O (ttab R n f) (told R b) (told R w) e J) (U:1<=R) (Y:R<=40) (Z:1<=n) (h4:n<=10) (hf:∀i,i<R->qb3 n (f i)) (hb:qb3 R b) (hw:qb3 R w) (I:∀i,i<R->0<=w i):qgr R n f b w e J/\Below O.heap.size O J:=by
 have hT:=qnX U Y Z h4 hf;refine⟨?_,h.2⟩;rcases h.1 with h | h | h | h
 ·exact absurd hT h.1
 ·exact absurd ⟨qc2 hb,qc2 hw⟩ h.2.1
 ·exact absurd ⟨by rw [qb1,qcS],by rw [qb1,qcS],qkB I⟩ h.2.2.2.1
 ·have V:=h.2.2.2.2.2.2;rw [qeT U,qcS] at V;have E:∀r,r<n->∀c,c<n->normQ (ttab R n f) (Go.Proofs.YtjalhnlhcdfncaaGreatDoor.told R b) (Go.Proofs.YtjalhnlhcdfncaaGreatDoor.told R w) R r c=normR R n f b w r c:=fun r hr c E=>qhA (by omega) (by omega)
  rcases V with ⟨G,he⟩ | ⟨G,x,hx,ht⟩
  ·exact qax ⟨G.congr E,he⟩
  ·exact qam ⟨fun H=>G (H.congr fun r hr c F=>(E r hr c F).symm),x,hx.congr E (fun r hr=>qhA (by omega) qN) (fun _ _=>rfl),ht⟩
open Go.Lib Go.Proofs.Tryz
def fv (l:List Rat) (i:Nat):Rat:=l.getD i 0
def fm (t:List (List Rat)) (i j:Nat):Rat:=(t.getD i []).getD j 0
theorem num_lt {u:Nat} (h:u<10):num u=⟨#[UInt8.ofNat (48+u)]⟩:=by
 unfold num;rw [qb7 h]
theorem qiU {n:Nat} {A:Nat->Nat->Rat} (B:Nat->Nat->Rat) (h:∀k,k<n->∀j,j<n->sumQ n (fun i=>B k i*A i j)=if k=j then 1 else 0):¬Sing n A:=by
 rintro ⟨y,⟨k,F,hy⟩,G⟩;apply hy;have e:sumQ n (fun i=>B k i*sumQ n fun j=>A i j*y j)=y k:=by
  have H:sumQ n (fun i=>B k i*sumQ n fun j=>A i j*y j)=sumQ n fun i=>sumQ n fun j=>y j*(B k i*A i j):=qb4 fun i _=>by
   rw [<-qcr];exact qb4 fun j _=>by grind
  rw [H,qeA];have I:sumQ n (fun j=>sumQ n fun i=>y j*(B k i*A i j))=sumQ n fun j=>y j*(if k=j then 1 else 0):=qb4 fun j O=>by rw [qcr,h k F j O]
  rw [I,qdv n k _ F fun j _ E=>by rw [if_neg (fun h=>E h.symm)];grind];rw [if_pos rfl];grind
 rw [<-e];exact qc7 _ _ fun i J=>by rw [G i J];grind
theorem qka.told {G:World} {R n:Nat} {f:Nat->Nat->Rat} {b w x:Nat->Rat} {e:Ending} {I:World} (h:qka G (ttab R n f) (told R b) (told R w) (told n x) e I) (E:1<=R) (J:R<=40) (O:1<=n) (U:n<=10) (Y:∀i,i<R->qb3 n (f i)) (V:qb3 R b) (Z:qb3 R w) (hx:qb3 n x) (F:∀i,i<R->0<=w i) :
  (Short (msR R n f b w x)/\e=.returned (.tuple #[fstr (msR R n f b w x),.int .i64 0])\/¬Short (msR R n f b w x)/\e=.returned (.tuple #[.agg #[.string ⟨#[]⟩,.string ⟨#[]⟩],.int .i64 6]))/\Below G.heap.size G I:=by
 have hT:=qnX E J O U Y;refine⟨?_,h.2⟩;rcases h.1 with h | h | h | h
 ·exact absurd hT h.1
 ·exact absurd ⟨qc2 V,qc2 Z,qc2 hx⟩ h.2.1
 ·exact absurd ⟨by rw [qb1,qcS],by rw [qb1,qcS],by rw [qb1,qeT E],qkB F⟩ h.2.2.2.2.1
 ·have H:=h.2.2.2.2.2.2.2.2;rw [qeT E,qcS,qll] at H;exact H
theorem qg1 {q:Rat} (h:q.num.natAbs<10/\q.den<10):Short q:=⟨by rw [num_lt h.1];exact (by decide:1<=600),by rw [num_lt h.2];exact (by decide:1<=600)⟩
theorem qda {n:Nat} {x:Nat->Rat} (h:∀i,i<n->(x i).num.natAbs<=1000/\(x i).den<=1000):qb3 n x:=fun i E=>qdu (N:=1000) (h i E) (by decide +kernel)
theorem qjj {n m:Nat} {f:Nat->Nat->Rat} (F:m<=1000):∀k,k<n->((ttab n m f).getD k []).length<=4611686018427387904:=fun k E=>by rw [qeD E,qb1];omega
theorem qmO {R n:Nat} {f:Nat->Nat->Rat} {b v:Nat->Rat} {G:Option Addr} {g c:Nat} {E:Option Addr} {g2 c2:Nat} {F:Option Addr} {J c3:Nat} {w:World} (U:1<=R) (V:R<=40) (Y:1<=n) (Z:n<=10) (hf:∀i,i<R->qb3 n (f i)) (hb:qb3 R b) (hv:qb3 R v) (I:∀i,i<R->0<=v i) (hT:TCells w G g 0 (ttab R n f)) (hF:FCells w E g2 0 (told R b)) (H:FCells w F J 0 (told R v)) (hP:HasT w) :
  Calls prog 117 #[.slice G R c,.slice E R c2,.slice F R c3] w fun e O=>qgr R n f b v e O/\Below w.heap.size w O :=
 (qle G g 0 R c _ E g2 0 R c2 _ F J 0 R c3 _ w (qcS _ _ _) (by omega) (qjj (by omega)) hT (qb1 _ _) (by omega) hF (qb1 _ _) (by omega) H hP).mono fun _ _ h=>h.told U V Y Z hf hb hv I
theorem qj3 {kind:Nat} {d:List Int} (H:kind=1\/kind=2\/kind=3) (G:qeV d) (_h4:d.length<=4) (V:kind=3->d.length<=3):∀p∈termL kind d,Short p:=by
 have J:∀k,Short (dq d k):=fun k=>(dq_cd G k).short (by decide) (by decide +kernel) (by decide +kernel)
 have O:∀k,Short (dq d k*dq d k):=fun k=>((dq_cd G k).mul (dq_cd G k) (by decide) (by decide)).short (by decide) (by decide +kernel) (by decide +kernel)
 have I:∀k,k<=3->∀p∈prods d k,Short p:=fun k H p E=>(qfD (by decide) (dq_cd G) k p E).short (qbo (Nat.pow_pos (by decide))) (qaQ (qa9 (by decide) H) qkf) (qaQ (qa9 (by decide) H) qkf)
 have U:Short 1:=qg1 ⟨by decide,by decide⟩;have F:∀p∈lin d,Short p:=fun p E=>by
  unfold lin at E;rcases qav.1 E with rfl | E
  ·exact U
  ·obtain⟨j,_,rfl⟩:=qbe.1 E;exact J j
 rcases H with rfl | rfl | rfl
 ·exact F
 ·intro p E;rw [qnQ] at E;rcases qaI.1 E with E | E
  ·exact F p E
  ·unfold sqs at E;obtain⟨j,_,rfl⟩:=qbe.1 E;exact O j
 ·intro p E;rw [qnR] at E;exact I _ (V rfl) p E
theorem qnS {kind:Nat} {d:List Int} {j:Nat} (E:j<many kind d.length):termQ kind d j∈termL kind d:=by
 unfold termQ;rw [qaa,qad (by rw [qhb];exact E)];exact qbM _
theorem PtsOk.terms {l:List Pt} (h:PtsOk l) {k:Nat} {kind:Int} (J:qdi kind k) (O:¬(k=3/\chans l=4)):∀i,i<l.length->qb3 (many k (chans l)) (tqf l k i):=fun i H j I=>by
 obtain⟨E,F⟩:=h.rows i H;have G:=E.n4;refine qj3 (by obtain⟨_,a,b⟩:=J;omega) E.vals G (fun e=>by have:=h.n4;omega) _ (qnS (by rw [F];exact I))
theorem PtsOk.labs {l:List Pt} (h:PtsOk l) {c:Nat}:qb3 l.length (labq l c):=fun i G=>by
 have E:=(h.rows i G).1;have:=E.l0;have:=E.l1;have:=E.l2;have F:((l.getD i pt0).lab c).natAbs<1000000000000000000000:=by unfold Pt.lab;(repeat' split) <;> omega
 exact qgS (d:=100) (by decide) F (by decide)
theorem PtsOk.bound {l:List Pt} (h:PtsOk l) (c:Nat):∀k,k<l.length->-9223372036854775808<=(l.getD k pt0).lab c/\(l.getD k pt0).lab c<=9223372036854775807:=fun i F=>by
 have E:=(h.rows i F).1;have:=E.l0;have:=E.l1;have:=E.l2;unfold Pt.lab;(repeat' split) <;> omega
theorem WOk.short {E:List Int} (h:WOk E):qb3 E.length (wq E):=fun i F=>by
 obtain⟨G,H⟩:=h i F;have:Short ((E.getD i 0:Int) / ((1:Int):Rat)):=qgS (d:=1) (by decide) (by omega) (by decide);rw [show ((1:Int):Rat)=1 from rfl,Rat.div_def,show (1:Rat)⁻¹=1 by decide +kernel,Rat.mul_one] at this;exact this
theorem WOk.pos {E:List Int} (h:WOk E):∀i,i<E.length->0<=wq E i:=fun i F=>by unfold wq;exact Rat.intCast_nonneg.2 (h i F).1
theorem qfP {k n:Nat} {kind:Int} (E:qdi kind k) (F:1<=n) (H:n<=4) (G:¬(k=3/\n=4)):1<=many k n/\many k n<=10:=by
 obtain⟨_,a,b⟩:=E;unfold many;rcases (show k=1\/k=2\/k=3 by omega) with rfl | rfl | rfl
 ·simp;omega
 ·simp;omega
 ·rcases (show n=1\/n=2\/n=3 by omega) with rfl | rfl | rfl <;> decide
def nq (l:List Pt) (k:Nat) (E:List Int) (c:Nat):Nat->Nat->Rat:=normR l.length (many k (chans l)) (tqf l k) (labq l c) (wq E)
theorem qfS {l:List Pt} {k:Nat} {G:List Int} {c H:Nat} (h:Sing (many k (chans l)) (nq l k G c)):Sing (many k (chans l)) (nq l k G H):=h.congr fun i E j F=>by
 unfold nq normR;refine qb4 fun r _=>?_
 unfold gR;rw [if_pos E,if_pos F,if_pos E,if_pos F]
def FitX (l:List Pt) (k:Nat) (E:List Int) (c:Nat) (x:Nat->Rat):Prop:=qcO (many k (chans l)) (nq l k E c) (fun r=>nq l k E c r (many k (chans l))) x
def FitG (l:List Pt) (kind:Int) (E:List Int) (W:World) (v:Value):Prop :=
 PtsOk l/\E.length=l.length/\WOk E/\∃k,qdi kind k/\¬(k=3/\chans l=4)/\¬Sing (many k (chans l)) (nq l k E 0) /\
  ∃x:Nat->Nat->Rat,(∀c,c<3->FitX l k E c (x c)/\qb3 (many k (chans l)) (x c))/\MdAt W v (mdq k (chans l) (many k (chans l)) x)
def FitF (l:List Pt) (kind:Int) (E:List Int) (e:Int):Prop :=
 (¬PtsOk l/\e=310)\/(PtsOk l/\¬((∃k,qdi kind k)/\E.length=l.length/\WOk E)/\e=2) \/
 (PtsOk l/\E.length=l.length/\WOk E/\∃k,qdi kind k/\((k=3/\chans l=4/\e=5)\/(¬(k=3/\chans l=4) /\
  ((Sing (many k (chans l)) (nq l k E 0)/\e=7)\/(¬Sing (many k (chans l)) (nq l k E 0)/\∃c x,c<3/\FitX l k E c x/\¬qb3 (many k (chans l)) x/\e=6)))))
def FitAs (w:World) (l:List Pt) (kind:Int) (F:List Int) (e:Ending) (E:World):Prop :=
 Below w.heap.size w E/\((∃v,e=.returned (.tuple #[v,.int .i64 0])/\FitG l kind F E v)\/∃c,e=.returned (.tuple #[mdv0,.int .i64 c])/\FitF l kind F c)
theorem infoPt:(Tryz.prog.info? 72).map (fun i=>(i.zero,i.size,i.bytes))=some (some (.agg #[.string ⟨#[]⟩,.slice none 0 0,.int .i64 0,.int .i64 0,.int .i64 0]),5,64):=by kernel_rfl
theorem qja {w:World} {B:Nat} {v:Value} {n:Nat} {U:List Value} {u0 u1 u2 u3 u4:Value} {g c:Nat} {t:TypeId} (V:TypeId) (F:w.ownsRow B 72 5 v n U) (hB:B<=w.heap.size) (hg:w.heap[g]? = some (.cells #[u0,u1,u2,u3,u4] t (0,0))) (Z:∀u∈[u0,u1,u2,u3,u4],u.oneCell'=true) (hn:n<1000000) :
  ∃G H,(Builtin.append_ #[48,48] V #[v,.slice (some ⟨g,0,none⟩) 1 c]).run prog w=.ok G H/\H.ownsRow B 72 5 G (n+1) (U++[u0,u1,u2,u3,u4])/\(G.ownBlock=v.ownBlock/\w.grownBy H v.ownBlock\/G.ownBlock=some w.heap.size/\w.grownBy H none):=by
 obtain⟨i0,Y,I,J,O⟩:=info_parts infoPt;exact qgW (P:=prog) w B 48 V 72 i0 _ 5 64 underlying48 Y I J O rfl (by decide) v n U F ⟨g,0,none⟩ 1 c [u0,u1,u2,u3,u4] rfl (fun j x E=>by
   rw [Addr.add_mid]
   match j,E with
   | 0,E=>exact (qC _ _ _ _ _ _ hg).trans E
   | 1,E=>exact (qC _ _ _ _ _ _ hg).trans E
   | 2,E=>exact (qC _ _ _ _ _ _ hg).trans E
   | 3,E=>exact (qC _ _ _ _ _ _ hg).trans E
   | 4,E=>exact (qC _ _ _ _ _ _ hg).trans E
   | j+5,E=>cases E) Z (by decide) (by unfold maxLen;omega) (by omega) hB
def PaAt (W:World) (E:List Value) (j:Nat) (p:Pt):Prop:=∃(B:Nat) (F:Option Addr) (G:Nat),(E[j*5]? = some (.string p.name)/\E[j*5+1]? = some (.slice F p.dev.length G)/\E[j*5+2]? = some (.int .i64 p.l0)/\E[j*5+3]? = some (.int .i64 p.l1)/\E[j*5+4]? = some (.int .i64 p.l2))/\IOwn W B (.slice F p.dev.length G) p.dev
def PaOwn (W:World) (B:Nat) (v:Value) (l:List Pt):Prop:=∃E,W.ownsRow B 72 5 v l.length E/\∀j,j<l.length->PaAt W E j (l.getD j pt0)
theorem PaOwn.below {W W':World} {B:Nat} {v:Value} {l:List Pt} (h:PaOwn W B v l) (E:Below W.heap.size W W'):PaOwn W' B v l:=by
 obtain⟨O,F,G⟩:=h;refine⟨O,own_below F E,fun j J=>?_⟩;obtain⟨B',da,dc,H,I⟩:=G j J;exact⟨B',da,dc,H,I.below E⟩
instance stays_paown {B:Nat} {v:Value} {l:List Pt}:Stays fun W=>PaOwn W B v l:=⟨fun h E=>h.below E⟩
theorem PaOwn.nil (W:World) (B:Nat):PaOwn W B (.slice none 0 0) []:=⟨[],⟨rfl,.inl ⟨rfl,rfl⟩⟩,fun j E=>absurd E (by simp)⟩
theorem PaOwn.shape {W:World} {B m:Nat} {v:Value} {l:List Pt} (h:PaOwn W B v l) (G:l.length=m):∃(E:Option Addr) (cap:Nat),v=.slice E m cap:=by
 obtain⟨H,F,_⟩:=h;subst G;exact qnh F
theorem PaOwn.cells {W:World} {B:Nat} {v:Value} {l:List Pt} (h:PaOwn W B v l) (V:0<l.length) (I:∀j,j<l.length->0<(l.getD j pt0).dev.length):∃g c,v=.slice (some ⟨g,0,none⟩) l.length c/\PCells W (some ⟨g,0,none⟩) g 0 l:=by
 obtain⟨U,F,H⟩:=h;have E:=F;rcases F.2 with ⟨_,h⟩ | ⟨g,cap,cur,rfl,_,_,_⟩
 ·omega
 ·refine⟨g,cap,rfl,fun _=>rfl,fun k G=>?_⟩;obtain⟨B',da,dc,⟨e0,e1,e2,e3,e4⟩,O⟩:=H k G;obtain⟨ga,ca,e,hN⟩:=IOwn.cells O (I k G);have c:∀j u,U[j]? = some u->W.cell? ⟨g,0+j,none⟩=some u:=fun j u J=>by
   have:=E.cells (g:=g) rfl j u J
   rwa [Addr.add_mid] at this
  exact⟨c _ _ e0,⟨_,ga,0,ca,by rw [<-e];exact c _ _ e1,hN⟩,c _ _ e2,c _ _ e3,c _ _ e4⟩
theorem PaOwn.push {W E I:World} {B:Nat} {v H:Value} {l:List Pt} {p:Pt} {J:Option Addr} {O Bd:Nat} (h:PaOwn W B v l) (hb:Below W.heap.size W E) (hp:IOwn E Bd (.slice J p.dev.length O) p.dev)
  (ho:∀F,E.ownsRow B 72 5 v l.length F->I.ownsRow B 72 5 H (l.length+1) (F++[.string p.name,.slice J p.dev.length O,.int .i64 p.l0,.int .i64 p.l1,.int .i64 p.l2])) (Z:H.ownBlock=v.ownBlock/\E.grownBy I v.ownBlock\/H.ownBlock=some E.heap.size/\E.grownBy I none):PaOwn I B H (l++[p]):=by
 obtain⟨F,G,h2⟩:=h.below hb;refine⟨_,by rw [qaf];exact ho F G,fun j Y=>?_⟩;have U:F.length=l.length*5:=G.1;rcases qaB j l.length with hjl | hjl
 ·obtain⟨B',d',c',⟨e0,e1,e2,e3,e4⟩,V⟩:=h2 j hjl;have e:(l++[p]).getD j pt0=l.getD j pt0:=by rw [qaa,qaz hjl,<-qaa]
  rw [e];refine⟨B',d',c',⟨?_,?_,?_,?_,?_⟩,(qkF V (own_ne V G (by decide)) Z).1⟩
  ·rw [qaz (by omega)];exact e0
  ·rw [qaz (by omega)];exact e1
  ·rw [qaz (by omega)];exact e2
  ·rw [qaz (by omega)];exact e3
  ·rw [qaz (by omega)];exact e4
 ·obtain rfl:j=l.length:=by rw [qaf] at Y;have:j<l.length+1:=Y;omega
  have e:(l++[p]).getD l.length pt0=p:=by rw [qaa,qau qN,qaM];rfl
  rw [e];refine⟨Bd,J,O,⟨?_,?_,?_,?_,?_⟩,(qkF hp (own_ne hp G (by decide)) Z).1⟩
  all_goals
   rw [qau (by omega)];simp only [U,qaM,Nat.add_sub_cancel_left]
   rfl
theorem qdz {V:Array Oper} {rest:List Oper} {o:Oper} {a:Act} {w:World} {Q:Exit->Act->World->Prop} (Z:o.guard=none) (s x:Operand)
  (ho:o.op=.call { callee:=.builtin .append,args:=#[s,x],argTypes:=#[48,48] }) {B:Nat} {v:Value} {l:List Pt} {p:Pt} {E:Option Addr} {F Bd:Nat} (H:PaOwn w B v l) (hp:IOwn w Bd (.slice E p.dev.length F) p.dev) (hB:B<=w.heap.size) (hs:a.eval s=v) {g:Nat} (hx:a.eval x=.slice (some ⟨g,0,none⟩) 1 1) (hg:g=w.heap.size) (hn:l.length<1000000)
  {n0:ByteArray} {k:Nat} {z0 Y z2:Int} (e0:n0=p.name) (e1:k=p.dev.length) (e2:z0=p.l0) (e3:Y=p.l1) (e4:z2=p.l2)
  (h:∀J O,Hu (PaOwn O B J (l++[p]))->Hu (J.ownBlock=v.ownBlock/\(w.alloc (.cells #[.string n0,.slice E k F,.int .i64 z0,.int .i64 Y,.int .i64 z2] 72)).grownBy O v.ownBlock\/J.ownBlock=some (w.alloc (.cells #[.string n0,.slice E k F,.int .i64 z0,.int .i64 Y,.int .i64 z2] 72)).heap.size/\(w.alloc (.cells #[.string n0,.slice E k F,.int .i64 z0,.int .i64 Y,.int .i64 z2] 72)).grownBy O none)->wpList prog V Q rest (a.put o.dst J) O) :
  wpList prog V Q (o :: rest) a (w.alloc (.cells #[.string n0,.slice E k F,.int .i64 z0,.int .i64 Y,.int .i64 z2] 72)):=by
 subst hg e0 e1 e2 e3 e4;have I:Below w.heap.size w (w.alloc (.cells #[.string p.name,.slice E p.dev.length F,.int .i64 p.l0,.int .i64 p.l1,.int .i64 p.l2] 72)):=qbY qB qN;obtain⟨ag,ae,_⟩:=H.below I;have hg:=qM w (.cells #[.string p.name,.slice E p.dev.length F,.int .i64 p.l0,.int .i64 p.l1,.int .i64 p.l2] 72) _ rfl;have G:∀u∈[Value.string p.name,.slice E p.dev.length F,.int .i64 p.l0,.int .i64 p.l1,.int .i64 p.l2],u.oneCell'=true:=fun u hu=>by
  simp only [qav,List.not_mem_nil,or_false] at hu;rcases hu with rfl | rfl | rfl | rfl | rfl <;> rfl
 have U:B<=(w.alloc (.cells #[.string p.name,.slice E p.dev.length F,.int .i64 p.l0,.int .i64 p.l1,.int .i64 p.l2] 72)).heap.size:=by simp only [qab];omega
 obtain⟨J,O,hr,h1,h2⟩:=qja o.type ae U hg G hn (c:=1);refine qea Z s x _ ho hs hx hr (h J O (qH (PaOwn.push H I (hp.below I) (fun vs af=>?_) h2)) (qH h2));obtain⟨v2,w2,aa,h3,_⟩:=qja o.type af U hg G hn (c:=1);rw [aa] at hr;cases hr;exact h3
open Go.ChangeShapes Go.WideShapes Go.ChangeAt Go.Deep
theorem wf_u8 {z:Int} (h:(Lit.int .u8 z).wf=true):∃n:Nat,z=(n:Int)/\n<256:=by
 have E:0<=z/\z<=255:=by simpa [Lit.wf,IntKind.min,IntKind.max,IntKind.signed,IntKind.bits] using h
 exact⟨z.toNat,by omega,by omega⟩
section
variable {H:Type} {enc:TypeId×Value->H} {w:World} {sp:Nat->Bool} {held:Bool} {fuel:Nat} {v:Value} {x:DataW H×List MemPlace}
theorem qg2 {a:Addr} {u:Value} (h:w.cell? (a.add 0)=some u):a=⟨a.block,a.off,none⟩:=by
 obtain⟨b,off,s⟩:=a;have:=World.cell?_spot h;have e:s=none:=by simpa [Addr.add] using this
 rw [e]
end
end Go.Proofs.YtjalhnlhcdfncaaGreatDoor
namespace Go.Proofs.YtjalhnlhcdfncaaGreatDoor
open Go.RowKit Go.Proofs.Tryz
structure KCells (W:World) (kd:IntKind) (ao:Option Addr) (b off:Nat) (L:List Int):Prop where
 addr:0<L.length->ao=some ⟨b,off,none⟩
 cell:∀k,k<L.length->W.cell? ⟨b,off+k,none⟩=some (.int kd (L.getD k 0))
theorem KCells.below {W W':World} {H:IntKind} {F:Option Addr} {b E:Nat} {L:List Int} (h:KCells W H F b E L) (I:Below W.heap.size W W'):KCells W' H F b E L :=
 ⟨h.addr,fun k G=>(I.cell (qac W _ (h.cell k G))).trans (h.cell k G)⟩
def qe3 (G:List Int) (k:Nat):Int:=if k=0 then 0 else if k=1 then (G.getD 0 0).tmod 1000 else (G.getD 0 0).tmod 1000*1000+(G.getD 1 0).tmod 1000
def small (bl:Bool) (G:List Int):Int:=if bl=true then -qe3 G (min G.length 2) else qe3 G (min G.length 2)
theorem qh1 {g:Int} (h:0<=g/\g<65536):0<=g.tmod 1000/\g.tmod 1000<1000:=by
 rw [qby h.1];omega
theorem qjb {G:List Int} (E:∀k,0<=G.getD k 0/\G.getD k 0<65536) (k:Nat):0<=qe3 G k/\qe3 G k<1000000:=by
 have F:=qh1 (E 0);have H:=qh1 (E 1);unfold qe3;split
 ·omega
 ·split <;> omega
theorem qkM {G:List Int} (E:∀k,0<=G.getD k 0/\G.getD k 0<65536) (bl:Bool):-1000000<small bl G/\small bl G<1000000:=by
 have h:=qjb E (min G.length 2);unfold small;split <;> omega
theorem qjc (bl:Bool) (a:Option Addr) (b ah len cap:Nat) (G:List Int) (z:Int) (w:World) (hG:G.length=len) (hl:len<=9223372036854775807) (hC:KCells w .u16 a b ah G) (Y:∀k,0<=G.getD k 0/\G.getD k 0<65536) :
  Calls prog 79 #[.agg #[.bool bl,.slice a len cap,.int .u16 z]] w fun e w'=>e=.returned (.int .i64 (small bl G))/\Below w.heap.size w w':=by
 obtain⟨W1,J,N1⟩:=nw1 w #[.bool bl,.slice a len cap,.int .u16 z] 87;have H:=N1.o.2;have k0:=qC _ _ 0 _ _ _ H;have k1:=qC _ _ 1 _ _ _ H;have E:=qH (qA (hC.below N1.o.1) (qA hG Y));have HB:=qH N1.o.1;clear H N1 hC Y;go_enter func79,ntmps79;go_upto_region 1 with fail;rw [<-J];clear J;go_wp2_with fail
 go_loopw [3,4] (fun x3 x4 W=>∃i:Nat,x4=.int .i64 (i:Int)/\x3=.int .i64 (qe3 G i)/\i<=len/\i<=2/\Hu (W=W1)) (fun _ x4 _=>2-(intOf x4).toNat)
 case atStart=>exact⟨0,rfl,rfl,qaj _,qaj _,qH rfl⟩
 case round =>
  obtain⟨i,rfl,rfl,hi,ai,F⟩:=hrel;have F:=F.o;subst F;obtain⟨x,hx⟩:=qX (qe3 G i);have Z:=qjb E.o.2.2 i
  by_cases ae:i<len/\i<2
  ·obtain⟨aa,au⟩:=ae;have U:(i:Int)<(len:Int):=by omega
   have ak:(i:Int)<2:=by omega
   have aj:(0:Int)<=(i:Int):=by omega
   obtain rfl:=E.o.1.addr (by rw [E.o.2.1];omega);have hk:=E.o.1.cell i (by rw [E.o.2.1];omega);obtain⟨g,hg⟩:=qX (G.getD i 0);have O:=E.o.2.2 i;rw [hg] at hk O;have hm:=qh1 O;have hs:qe3 G (i+1)=x*1000+g.tmod 1000:=by
    rcases (show i=0\/i=1 by omega) with rfl | rfl
    ·rw [<-hx,<-hg];simp [qe3]
    ·rw [<-hx,<-hg];simp [qe3]
   have ag:x<1000:=by
    rcases (show i=0\/i=1 by omega) with rfl | rfl
    ·rw [<-hx];exact (by decide:(0:Int)<1000)
    ·rw [<-hx];exact (qh1 (E.o.2.2 0)).2
   rw [hx] at Z ⊢;obtain⟨m,af⟩:=qX (g.tmod 1000);rw [af] at hm hs;have I:=qH hs;clear hs hx hg;go_wp2;go_roundw
   case rel=>exact⟨i+1,by go_num,by rw [I.o],aa,by omega,by first | trivial | exact qH rfl⟩
   case measure=>simp [intOf];omega
  ·have he:i=min len 2:=by omega
   have V:small bl G=if bl=true then -x else x:=by unfold small;rw [E.o.2.1,<-he,hx]
   rw [hx] at Z ⊢;have I:=qH V;clear V hx he;have ag:(-9223372036854775808:Int)<=-x:=by omega
   by_cases h1:i<len
   ·obtain rfl:i=2:=by omega
    have U:(2:Int)<(len:Int):=by omega
    cases bl
    ·go_wp2;go_ret;exact⟨by rw [I.o];rfl,HB.o⟩
    ·go_wp2;go_ret;exact⟨by rw [I.o];rfl,HB.o⟩
   ·have U:¬(i:Int)<(len:Int):=by omega
    cases bl
    ·go_wp2;go_ret;exact⟨by rw [I.o];rfl,HB.o⟩
    ·go_wp2;go_ret;exact⟨by rw [I.o];rfl,HB.o⟩
end Go.Proofs.YtjalhnlhcdfncaaGreatDoor
namespace Go.Proofs.YtjalhnlhcdfncaaGreatDoor.p4
def mval:List Nat->Nat
 | []=>0
 | d :: l=>d+10000*mval l
theorem qcC (l r:List Nat):mval (l++r)=mval l+10000 ^ l.length*mval r:=by
 induction l with
 | nil=>simp [mval]
 | cons d l ih =>
  simp only [List.cons_append,mval,ih,qbz,qaH];rw [qa4,qat (10000 ^ l.length) 10000,qaw];omega
theorem qfQ (l:List Nat) (h:∀d∈l,d<10000):mval l<10000 ^ l.length:=by
 induction l with
 | nil=>simp [mval]
 | cons d l ih =>
  have E:=h d qa8;have F:=ih fun x hx=>h x (qbh _ hx)
  simp only [mval,qbz,qaH];omega
theorem qeN (n:Nat):mval (List.replicate n 0)=0:=by
 induction n with
 | zero=>rfl
 | succ n ih=>simp [qbr,mval,ih]
theorem qcW (l:List Nat) (d:Nat):mval (l++[d])=mval l+10000 ^ l.length*d:=by
 rw [qcC];simp [mval]
theorem qh2 (l:List Nat) (i d:Nat) (h:i<l.length):mval (l.set i d)+10000 ^ i*l[i]=mval l+10000 ^ i*d:=by
 induction l generalizing i with
 | nil=>exact absurd h (by simp)
 | cons x l ih =>
  cases i with
  | zero=>simp [mval];omega
  | succ i =>
   have E:i<l.length:=by simpa using h
   have:=ih i E;simp only [List.set_cons_succ,mval,List.getElem_cons_succ,qaH];have F:10000 ^ i*10000*l[i]=10000*(10000 ^ i*l[i]):=by rw [qat (10000 ^ i),qaw]
   have G:10000 ^ i*10000*d=10000*(10000 ^ i*d):=by rw [qat (10000 ^ i),qaw]
   omega
def Dig (L:List Nat):Prop:=∀k,L.getD k 0<10000
theorem Dig.mem {L:List Nat} (h:Dig L):∀d∈L,d<10000:=fun d E=>by
 obtain⟨i,F,rfl⟩:=List.getElem_of_mem E;have:=h i
 rwa [qaa,qad F] at this
theorem Dig.of {L:List Nat} (h:∀d∈L,d<10000):Dig L:=fun k=>by
 rw [qaa];cases hk:L[k]? with
 | none=>exact (by decide:0<10000)
 | some x=>exact h x (List.mem_of_getElem? hk)
theorem Dig.nil:Dig []:=Dig.of (by simp)
theorem Dig.snoc {L:List Nat} (h:Dig L) {d:Nat} (E:d<10000):Dig (L++[d]):=Dig.of fun x hx=>by
 rcases qaI.1 hx with hx | hx
 ·exact h.mem x hx
 ·rw [qan.1 hx];exact E
theorem Dig.set {L:List Nat} (h:Dig L) {d:Nat} (E:d<10000) (i:Nat):Dig (L.set i d):=Dig.of fun x hx=>by
 rcases List.mem_or_eq_of_mem_set hx with hx | rfl
 ·exact h.mem x hx
 ·exact E
theorem Dig.take {L:List Nat} (h:Dig L) (n:Nat):Dig (L.take n):=Dig.of fun x hx=>h.mem x (qbd hx)
theorem Dig.drop {L:List Nat} (h:Dig L) (n:Nat):Dig (L.drop n):=Dig.of fun x hx=>h.mem x (List.mem_of_mem_drop hx)
theorem Dig.append {L M:List Nat} (h:Dig L) (E:Dig M):Dig (L++M):=Dig.of fun x hx=>(qaI.1 hx).elim (h.mem x) (E.mem x)
theorem Dig.zeros (n:Nat):Dig (List.replicate n 0):=Dig.of fun x hx=>by rw [(List.mem_replicate.1 hx).2];decide
theorem Dig.lt {L:List Nat} (h:Dig L):mval L<10000 ^ L.length:=qfQ L h.mem
theorem qdO {L:List Nat} {k:Nat} (h:k<L.length):L[k]? = some (L.getD k 0):=by
 rw [qad h,qaa,qad h];rfl
theorem qdB {L:List Nat} {k:Nat} (h:L.length<=k):L.getD k 0=0:=by
 rw [qaa,qaO h];rfl
theorem qb2 (L:List Nat) (k:Nat):mval (L.take (k+1))=mval (L.take k)+10000 ^ k*L.getD k 0:=by
 by_cases h:k<L.length
 ·rw [qbJ,qdO h]
  show mval (L.take k++[L.getD k 0])=_
  rw [qcW,qao,qaX (qaq h)]
 ·rw [qah (by omega),qah (by omega),qdB (by omega)];simp
theorem qcV (L:List Nat) (k:Nat):mval (L.drop k)=L.getD k 0+10000*mval (L.drop (k+1)):=by
 by_cases h:k<L.length
 ·rw [qbB h];simp only [mval];rw [qaa,qad h];rfl
 ·rw [qaT (by omega),qaT (by omega),qdB (by omega)];simp [mval]
theorem qdX (L:List Nat) (k:Nat) (E:k<=L.length):mval L=mval (L.take k)+10000 ^ k*mval (L.drop k):=by
 conv=>lhs;rw [<-List.take_append_drop k L]
 rw [qcC,qao,qaX E]
theorem getD_set_ne {L:List Nat} {i j d:Nat} (h:i≠j):(L.set i d).getD j 0=L.getD j 0:=by
 rw [qaa,qbL h,<-qaa]
theorem qcT {L:List Nat} {i d:Nat} (h:i<L.length):(L.set i d).getD i 0=d:=by
 rw [qaa,List.getElem?_set_self h];rfl
theorem qc1 {L:List Nat} {k d:Nat} (h:k<L.length):mval ((L.set k d).take (k+1))=mval (L.take k)+10000 ^ k*d:=by
 rw [qb2,qcT h]
 congr 2
 rw [List.take_set_of_le qN]
theorem qde {L:List Nat} {k d:Nat} (h:k<L.length):mval ((L.set k d).drop k)=d+10000*mval (L.drop (k+1)):=by
 rw [qcV,qcT h,List.drop_set_of_lt (by omega)]
theorem qex {L:List Nat} {k d:Nat} (h:k<L.length):mval (L.set k d)+10000 ^ k*L.getD k 0=mval L+10000 ^ k*d:=by
 have:=qh2 L k d h
 rwa [qaa,qad h]
def Zero (L:List Nat) (n:Nat):Prop:=∀k,n<=k->L.getD k 0=0
theorem Zero.all (L:List Nat):Zero L L.length:=fun _ h=>qdB h
theorem Zero.mono {L:List Nat} {n m:Nat} (h:Zero L n) (F:n<=m):Zero L m:=fun k E=>h k (by omega)
theorem Zero.zeros (n m:Nat):Zero (List.replicate n 0) m:=fun k _=>by
 by_cases h:k<n
 ·rw [qaa,qbk,if_pos h];rfl
 ·exact qdB (by rw [qaS];omega)
theorem Zero.set {L:List Nat} {n k d:Nat} (h:Zero L n) (F:k<n):Zero (L.set k d) n:=fun j E=>by rw [getD_set_ne (by omega)];exact h j E
theorem Zero.set_succ {L:List Nat} {n d:Nat} (h:Zero L n):Zero (L.set n d) (n+1):=fun j E=>by rw [getD_set_ne (by omega)];exact h j (by omega)
theorem Zero.down {L:List Nat} {n:Nat} (h:Zero L (n+1)) (E:L.getD n 0=0):Zero L n:=fun k F=>by
 by_cases e:k=n
 ·rw [e];exact E
 ·exact h k (by omega)
theorem qdt {L:List Nat} {n:Nat} (h:Zero L n):mval (L.drop n)=0:=by
 induction hm:L.length-n generalizing n with
 | zero=>rw [qaT (by omega)];rfl
 | succ m ih =>
  rw [qcV,h n qN,ih (h.mono (by omega)) (by omega)]
theorem qcA {L:List Nat} {n:Nat} (h:Zero L n):mval (L.take n)=mval L:=by
 by_cases E:n<=L.length
 ·rw [qdX L n E,qdt h];omega
 ·rw [qah (by omega)]
def Nrm (L:List Nat):Prop:=L.length=0\/L.getD (L.length-1) 0≠0
theorem Nrm.ge {L:List Nat} (h:Nrm L) (F:0<L.length):10000 ^ (L.length-1)<=mval L:=by
 have E:=h.resolve_left (by omega);have e:=qb2 L (L.length-1);rw [show L.length-1+1=L.length by omega,qbf] at e;rw [e];exact qal (Nat.le_mul_of_pos_right _ (qbg E)) (Nat.le_add_left _ _)
theorem Nrm.snoc (L:List Nat) {d:Nat} (h:d≠0):Nrm (L++[d]):=by
 right
 rw [qaf,qaG,Nat.add_sub_cancel,qaa,qau qN,qaM];exact h
theorem Nrm.zero {L:List Nat} (h:Nrm L):mval L=0↔L.length=0:=by
 constructor
 ·intro e;rcases qaU L.length with h0 | h0
  ·exact h0
  ·have:=h.ge h0;have:=Nat.pow_pos (n:=L.length-1) (show 0<10000 by decide);omega
 ·intro e;rw [List.length_eq_zero_iff.1 e];rfl
theorem Nrm.len {L:List Nat} (h:Nrm L) {n:Nat} (F:mval L<10000 ^ n):L.length<=n:=by
 rcases qaU L.length with h0 | h0
 ·omega
 ·have E:=h.ge h0;have G:=(Nat.pow_lt_pow_iff_right (show 1<10000 by decide)).1 (qaQ E F);omega
theorem qgk {P B x y z s c E m o:Nat} (H:x+P*c=y+z) (F:s+B*E=m+c+o):x+P*s+P*B*E=y+P*m+(z+P*o):=by
 have h:=congrArg (P * ·) F;simp only [qa4] at h;have G:P*B*E=P*(B*E):=by simp only [qaw]
 omega
theorem qfv {P B x y z s b E m o:Nat} (H:x+z=y+P*b) (F:s+b+o=m+B*E):x+P*s+(z+P*o)=y+P*m+P*B*E:=by
 have h:=congrArg (P * ·) F;simp only [qa4] at h;have G:P*B*E=P*(B*E):=by simp only [qaw]
 omega
theorem qhc {A C B x p s c E d e X Y Z: Nat} (I:Y+A*C*p=x+A*C*s) (J:x+A*C*c=X+A*d*Z) (F:s+B*E=c+(p+d*e)):Y+A*(C*B)*E=X+A*d*(Z+C*e):=by
 have h:=congrArg (A*C * ·) F;simp only [qa4] at h ⊢;have G:A*(C*B)*E=A*C*(B*E):=by simp only [qaw]
 have H:A*d*(C*e)=A*C*(d*e):=by simp only [qaw,qbt]
 omega
theorem qh4 {A F E G x c d d1 X Y Z:Nat} (H:Y+E*0=x+E*c) (I:x+E*c=X*Z+A*d*Z):Y+G*0=(X+A*d)*Z+F*d1*mval []:=by
 simp only [mval,Nat.mul_zero,qbA,qaF] at *;omega
theorem qgZ {B R d r m M q t:Nat} (E:R*d+r=M) (I:d*q+t=r*B+m):(q+B*R)*d+t=m+B*M:=by
 subst E;simp only [qa4,qaF];have F:B*R*d=B*(R*d):=by simp only [qaw]
 have G:q*d=d*q:=qat _ _;have H:r*B=B*r:=qat _ _;omega
structure PlusInv (m o:List Nat) (k:Nat) (L:List Nat) (c:Nat):Prop where
 len:L.length=k
 dig:Dig L
 carry:c<=1
 val:mval L+10000 ^ k*c=mval (m.take k)+mval (o.take k)
theorem PlusInv.start (m o:List Nat):PlusInv m o 0 [] 0:=⟨rfl,Dig.nil,by decide,by simp [mval]⟩
theorem PlusInv.step {m o L:List Nat} {k c s E:Nat} (h:PlusInv m o k L c) (G:s<10000) (F:E<=1) (e:s+10000*E=m.getD k 0+c+o.getD k 0):PlusInv m o (k+1) (L++[s]) E:=by
 refine⟨by rw [qaf,h.len];rfl,h.dig.snoc G,F,?_⟩;have H:=h.val;rw [qcW,h.len,qb2,qb2,qaH];exact qgk H e
theorem PlusInv.done {m o L:List Nat} {c:Nat} (h:PlusInv m o m.length L c) (E:o.length<=m.length):mval L+10000 ^ m.length*c=mval m+mval o:=by
 have:=h.val
 rwa [qah qN,qah E] at this
structure MinusInv (m o:List Nat) (k:Nat) (R:List Nat) (b:Nat):Prop where
 len:R.length=m.length
 dig:Dig R
 carry:b<=1
 val:mval (R.take k)+mval (o.take k)=mval (m.take k)+10000 ^ k*b
theorem MinusInv.start (m o:List Nat):MinusInv m o 0 (List.replicate m.length 0) 0:=⟨by simp,Dig.zeros _,by decide,by simp [mval]⟩
theorem MinusInv.step {m o R:List Nat} {k b s E:Nat} (h:MinusInv m o k R b) (G:k<m.length) (H:s<10000) (F:E<=1) (e:s+b+o.getD k 0=m.getD k 0+10000*E):MinusInv m o (k+1) (R.set k s) E:=by
 refine⟨by rw [qa7,h.len],h.dig.set H _,F,?_⟩;have I:=h.val;rw [qc1 (by rw [h.len];exact G),qb2,qb2,qaH];exact qfv I e
theorem MinusInv.done {m o R:List Nat} {b:Nat} (h:MinusInv m o m.length R b) (G:o.length<=m.length) (F:mval o<=mval m):mval R=mval m-mval o:=by
 have H:=h.val;rw [qah qN,qah G,qah (by rw [h.len];exact qae _)] at H;have E:=h.dig.lt;rw [h.len] at E;have I:=h.carry;rcases (show b=0\/b=1 by omega) with rfl | rfl
 ·omega
 ·omega
structure TimesInv (m o:List Nat) (i j:Nat) (P:List Nat) (c:Nat):Prop where
 len:P.length=m.length+o.length
 dig:Dig P
 carry:c<10000
 zero:Zero P (i+o.length)
 val:mval P+10000 ^ (i+j)*c=mval (m.take i)*mval o+10000 ^ i*m.getD i 0*mval (o.take j)
theorem TimesInv.start (m o:List Nat):TimesInv m o 0 0 (List.replicate (m.length+o.length) 0) 0:=⟨by simp,Dig.zeros _,by decide,Zero.zeros _ _,by simp [mval,qeN]⟩
theorem TimesInv.step {m o P:List Nat} {i j c s F:Nat} (h:TimesInv m o i j P c) (I:i<m.length) (J:j<o.length) (E:s<10000) (H:F<10000) (e:s+10000*F=c+(P.getD (i+j) 0+m.getD i 0*o.getD j 0)):TimesInv m o i (j+1) (P.set (i+j) s) F:=by
 refine⟨by rw [qa7,h.len],h.dig.set E _,H,h.zero.set (by omega),?_⟩;have G:=h.val;have E:=qex (L:=P) (k:=i+j) (d:=s) (by rw [h.len];omega);rw [qb2,Nat.pow_add,qaH];rw [Nat.pow_add] at E G;exact qhc E G e
theorem TimesInv.next {m o P:List Nat} {i c:Nat} (h:TimesInv m o i o.length P c) (G:i<m.length):TimesInv m o (i+1) 0 (P.set (i+o.length) c) 0:=by
 refine⟨by rw [qa7,h.len],h.dig.set h.carry _,by decide,?_,?_⟩
 ·have:=h.zero.set_succ (d:=c)
  rwa [show i+o.length+1=i+1+o.length by omega] at this
 have F:=h.val;have E:=qex (L:=P) (k:=i+o.length) (d:=c) (by rw [h.len];omega);rw [h.zero _ qN] at E;rw [qah qN] at F;rw [qb2,List.take_zero];exact qh4 E F
theorem TimesInv.done {m o P:List Nat} {c:Nat} (h:TimesInv m o m.length 0 P c) (F:c=0):mval P=mval m*mval o:=by
 have E:=h.val;subst F;rw [qah qN] at E
 simpa [mval] using E
structure ShortInv (m:List Nat) (d k:Nat) (R:List Nat) (r:Nat):Prop where
 len:R.length=m.length
 dig:Dig R
 rest:r<d
 val:mval (R.drop k)*d+r=mval (m.drop k)
theorem ShortInv.start (m:List Nat) {d:Nat} (E:0<d):ShortInv m d m.length (List.replicate m.length 0) 0:=⟨by simp,Dig.zeros _,E,by rw [qaT (by simp),qaT (by simp)];simp [mval]⟩
theorem ShortInv.step {m R:List Nat} {d k r:Nat} (h:ShortInv m d (k+1) R r) (F:k<m.length) (G:Dig m):ShortInv m d k (R.set k ((r*10000+m.getD k 0) / d)) ((r*10000+m.getD k 0) % d):=by
 have E:0<d:=by have:=h.rest;omega
 have H:(r*10000+m.getD k 0) / d<10000:=by
  rw [qbH E];have I:=G k;have J:=h.rest;have:(r+1)*10000<=d*10000:=qaP _ (by omega);omega
 refine⟨by rw [qa7,h.len],h.dig.set H _,qbR _ E,?_⟩;rw [qde (by rw [h.len];exact F),qcV m k,<-h.val];have:=Nat.div_add_mod (r*10000+m.getD k 0) d;exact qgZ rfl this
theorem ShortInv.done {m R:List Nat} {d r:Nat} (h:ShortInv m d 0 R r):mval R=mval m / d/\r=mval m % d:=by
 have E:=h.val;simp only [List.drop_zero] at E;have hr:=h.rest;rw [<-E]
 constructor
 ·rw [qat,Nat.mul_add_div (by omega),Nat.div_eq_of_lt hr];rfl
 ·rw [qat,Nat.mul_add_mod,Nat.mod_eq_of_lt hr]
open Go.RowKit
theorem tdivB (t c:Nat) (h:t / 10000=c):(t:Int).tdiv 10000=c:=tdivN t 10000 c h
theorem tmodB (t c:Nat) (h:t % 10000=c):(t:Int).tmod 10000=c:=tmodN t 10000 c h
def dg (L:List Nat) (k:Nat):Nat:=L.getD k 0
structure Cells (W:World) (ao:Option Addr) (b off:Nat) (L:List Nat):Prop where
 addr:0<L.length->ao=some ⟨b,off,none⟩
 cell:∀k,k<L.length->W.cell? ⟨b,off+k,none⟩=some (.int .i64 ((dg L k:Nat):Int))
theorem Cells.below {W W':World} {F:Option Addr} {b E:Nat} {L:List Nat} (h:Cells W F b E L) (H:Below W.heap.size W W'):Cells W' F b E L :=
 ⟨h.addr,fun k G=>(H.cell (qac W _ (h.cell k G))).trans (h.cell k G)⟩
theorem Cells.take {W:World} {F:Option Addr} {b E:Nat} {L:List Nat} (h:Cells W F b E L) (n:Nat):Cells W F b E (L.take n) :=
 ⟨fun G=>h.addr (by rw [qao] at G;omega),fun k H=>by
  rw [qao] at H;rw [h.cell k (by omega),dg,dg,qaa,qaa,qbE (by omega)]⟩
structure IsM (W:World) (ao:Option Addr) (b off c n:Nat) (L:List Nat):Prop where
 len:L.length=n
 cap:n<=c
 cells:Cells W ao b off L
 dig:Dig L
 nrm:Nrm L
theorem IsM.below {W W':World} {F:Option Addr} {b E c n:Nat} {L:List Nat} (h:IsM W F b E c n L) (G:Below W.heap.size W W'):IsM W' F b E c n L:=⟨h.len,h.cap,h.cells.below G,h.dig,h.nrm⟩
theorem IsM.addr {W:World} {F:Option Addr} {b E c n:Nat} {L:List Nat} (h:IsM W F b E c n L):0<n->F=some ⟨b,E,none⟩:=by rw [<-h.len];exact h.cells.addr
theorem IsM.cell {W:World} {F:Option Addr} {b E c n:Nat} {L:List Nat} (h:IsM W F b E c n L):∀k,k<n->W.cell? ⟨b,E+k,none⟩=some (.int .i64 ((dg L k:Nat):Int)):=by rw [<-h.len];exact h.cells.cell
def HiS (B:Nat) (v:Value):Prop:=∀(a:Addr) (n c:Nat),v=.slice (some a) n c->0<n->B<=a.block
def HiP (B:Nat) (v:Value):Prop:=∀b x,v=.agg #[b,x]->HiS B x
def HiR (B:Nat) (v:Value):Prop:=∀b x E y,v=.agg #[b,x,E,y]->HiS B x/\HiS B y
theorem HiS.mono {B C:Nat} {v:Value} (h:HiS C v) (hB:B<=C):HiS B v:=fun a n c e E=>qal hB (h a n c e E)
theorem HiP.mono {B C:Nat} {v:Value} (h:HiP C v) (hB:B<=C):HiP B v:=fun b x e=>(h b x e).mono hB
theorem own_his {W:World} {B e E n:Nat} {v:Value} {H:List Value} (h:W.ownsRow B e E v n H):HiS B v:=fun a m c F I=>by
 rcases h.2 with ⟨rfl,_⟩ | ⟨g,cap,cur,rfl,G,_⟩
 ·cases F
 ·cases F;exact G
def MagAt (W:World) (v:Value) (x:Nat):Prop:=∃(F:Option Addr) (b E c n:Nat) (L:List Nat),v=.slice F n c/\IsM W F b E c n L/\mval L=x
theorem MagAt.below {W W':World} {v:Value} {x:Nat} (h:MagAt W v x) (G:Below W.heap.size W W'):MagAt W' v x:=by
 obtain⟨ao,b,off,c,n,L,rfl,E,F⟩:=h;exact⟨ao,b,off,c,n,L,rfl,E.below G,F⟩
theorem MagAt.nil (W:World):MagAt W (.slice none 0 0) 0:=⟨none,0,0,0,0,[],rfl,⟨rfl,qae _,⟨fun h=>absurd h (by simp),fun k h=>absurd h (by simp)⟩,Dig.nil,qax rfl⟩,rfl⟩
def Fit (x K:Nat):Prop:=x<10000 ^ K
theorem Fit.le {x y K:Nat} (h:Fit y K) (hx:x<=y):Fit x K:=qaQ hx h
theorem Fit.mono {x K M:Nat} (h:Fit x K) (E:K<=M):Fit x M:=qak h (qa9 (by decide) E)
theorem Fit.mul {x y K M:Nat} (h:Fit x K) (k:Fit y M):Fit (x*y) (K+M):=by
 unfold Fit at *;rw [Nat.pow_add];exact Nat.mul_lt_mul'' h k
theorem Fit.add {x y K:Nat} (h:Fit x K) (k:Fit y K):Fit (x+y) (K+1):=by
 unfold Fit at *;rw [qaH];omega
theorem Fit.len {W:World} {F:Option Addr} {b E c n:Nat} {L:List Nat} {K:Nat} (h:Fit (mval L) K) (k:IsM W F b E c n L):n<=K:=by
 rw [<-k.len];exact k.nrm.len h
def row64 (L:List Nat):List Value:=L.map fun (d:Nat)=>Value.int .i64 (d:Int)
theorem qfF (L:List Nat):(row64 L).length=L.length:=by unfold row64;exact qaD _
theorem qns (L:List Nat) (k d:Nat):(row64 L).set k (.int .i64 (d:Int))=row64 (L.set k d):=by unfold row64;rw [List.map_set]
theorem qi9 (L:List Nat) (k:Nat) (h:k<L.length):(row64 L)[k]? = some (.int .i64 ((dg L k:Nat):Int)):=by
 unfold row64 dg;rw [qaN,qdO h];rfl
theorem qlz (L:List Nat) (d:Nat):row64 (L++[d])=row64 L++[.int .i64 (d:Int)]:=by unfold row64;rw [qbn];rfl
theorem made64 (n:Nat):(madeCells #[Value.int .i64 0] n).toList=row64 (List.replicate n 0):=by
 rw [toList_madeCells_one];unfold row64;rw [List.map_replicate];rfl
theorem qcQ {W:World} {B e g n c:Nat} {L:List Nat} (h:W.ownsRow B e 1 (.slice (some ⟨g,0,none⟩) n c) n (row64 L)) (F:L.length=n):Cells W (some ⟨g,0,none⟩) g 0 L :=
 ⟨fun _=>rfl,fun k E=>by
  rw [qaR,h.cellAt k (by omega)];exact qi9 L k E⟩
theorem stored64 {W:World} {B e g n c:Nat} {R:List Nat} (h:W.ownsRow B e 1 (.slice (some ⟨g,0,none⟩) n c) n (row64 R)) (k:Nat) {s:Int} (d:Nat) (E:s=(d:Int)) :
  (W.setCell ⟨g,k,none⟩ (.int .i64 s)).ownsRow B e 1 (.slice (some ⟨g,0,none⟩) n c) n (row64 (R.set k d)):=by
 have F:=(h.stored k (.int .i64 s)).1
 rwa [E,qns,<-E] at F
theorem qeJ {a b:World} {g:Nat} {G:Option Addr} {F E:Nat} {L:List Nat} (h:a.grownBy b (some g)) (H:Cells a G F E L) (hne:0<L.length->F≠g):Cells b G F E L :=
 ⟨H.addr,fun k I=>h.cell (H.cell k I) (fun e=>hne (by omega) (qag e))⟩
theorem qgi (W:World) (n:Nat) (e:TypeId):(W.alloc (.cells (madeCells #[.int .i64 0] n) e)).heap[W.heap.size]? = some (.cells (row64 (List.replicate n 0)).toArray e (0,0)):=by
 rw [<-made64,Array.toArray_toList];exact heap_alloc_new W _
theorem qh8 {W:World} {B e g n:Nat} {L:List Nat} (h:W.heap[g]? = some (.cells (row64 L).toArray e (0,0))) (E:L.length=n) (hB:B<=g) (F:n<=maxLen):W.ownsRow B e 1 (.slice (some ⟨g,0,none⟩) n n) n (row64 L):=by
 refine⟨by rw [qfF];omega,.inr ⟨g,n,_,rfl,hB,h,qae _,F,by simp [qfF,E],?_⟩⟩
 show (row64 L).take (n*1)=row64 L
 exact qah (by rw [qfF];omega)
open Go.Proofs.Tryz
theorem cut_raw (O:Option Addr) (b ae c n:Nat) (L:List Nat) (w:World) (hn:L.length=n) (af:n<=17592186044416) (hc:n<=c) (F:Cells w O b ae L) :
  Calls prog 235 #[.slice O n c] w fun e w'=>∃m,e=.returned (.slice O m c)/\w'=w/\m<=n/\Zero L m/\(m=0\/L.getD (m-1) 0≠0):=by
 have H:Zero L n:=by rw [<-hn];exact Zero.all L
 obtain⟨U,E⟩:=F;rw [hn] at U E;have Ha:=qH U;have G:=qH E;have Hz:=qH H;clear U E H hn;go_enter func235,ntmps235;go_wp2
 go_loopw [3] (fun x3 W=>∃m:Nat,x3=.int .i64 m/\W=w/\m<=n/\Hu (Zero L m)) (fun x3 _=>(intOf x3).toNat)
 case atStart=>exact⟨n,rfl,rfl,qae _,Hz⟩
 case round =>
  obtain⟨m,rfl,rfl,Z,H⟩:=hrel
  by_cases aa:m=0
  ·subst aa;have Hm:=qH Z;clear Z;go_wp2;go_ret;exact⟨0,rfl,rfl,qaj _,H.o,qax rfl⟩
  ·have ag:(0:Int)<m:=by omega
   have V:=Ha.o (by omega);subst V;have Y:=G.o (m-1) (by omega);have e1:((m-1:Nat):Int)=(m:Int)-1:=by omega
   by_cases I:dg L (m-1)=0
   ·rw [I] at Y;have J:=qH I;clear I;go_wp2;go_roundw
    case rel=>exact⟨m-1,by rw [e1],trivial,by omega,qH (Zero.down (n:=m-1) (by rw [show m-1+1=m by omega];exact H.o) J.o)⟩
    case measure=>simp [intOf];omega
   ·have hne:¬((dg L (m-1):Nat):Int)=0:=by omega
    have J:=qH I;clear I;go_wp2;go_ret;exact⟨m,rfl,rfl,Z,H.o,qam J.o⟩
theorem ql8 (H:Option Addr) (b G c n:Nat) (L:List Nat) (w:World) (hn:L.length=n) (I:n<=17592186044416) (Y:n<=c) (E:Cells w H b G L) (Z:Dig L) :
  Calls prog 235 #[.slice H n c] w fun e V=>∃v,e=.returned v/\V=w/\MagAt w v (mval L)/\∀B,HiS B (.slice H n c)->HiS B v:=by
 refine (cut_raw H b G c n L w hn I Y E).mono ?_;rintro e V ⟨m,rfl,rfl,hm,U,F⟩;refine⟨_,rfl,rfl,⟨H,b,G,c,m,L.take m,rfl,⟨?_,by omega,E.take m,Z.take m,?_⟩,qcA U⟩,fun B h a k c' e F=>by cases e;exact h a n c rfl (by omega)⟩
 ·rw [qao];omega
 ·have O:(L.take m).length=m:=by rw [qao];omega
  rcases F with F | F
  ·exact qax (by rw [O,F])
  ·right
   rw [O]
   by_cases J:m=0
   ·subst J;exact absurd (U _ (qaj _)) F
   ·rw [qaa,qbE (by omega),<-qaa];exact F
theorem cut_any (H:Option Addr) (b G c n:Nat) (L:List Nat) (w:World) (Y:L.length=n) (F:n<=17592186044416) (U:n<=c) (E:Cells w H b G L) (V:Dig L) :
  Calls prog 235 #[.slice H n c] w fun e Z=>∃v,e=.returned v/\Z=w/\MagAt w v (mval L) :=
 (ql8 H b G c n L w Y F U E V).mono fun _ _ ⟨v,I,J,O,_⟩=>⟨v,I,J,O⟩
def OrdAs (w:World) (x y:Nat) (e:Ending) (E:World):Prop:=∃r:Int,e=.returned (.int .i64 r)/\Below w.heap.size w E/\(r<0↔x<y)/\(r=0↔x=y)
theorem qmC:(Tryz.prog.info? 3).map (fun i=>(i.zero,i.size,i.bytes))=some (some (.int .i64 0),1,8):=by kernel_rfl
def DigAt (W:World) (v:Value) (x N:Nat):Prop:=∃(F:Option Addr) (b E c n:Nat) (L:List Nat),v=.slice F n c/\L.length=n/\n<=c/\n<=N/\Cells W F b E L/\Dig L/\mval L=x
theorem DigAt.below {W W':World} {v:Value} {x N:Nat} (h:DigAt W v x N) (J:Below W.heap.size W W'):DigAt W' v x N:=by
 obtain⟨ao,b,off,c,n,L,rfl,E,F,G,H,I⟩:=h;exact⟨ao,b,off,c,n,L,rfl,E,F,G,H.below J,I⟩
theorem MagAt.digs {W:World} {v:Value} {x K:Nat} (h:MagAt W v x) (hx:Fit x K):DigAt W v x K:=by
 obtain⟨ao,b,off,c,n,L,rfl,E,rfl⟩:=h;exact⟨ao,b,off,c,n,L,rfl,E.len,E.cap,hx.len E,E.cells,E.dig,rfl⟩
theorem qfC {W:World} {B e n N:Nat} {v:Value} {S:List Nat} (h:W.ownsRow B e 1 v n (row64 S)) (G:Dig S) (hN:n<=N):DigAt W v (mval S) N:=by
 have E:S.length=n:=by have:=h.1;rw [qfF] at this;omega
 rcases h.2 with ⟨rfl,rfl⟩ | ⟨g,c,cur,rfl,H,hg,F,I,J,O⟩
 ·rw [List.length_eq_zero_iff.1 E];exact⟨none,0,0,0,0,[],rfl,rfl,qae _,hN,⟨fun h=>absurd h (by simp),fun k h=>absurd h (by simp)⟩,Dig.nil,rfl⟩
 ·exact⟨_,g,0,c,n,S,rfl,E,F,hN,qcQ h E,G,rfl⟩
theorem cut_digs (x N:Nat) (v:Value) (w:World) (h:DigAt w v x N) (hN:N<=17592186044416):Calls prog 235 #[v] w fun e I=>∃u,e=.returned u/\I=w/\MagAt w u x:=by
 obtain⟨ao,b,off,c,n,L,rfl,E,F,J,G,H,rfl⟩:=h;exact cut_any ao b off c n L w E (by omega) F G H
theorem ql7 (x N:Nat) (v:Value) (w:World) (h:DigAt w v x N) (hN:N<=17592186044416):Calls prog 235 #[v] w fun e I=>∃u,e=.returned u/\I=w/\MagAt w u x/\∀B,HiS B v->HiS B u:=by
 obtain⟨ao,b,off,c,n,L,rfl,E,F,J,G,H,rfl⟩:=h;exact ql8 ao b off c n L w E (by omega) F G H
theorem qe9 {H:Array Oper} {rest:List Oper} {o:Oper} {a:Act} {w:World} {Q:Exit->Act->World->Prop} (V:o.guard=none) (s x:Operand)
  (ho:o.op=.call { callee:=.builtin .append,args:=#[s,x],argTypes:=#[30,30] }) {U:World} {B:Nat} {v:Value} {n:Nat} {S:List Nat} {d:Nat}
  (hB:Below B U w) (ae:B=U.heap.size) (E:w.ownsRow B 3 1 v n (row64 S)) (hs:a.eval s=v) (hx:a.eval x=.slice (some ⟨w.heap.size,0,none⟩) 1 1) (hn:n<17592186044416) {z:Int} (hz:z=(d:Int))
  (h:∀O I,Hu (I.ownsRow B 3 1 O (n+1) (row64 (S++[d])))->Hu (Below B U I)->wpList prog H Q rest (a.put o.dst O) I) :
  wpList prog H Q (o :: rest) a (w.alloc (.cells #[.int .i64 z] 3)):=by
 subst hz;obtain⟨i0,hi,Y,Z,aa⟩:=info_parts qmC;have af:=hB.size;refine wpList_append_own _ V s x 30 ho B 3 i0 (.int .i64 0) 1 8 underlying30 hi Y Z aa rfl (by decide) v n (row64 S) hs (E.alloc _) ⟨w.heap.size,0,none⟩ 1 1 [.int .i64 (d:Int)] hx rfl ?c1 ?c2 ?c3 ?c4 ?c5 ?_
 case c1 =>
  intro j u J
  match j,J with
  | 0,J=>simp at J;subst J;simp [Addr.add]
 case c2=>intro u hu;simp at hu;subst hu;rfl
 case c3=>unfold maxLen;omega
 case c4=>omega
 case c5=>simp;omega
 intro O I G F _;refine h O I (qH ?_) (qH ?_)
 ·rw [qlz];exact G
 ·exact (hB.alloc (by omega) _).grown F (by simp;omega) (fun k hk=>(E.lt k hk).1)
theorem qls (W:World) (n:Nat) (E:n<=maxLen):(W.alloc (.cells (madeCells #[.int .i64 0] n) 3)).ownsRow W.heap.size 3 1 (.slice (some ⟨W.heap.size,0,none⟩) n n) n (row64 (List.replicate n 0)) :=
 qh8 (qgi W n 3) (by simp) qN E
theorem once_any (x K d:Nat) (hK:K<=17592186040000) (V:0<d) (hd:d<=10000) (vm:Value) (w:World) (Z:DigAt w vm x K) :
  Calls prog 248 #[vm,.int .i64 (d:Int)] w fun e w'=>∃v,e=.returned (.tuple #[v,.int .i64 ((x % d:Nat):Int)])/\Below w.heap.size w w'/\MagAt w' v (x / d)/\HiS w.heap.size v:=by
 obtain⟨am,bm,om,cm,n,M,rfl,lm,aj,Y,CM,DM,rfl⟩:=Z;have hn:n<=17592186040000:=qal Y hK;have ah:=run_make_row' (P:=prog) 30 3 (.int .i64 0) 8 underlying30 qmC rfl .i64 .i64 n (by omega) (by omega);have E:=qH (qA lm (qA CM DM));have Hd:=qH (qA V hd);obtain⟨rr,I⟩:=qX (mval M % d);have aa:=qH I;rw [I];have h0:((d:Int) == 0)=false:=by rw [beq_eq_false_iff_ne];omega
 have ak:¬d=0:=by omega
 clear CM DM lm Y hK I hd V;go_enter func248,ntmps248;go_wp2
 go_loopw [7,8] (fun x7 x8 W=>∃(k r:Nat) (z:Int) (R:List Nat),k<=n/\x8=.int .i64 z/\Hu (z+1=k)/\x7=.int .i64 r/\Hu (ShortInv M d k R r)/\Hu (W.ownsRow w.heap.size 3 1 (.slice (some ⟨w.heap.size,0,none⟩) n n) n (row64 R))/\Hu (Below w.heap.size w W)) (fun _ x8 _=>(intOf x8+1).toNat)
 case atStart =>
  refine⟨n,0,_,List.replicate n 0,qae _,rfl,qH (by omega),rfl,qH ?_,qH (qls w n (by unfold maxLen;omega)),qH (qB.alloc qN _)⟩;have:=ShortInv.start M Hd.o.1
  rwa [E.o.1] at this
 case round =>
  obtain⟨k,r,z,R,hk,rfl,hz,rfl,G,U,hB⟩:=hrel;clear ah
  by_cases az:0<k
  ·obtain⟨j,rfl⟩:∃j,k=j+1:=⟨k-1,by omega⟩;obtain rfl:z=(j:Int):=by have:=hz.o;omega
   have ay:(j:Int)<n:=by omega
   have af:=E.o.2.1.addr (by rw [E.o.1];omega);subst af;have ag:=(E.o.2.1.below hB.o).cell j (by rw [E.o.1];omega);have Z:dg M j<10000:=E.o.2.2 j;obtain⟨m,F⟩:=qX (dg M j);rw [F] at ag Z;have hr:=G.o.rest;have H:R.length=n:=G.o.len.trans E.o.1;have au:wr.cell? ⟨w.heap.size,j,none⟩=some (.int .i64 ((dg R j:Nat):Int)):=(U.o.cellAt j (by omega)).trans (qi9 R j (by omega));have ax:wr.frozen? ⟨w.heap.size,j,none⟩=false:=U.o.frozenAt j;have av:=Hd.o.2;obtain⟨t1,J⟩:=qX (r*10000:Nat);obtain⟨t2,O⟩:=qX (t1+m:Nat);obtain⟨q,hq⟩:=qX (t2 / d:Nat);obtain⟨s,hs⟩:=qX (t2 % d:Nat);have hstep:=G.o.step (by rw [E.o.1];omega) E.o.2.2;have aA:q<10000:=by
    have:=hstep.dig j;rw [qcT (by omega),show M.getD j 0=m from F,J,O,hq] at this;exact this
   rw [show M.getD j 0=m from F,J,O,hq,hs] at hstep;have aB:s<d:=by rw [<-hs];exact qbR _ Hd.o.1
   have r1:(r:Int)*10000=t1:=by omega
   have r4:(t1:Int)+m=t2:=by omega
   have r6:=tdivN t2 d q hq;have r9:=tmodN t2 d s hs;have ae:=qH hstep;have aC:(t2:Int)<9000000000:=by omega
   clear hstep J O hq hs H Z F;go_wp2;go_roundw
   case rel=>exact⟨j,s,_,R.set j q,by omega,rfl,qH (by omega),rfl,ae,qH (stored64 U.o j q rfl),qH (hB.o.setCell qN _)⟩
   case measure=>simp [intOf]
  ·obtain rfl:k=0:=by omega
   obtain rfl:z = -1:=by have:=hz.o;omega
   have H:R.length=n:=G.o.len.trans E.o.1;have HD:=qH (qfC (N:=n) U.o G.o.dig qN);have HH:=own_his U.o;rw [G.o.done.1] at HD;have ai:r=rr:=by rw [<-aa.o];exact G.o.done.2
   subst ai;clear H
   go_wp2_with (first | (go_at_call 235;refine (ql7 _ n _ _ HD.o (by omega)).mono ?_;rintro e w1 ⟨u,rfl,rfl,hu,hh⟩) | fail)
   go_ret2
   exact⟨_,rfl,hB.o,hu,hh _ HH⟩
theorem own_lit (W:World) (d:Nat) (e:TypeId) {B g:Nat} (hg:g=W.heap.size) (hB:B<=g):(W.alloc (.cells #[.int .i64 (d:Int)] e)).ownsRow B e 1 (.slice (some ⟨g,0,none⟩) 1 1) 1 (row64 [d]):=by
 subst hg;exact⟨rfl,.inr ⟨W.heap.size,1,_,rfl,hB,heap_alloc_new W _,qae _,by decide,rfl,rfl⟩⟩
end Go.Proofs.YtjalhnlhcdfncaaGreatDoor.p4
namespace Go.Proofs.YtjalhnlhcdfncaaGreatDoor
def Ord {α:Type} (lt:α->α->Prop) (l:List α):Prop:=l.Pairwise fun a b=>¬lt b a
theorem ord_last {α:Type} {lt:α->α->Prop} {A:List α} {y x:α} (G:∀a b c,lt a b->¬lt c b->lt a c) (h:Ord lt (A++[y])) (hy:¬lt x y):∀a∈A++[y],¬lt x a:=fun a F E=>by
 rcases qaI.1 F with F | F
 ·have:=(List.pairwise_append.1 h).2.2 a F y (qan.2 rfl);exact hy (G x a y E this)
 ·rw [qan.1 F] at E;exact hy E
section
variable {α:Type} (lt:α->α->Prop) [DecidableRel lt]
def insR (x:α):List α->List α
 | []=>[x]
 | y :: ys=>if lt x y then x :: y :: ys else y :: insR x ys
def isort (l:List α):List α:=l.foldl (fun E x=>insR lt x E) []
theorem qeH (l:List α) (x:α):isort lt (l++[x])=insR lt x (isort lt l):=by unfold isort;rw [List.foldl_append];rfl
variable {lt}
theorem qfq (x:α):∀l:List α,(insR lt x l).Perm (x :: l)
 | []=>List.Perm.refl _
 | y :: ys=>by
  unfold insR;split
  ·exact List.Perm.refl _
  ·exact ((qfq x ys).cons y).trans (List.Perm.swap x y ys)
theorem qdn (l:List α):(isort lt l).Perm l:=by
 have F:∀(l E:List α),(l.foldl (fun E x=>insR lt x E) E).Perm (l++E):=by
  intro l
  induction l with
  | nil=>exact fun E=>List.Perm.refl _
  | cons x l ih=>exact fun E=>(ih _).trans ((List.Perm.append_left l (qfq x E)).trans List.perm_middle)
 have:=F l []
 rwa [qbw] at this
theorem qgA (l:List α):(isort lt l).length=l.length:=(qdn l).length_eq
theorem qhq (x:α):∀(A B:List α),(∀a∈A,¬lt x a)->(∀b∈B,lt x b)->insR lt x (A++B)=A++x :: B
 | [],[],_,_=>rfl
 | [],b :: B,_,hB=>by show insR lt x (b :: B)=_;unfold insR;rw [if_pos (hB b (qa8 ..))];rfl
 | a :: A,B,E,hB=>by
  show insR lt x (a :: (A++B))=_
  unfold insR;rw [if_neg (E a (qa8 ..)),qhq x A B (fun c F=>E c (qbh _ F)) hB];rfl
theorem qko (H:∀a b c,lt a b->¬lt c b->lt a c) (F:∀a b,lt a b->¬lt b a) (x:α):∀{l:List α},Ord lt l->Ord lt (insR lt x l)
 | [],_=>List.pairwise_singleton _ _
 | y :: ys,h=>by
  obtain⟨I,J⟩:=qbu.1 h;unfold insR;split
  ·rename_i E;refine qbu.2 ⟨fun b G=>?_,h⟩;rcases qav.1 G with rfl | G
   ·exact F _ _ E
   ·exact F _ _ (H x y b E (I b G))
  ·rename_i E;refine qbu.2 ⟨fun b G=>?_,qko H F x J⟩;rcases qav.1 ((qfq x ys).mem_iff.1 G) with rfl | G
   ·exact E
   ·exact I b G
theorem qgB (G:∀a b c,lt a b->¬lt c b->lt a c) (F:∀a b,lt a b->¬lt b a) (l:List α):Ord lt (isort lt l):=by
 have H:∀(l E:List α),Ord lt E->Ord lt (l.foldl (fun E x=>insR lt x E) E):=by
  intro l
  induction l with
  | nil=>exact fun E h=>h
  | cons x l ih=>exact fun E h=>ih _ (qko G F x h)
 exact H l [] List.Pairwise.nil
end
def Stab (E:Nat->Rat) (l:List Nat):Prop:=l.Pairwise fun a b=>E a<E b\/(E a=E b/\a<b)
theorem qiz (E:Nat->Rat) (x:Nat):∀{l:List Nat},(∀a∈l,a<x)->Stab E l->Stab E (insR (fun a b=>E a<E b) x l)
 | [],_,_=>List.pairwise_singleton _ _
 | y :: ys,hx,h=>by
  obtain⟨H,I⟩:=qbu.1 h;unfold insR;split
  ·rename_i G;refine qbu.2 ⟨fun b F=>?_,h⟩;rcases qav.1 F with rfl | F
   ·exact .inl G
   ·rcases H b F with e | ⟨e,_⟩
    ·exact .inl (by grind)
    ·exact .inl (by grind)
  ·rename_i G;refine qbu.2 ⟨fun b F=>?_,qiz E x (fun a J=>hx a (qbh _ J)) I⟩;rcases qav.1 ((qfq x ys).mem_iff.1 F) with rfl | F
   ·have:=hx y (qa8 ..)
    by_cases e:E y=E b
    ·exact .inr ⟨e,this⟩
    ·exact .inl (by grind)
   ·exact H b F
theorem qeI (E:Nat->Rat):∀n,Stab E (isort (fun a b=>E a<E b) (List.range n))
 | 0=>List.Pairwise.nil
 | n+1=>by
  rw [List.range_succ,qeH];refine qiz E n (fun a F=>?_) (qeI E n);exact qas.1 ((qdn _).mem_iff.1 F)
