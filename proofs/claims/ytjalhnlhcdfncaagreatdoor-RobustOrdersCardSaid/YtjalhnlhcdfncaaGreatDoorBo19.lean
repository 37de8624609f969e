import Derived.Deep.SlicePairs
import Derived.Test.YtjalhnlhcdfncaaGreatDoorBo17
import Derived.Test.YtjalhnlhcdfncaaGreatDoorBo18
set_option maxRecDepth 100000
set_option maxHeartbeats 0
namespace Go.Proofs.YtjalhnlhcdfncaaGreatDoor
open Go.RowKit
def gR (n:Nat) (f:Nat->Nat->Rat) (b:Nat->Rat) (i c:Nat):Rat:=if c<n then f i c else b i
def normR (R n:Nat) (f:Nat->Nat->Rat) (b w:Nat->Rat) (r c:Nat):Rat:=sumQ R fun i=>w i*(gR n f b i r*gR n f b i c)
theorem qi7 {R n:Nat} {f:Nat->Nat->Rat} {b:Nat->Rat} {i:Nat} (E:i<R):besides (ttab R n f) (told R b) i=told n (f i)++[ftxt (b i)]:=by
 unfold besides;rw [qe4 E,qed E]
theorem qgE {R n:Nat} {f:Nat->Nat->Rat} {b:Nat->Rat} {i c:Nat} (E:i<R) (F:c<=n):lval (besides (ttab R n f) (told R b) i) c=gR n f b i c:=by
 rw [qi7 E];unfold gR
 by_cases h:c<n
 ·rw [if_pos h,qho (by rw [qcb];exact h),qdf h]
 ·obtain rfl:c=n:=by omega
  rw [if_neg h];have:=qhn (l:=told c (f i)) (x:=ftxt (b i));rw [qcb] at this;rw [this,qeo]
theorem qik {R n:Nat} {f:Nat->Nat->Rat} {b w:Nat->Rat} {r c:Nat} (hr:r<=n) (F:c<=n):normQ (ttab R n f) (told R b) (told R w) R r c=normR R n f b w r c :=
 qcc fun i E=>by rw [qdf E,qgE E hr,qgE E F]
theorem qmn {R n:Nat} {f:Nat->Nat->Rat} {b w x:Nat->Rat}:measQ (ttab R n f) (told R b) (told R w) (told n x) n R=msR R n f b w x :=
 qcc fun i E=>by
  have:resQ (ttab R n f) (told R b) (told n x) n i=resR n f b x i:=by
   unfold resQ resR;rw [qdf E]
   congr 1
   exact qcc fun j F=>by rw [ttab_val E F,qdf F]
  rw [qdf E,this]
def qg6 (R n:Nat) (f:Nat->Nat->Rat) (b w:Nat->Rat) (e:Ending) (w':World):Prop :=
 (Sing n (normR R n f b w)/\e=.returned (.tuple #[.slice none 0 0,.int .i64 7]))\/(¬Sing n (normR R n f b w)/\∃x,qcZ n (normR R n f b w) (fun r=>normR R n f b w r n) x/\Tells n x e w')
theorem qly {R:Nat} {w:Nat->Rat} (h:∀i,i<R->0<=w i):¬Neg (told R w):=by
 rintro ⟨k,E,F⟩;rw [qcb] at E;rw [qed E,show (ftxt (w k)).1.data.toList=itxt (w k).num from rfl,qdr] at F;have:=Rat.num_nonneg.2 (h k E);omega
theorem qg5.told {O:World} {R n:Nat} {f:Nat->Nat->Rat} {b w:Nat->Rat} {e:Ending} {w':World} (h:qg5 O (ttab R n f) (told R b) (told R w) e w') (U:1<=R) (Y:R<=40) (Z:1<=n) (h4:n<=10) (hf:∀i,i<R->qb9 n (f i)) (hb:qb9 R b) (hw:qb9 R w) (J:∀i,i<R->0<=w i):qg6 R n f b w e w'/\Below O.heap.size O w':=by
 have hT:=qph U Y Z h4 hf;refine⟨?_,h.2⟩;rcases h.1 with h | h | h | h
 ·exact absurd hT h.1
 ·exact absurd ⟨qdp hb,qdp hw⟩ h.2.1
 ·exact absurd ⟨by rw [qcb,qc6],by rw [qcb,qc6],qly J⟩ h.2.2.2.1
 ·have V:=h.2.2.2.2.2.2;rw [qfm U,qc6] at V;have E:∀r,r<n->∀c,c<n->normQ (ttab R n f) (Go.Proofs.YtjalhnlhcdfncaaGreatDoor.told R b) (Go.Proofs.YtjalhnlhcdfncaaGreatDoor.told R w) R r c=normR R n f b w r c:=fun r hr c E=>qik (by omega) (by omega)
  rcases V with ⟨H,he⟩ | ⟨H,x,hx,ht⟩
  ·exact qaw ⟨H.congr E,he⟩
  ·exact qam ⟨fun I=>H (I.congr fun r hr c F=>(E r hr c F).symm),x,hx.congr E (fun r hr=>qik (by omega) qN) (fun _ _=>rfl),ht⟩
open Go.Lib Go.Proofs.Tryz
def fv (l:List Rat) (i:Nat):Rat:=l.getD i 0
def fm (t:List (List Rat)) (i j:Nat):Rat:=(t.getD i []).getD j 0
theorem num_lt {u:Nat} (h:u<10):num u=⟨#[UInt8.ofNat (48+u)]⟩:=by
 unfold num;rw [qcg h]
theorem qjG {n:Nat} {A:Nat->Nat->Rat} (B:Nat->Nat->Rat) (h:∀k,k<n->∀j,j<n->sumQ n (fun i=>B k i*A i j)=if k=j then 1 else 0):¬Sing n A:=by
 rintro ⟨y,⟨k,F,hy⟩,H⟩;apply hy;have e:sumQ n (fun i=>B k i*sumQ n fun j=>A i j*y j)=y k:=by
  have I:sumQ n (fun i=>B k i*sumQ n fun j=>A i j*y j)=sumQ n fun i=>sumQ n fun j=>y j*(B k i*A i j):=qcc fun i _=>by
   rw [<-qcD];exact qcc fun j _=>by grind
  rw [I,qe1];have J:sumQ n (fun j=>sumQ n fun i=>y j*(B k i*A i j))=sumQ n fun j=>y j*(if k=j then 1 else 0):=qcc fun j U=>by rw [qcD,h k F j U]
  rw [J,qdN n k _ F fun j _ E=>by rw [if_neg (fun h=>E h.symm)];grind];rw [if_pos rfl];grind
 rw [<-e];exact qdi _ _ fun i O=>by rw [H i O];grind
theorem qk4.told {H:World} {R n:Nat} {f:Nat->Nat->Rat} {b w x:Nat->Rat} {e:Ending} {w':World} (h:qk4 H (ttab R n f) (told R b) (told R w) (told n x) e w') (E:1<=R) (J:R<=40) (O:1<=n) (U:n<=10) (Y:∀i,i<R->qb9 n (f i)) (V:qb9 R b) (Z:qb9 R w) (hx:qb9 n x) (F:∀i,i<R->0<=w i) :
  (Short (msR R n f b w x)/\e=.returned (.tuple #[fstr (msR R n f b w x),.int .i64 0])\/¬Short (msR R n f b w x)/\e=.returned (.tuple #[.agg #[.string ⟨#[]⟩,.string ⟨#[]⟩],.int .i64 6]))/\Below H.heap.size H w':=by
 have hT:=qph E J O U Y;refine⟨?_,h.2⟩;rcases h.1 with h | h | h | h
 ·exact absurd hT h.1
 ·exact absurd ⟨qdp V,qdp Z,qdp hx⟩ h.2.1
 ·exact absurd ⟨by rw [qcb,qc6],by rw [qcb,qc6],by rw [qcb,qfm E],qly F⟩ h.2.2.2.2.1
 ·have I:=h.2.2.2.2.2.2.2.2;rw [qfm E,qc6,qmn] at I;exact I
theorem qhK {q:Rat} (h:q.num.natAbs<10/\q.den<10):Short q:=⟨by rw [num_lt h.1];exact (by decide:1<=600),by rw [num_lt h.2];exact (by decide:1<=600)⟩
theorem qdm {n:Nat} {x:Nat->Rat} (h:∀i,i<n->(x i).num.natAbs<=1000/\(x i).den<=1000):qb9 n x:=fun i E=>qdM (N:=1000) (h i E) (by decide +kernel)
theorem qj7 {n m:Nat} {f:Nat->Nat->Rat} (F:m<=1000):∀k,k<n->((ttab n m f).getD k []).length<=4611686018427387904:=fun k E=>by rw [qe4 E,qcb];omega
theorem qn1 {R n:Nat} {f:Nat->Nat->Rat} {b v:Nat->Rat} {H:Option Addr} {g c:Nat} {E:Option Addr} {g2 c2:Nat} {F:Option Addr} {O c3:Nat} {w:World} (U:1<=R) (V:R<=40) (Y:1<=n) (Z:n<=10) (hf:∀i,i<R->qb9 n (f i)) (hb:qb9 R b) (hv:qb9 R v) (J:∀i,i<R->0<=v i) (hT:TCells w H g 0 (ttab R n f)) (hF:FCells w E g2 0 (told R b)) (I:FCells w F O 0 (told R v)) (hP:HasT w) :
  Calls prog 117 #[.slice H R c,.slice E R c2,.slice F R c3] w fun e w'=>qg6 R n f b v e w'/\Below w.heap.size w w' :=
 (qmg H g 0 R c _ E g2 0 R c2 _ F O 0 R c3 _ w (qc6 _ _ _) (by omega) (qj7 (by omega)) hT (qcb _ _) (by omega) hF (qcb _ _) (by omega) I hP).mono fun _ _ h=>h.told U V Y Z hf hb hv J
theorem qkZ {kind:Nat} {d:List Int} (I:kind=1\/kind=2\/kind=3) (H:qfo d) (_h4:d.length<=4) (Y:kind=3->d.length<=3):∀p∈termL kind d,Short p:=by
 have O:∀k,Short (dq d k):=fun k=>(dq_cd H k).short (by decide) (by decide +kernel) (by decide +kernel)
 have U:∀k,Short (dq d k*dq d k):=fun k=>((dq_cd H k).mul (dq_cd H k) (by decide) (by decide)).short (by decide) (by decide +kernel) (by decide +kernel)
 have J:∀k,k<=3->∀p∈prods d k,Short p:=fun k I p E=>(qgc (by decide) (dq_cd H) k p E).short (qbu (Nat.pow_pos (by decide))) (qaU (qaO (by decide) I) qk9) (qaU (qaO (by decide) I) qk9)
 have V:Short 1:=qhK ⟨by decide,by decide⟩;have F:∀p∈lin d,Short p:=fun p E=>by
  unfold lin at E;rcases qat.1 E with rfl | E
  ·exact V
  ·obtain⟨j,_,rfl⟩:=qbb.1 E;exact O j
 rcases I with rfl | rfl | rfl
 ·exact F
 ·intro p E;rw [qpb] at E;rcases qaL.1 E with E | E
  ·exact F p E
  ·unfold sqs at E;obtain⟨j,_,rfl⟩:=qbb.1 E;exact U j
 ·intro p E;rw [qpc] at E;exact J _ (Y rfl) p E
theorem qpd {kind:Nat} {d:List Int} {j:Nat} (E:j<many kind d.length):termQ kind d j∈termL kind d:=by
 unfold termQ;rw [qaa,qac (by rw [qhS];exact E)];exact qbz _
theorem PtsOk.terms {l:List Pt} (h:PtsOk l) {k:Nat} {kind:Int} (O:qdy kind k) (U:¬(k=3/\chans l=4)):∀i,i<l.length->qb9 (many k (chans l)) (tqf l k i):=fun i I j J=>by
 obtain⟨E,F⟩:=h.rows i I;have H:=E.n4;refine qkZ (by obtain⟨_,a,b⟩:=O;omega) E.vals H (fun e=>by have:=h.n4;omega) _ (qpd (by rw [F];exact J))
theorem PtsOk.labs {l:List Pt} (h:PtsOk l) {c:Nat}:qb9 l.length (labq l c):=fun i H=>by
 have E:=(h.rows i H).1;have:=E.l0;have:=E.l1;have:=E.l2;have F:((l.getD i pt0).lab c).natAbs<1000000000000000000000:=by unfold Pt.lab;(repeat' split) <;> omega
 exact qhE (d:=100) (by decide) F (by decide)
theorem PtsOk.bound {l:List Pt} (h:PtsOk l) (c:Nat):∀k,k<l.length->-9223372036854775808<=(l.getD k pt0).lab c/\(l.getD k pt0).lab c<=9223372036854775807:=fun i F=>by
 have E:=(h.rows i F).1;have:=E.l0;have:=E.l1;have:=E.l2;unfold Pt.lab;(repeat' split) <;> omega
theorem WOk.short {E:List Int} (h:WOk E):qb9 E.length (wq E):=fun i F=>by
 obtain⟨H,I⟩:=h i F;have:Short ((E.getD i 0:Int) / ((1:Int):Rat)):=qhE (d:=1) (by decide) (by omega) (by decide);rw [show ((1:Int):Rat)=1 from rfl,Rat.div_def,show (1:Rat)⁻¹=1 by decide +kernel,Rat.mul_one] at this;exact this
theorem WOk.pos {E:List Int} (h:WOk E):∀i,i<E.length->0<=wq E i:=fun i F=>by unfold wq;exact Rat.intCast_nonneg.2 (h i F).1
theorem qgq {k n:Nat} {kind:Int} (E:qdy kind k) (F:1<=n) (I:n<=4) (H:¬(k=3/\n=4)):1<=many k n/\many k n<=10:=by
 obtain⟨_,a,b⟩:=E;unfold many;rcases (show k=1\/k=2\/k=3 by omega) with rfl | rfl | rfl
 ·simp;omega
 ·simp;omega
 ·rcases (show n=1\/n=2\/n=3 by omega) with rfl | rfl | rfl <;> decide
def nq (l:List Pt) (k:Nat) (E:List Int) (c:Nat):Nat->Nat->Rat:=normR l.length (many k (chans l)) (tqf l k) (labq l c) (wq E)
theorem qgs {l:List Pt} {k:Nat} {H:List Int} {c I:Nat} (h:Sing (many k (chans l)) (nq l k H c)):Sing (many k (chans l)) (nq l k H I):=h.congr fun i E j F=>by
 unfold nq normR;refine qcc fun r _=>?_
 unfold gR;rw [if_pos E,if_pos F,if_pos E,if_pos F]
def FitX (l:List Pt) (k:Nat) (E:List Int) (c:Nat) (x:Nat->Rat):Prop:=qcZ (many k (chans l)) (nq l k E c) (fun r=>nq l k E c r (many k (chans l))) x
def FitG (l:List Pt) (kind:Int) (E:List Int) (W:World) (v:Value):Prop :=
 PtsOk l/\E.length=l.length/\WOk E/\∃k,qdy kind k/\¬(k=3/\chans l=4)/\¬Sing (many k (chans l)) (nq l k E 0) /\
  ∃x:Nat->Nat->Rat,(∀c,c<3->FitX l k E c (x c)/\qb9 (many k (chans l)) (x c))/\MdAt W v (mdq k (chans l) (many k (chans l)) x)
def FitF (l:List Pt) (kind:Int) (E:List Int) (e:Int):Prop :=
 (¬PtsOk l/\e=310)\/(PtsOk l/\¬((∃k,qdy kind k)/\E.length=l.length/\WOk E)/\e=2) \/
 (PtsOk l/\E.length=l.length/\WOk E/\∃k,qdy kind k/\((k=3/\chans l=4/\e=5)\/(¬(k=3/\chans l=4) /\
  ((Sing (many k (chans l)) (nq l k E 0)/\e=7)\/(¬Sing (many k (chans l)) (nq l k E 0)/\∃c x,c<3/\FitX l k E c x/\¬qb9 (many k (chans l)) x/\e=6)))))
def FitAs (w:World) (l:List Pt) (kind:Int) (E:List Int) (e:Ending) (w':World):Prop :=
 Below w.heap.size w w'/\((∃v,e=.returned (.tuple #[v,.int .i64 0])/\FitG l kind E w' v)\/∃c,e=.returned (.tuple #[mdv0,.int .i64 c])/\FitF l kind E c)
theorem infoPt:(Tryz.prog.info? 72).map (fun i=>(i.zero,i.size,i.bytes))=some (some (.agg #[.string ⟨#[]⟩,.slice none 0 0,.int .i64 0,.int .i64 0,.int .i64 0]),5,64):=by kernel_rfl
theorem qjW {w:World} {B:Nat} {v:Value} {n:Nat} {U:List Value} {u0 u1 u2 u3 u4:Value} {g c:Nat} {t:TypeId} (V:TypeId) (F:w.ownsRow B 72 5 v n U) (hB:B<=w.heap.size) (hg:w.heap[g]? = some (.cells #[u0,u1,u2,u3,u4] t (0,0))) (Z:∀u∈[u0,u1,u2,u3,u4],u.oneCell'=true) (hn:n<1000000) :
  ∃H w',(Builtin.append_ #[48,48] V #[v,.slice (some ⟨g,0,none⟩) 1 c]).run prog w=.ok H w'/\w'.ownsRow B 72 5 H (n+1) (U++[u0,u1,u2,u3,u4])/\(H.ownBlock=v.ownBlock/\w.grownBy w' v.ownBlock\/H.ownBlock=some w.heap.size/\w.grownBy w' none):=by
 obtain⟨i0,Y,I,J,O⟩:=info_parts infoPt;exact qeY (P:=prog) w B 48 V 72 i0 _ 5 64 underlying48 Y I J O rfl (by decide) v n U F ⟨g,0,none⟩ 1 c [u0,u1,u2,u3,u4] rfl (fun j x E=>by
   rw [Addr.add_mid]
   match j,E with
   | 0,E=>exact (qC _ _ _ _ _ _ hg).trans E
   | 1,E=>exact (qC _ _ _ _ _ _ hg).trans E
   | 2,E=>exact (qC _ _ _ _ _ _ hg).trans E
   | 3,E=>exact (qC _ _ _ _ _ _ hg).trans E
   | 4,E=>exact (qC _ _ _ _ _ _ hg).trans E
   | j+5,E=>cases E) Z (by decide) (by unfold maxLen;omega) (by omega) hB
def PaAt (W:World) (E:List Value) (j:Nat) (p:Pt):Prop:=∃(B:Nat) (F:Option Addr) (H:Nat),(E[j*5]? = some (.string p.name)/\E[j*5+1]? = some (.slice F p.dev.length H)/\E[j*5+2]? = some (.int .i64 p.l0)/\E[j*5+3]? = some (.int .i64 p.l1)/\E[j*5+4]? = some (.int .i64 p.l2))/\IOwn W B (.slice F p.dev.length H) p.dev
def PaOwn (W:World) (B:Nat) (v:Value) (l:List Pt):Prop:=∃E,W.ownsRow B 72 5 v l.length E/\∀j,j<l.length->PaAt W E j (l.getD j pt0)
theorem PaOwn.below {W W':World} {B:Nat} {v:Value} {l:List Pt} (h:PaOwn W B v l) (E:Below W.heap.size W W'):PaOwn W' B v l:=by
 obtain⟨U,F,H⟩:=h;refine⟨U,own_below F E,fun j O=>?_⟩;obtain⟨B',da,dc,I,J⟩:=H j O;exact⟨B',da,dc,I,J.below E⟩
instance stays_paown {B:Nat} {v:Value} {l:List Pt}:Stays fun W=>PaOwn W B v l:=⟨fun h E=>h.below E⟩
theorem PaOwn.nil (W:World) (B:Nat):PaOwn W B (.slice none 0 0) []:=⟨[],⟨rfl,.inl ⟨rfl,rfl⟩⟩,fun j E=>absurd E (by simp)⟩
theorem PaOwn.shape {W:World} {B m:Nat} {v:Value} {l:List Pt} (h:PaOwn W B v l) (H:l.length=m):∃(E:Option Addr) (cap:Nat),v=.slice E m cap:=by
 obtain⟨I,F,_⟩:=h;subst H;exact qhB F
theorem PaOwn.cells {W:World} {B:Nat} {v:Value} {l:List Pt} (h:PaOwn W B v l) (Y:0<l.length) (J:∀j,j<l.length->0<(l.getD j pt0).dev.length):∃g c,v=.slice (some ⟨g,0,none⟩) l.length c/\PCells W (some ⟨g,0,none⟩) g 0 l:=by
 obtain⟨V,F,I⟩:=h;have E:=F;rcases F.2 with ⟨_,h⟩ | ⟨g,cap,cur,rfl,_,_,_⟩
 ·omega
 ·refine⟨g,cap,rfl,fun _=>rfl,fun k H=>?_⟩;obtain⟨B',da,dc,⟨e0,e1,e2,e3,e4⟩,U⟩:=I k H;obtain⟨ga,ca,e,hN⟩:=IOwn.cells U (J k H);have c:∀j u,V[j]? = some u->W.cell? ⟨g,0+j,none⟩=some u:=fun j u O=>by
   have:=E.cells (g:=g) rfl j u O
   rwa [Addr.add_mid] at this
  exact⟨c _ _ e0,⟨_,ga,0,ca,by rw [<-e];exact c _ _ e1,hN⟩,c _ _ e2,c _ _ e3,c _ _ e4⟩
theorem PaOwn.push {W E w':World} {B:Nat} {v I:Value} {l:List Pt} {p:Pt} {J:Option Addr} {O Bd:Nat} (h:PaOwn W B v l) (hb:Below W.heap.size W E) (hp:IOwn E Bd (.slice J p.dev.length O) p.dev)
  (ho:∀F,E.ownsRow B 72 5 v l.length F->w'.ownsRow B 72 5 I (l.length+1) (F++[.string p.name,.slice J p.dev.length O,.int .i64 p.l0,.int .i64 p.l1,.int .i64 p.l2])) (Z:I.ownBlock=v.ownBlock/\E.grownBy w' v.ownBlock\/I.ownBlock=some E.heap.size/\E.grownBy w' none):PaOwn w' B I (l++[p]):=by
 obtain⟨F,H,h2⟩:=h.below hb;refine⟨_,by rw [qaf];exact ho F H,fun j Y=>?_⟩;have U:F.length=l.length*5:=H.1;rcases qaB j l.length with hjl | hjl
 ·obtain⟨B',d',c',⟨e0,e1,e2,e3,e4⟩,V⟩:=h2 j hjl;have e:(l++[p]).getD j pt0=l.getD j pt0:=by rw [qaa,qax hjl,<-qaa]
  rw [e];refine⟨B',d',c',⟨?_,?_,?_,?_,?_⟩,(qlE V (own_ne V H (by decide)) Z).1⟩
  ·rw [qax (by omega)];exact e0
  ·rw [qax (by omega)];exact e1
  ·rw [qax (by omega)];exact e2
  ·rw [qax (by omega)];exact e3
  ·rw [qax (by omega)];exact e4
 ·obtain rfl:j=l.length:=by rw [qaf] at Y;have:j<l.length+1:=Y;omega
  have e:(l++[p]).getD l.length pt0=p:=by rw [qaa,qau qN,qaJ];rfl
  rw [e];refine⟨Bd,J,O,⟨?_,?_,?_,?_,?_⟩,(qlE hp (own_ne hp H (by decide)) Z).1⟩
  all_goals
   rw [qau (by omega)];simp only [U,qaJ,Nat.add_sub_cancel_left]
   rfl
theorem qdR {V:Array Oper} {rest:List Oper} {o:Oper} {a:Act} {w:World} {Q:Exit->Act->World->Prop} (Z:o.guard=none) (s x:Operand)
  (ho:o.op=.call { callee:=.builtin .append,args:=#[s,x],argTypes:=#[48,48] }) {B:Nat} {v:Value} {l:List Pt} {p:Pt} {E:Option Addr} {F Bd:Nat} (I:PaOwn w B v l) (hp:IOwn w Bd (.slice E p.dev.length F) p.dev) (hB:B<=w.heap.size) (hs:a.eval s=v) {g:Nat} (hx:a.eval x=.slice (some ⟨g,0,none⟩) 1 1) (hg:g=w.heap.size) (hn:l.length<1000000)
  {n0:ByteArray} {k:Nat} {z0 Y z2:Int} (e0:n0=p.name) (e1:k=p.dev.length) (e2:z0=p.l0) (e3:Y=p.l1) (e4:z2=p.l2)
  (h:∀O w',Hu (PaOwn w' B O (l++[p]))->Hu (O.ownBlock=v.ownBlock/\(w.alloc (.cells #[.string n0,.slice E k F,.int .i64 z0,.int .i64 Y,.int .i64 z2] 72)).grownBy w' v.ownBlock\/O.ownBlock=some (w.alloc (.cells #[.string n0,.slice E k F,.int .i64 z0,.int .i64 Y,.int .i64 z2] 72)).heap.size/\(w.alloc (.cells #[.string n0,.slice E k F,.int .i64 z0,.int .i64 Y,.int .i64 z2] 72)).grownBy w' none)->wpList prog V Q rest (a.put o.dst O) w') :
  wpList prog V Q (o :: rest) a (w.alloc (.cells #[.string n0,.slice E k F,.int .i64 z0,.int .i64 Y,.int .i64 z2] 72)):=by
 subst hg e0 e1 e2 e3 e4;have J:Below w.heap.size w (w.alloc (.cells #[.string p.name,.slice E p.dev.length F,.int .i64 p.l0,.int .i64 p.l1,.int .i64 p.l2] 72)):=qb4 qB qN;obtain⟨ag,ae,_⟩:=I.below J;have hg:=qM w (.cells #[.string p.name,.slice E p.dev.length F,.int .i64 p.l0,.int .i64 p.l1,.int .i64 p.l2] 72) _ rfl;have H:∀u∈[Value.string p.name,.slice E p.dev.length F,.int .i64 p.l0,.int .i64 p.l1,.int .i64 p.l2],u.oneCell'=true:=fun u hu=>by
  simp only [qat,List.not_mem_nil,or_false] at hu;rcases hu with rfl | rfl | rfl | rfl | rfl <;> rfl
 have U:B<=(w.alloc (.cells #[.string p.name,.slice E p.dev.length F,.int .i64 p.l0,.int .i64 p.l1,.int .i64 p.l2] 72)).heap.size:=by simp only [qab];omega
 obtain⟨O,w',hr,h1,h2⟩:=qjW o.type ae U hg H hn (c:=1);refine qdn Z s x _ ho hs hx hr (h O w' (qH (PaOwn.push I J (hp.below J) (fun vs af=>?_) h2)) (qH h2));obtain⟨v2,w2,aa,h3,_⟩:=qjW o.type af U hg H hn (c:=1);rw [aa] at hr;cases hr;exact h3
open Go.ChangeShapes Go.WideShapes Go.ChangeAt Go.Deep
theorem wf_u8 {z:Int} (h:(Lit.int .u8 z).wf=true):∃n:Nat,z=(n:Int)/\n<256:=by
 have E:0<=z/\z<=255:=by simpa [Lit.wf,IntKind.min,IntKind.max,IntKind.signed,IntKind.bits] using h
 exact⟨z.toNat,by omega,by omega⟩
section
variable {H:Type} {enc:TypeId×Value->H} {w:World} {sp:Nat->Bool} {held:Bool} {fuel:Nat} {v:Value} {x:DataW H×List MemPlace}
theorem qe0 {a:Addr} {u:Value} (h:w.cell? (a.add 0)=some u):a=⟨a.block,a.off,none⟩:=by
 obtain⟨b,off,s⟩:=a;have:=World.cell?_spot h;have e:s=none:=by simpa [Addr.add] using this
 rw [e]
end
end Go.Proofs.YtjalhnlhcdfncaaGreatDoor
namespace Go.Proofs.YtjalhnlhcdfncaaGreatDoor
open Go.RowKit Go.Proofs.Tryz
structure KCells (W:World) (kd:IntKind) (ao:Option Addr) (b off:Nat) (L:List Int):Prop where
 addr:0<L.length->ao=some ⟨b,off,none⟩
 cell:∀k,k<L.length->W.cell? ⟨b,off+k,none⟩=some (.int kd (L.getD k 0))
theorem KCells.below {W W':World} {H:IntKind} {E:Option Addr} {b off:Nat} {L:List Int} (h:KCells W H E b off L) (I:Below W.heap.size W W'):KCells W' H E b off L :=
 ⟨h.addr,fun k F=>(I.cell (qae W _ (h.cell k F))).trans (h.cell k F)⟩
def qfv (G:List Int) (k:Nat):Int:=if k=0 then 0 else if k=1 then (G.getD 0 0).tmod 1000 else (G.getD 0 0).tmod 1000*1000+(G.getD 1 0).tmod 1000
def small (bl:Bool) (G:List Int):Int:=if bl=true then -qfv G (min G.length 2) else qfv G (min G.length 2)
theorem qiK {g:Int} (h:0<=g/\g<65536):0<=g.tmod 1000/\g.tmod 1000<1000:=by
 rw [Int.tmod_eq_emod_of_nonneg h.1];omega
theorem qjY {G:List Int} (E:∀k,0<=G.getD k 0/\G.getD k 0<65536) (k:Nat):0<=qfv G k/\qfv G k<1000000:=by
 have F:=qiK (E 0);have H:=qiK (E 1);unfold qfv;split
 ·omega
 ·split <;> omega
theorem qlM {G:List Int} (E:∀k,0<=G.getD k 0/\G.getD k 0<65536) (bl:Bool):-1000000<small bl G/\small bl G<1000000:=by
 have h:=qjY E (min G.length 2);unfold small;split <;> omega
theorem qjZ (bl:Bool) (a:Option Addr) (b off len cap:Nat) (G:List Int) (z:Int) (w:World) (hG:G.length=len) (hl:len<=9223372036854775807) (hC:KCells w .u16 a b off G) (Y:∀k,0<=G.getD k 0/\G.getD k 0<65536) :
  Calls prog 79 #[.agg #[.bool bl,.slice a len cap,.int .u16 z]] w fun e w'=>e=.returned (.int .i64 (small bl G))/\Below w.heap.size w w':=by
 obtain⟨W1,J,N1⟩:=nw1 w #[.bool bl,.slice a len cap,.int .u16 z] 87;have H:=N1.o.2;have k0:=qC _ _ 0 _ _ _ H;have k1:=qC _ _ 1 _ _ _ H;have E:=qH (qA (hC.below N1.o.1) (qA hG Y));have HB:=qH N1.o.1;clear H N1 hC Y;go_enter func79,ntmps79;go_upto_region 1 with fail;rw [<-J];clear J;go_wp2_with fail
 go_loopw [3,4] (fun x3 x4 W=>∃i:Nat,x4=.int .i64 (i:Int)/\x3=.int .i64 (qfv G i)/\i<=len/\i<=2/\Hu (W=W1)) (fun _ x4 _=>2-(intOf x4).toNat)
 case atStart=>exact⟨0,rfl,rfl,qaj _,qaj _,qH rfl⟩
 case round =>
  obtain⟨i,rfl,rfl,hi,ah,F⟩:=hrel;have F:=F.o;subst F;obtain⟨x,hx⟩:=qX (qfv G i);have Z:=qjY E.o.2.2 i
  by_cases ae:i<len/\i<2
  ·obtain⟨aa,ak⟩:=ae;have U:(i:Int)<(len:Int):=by omega
   have aj:(i:Int)<2:=by omega
   have ai:(0:Int)<=(i:Int):=by omega
   obtain rfl:=E.o.1.addr (by rw [E.o.2.1];omega);have hk:=E.o.1.cell i (by rw [E.o.2.1];omega);obtain⟨g,hg⟩:=qX (G.getD i 0);have O:=E.o.2.2 i;rw [hg] at hk O;have hm:=qiK O;have hs:qfv G (i+1)=x*1000+g.tmod 1000:=by
    rcases (show i=0\/i=1 by omega) with rfl | rfl
    ·rw [<-hx,<-hg];simp [qfv]
    ·rw [<-hx,<-hg];simp [qfv]
   have ag:x<1000:=by
    rcases (show i=0\/i=1 by omega) with rfl | rfl
    ·rw [<-hx];exact (by decide:(0:Int)<1000)
    ·rw [<-hx];exact (qiK (E.o.2.2 0)).2
   rw [hx] at Z ⊢;obtain⟨m,af⟩:=qX (g.tmod 1000);rw [af] at hm hs;have I:=qH hs;clear hs hx hg;go_wp2;go_roundw
   case rel=>exact⟨i+1,by go_num,by rw [I.o],aa,by omega,by first | trivial | exact qH rfl⟩
   case measure=>simp [intOf];omega
  ·have he:i=min len 2:=by omega
   have V:small bl G=if bl=true then -x else x:=by unfold small;rw [E.o.2.1,<-he,hx]
   rw [hx] at Z ⊢;have I:=qH V;clear V hx he;have ag:(-9223372036854775808:Int)<=-x:=by omega
   by_cases h1:i<len
   ·obtain rfl:i=2:=by omega
    have U:(2:Int)<(len:Int):=by omega
    cases bl
    ·go_wp2;go_ret;exact⟨by rw [I.o];rfl,HB.o⟩
    ·go_wp2;go_ret;exact⟨by rw [I.o];rfl,HB.o⟩
   ·have U:¬(i:Int)<(len:Int):=by omega
    cases bl
    ·go_wp2;go_ret;exact⟨by rw [I.o];rfl,HB.o⟩
    ·go_wp2;go_ret;exact⟨by rw [I.o];rfl,HB.o⟩
end Go.Proofs.YtjalhnlhcdfncaaGreatDoor
namespace Go.Proofs.YtjalhnlhcdfncaaGreatDoor.p4
def mval:List Nat->Nat
 | []=>0
 | d :: l=>d+10000*mval l
theorem qcE (l r:List Nat):mval (l++r)=mval l+10000 ^ l.length*mval r:=by
 induction l with
 | nil=>simp [mval]
 | cons d l ih =>
  simp only [List.cons_append,mval,ih,qbH,qaF];rw [qa7,qav (10000 ^ l.length) 10000,qay];omega
theorem qfA (l:List Nat) (h:∀d∈l,d<10000):mval l<10000 ^ l.length:=by
 induction l with
 | nil=>simp [mval]
 | cons d l ih =>
  have E:=h d qba;have F:=ih fun x hx=>h x (qbn _ hx)
  simp only [mval,qbH,qaF];omega
theorem qff (n:Nat):mval (List.replicate n 0)=0:=by
 induction n with
 | zero=>rfl
 | succ n ih=>simp [qby,mval,ih]
theorem qc1 (l:List Nat) (d:Nat):mval (l++[d])=mval l+10000 ^ l.length*d:=by
 rw [qcE];simp [mval]
theorem qiM (l:List Nat) (i d:Nat) (h:i<l.length):mval (l.set i d)+10000 ^ i*l[i]=mval l+10000 ^ i*d:=by
 induction l generalizing i with
 | nil=>exact absurd h (by simp)
 | cons x l ih =>
  cases i with
  | zero=>simp [mval];omega
  | succ i =>
   have E:i<l.length:=by simpa using h
   have:=ih i E;simp only [List.set_cons_succ,mval,List.getElem_cons_succ,qaF];have F:10000 ^ i*10000*l[i]=10000*(10000 ^ i*l[i]):=by rw [qav (10000 ^ i),qay]
   have H:10000 ^ i*10000*d=10000*(10000 ^ i*d):=by rw [qav (10000 ^ i),qay]
   omega
theorem qeU (l m:List Nat) (i:Nat) (O:∀d∈l,d<10000) (J:i<l.length) (F:i<m.length) (h:l[i]<m[i]) (E:l.drop (i+1)=m.drop (i+1)):mval l<mval m:=by
 have H:l=l.take i++(l[i] :: l.drop (i+1)):=by rw [<-qbg J,qbL]
 have I:m=m.take i++(m[i] :: m.drop (i+1)):=by rw [<-qbg F,qbL]
 have U:mval (l.take i)<10000 ^ i:=by
  have:=qfA (l.take i) fun d E=>O d (qbd E)
  rwa [qao,qaS (by omega)] at this
 rw [H,I,qcE,qcE,qao,qao,qaS (by omega),qaS (by omega)];simp only [mval,E];generalize mval (m.drop (i+1))=x;have:10000 ^ i*(l[i]+10000*x)+10000 ^ i<=10000 ^ i*(m[i]+10000*x):=by
  rw [<-Nat.mul_succ];exact qaK _ (by omega)
 omega
def Dig (L:List Nat):Prop:=∀k,L.getD k 0<10000
theorem Dig.mem {L:List Nat} (h:Dig L):∀d∈L,d<10000:=fun d E=>by
 obtain⟨i,F,rfl⟩:=List.getElem_of_mem E;have:=h i
 rwa [qaa,qac F] at this
theorem Dig.of {L:List Nat} (h:∀d∈L,d<10000):Dig L:=fun k=>by
 rw [qaa];cases hk:L[k]? with
 | none=>exact (by decide:0<10000)
 | some x=>exact h x (qbC hk)
theorem Dig.nil:Dig []:=Dig.of (by simp)
theorem Dig.snoc {L:List Nat} (h:Dig L) {d:Nat} (E:d<10000):Dig (L++[d]):=Dig.of fun x hx=>by
 rcases qaL.1 hx with hx | hx
 ·exact h.mem x hx
 ·rw [qap.1 hx];exact E
theorem Dig.set {L:List Nat} (h:Dig L) {d:Nat} (E:d<10000) (i:Nat):Dig (L.set i d):=Dig.of fun x hx=>by
 rcases List.mem_or_eq_of_mem_set hx with hx | rfl
 ·exact h.mem x hx
 ·exact E
theorem Dig.take {L:List Nat} (h:Dig L) (n:Nat):Dig (L.take n):=Dig.of fun x hx=>h.mem x (qbd hx)
theorem Dig.drop {L:List Nat} (h:Dig L) (n:Nat):Dig (L.drop n):=Dig.of fun x hx=>h.mem x (List.mem_of_mem_drop hx)
theorem Dig.append {L M:List Nat} (h:Dig L) (E:Dig M):Dig (L++M):=Dig.of fun x hx=>(qaL.1 hx).elim (h.mem x) (E.mem x)
theorem Dig.zeros (n:Nat):Dig (List.replicate n 0):=Dig.of fun x hx=>by rw [(List.mem_replicate.1 hx).2];decide
theorem Dig.lt {L:List Nat} (h:Dig L):mval L<10000 ^ L.length:=qfA L h.mem
theorem qd7 {L:List Nat} {k:Nat} (h:k<L.length):L[k]? = some (L.getD k 0):=by
 rw [qac h,qaa,qac h];rfl
theorem qc4 {L:List Nat} {k:Nat} (h:L.length<=k):L.getD k 0=0:=by
 rw [qaa,qaR h];rfl
theorem qb8 (L:List Nat) (k:Nat):mval (L.take (k+1))=mval (L.take k)+10000 ^ k*L.getD k 0:=by
 by_cases h:k<L.length
 ·rw [qbw,qd7 h]
  show mval (L.take k++[L.getD k 0])=_
  rw [qc1,qao,qaS (qan h)]
 ·rw [qah (by omega),qah (by omega),qc4 (by omega)];simp
theorem qcS (L:List Nat) (k:Nat):mval (L.drop k)=L.getD k 0+10000*mval (L.drop (k+1)):=by
 by_cases h:k<L.length
 ·rw [qbg h];simp only [mval];rw [qaa,qac h];rfl
 ·rw [qaM (by omega),qaM (by omega),qc4 (by omega)];simp [mval]
theorem qdh (L:List Nat) (k:Nat) (E:k<=L.length):mval L=mval (L.take k)+10000 ^ k*mval (L.drop k):=by
 conv=>lhs;rw [<-qbL k L]
 rw [qcE,qao,qaS E]
theorem getD_set_ne {L:List Nat} {i j d:Nat} (h:i≠j):(L.set i d).getD j 0=L.getD j 0:=by
 rw [qaa,qbQ h,<-qaa]
theorem qc8 {L:List Nat} {i d:Nat} (h:i<L.length):(L.set i d).getD i 0=d:=by
 rw [qaa,List.getElem?_set_self h];rfl
theorem qdc {L:List Nat} {k d:Nat} (h:k<L.length):mval ((L.set k d).take (k+1))=mval (L.take k)+10000 ^ k*d:=by
 rw [qb8,qc8 h]
 congr 2
 rw [List.take_set_of_le qN]
theorem qdt {L:List Nat} {k d:Nat} (h:k<L.length):mval ((L.set k d).drop k)=d+10000*mval (L.drop (k+1)):=by
 rw [qcS,qc8 h,List.drop_set_of_lt (by omega)]
theorem qeV {L:List Nat} {k d:Nat} (h:k<L.length):mval (L.set k d)+10000 ^ k*L.getD k 0=mval L+10000 ^ k*d:=by
 have:=qiM L k d h
 rwa [qaa,qac h]
def Zero (L:List Nat) (n:Nat):Prop:=∀k,n<=k->L.getD k 0=0
theorem Zero.all (L:List Nat):Zero L L.length:=fun _ h=>qc4 h
theorem Zero.mono {L:List Nat} {n m:Nat} (h:Zero L n) (F:n<=m):Zero L m:=fun k E=>h k (by omega)
theorem Zero.zeros (n m:Nat):Zero (List.replicate n 0) m:=fun k _=>by
 by_cases h:k<n
 ·rw [qaa,qbq,if_pos h];rfl
 ·exact qc4 (by rw [qaZ];omega)
theorem Zero.set {L:List Nat} {n k d:Nat} (h:Zero L n) (F:k<n):Zero (L.set k d) n:=fun j E=>by rw [getD_set_ne (by omega)];exact h j E
theorem Zero.set_succ {L:List Nat} {n d:Nat} (h:Zero L n):Zero (L.set n d) (n+1):=fun j E=>by rw [getD_set_ne (by omega)];exact h j (by omega)
theorem Zero.down {L:List Nat} {n:Nat} (h:Zero L (n+1)) (E:L.getD n 0=0):Zero L n:=fun k F=>by
 by_cases e:k=n
 ·rw [e];exact E
 ·exact h k (by omega)
theorem qdK {L:List Nat} {n:Nat} (h:Zero L n):mval (L.drop n)=0:=by
 induction hm:L.length-n generalizing n with
 | zero=>rw [qaM (by omega)];rfl
 | succ m ih =>
  rw [qcS,h n qN,ih (h.mono (by omega)) (by omega)]
theorem qcH {L:List Nat} {n:Nat} (h:Zero L n):mval (L.take n)=mval L:=by
 by_cases E:n<=L.length
 ·rw [qdh L n E,qdK h];omega
 ·rw [qah (by omega)]
def Nrm (L:List Nat):Prop:=L.length=0\/L.getD (L.length-1) 0≠0
theorem Nrm.ge {L:List Nat} (h:Nrm L) (F:0<L.length):10000 ^ (L.length-1)<=mval L:=by
 have E:=h.resolve_left (by omega);have e:=qb8 L (L.length-1);rw [show L.length-1+1=L.length by omega,qbl] at e;rw [e];exact qak (Nat.le_mul_of_pos_right _ (qbm E)) (Nat.le_add_left _ _)
theorem Nrm.snoc (L:List Nat) {d:Nat} (h:d≠0):Nrm (L++[d]):=by
 right
 rw [qaf,qaH,qbR,qaa,qau qN,qaJ];exact h
theorem Nrm.zero {L:List Nat} (h:Nrm L):mval L=0↔L.length=0:=by
 constructor
 ·intro e;rcases qaN L.length with h0 | h0
  ·exact h0
  ·have:=h.ge h0;have:=Nat.pow_pos (n:=L.length-1) (show 0<10000 by decide);omega
 ·intro e;rw [qbk.1 e];rfl
theorem Nrm.len {L:List Nat} (h:Nrm L) {n:Nat} (F:mval L<10000 ^ n):L.length<=n:=by
 rcases qaN L.length with h0 | h0
 ·omega
 ·have E:=h.ge h0;have H:=(Nat.pow_lt_pow_iff_right (show 1<10000 by decide)).1 (qaU E F);omega
theorem qgX {P B x y z s c E m o:Nat} (I:x+P*c=y+z) (F:s+B*E=m+c+o):x+P*s+P*B*E=y+P*m+(z+P*o):=by
 have h:=congrArg (P * ·) F;simp only [qa7] at h;have H:P*B*E=P*(B*E):=by simp only [qay]
 omega
theorem qf7 {P B x y z s b b' m o:Nat} (H:x+z=y+P*b) (E:s+b+o=m+B*b'):x+P*s+(z+P*o)=y+P*m+P*B*b':=by
 have h:=congrArg (P * ·) E;simp only [qa7] at h;have F:P*B*b'=P*(B*b'):=by simp only [qay]
 omega
theorem qhT {A C B x p s c E d e X Y Z: Nat} (J:Y+A*C*p=x+A*C*s) (O:x+A*C*c=X+A*d*Z) (F:s+B*E=c+(p+d*e)):Y+A*(C*B)*E=X+A*d*(Z+C*e):=by
 have h:=congrArg (A*C * ·) F;simp only [qa7] at h ⊢;have H:A*(C*B)*E=A*C*(B*E):=by simp only [qay]
 have I:A*d*(C*e)=A*C*(d*e):=by simp only [qay,qbB]
 omega
theorem qiP {A F E H x c d d1 X Y Z:Nat} (I:Y+E*0=x+E*c) (J:x+E*c=X*Z+A*d*Z):Y+H*0=(X+A*d)*Z+F*d1*mval []:=by
 simp only [mval,Nat.mul_zero,qbt,qaI] at *;omega
theorem qhJ {B R d r m M q t:Nat} (E:R*d+r=M) (J:d*q+t=r*B+m):(q+B*R)*d+t=m+B*M:=by
 subst E;simp only [qa7,qaI];have F:B*R*d=B*(R*d):=by simp only [qay]
 have H:q*d=d*q:=qav _ _;have I:r*B=B*r:=qav _ _;omega
structure PlusInv (m o:List Nat) (k:Nat) (L:List Nat) (c:Nat):Prop where
 len:L.length=k
 dig:Dig L
 carry:c<=1
 val:mval L+10000 ^ k*c=mval (m.take k)+mval (o.take k)
theorem PlusInv.start (m o:List Nat):PlusInv m o 0 [] 0:=⟨rfl,Dig.nil,by decide,by simp [mval]⟩
theorem PlusInv.step {m o L:List Nat} {k c s E:Nat} (h:PlusInv m o k L c) (H:s<10000) (F:E<=1) (e:s+10000*E=m.getD k 0+c+o.getD k 0):PlusInv m o (k+1) (L++[s]) E:=by
 refine⟨by rw [qaf,h.len];rfl,h.dig.snoc H,F,?_⟩;have I:=h.val;rw [qc1,h.len,qb8,qb8,qaF];exact qgX I e
theorem PlusInv.done {m o L:List Nat} {c:Nat} (h:PlusInv m o m.length L c) (E:o.length<=m.length):mval L+10000 ^ m.length*c=mval m+mval o:=by
 have:=h.val
 rwa [qah qN,qah E] at this
structure MinusInv (m o:List Nat) (k:Nat) (R:List Nat) (b:Nat):Prop where
 len:R.length=m.length
 dig:Dig R
 carry:b<=1
 val:mval (R.take k)+mval (o.take k)=mval (m.take k)+10000 ^ k*b
theorem MinusInv.start (m o:List Nat):MinusInv m o 0 (List.replicate m.length 0) 0:=⟨by simp,Dig.zeros _,by decide,by simp [mval]⟩
theorem MinusInv.step {m o R:List Nat} {k b s b':Nat} (h:MinusInv m o k R b) (F:k<m.length) (H:s<10000) (E:b'<=1) (e:s+b+o.getD k 0=m.getD k 0+10000*b'):MinusInv m o (k+1) (R.set k s) b':=by
 refine⟨by rw [qa8,h.len],h.dig.set H _,E,?_⟩;have I:=h.val;rw [qdc (by rw [h.len];exact F),qb8,qb8,qaF];exact qf7 I e
theorem MinusInv.done {m o R:List Nat} {b:Nat} (h:MinusInv m o m.length R b) (H:o.length<=m.length) (F:mval o<=mval m):mval R=mval m-mval o:=by
 have I:=h.val;rw [qah qN,qah H,qah (by rw [h.len];exact qad _)] at I;have E:=h.dig.lt;rw [h.len] at E;have J:=h.carry;rcases (show b=0\/b=1 by omega) with rfl | rfl
 ·omega
 ·omega
structure TimesInv (m o:List Nat) (i j:Nat) (P:List Nat) (c:Nat):Prop where
 len:P.length=m.length+o.length
 dig:Dig P
 carry:c<10000
 zero:Zero P (i+o.length)
 val:mval P+10000 ^ (i+j)*c=mval (m.take i)*mval o+10000 ^ i*m.getD i 0*mval (o.take j)
theorem TimesInv.start (m o:List Nat):TimesInv m o 0 0 (List.replicate (m.length+o.length) 0) 0:=⟨by simp,Dig.zeros _,by decide,Zero.zeros _ _,by simp [mval,qff]⟩
theorem TimesInv.step {m o P:List Nat} {i j c s F:Nat} (h:TimesInv m o i j P c) (J:i<m.length) (O:j<o.length) (E:s<10000) (I:F<10000) (e:s+10000*F=c+(P.getD (i+j) 0+m.getD i 0*o.getD j 0)):TimesInv m o i (j+1) (P.set (i+j) s) F:=by
 refine⟨by rw [qa8,h.len],h.dig.set E _,I,h.zero.set (by omega),?_⟩;have H:=h.val;have E:=qeV (L:=P) (k:=i+j) (d:=s) (by rw [h.len];omega);rw [qb8,Nat.pow_add,qaF];rw [Nat.pow_add] at E H;exact qhT E H e
theorem TimesInv.next {m o P:List Nat} {i c:Nat} (h:TimesInv m o i o.length P c) (H:i<m.length):TimesInv m o (i+1) 0 (P.set (i+o.length) c) 0:=by
 refine⟨by rw [qa8,h.len],h.dig.set h.carry _,by decide,?_,?_⟩
 ·have:=h.zero.set_succ (d:=c)
  rwa [show i+o.length+1=i+1+o.length by omega] at this
 have F:=h.val;have E:=qeV (L:=P) (k:=i+o.length) (d:=c) (by rw [h.len];omega);rw [h.zero _ qN] at E;rw [qah qN] at F;rw [qb8,List.take_zero];exact qiP E F
theorem TimesInv.done {m o P:List Nat} {c:Nat} (h:TimesInv m o m.length 0 P c) (F:c=0):mval P=mval m*mval o:=by
 have E:=h.val;subst F;rw [qah qN] at E
 simpa [mval] using E
theorem qfD {c p d e:Nat} (E:c<10000) (H:p<10000) (F:d<10000) (he:e<10000):c+(p+d*e)<100000000:=by
 have:d*e<=9999*9999:=Nat.mul_le_mul (by omega) (by omega);omega
structure ShortInv (m:List Nat) (d k:Nat) (R:List Nat) (r:Nat):Prop where
 len:R.length=m.length
 dig:Dig R
 rest:r<d
 val:mval (R.drop k)*d+r=mval (m.drop k)
theorem ShortInv.start (m:List Nat) {d:Nat} (E:0<d):ShortInv m d m.length (List.replicate m.length 0) 0:=⟨by simp,Dig.zeros _,E,by rw [qaM (by simp),qaM (by simp)];simp [mval]⟩
theorem ShortInv.step {m R:List Nat} {d k r:Nat} (h:ShortInv m d (k+1) R r) (F:k<m.length) (H:Dig m):ShortInv m d k (R.set k ((r*10000+m.getD k 0) / d)) ((r*10000+m.getD k 0) % d):=by
 have E:0<d:=by have:=h.rest;omega
 have I:(r*10000+m.getD k 0) / d<10000:=by
  rw [qbM E];have J:=H k;have O:=h.rest;have:(r+1)*10000<=d*10000:=qaW _ (by omega);omega
 refine⟨by rw [qa8,h.len],h.dig.set I _,qbS _ E,?_⟩;rw [qdt (by rw [h.len];exact F),qcS m k,<-h.val];have:=Nat.div_add_mod (r*10000+m.getD k 0) d;exact qhJ rfl this
theorem ShortInv.done {m R:List Nat} {d r:Nat} (h:ShortInv m d 0 R r):mval R=mval m / d/\r=mval m % d:=by
 have E:=h.val;simp only [List.drop_zero] at E;have hr:=h.rest;rw [<-E]
 constructor
 ·rw [qav,Nat.mul_add_div (by omega),Nat.div_eq_of_lt hr];rfl
 ·rw [qav,Nat.mul_add_mod,Nat.mod_eq_of_lt hr]
open Go.RowKit
theorem tdivB (t c:Nat) (h:t / 10000=c):(t:Int).tdiv 10000=c:=tdivN t 10000 c h
theorem tmodB (t c:Nat) (h:t % 10000=c):(t:Int).tmod 10000=c:=tmodN t 10000 c h
def dg (L:List Nat) (k:Nat):Nat:=L.getD k 0
structure Cells (W:World) (ao:Option Addr) (b off:Nat) (L:List Nat):Prop where
 addr:0<L.length->ao=some ⟨b,off,none⟩
 cell:∀k,k<L.length->W.cell? ⟨b,off+k,none⟩=some (.int .i64 ((dg L k:Nat):Int))
theorem Cells.below {W W':World} {E:Option Addr} {b off:Nat} {L:List Nat} (h:Cells W E b off L) (H:Below W.heap.size W W'):Cells W' E b off L :=
 ⟨h.addr,fun k F=>(H.cell (qae W _ (h.cell k F))).trans (h.cell k F)⟩
theorem Cells.take {W:World} {E:Option Addr} {b off:Nat} {L:List Nat} (h:Cells W E b off L) (n:Nat):Cells W E b off (L.take n) :=
 ⟨fun F=>h.addr (by rw [qao] at F;omega),fun k H=>by
  rw [qao] at H;rw [h.cell k (by omega),dg,dg,qaa,qaa,qbE (by omega)]⟩
structure IsM (W:World) (ao:Option Addr) (b off c n:Nat) (L:List Nat):Prop where
 len:L.length=n
 cap:n<=c
 cells:Cells W ao b off L
 dig:Dig L
 nrm:Nrm L
theorem IsM.below {W W':World} {E:Option Addr} {b off c n:Nat} {L:List Nat} (h:IsM W E b off c n L) (F:Below W.heap.size W W'):IsM W' E b off c n L:=⟨h.len,h.cap,h.cells.below F,h.dig,h.nrm⟩
theorem IsM.addr {W:World} {E:Option Addr} {b off c n:Nat} {L:List Nat} (h:IsM W E b off c n L):0<n->E=some ⟨b,off,none⟩:=by rw [<-h.len];exact h.cells.addr
theorem IsM.cell {W:World} {E:Option Addr} {b off c n:Nat} {L:List Nat} (h:IsM W E b off c n L):∀k,k<n->W.cell? ⟨b,off+k,none⟩=some (.int .i64 ((dg L k:Nat):Int)):=by rw [<-h.len];exact h.cells.cell
def HiS (B:Nat) (v:Value):Prop:=∀(a:Addr) (n c:Nat),v=.slice (some a) n c->0<n->B<=a.block
def HiP (B:Nat) (v:Value):Prop:=∀b x,v=.agg #[b,x]->HiS B x
def HiR (B:Nat) (v:Value):Prop:=∀b x b' y,v=.agg #[b,x,b',y]->HiS B x/\HiS B y
theorem HiS.mono {B C:Nat} {v:Value} (h:HiS C v) (hB:B<=C):HiS B v:=fun a n c e E=>qak hB (h a n c e E)
theorem HiP.mono {B C:Nat} {v:Value} (h:HiP C v) (hB:B<=C):HiP B v:=fun b x e=>(h b x e).mono hB
theorem qou {W:World} {B e E n:Nat} {v:Value} {I:List Value} (h:W.ownsRow B e E v n I):HiS B v:=fun a m c F J=>by
 rcases h.2 with ⟨rfl,_⟩ | ⟨g,cap,cur,rfl,H,_⟩
 ·cases F
 ·cases F;exact H
def MagAt (W:World) (v:Value) (x:Nat):Prop:=∃(E:Option Addr) (b off c n:Nat) (L:List Nat),v=.slice E n c/\IsM W E b off c n L/\mval L=x
theorem MagAt.below {W W':World} {v:Value} {x:Nat} (h:MagAt W v x) (H:Below W.heap.size W W'):MagAt W' v x:=by
 obtain⟨ao,b,off,c,n,L,rfl,E,F⟩:=h;exact⟨ao,b,off,c,n,L,rfl,E.below H,F⟩
theorem MagAt.nil (W:World):MagAt W (.slice none 0 0) 0:=⟨none,0,0,0,0,[],rfl,⟨rfl,qad _,⟨fun h=>absurd h (by simp),fun k h=>absurd h (by simp)⟩,Dig.nil,qaw rfl⟩,rfl⟩
def Fit (x K:Nat):Prop:=x<10000 ^ K
theorem Fit.le {x y K:Nat} (h:Fit y K) (hx:x<=y):Fit x K:=qaU hx h
theorem Fit.mono {x K M:Nat} (h:Fit x K) (E:K<=M):Fit x M:=qai h (qaO (by decide) E)
theorem Fit.mul {x y K M:Nat} (h:Fit x K) (k:Fit y M):Fit (x*y) (K+M):=by
 unfold Fit at *;rw [Nat.pow_add];exact Nat.mul_lt_mul'' h k
theorem Fit.add {x y K:Nat} (h:Fit x K) (k:Fit y K):Fit (x+y) (K+1):=by
 unfold Fit at *;rw [qaF];omega
theorem Fit.len {W:World} {E:Option Addr} {b off c n:Nat} {L:List Nat} {K:Nat} (h:Fit (mval L) K) (k:IsM W E b off c n L):n<=K:=by
 rw [<-k.len];exact k.nrm.len h
def row64 (L:List Nat):List Value:=L.map fun (d:Nat)=>Value.int .i64 (d:Int)
theorem qdv (L:List Nat):(row64 L).length=L.length:=by unfold row64;exact qaD _
theorem qoL (L:List Nat) (k d:Nat):(row64 L).set k (.int .i64 (d:Int))=row64 (L.set k d):=by unfold row64;rw [List.map_set]
theorem qeu (L:List Nat) (k:Nat) (h:k<L.length):(row64 L)[k]? = some (.int .i64 ((dg L k:Nat):Int)):=by
 unfold row64 dg;rw [qaP,qd7 h];rfl
theorem qmI (L:List Nat) (d:Nat):row64 (L++[d])=row64 L++[.int .i64 (d:Int)]:=by unfold row64;rw [qbh];rfl
theorem made64 (n:Nat):(madeCells #[Value.int .i64 0] n).toList=row64 (List.replicate n 0):=by
 rw [toList_madeCells_one];unfold row64;rw [List.map_replicate];rfl
theorem qcP {W:World} {B e g n c:Nat} {L:List Nat} (h:W.ownsRow B e 1 (.slice (some ⟨g,0,none⟩) n c) n (row64 L)) (F:L.length=n):Cells W (some ⟨g,0,none⟩) g 0 L :=
 ⟨fun _=>rfl,fun k E=>by
  rw [qaT,h.cellAt k (by omega)];exact qeu L k E⟩
theorem qg1 {W:World} {B e g n c:Nat} {R:List Nat} (h:W.ownsRow B e 1 (.slice (some ⟨g,0,none⟩) n c) n (row64 R)) (k:Nat) {s:Int} (d:Nat) (E:s=(d:Int)) :
  (W.setCell ⟨g,k,none⟩ (.int .i64 s)).ownsRow B e 1 (.slice (some ⟨g,0,none⟩) n c) n (row64 (R.set k d)):=by
 have F:=(h.stored k (.int .i64 s)).1
 rwa [E,qoL,<-E] at F
theorem qfb {a b:World} {g:Nat} {F:Option Addr} {E off:Nat} {L:List Nat} (h:a.grownBy b (some g)) (H:Cells a F E off L) (hne:0<L.length->E≠g):Cells b F E off L :=
 ⟨H.addr,fun k I=>h.cell (H.cell k I) (fun e=>hne (by omega) (qag e))⟩
theorem qgV (W:World) (n:Nat) (e:TypeId):(W.alloc (.cells (madeCells #[.int .i64 0] n) e)).heap[W.heap.size]? = some (.cells (row64 (List.replicate n 0)).toArray e (0,0)):=by
 rw [<-made64,Array.toArray_toList];exact heap_alloc_new W _
theorem qiU {W:World} {B e g n:Nat} {L:List Nat} (h:W.heap[g]? = some (.cells (row64 L).toArray e (0,0))) (E:L.length=n) (hB:B<=g) (F:n<=maxLen):W.ownsRow B e 1 (.slice (some ⟨g,0,none⟩) n n) n (row64 L):=by
 refine⟨by rw [qdv];omega,.inr ⟨g,n,_,rfl,hB,h,qad _,F,by simp [qdv,E],?_⟩⟩
 show (row64 L).take (n*1)=row64 L
 exact qah (by rw [qdv];omega)
theorem qoK (L:List Nat):∀v∈row64 L,v.oneCell'=true:=by
 intro v E;unfold row64 at E;obtain⟨d,_,rfl⟩:=qbb.1 E
 rfl
theorem qkO {W:World} {B e n:Nat} {v:Value} {S:List Nat} (h:W.ownsRow B e 1 v n (row64 S)) (I:Dig S) (J:Nrm S):MagAt W v (mval S):=by
 rcases h.2 with ⟨rfl,rfl⟩ | ⟨g,c,cur,rfl,O,hg,E,U,V,Y⟩
 ·have H:S.length=0:=by have:=h.1;rw [qdv] at this;omega
  rw [qbk.1 H];exact MagAt.nil W
 ·have F:S.length=n:=by have:=h.1;rw [qdv] at this;omega
  exact⟨_,g,0,c,n,S,rfl,⟨F,E,qcP h F,I,J⟩,rfl⟩
open Go.Proofs.Tryz
theorem qnl (U:Option Addr) (b off c n:Nat) (L:List Nat) (w:World) (hn:L.length=n) (ae:n<=17592186044416) (hc:n<=c) (F:Cells w U b off L) :
  Calls prog 235 #[.slice U n c] w fun e w'=>∃m,e=.returned (.slice U m c)/\w'=w/\m<=n/\Zero L m/\(m=0\/L.getD (m-1) 0≠0):=by
 have I:Zero L n:=by rw [<-hn];exact Zero.all L
 obtain⟨V,E⟩:=F;rw [hn] at V E;have Ha:=qH V;have H:=qH E;have Hz:=qH I;clear V E I hn;go_enter func235,ntmps235;go_wp2
 go_loopw [3] (fun x3 W=>∃m:Nat,x3=.int .i64 m/\W=w/\m<=n/\Hu (Zero L m)) (fun x3 _=>(intOf x3).toNat)
 case atStart=>exact⟨n,rfl,rfl,qad _,Hz⟩
 case round =>
  obtain⟨m,rfl,rfl,hm,I⟩:=hrel
  by_cases aa:m=0
  ·subst aa;have Hm:=qH hm;clear hm;go_wp2;go_ret;exact⟨0,rfl,rfl,qaj _,I.o,qaw rfl⟩
  ·have af:(0:Int)<m:=by omega
   have Y:=Ha.o (by omega);subst Y;have Z:=H.o (m-1) (by omega);have e1:((m-1:Nat):Int)=(m:Int)-1:=by omega
   by_cases J:dg L (m-1)=0
   ·rw [J] at Z;have O:=qH J;clear J;go_wp2;go_roundw
    case rel=>exact⟨m-1,by rw [e1],trivial,by omega,qH (Zero.down (n:=m-1) (by rw [show m-1+1=m by omega];exact I.o) O.o)⟩
    case measure=>simp [intOf];omega
   ·have hne:¬((dg L (m-1):Nat):Int)=0:=by omega
    have O:=qH J;clear J;go_wp2;go_ret;exact⟨m,rfl,rfl,hm,I.o,qam O.o⟩
theorem qnm (H:Option Addr) (b off c n:Nat) (L:List Nat) (w:World) (Z:L.length=n) (I:n<=17592186044416) (V:n<=c) (E:Cells w H b off L) (Y:Dig L) :
  Calls prog 235 #[.slice H n c] w fun e w'=>∃v,e=.returned v/\w'=w/\MagAt w v (mval L)/\∀B,HiS B (.slice H n c)->HiS B v:=by
 refine (qnl H b off c n L w Z I V E).mono ?_;rintro e w' ⟨m,rfl,rfl,hm,U,F⟩;refine⟨_,rfl,rfl,⟨H,b,off,c,m,L.take m,rfl,⟨?_,by omega,E.take m,Y.take m,?_⟩,qcH U⟩,fun B h a k c' e F=>by cases e;exact h a n c rfl (by omega)⟩
 ·rw [qao];omega
 ·have O:(L.take m).length=m:=by rw [qao];omega
  rcases F with F | F
  ·exact qaw (by rw [O,F])
  ·right
   rw [O]
   by_cases J:m=0
   ·subst J;exact absurd (U _ (qaj _)) F
   ·rw [qaa,qbE (by omega),<-qaa];exact F
theorem qnk (H:Option Addr) (b off c n:Nat) (L:List Nat) (w:World) (Y:L.length=n) (F:n<=17592186044416) (U:n<=c) (E:Cells w H b off L) (V:Dig L) :
  Calls prog 235 #[.slice H n c] w fun e w'=>∃v,e=.returned v/\w'=w/\MagAt w v (mval L) :=
 (qnm H b off c n L w Y F U E V).mono fun _ _ ⟨v,I,J,O,_⟩=>⟨v,I,J,O⟩
def OrdAs (w:World) (x y:Nat) (e:Ending) (w':World):Prop:=∃r:Int,e=.returned (.int .i64 r)/\Below w.heap.size w w'/\(r<0↔x<y)/\(r=0↔x=y)
theorem OrdAs.lt {w w':World} {x y:Nat} {r:Int} (H:Below w.heap.size w w') (E:r<0) (F:x<y):OrdAs w x y (.returned (.int .i64 r)) w':=⟨r,rfl,H,⟨fun _=>F,fun _=>E⟩,⟨fun h=>by omega,fun h=>by omega⟩⟩
theorem OrdAs.gt {w w':World} {x y:Nat} {r:Int} (E:Below w.heap.size w w') (F:0<r) (H:y<x):OrdAs w x y (.returned (.int .i64 r)) w':=⟨r,rfl,E,⟨fun _=>by omega,fun _=>by omega⟩,⟨fun h=>by omega,fun h=>by omega⟩⟩
theorem qeW (x y:Nat) (K:Nat) (hK:K<=17592186044416) (vm vo:Value) (w:World) (hm:MagAt w vm x) (ho:MagAt w vo y) (hx:Fit x K) (hy:Fit y K) :
  Calls prog 176 #[vm,vo] w fun e w'=>OrdAs w x y e w':=by
 obtain⟨am,bm,om,cm,n,M,rfl,Im,rfl⟩:=hm;obtain⟨ao,bo,oo,co,no,O,rfl,Io,rfl⟩:=ho;have hn:n<=17592186044416:=qak (hx.len Im) hK;have ak:no<=17592186044416:=qak (hy.len Io) hK;have H:=qH Im;have I:=qH Io;clear Im Io hx hy hK
 by_cases hne:n=no
 ·subst hne;clear ak;go_enter func176,ntmps176;go_wp2
  go_loopw [5] (fun x5 W=>∃(k:Nat) (z:Int),k<=n/\x5=.int .i64 z/\Hu (z+1=k)/\Hu (M.drop k=O.drop k)/\Hu (Below w.heap.size w W)) (fun x5 _=>(intOf x5+1).toNat)
  case atStart=>exact⟨n,_,qad _,rfl,qH (by omega),qH (by rw [qaM (by rw [H.o.len];exact qad _),qaM (by rw [I.o.len];exact qad _)]),qH qB⟩
  case round =>
   obtain⟨k,z,hk,rfl,hz,hI,hB⟩:=hrel
   by_cases av:0<k
   ·obtain⟨j,rfl⟩:∃j,k=j+1:=⟨k-1,by omega⟩;obtain rfl:z=(j:Int):=by have:=hz.o;omega
    have au:(j:Int)<n:=by omega
    have ah:=H.o.addr (by omega);have ag:=I.o.addr (by omega);subst ah;subst ag;have ai:=(H.o.below hB.o).cell j (by omega);have aj:=(I.o.below hB.o).cell j (by omega);have Z:=H.o.len;have aa:=I.o.len;have V:=H.o.dig j;have Y:=I.o.dig j;obtain⟨d,J⟩:=qX (dg M j);obtain⟨e,U⟩:=qX (dg O j);have ae:dg M j<10000:=V;have af:dg O j<10000:=Y;rw [J] at ai ae;rw [U] at aj af;have e1:M[j]'(by omega)=d:=by rw [<-J];unfold dg;rw [qaa,qac (by omega)];rfl
    have e2:O[j]'(by omega)=e:=by rw [<-U];unfold dg;rw [qaa,qac (by omega)];rfl
    by_cases E:d=e
    ·have hb:((d:Int) != (e:Int))=false:=by simp [E]
     have F:=qH (show M.drop j=O.drop j by rw [qbg (show j<M.length by omega),qbg (show j<O.length by omega),e1,e2,E,hI.o]);clear e1 e2 J U E V Y Z aa;go_wp2_with fail
     go_quiet (fail)
     go_wp2;go_roundw
     case rel=>exact⟨j,_,by omega,rfl,qH (by omega),F,qH (below_drewN hB.o _)⟩
     case measure=>simp [intOf]
    ·have hb:((d:Int) != (e:Int))=true:=by rw [bne_iff_ne];omega
     rcases Nat.lt_or_gt_of_ne E with hlt | hgt
     ·have F:=qH (qeU M O j H.o.dig.mem (by omega) (by omega) (by rw [e1,e2];exact hlt) hI.o);clear e1 e2 J U E V Y Z aa;go_wp2_with fail
      go_quiet (fail)
      go_wp2_with fail
      go_quiet (fail)
      go_wp2;go_ret;exact OrdAs.lt (below_drewN (below_drewN hB.o _) _) (by omega) F.o
     ·have F:=qH (qeU O M j I.o.dig.mem (by omega) (by omega) (by rw [e1,e2];exact hgt) hI.o.symm);clear e1 e2 J U E V Y Z aa;go_wp2_with fail
      go_quiet (fail)
      go_wp2_with fail
      go_quiet (fail)
      go_wp2;go_ret;exact OrdAs.gt (below_drewN (below_drewN hB.o _) _) (by omega) F.o
   ·obtain rfl:k=0:=by omega
    obtain rfl:z = -1:=by have:=hz.o;omega
    have F:=qH (show mval M=mval O by have:=hI.o;simp only [List.drop_zero] at this;rw [this]);go_wp2;go_ret;exact⟨0,rfl,hB.o,⟨fun h=>by omega,fun h=>by have:=F.o;omega⟩,⟨fun _=>F.o,fun _=>rfl⟩⟩
 ·have hb:((n:Int) != (no:Int))=true:=by rw [bne_iff_ne];omega
  rcases Nat.lt_or_gt_of_ne hne with hlt | hgt
  ·have F:=qH (show mval M<mval O by
    have h1:=H.o.dig.lt;have h2:=I.o.nrm.ge (by rw [I.o.len];omega);rw [H.o.len] at h1;rw [I.o.len] at h2;have h3:10000 ^ n<=10000 ^ (no-1):=qaO (by decide) (by omega);omega)
   clear hne;go_enter func176,ntmps176;go_wp2;go_ret;exact OrdAs.lt qB (by omega) F.o
  ·have F:=qH (show mval O<mval M by
    have h1:=I.o.dig.lt;have h2:=H.o.nrm.ge (by rw [H.o.len];omega);rw [I.o.len] at h1;rw [H.o.len] at h2;have h3:10000 ^ no<=10000 ^ (n-1):=qaO (by decide) (by omega);omega)
   clear hne;go_enter func176,ntmps176;go_wp2;go_ret;exact OrdAs.gt qB (by omega) F.o
theorem qgo:(Tryz.prog.info? 3).map (fun i=>(i.zero,i.size,i.bytes))=some (some (.int .i64 0),1,8):=by kernel_rfl
def DigAt (W:World) (v:Value) (x N:Nat):Prop:=∃(E:Option Addr) (b off c n:Nat) (L:List Nat),v=.slice E n c/\L.length=n/\n<=c/\n<=N/\Cells W E b off L/\Dig L/\mval L=x
theorem DigAt.below {W W':World} {v:Value} {x N:Nat} (h:DigAt W v x N) (O:Below W.heap.size W W'):DigAt W' v x N:=by
 obtain⟨ao,b,off,c,n,L,rfl,E,F,H,I,J⟩:=h;exact⟨ao,b,off,c,n,L,rfl,E,F,H,I.below O,J⟩
theorem MagAt.digs {W:World} {v:Value} {x K:Nat} (h:MagAt W v x) (hx:Fit x K):DigAt W v x K:=by
 obtain⟨ao,b,off,c,n,L,rfl,E,rfl⟩:=h;exact⟨ao,b,off,c,n,L,rfl,E.len,E.cap,hx.len E,E.cells,E.dig,rfl⟩
theorem qdj {W:World} {B e n N:Nat} {v:Value} {S:List Nat} (h:W.ownsRow B e 1 v n (row64 S)) (H:Dig S) (hN:n<=N):DigAt W v (mval S) N:=by
 have E:S.length=n:=by have:=h.1;rw [qdv] at this;omega
 rcases h.2 with ⟨rfl,rfl⟩ | ⟨g,c,cur,rfl,I,hg,F,J,O,U⟩
 ·rw [qbk.1 E];exact⟨none,0,0,0,0,[],rfl,rfl,qad _,hN,⟨fun h=>absurd h (by simp),fun k h=>absurd h (by simp)⟩,Dig.nil,rfl⟩
 ·exact⟨_,g,0,c,n,S,rfl,E,F,hN,qcP h E,H,rfl⟩
theorem qfN (x N:Nat) (v:Value) (w:World) (h:DigAt w v x N) (hN:N<=17592186044416):Calls prog 235 #[v] w fun e w'=>∃u,e=.returned u/\w'=w/\MagAt w u x:=by
 obtain⟨ao,b,off,c,n,L,rfl,E,F,J,H,I,rfl⟩:=h;exact qnk ao b off c n L w E (by omega) F H I
theorem qko (x N:Nat) (v:Value) (w:World) (h:DigAt w v x N) (hN:N<=17592186044416):Calls prog 235 #[v] w fun e w'=>∃u,e=.returned u/\w'=w/\MagAt w u x/\∀B,HiS B v->HiS B u:=by
 obtain⟨ao,b,off,c,n,L,rfl,E,F,J,H,I,rfl⟩:=h;exact qnm ao b off c n L w E (by omega) F H I
theorem PlusInv.full {m o S:List Nat} {k c:Nat} (h:PlusInv m o k S c) (F:m.length<=k) (H:o.length<=k) (E:c=0):mval S=mval m+mval o:=by
 have:=h.val;rw [qah F,qah H,E] at this;omega
theorem PlusInv.full_digs {m o S:List Nat} {k c N B e:Nat} {W:World} {v:Value} (h:PlusInv m o k S c) (E:W.ownsRow B e 1 v k (row64 S)) (H:m.length<=k) (I:o.length<=k) (F:c=0) (hN:k<=N):DigAt W v (mval m+mval o) N:=by
 rw [<-h.full H I F];exact qdj E h.dig hN
theorem qiX {m o S:List Nat} {k c x y:Nat} (h:PlusInv m o k S c) (hx:dg m k=x) (hy:dg o k=y) (E:x<10000) (F:y<10000):PlusInv m o (k+1) (S++[(c+x+y) % 10000]) ((c+x+y) / 10000):=by
 have H:=h.carry;unfold dg at hx hy;exact h.step (by omega) (by omega) (by omega)
theorem qcG {I:Array Oper} {rest:List Oper} {o:Oper} {a:Act} {w:World} {Q:Exit->Act->World->Prop} (V:o.guard=none) (s x:Operand)
  (ho:o.op=.call { callee:=.builtin .append,args:=#[s,x],argTypes:=#[30,30] }) {U:World} {B:Nat} {v:Value} {n:Nat} {S:List Nat} {d:Nat}
  (hB:Below B U w) (ae:B=U.heap.size) (E:w.ownsRow B 3 1 v n (row64 S)) (hs:a.eval s=v) (hx:a.eval x=.slice (some ⟨w.heap.size,0,none⟩) 1 1) (hn:n<17592186044416) {z:Int} (hz:z=(d:Int))
  (h:∀O w',Hu (w'.ownsRow B 3 1 O (n+1) (row64 (S++[d])))->Hu (Below B U w')->wpList prog I Q rest (a.put o.dst O) w') :
  wpList prog I Q (o :: rest) a (w.alloc (.cells #[.int .i64 z] 3)):=by
 subst hz;obtain⟨i0,hi,Y,Z,aa⟩:=info_parts qgo;have af:=hB.size;refine wpList_append_own _ V s x 30 ho B 3 i0 (.int .i64 0) 1 8 underlying30 hi Y Z aa rfl (by decide) v n (row64 S) hs (E.alloc _) ⟨w.heap.size,0,none⟩ 1 1 [.int .i64 (d:Int)] hx rfl ?c1 ?c2 ?c3 ?c4 ?c5 ?_
 case c1 =>
  intro j u J
  match j,J with
  | 0,J=>simp at J;subst J;simp [Addr.add]
 case c2=>intro u hu;simp at hu;subst hu;rfl
 case c3=>unfold maxLen;omega
 case c4=>omega
 case c5=>simp;omega
 intro O w' H F _;refine h O w' (qH ?_) (qH ?_)
 ·rw [qmI];exact H
 ·exact (hB.alloc (by omega) _).grown F (by simp;omega) (fun k hk=>(E.lt k hk).1)
theorem qkX (x y K:Nat) (hK:K<=17592186040000) (vm vo:Value) (w:World) (hm:DigAt w vm x K) (ho:DigAt w vo y K) :
  Calls prog 175 #[vm,vo] w fun e w'=>∃v,e=.returned v/\Below w.heap.size w w'/\DigAt w' v (x+y) (K+1):=by
 obtain⟨i0,hi,ah,ai,aj⟩:=info_parts qgo;obtain⟨am,bm,om,cm,n,M,rfl,lm,av,hn,CM,DM,rfl⟩:=hm;obtain⟨ao,bo,oo,co,no,O,rfl,lo,ax,az,CO,DO,rfl⟩:=ho;have H:=qH (qA lm (qA CM DM));have I:=qH (qA lo (qA CO DO));have Hz:=qH (qA hi (qA ah (qA ai aj)));clear CM CO DM DO ah ai aj hi lm lo;go_enter func175,ntmps175;go_wp2
 go_loopw [5,6,7] (fun x5 x6 x7 W=>∃(k c:Nat) (S:List Nat),k<=K+1/\(k<=n\/k<=no\/c=0)/\(k=K+1->c=0)/\c<=1/\x7=.int .i64 k/\x6=.int .i64 c/\Hu (PlusInv M O k S c)/\Hu (W.ownsRow w.heap.size 3 1 x5 k (row64 S))/\Hu (Below w.heap.size w W)) (fun _ _ x7 _=>K+1-(intOf x7).toNat)
 case atStart=>exact⟨0,0,[],qaj _,qaw (qaj _),fun _=>rfl,qaj _,rfl,rfl,qH (PlusInv.start M O),qH (World.ownsRow_nil _ _ _ _),qH qB⟩
 case round =>
  obtain⟨k,c,S,hk,ag,af,ay,rfl,rfl,hI,hO,hB⟩:=hrel;have au:=hB.o.size
  by_cases h1:k<n
  ·by_cases h2:k<no
   ·have Z:=H.o.2.1.addr (by rw [H.o.1];omega);subst Z;have aa:=(H.o.2.1.below hB.o).cell k (by rw [H.o.1];omega);have J:dg M k<10000:=H.o.2.2 k;have Y:=I.o.2.1.addr (by rw [I.o.1];omega);subst Y;have ae:=(I.o.2.1.below hB.o).cell k (by rw [I.o.1];omega);have U:dg O k<10000:=I.o.2.2 k;obtain⟨x,hx⟩:=qX (dg M k);obtain⟨y,hy⟩:=qX (dg O k);rw [hx] at J aa;rw [hy] at U ae;have hP:=qH (qiX hI.o hx hy (by omega) (by omega));have V:=tmodB (c+x+y) _ rfl;have he:((c+x+y:Nat):Int)=(c:Int)+x+y:=by omega
    rw [he] at V;clear hx hy he ag af
    go_wp2_with (first | (at_builtin;refine qcG rfl _ _ rfl hB.o rfl hO.o rfl rfl (by omega) V ?_;intro v' w' F E) | fail)
    go_roundw
    case rel=>exact⟨k+1,(c+x+y) / 10000,S++[(c+x+y) % 10000],by omega,by omega,fun h=>by omega,by omega,rfl,congrArg (Value.int .i64) (by omega),hP,F,E⟩
    case measure=>simp [intOf];omega
   ·have Z:=H.o.2.1.addr (by rw [H.o.1];omega);subst Z;have aa:=(H.o.2.1.below hB.o).cell k (by rw [H.o.1];omega);have J:dg M k<10000:=H.o.2.2 k;have U:dg O k=0:=qc4 (by rw [I.o.1];omega);obtain⟨x,hx⟩:=qX (dg M k);obtain⟨y,hy⟩:=qX (dg O k);rw [hx] at J aa;rw [hy] at U;subst U;have hP:=qH (qiX hI.o hx hy (by omega) (by omega));have V:=tmodB (c+x) _ rfl;have he:((c+x:Nat):Int)=(c:Int)+x:=by omega
    rw [he] at V;clear hx hy he ag af
    go_wp2_with (first | (at_builtin;refine qcG rfl _ _ rfl hB.o rfl hO.o rfl rfl (by omega) V ?_;intro v' w' F E) | fail)
    go_roundw
    case rel=>exact⟨k+1,(c+x) / 10000,S++[(c+x) % 10000],by omega,by omega,fun h=>by omega,by omega,rfl,congrArg (Value.int .i64) (by omega),qH (by have:=hP.o;simpa only [qbt] using this),F,E⟩
    case measure=>simp [intOf];omega
  ·by_cases h2:k<no
   ·have J:dg M k=0:=qc4 (by rw [H.o.1];omega);have Y:=I.o.2.1.addr (by rw [I.o.1];omega);subst Y;have ae:=(I.o.2.1.below hB.o).cell k (by rw [I.o.1];omega);have U:dg O k<10000:=I.o.2.2 k;obtain⟨x,hx⟩:=qX (dg M k);obtain⟨y,hy⟩:=qX (dg O k);rw [hx] at J;rw [hy] at U ae;subst J;have hP:=qH (qiX hI.o hx hy (by omega) (by omega));have V:=tmodB (c+y) _ rfl;have he:((c+y:Nat):Int)=(c:Int)+y:=by omega
    rw [he] at V;clear hx hy he ag af
    go_wp2_with (first | (at_builtin;refine qcG rfl _ _ rfl hB.o rfl hO.o rfl rfl (by omega) V ?_;intro v' w' F E) | fail)
    go_roundw
    case rel=>exact⟨k+1,(c+y) / 10000,S++[(c+y) % 10000],by omega,by omega,fun h=>by omega,by omega,rfl,congrArg (Value.int .i64) (by omega),qH (by have:=hP.o;simpa only [qbt] using this),F,E⟩
    case measure=>simp [intOf];omega
   ·by_cases h3:c=0
    ·subst h3;go_wp2;go_ret;exact⟨_,rfl,hB.o,hI.o.full_digs hO.o (by rw [H.o.1];omega) (by rw [I.o.1];omega) rfl (by omega)⟩
    ·have ak:c=1:=by omega
     subst ak;have hd:PlusInv M O (k+1) (S++[1]) 0:=hI.o.step (by decide) (by decide) (by rw [qc4 (by rw [H.o.1];omega),qc4 (by rw [I.o.1];omega)])
     go_wp2_with (first | (at_builtin;refine qcG (d:=1) rfl _ _ rfl hB.o rfl hO.o rfl rfl (by omega) rfl ?_;intro v' w' F E) | fail)
     go_roundw
     case rel=>exact⟨k+1,0,S++[1],by omega,qam (qam rfl),fun _=>rfl,by decide,rfl,rfl,qH hd,F,E⟩
     case measure=>simp [intOf];omega
structure DiffInv (m o:List Nat) (k:Nat) (L:List Nat) (b:Nat):Prop where
 len:L.length=k
 dig:Dig L
 borrow:b<=1
 val:mval L+mval (o.take k)=mval (m.take k)+10000 ^ k*b
theorem DiffInv.start (m o:List Nat):DiffInv m o 0 [] 0:=⟨rfl,Dig.nil,by decide,by simp [mval]⟩
theorem DiffInv.step {m o L:List Nat} {k b s b' x y:Nat} (h:DiffInv m o k L b) (hx:dg m k=x) (hy:dg o k=y) (F:s<10000) (E:b'<=1) (e:s+b+y=x+10000*b'):DiffInv m o (k+1) (L++[s]) b':=by
 subst hx hy;refine⟨by rw [qaf,h.len];rfl,h.dig.snoc F,E,?_⟩;have H:=h.val;rw [qc1,h.len,qb8,qb8,qaF];exact qf7 H e
theorem DiffInv.done {m o L:List Nat} {b:Nat} (h:DiffInv m o m.length L b) (J:Nrm o) (I:Dig m) (E:mval o<=mval m):mval L=mval m-mval o:=by
 have O:=h.val;have F:o.length<=m.length:=J.len (qaU E I.lt);rw [qah qN,qah F] at O;have H:=h.dig.lt;rw [h.len] at H;have U:=h.borrow;rcases (show b=0\/b=1 by omega) with rfl | rfl
 ·omega
 ·omega
theorem DiffInv.digs {m o S:List Nat} {b n B e K:Nat} {W:World} {v:Value} (h:DiffInv m o n S b) (J:m.length=n) (H:W.ownsRow B e 1 v n (row64 S)) (O:Nrm o) (I:Dig m) (E:mval o<=mval m) (F:n<=K):DigAt W v (mval m-mval o) K:=by
 subst J;rw [<-h.done O I E];exact qdj H h.dig F
theorem qei (x y K:Nat) (hK:K<=17592186040000) (vm vo:Value) (w:World) (hm:MagAt w vm x) (ho:MagAt w vo y) (hx:Fit x K) (I:y<=x) :
  Calls prog 177 #[vm,vo] w fun e w'=>∃v,e=.returned v/\Below w.heap.size w w'/\MagAt w' v (x-y):=by
 obtain⟨am,bm,om,cm,n,M,rfl,Y,rfl⟩:=hm;obtain⟨ao,bo,oo,co,no,O,rfl,Io,rfl⟩:=ho;have hn:n<=K:=hx.len Y;have ax:no<=n:=by rw [<-Io.len,<-Y.len];exact Io.nrm.len (qaU I Y.dig.lt)
 have U:=qH Y;have V:=qH Io;have ae:=qH I;clear Y Io hx I;go_enter func177,ntmps177;go_wp2
 go_loopw [5,6,7,8] (fun x5 x6 x7 x8 W=>∃(k b:Nat) (S:List Nat),k<=n/\b<=1/\x7=.int .i64 k/\x6=.int .i64 b/\Hu (DiffInv M O k S b)/\Hu (W.ownsRow w.heap.size 3 1 x5 k (row64 S))/\Hu (Below w.heap.size w W)) (fun _ _ x7 _ _=>n-(intOf x7).toNat)
 case atStart=>exact⟨0,0,[],qaj _,qaj _,rfl,rfl,qH (DiffInv.start M O),qH (World.ownsRow_nil _ _ _ _),qH qB⟩
 case round =>
  obtain⟨k,b,S,hk,av,rfl,rfl,Z,hO,hB⟩:=hrel;have au:=hB.o.size
  by_cases h1:k<n
  ·have ag:=U.o.addr (by omega);subst ag;have ah:=(U.o.below hB.o).cell k (by omega);have aj:dg M k<10000:=U.o.dig k;obtain⟨x,hx⟩:=qX (dg M k);rw [hx] at aj ah
   by_cases h2:k<no
   ·have af:=V.o.addr (by omega);subst af;have ai:=(V.o.below hB.o).cell k (by omega);have ak:dg O k<10000:=V.o.dig k;obtain⟨y,hy⟩:=qX (dg O k);rw [hy] at ak ai
    by_cases aa:(x:Int)-b-y<0
    ·have H:=qH (Z.o.step (s:=x+10000-b-y) (b':=1) hx hy (by omega) (by decide) (by omega));have e1:(x:Int)-b-y+10000=((x+10000-b-y:Nat):Int):=by omega
     clear hx hy
     go_wp2_with (first | (at_builtin;refine qcG rfl _ _ rfl hB.o rfl hO.o rfl rfl (by omega) rfl ?_;intro v' w' F E) | fail)
     go_roundw
     case rel=>exact⟨k+1,1,_,by omega,by decide,rfl,rfl,H,F,E⟩
     case measure=>simp [intOf];omega
    ·have H:=qH (Z.o.step (s:=x-b-y) (b':=0) hx hy (by omega) (by decide) (by omega));have e1:(x:Int)-b-y=((x-b-y:Nat):Int):=by omega
     have J:0<=(x:Int)-b-y:=by omega
     clear hx hy
     go_wp2_with (first | (at_builtin;refine qcG rfl _ _ rfl hB.o rfl hO.o rfl rfl (by omega) rfl ?_;intro v' w' F E) | fail)
     go_roundw
     case rel=>exact⟨k+1,0,_,by omega,by decide,rfl,rfl,H,F,E⟩
     case measure=>simp [intOf];omega
   ·have hy:dg O k=0:=qc4 (by rw [V.o.len];omega)
    by_cases aa:(x:Int)-b<0
    ·have H:=qH (Z.o.step (s:=x+10000-b) (b':=1) hx hy (by omega) (by decide) (by omega));have e1:(x:Int)-b+10000=((x+10000-b:Nat):Int):=by omega
     clear hx hy
     go_wp2_with (first | (at_builtin;refine qcG rfl _ _ rfl hB.o rfl hO.o rfl rfl (by omega) rfl ?_;intro v' w' F E) | fail)
     go_roundw
     case rel=>exact⟨k+1,1,_,by omega,by decide,rfl,rfl,H,F,E⟩
     case measure=>simp [intOf];omega
    ·have H:=qH (Z.o.step (s:=x-b) (b':=0) hx hy (by omega) (by decide) (by omega));have e1:(x:Int)-b=((x-b:Nat):Int):=by omega
     have J:0<=(x:Int)-b:=by omega
     clear hx hy
     go_wp2_with (first | (at_builtin;refine qcG rfl _ _ rfl hB.o rfl hO.o rfl rfl (by omega) rfl ?_;intro v' w' F E) | fail)
     go_roundw
     case rel=>exact⟨k+1,0,_,by omega,by decide,rfl,rfl,H,F,E⟩
     case measure=>simp [intOf];omega
  ·obtain rfl:k=n:=by omega
   have HD:=qH (Z.o.digs U.o.len hO.o V.o.nrm U.o.dig ae.o hn)
   go_wp2_with (first | (go_at_call 235;refine (qfN _ K _ _ HD.o (by omega)).mono ?_;rintro e w1 ⟨u,rfl,rfl,hu⟩) | fail)
   go_ret;exact⟨_,rfl,hB.o,hu⟩
