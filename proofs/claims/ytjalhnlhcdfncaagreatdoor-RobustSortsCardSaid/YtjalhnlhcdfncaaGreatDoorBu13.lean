import Derived.Test.YtjalhnlhcdfncaaGreatDoorBu12
set_option maxRecDepth 100000
set_option maxHeartbeats 0
namespace Go.Proofs.YtjalhnlhcdfncaaGreatDoor
def sel {α:Type} (a:α) (P:Nat->α):Nat->α
 | 0=>a
 | s+1=>P s
def BR (k:Nat) (P:Nat->Nat->Int) (σ:Nat->Nat) (a:Nat->Int) (j:Nat):Int:=det (k+1) fun r x=>sel a P r (sel j σ x)
def DR (k:Nat) (P:Nat->Nat->Int) (σ:Nat->Nat):Int:=det k fun r x=>P r (σ x)
theorem qjp (P:Nat->Nat->Int) (σ:Nat->Nat) (a:Nat->Int) (j:Nat):BR 0 P σ a j=a j:=by
 show sumN 1 _=_
 show 0+sg 0*a j*1=a j
 rw [sg0];omega
theorem qeb {k:Nat} {P:Nat->Nat->Int} {σ:Nat->Nat} (I:DR k P σ≠0) (a p:Nat->Int) (c j:Nat) :
  BR k P σ a j*BR k P σ p c-BR k P σ a c*BR k P σ p j=DR k P σ*BR (k+1) (sel p P) (sel c σ) a j:=by
 have h:=qnN k (fun r x=>sel a (sel p P) r (sel j (sel c σ) x)) I;have E:bord k (fun r x=>sel a (sel p P) r (sel j (sel c σ) x)) 0 0=BR k P σ a j:=by
  unfold bord BR
  congr 1;funext r x
  cases r <;> cases x <;> rfl
 have H:bord k (fun r x=>sel a (sel p P) r (sel j (sel c σ) x)) 1 1=BR k P σ p c:=by
  unfold bord BR
  congr 1;funext r x
  cases r <;> cases x <;> rfl
 have F:bord k (fun r x=>sel a (sel p P) r (sel j (sel c σ) x)) 0 1=BR k P σ a c:=by
  unfold bord BR
  congr 1;funext r x
  cases r <;> cases x <;> rfl
 have G:bord k (fun r x=>sel a (sel p P) r (sel j (sel c σ) x)) 1 0=BR k P σ p j:=by
  unfold bord BR
  congr 1;funext r x
  cases r <;> cases x <;> rfl
 rw [E,H,F,G] at h;exact h
theorem qjq (k:Nat) (P:Nat->Nat->Int) (σ:Nat->Nat) (p:Nat->Int) (c:Nat):DR (k+1) (sel p P) (sel c σ)=BR k P σ p c:=rfl
theorem qhL (k:Nat) (P:Nat->Nat->Int) (σ:Nat->Nat) (a:Nat->Int) (j:Nat) (h:∀s,s<k->a (σ s)=0):BR k P σ a j=DR k P σ*a j:=by
 show sumN (k+1) (fun x=>sg x*sel a P 0 (sel j σ x)*det k fun r c=>sel a P (r+1) (sel j σ (skip x c)))=_
 rw [qfJ k _ fun i E=>by
  show sg (i+1)*a (σ i)*_=0
  rw [h i E,qbK,Int.zero_mul]]
 have e:(fun r c=>sel a P (r+1) (sel j σ (skip 0 c)))=fun r x=>P r (σ x):=by
  funext r c;rw [qdT];rfl
 rw [e,sg0,Int.one_mul,qbm];rfl
abbrev castM (M:Nat->Nat->Int):Nat->Nat->Rat:=fun i j=>(M i j:Rat)
def qca (f:Nat->Bool) (M:Nat->Nat->Int) (p c:Nat) (D:Int):Nat->Nat->Int:=fun i=>if f i=true/\i≠p then fun j=>(M p c*M i j-M i c*M p j).tdiv D else M i
theorem qje {f:Nat->Bool} {R n p c:Nat} {M:Nat->Nat->Int} {D:Int} (U:p<R) (V:D≠0) (Z:M p c≠0) (hx:∀i,i<R->f i=true->i≠p->∀j,j<n->D∣M p c*M i j-M i c*M p j):qdj R R n (castM M) (castM (qca f M p c D)):=by
 have Y:(D:Rat)≠0:=by exact_mod_cast V
 have aa:(M p c:Rat)≠0:=by exact_mod_cast Z
 have G:∀i,i<R->f i=true->i≠p->∀j,j<n->(D:Rat)*((qca f M p c D i j:Int):Rat)=M p c*M i j-M i c*M p j:=by
  intro i F O I j J;have e:qca f M p c D i j=(M p c*M i j-M i c*M p j).tdiv D:=by unfold qca;rw [if_pos ⟨O,I⟩]
  have:=Int.mul_tdiv_cancel' (hx i F O I j J);rw [e]
  exact_mod_cast this
 have E:∀i,¬(f i=true/\i≠p)->qca f M p c D i=M i:=fun i h=>by unfold qca;rw [if_neg h]
 have H:qca f M p c D p=M p:=E p (fun h=>h.2 rfl);refine⟨fun i F=>?_,fun i F=>?_⟩
 ·by_cases h:f i=true/\i≠p
  ·refine Span.congr (Span.comb (Span.row (A:=castM (qca f M p c D)) F) (Span.row (A:=castM (qca f M p c D)) U) ((D:Rat) / M p c) ((M i c:Rat) / M p c)) (fun _ _ _ _=>rfl) fun j J=>?_
   have:=G i F h.1 h.2 j J
   show (D:Rat) / M p c*((qca f M p c D i j:Int):Rat)+(M i c:Rat) / M p c*((qca f M p c D p j:Int):Rat)=(M i j:Rat)
   rw [H]
   grind
  ·have:=Span.row (R:=R) (n:=n) (A:=castM (qca f M p c D)) (i:=i) F;exact Span.congr this (fun _ _ _ _=>rfl) fun j _=>by show ((qca f M p c D i j:Int):Rat)=_;rw [E i h]
 ·by_cases h:f i=true/\i≠p
  ·refine Span.congr (Span.comb (Span.row (A:=castM M) F) (Span.row (A:=castM M) U) ((M p c:Rat) / D) (-(M i c:Rat) / D)) (fun _ _ _ _=>rfl) fun j J=>?_
   have:=G i F h.1 h.2 j J
   show (M p c:Rat) / D*(M i j:Rat) + -(M i c:Rat) / D*(M p j:Rat)=((qca f M p c D i j:Int):Rat)
   grind
  ·have:=Span.row (R:=R) (n:=n) (A:=castM M) (i:=i) F;exact Span.congr this (fun _ _ _ _=>rfl) fun j _=>by show (M i j:Rat)=((qca f M p c D i j:Int):Rat);rw [E i h]
def qcd {α:Type} (M:Nat->α) (k a:Nat):Nat->α:=fun j=>if j=k then M a else if j=a then M k else M j
theorem qjf {R n k a:Nat} {M:Nat->Nat->Int} (I:k<R) (H:a<R):qdj R R n (castM M) (castM (qcd M k a)):=by
 have row:∀i l,i<R->qcd M k a i=M l->Span R n (castM (qcd M k a)) (castM M l):=fun i l G h =>
  Span.congr (Span.row (R:=R) (n:=n) (A:=castM (qcd M k a)) (i:=i) G) (fun _ _ _ _=>rfl) fun j _=>by show ((qcd M k a i j:Int):Rat)=_;rw [h]
 have E:∀i l,l<R->qcd M k a i=M l->Span R n (castM M) (castM (qcd M k a) i):=fun i l J h =>
  Span.congr (Span.row (R:=R) (n:=n) (A:=castM M) (i:=l) J) (fun _ _ _ _=>rfl) fun j _=>by show (M l j:Rat)=((qcd M k a i j:Int):Rat);rw [h]
 refine⟨fun i G=>?_,fun i G=>?_⟩
 ·by_cases e:i=k
  ·subst e
   by_cases F:a=i
   ·subst F;exact row a a H (by unfold qcd;rw [if_pos rfl])
   ·exact row a i H (by unfold qcd;rw [if_neg F,if_pos rfl])
  ·by_cases F:i=a
   ·subst F;exact row k i I (by unfold qcd;rw [if_pos rfl])
   ·exact row i i G (by unfold qcd;rw [if_neg e,if_neg F])
 ·by_cases e:i=k
  ·exact E i a H (by unfold qcd;rw [if_pos e])
  ·by_cases F:i=a
   ·exact E i k I (by unfold qcd;rw [if_neg e,if_pos F])
   ·exact E i i G (by unfold qcd;rw [if_neg e,if_neg F])
theorem qj2 {α:Type} {M:Nat->α} {k a i:Nat} (F:i<k) (E:k<=a):qcd M k a i=M i:=by unfold qcd;rw [if_neg (by omega),if_neg (by omega)]
structure ElimSt (R n k:Nat) (D:Int) (M A:Nat->Nat->Int):Prop where
 span:qdj R R n (castM M) (castM A)
 dets:∃(P:Nat->Nat->Int) (σ:Nat->Nat) (a:Nat->Nat->Int),DR k P σ=D/\(∀s,s<k->σ s<k)/\(∀i,k<=i->i<R->∀j,j<n->M i j=BR k P σ (a i) j) /\
  ∀i,i<k->∀j,j<n->M i j=D*(if j=i then 1 else 0)-BR k P σ (fun x=>if x=i then 1 else 0) j
 diag:∀i,i<R->∀c,c<k->M i c=if i=c then D else 0
 nz:D≠0
theorem ElimSt.start (R n:Nat) (A:Nat->Nat->Int):ElimSt R n 0 1 A A :=
 ⟨qdj.refl _ _ _,⟨fun _ _=>0,fun _=>0,A,rfl,fun s G=>absurd G (by omega),fun i _ _ j _=>(qjp _ _ _ _).symm,fun i E=>absurd E (by omega)⟩,fun _ _ j F=>absurd F (by omega),by decide⟩
theorem ElimSt.swap {R n k a:Nat} {D:Int} {M A:Nat->Nat->Int} (h:ElimSt R n k D M A) (U:k<=a) (H:a<R):ElimSt R n k D (qcd M k a) A:=by
 have O:k<R:=by omega
 refine⟨(qjf O H).symm.trans h.span,?_,?_,h.nz⟩
 ·obtain⟨P,σ,b,V,hσ,I,hl⟩:=h.dets;refine⟨P,σ,qcd b k a,V,hσ,fun i F Y j G=>?_,fun i F j G=>by rw [qj2 F U];exact hl i F j G⟩;unfold qcd
  by_cases e:i=k
  ·rw [if_pos e,if_pos e];exact I a U H j G
  ·by_cases E:i=a
   ·rw [if_neg e,if_neg e,if_pos E,if_pos E];exact I k qN O j G
   ·rw [if_neg e,if_neg e,if_neg E,if_neg E];exact I i F Y j G
 ·intro i F c J;have Z:=h.diag i F c J;unfold qcd
  by_cases e:i=k
  ·rw [if_pos e,h.diag a H c J,if_neg (by omega),if_neg (by omega)]
  ·by_cases E:i=a
   ·rw [if_neg e,if_pos E,h.diag k O c J,if_neg (by omega),if_neg (by omega)]
   ·rw [if_neg e,if_neg E,Z]
theorem ElimSt.next {R n k:Nat} {D:Int} {M A:Nat->Nat->Int} (h:ElimSt R n k D M A) (hk:k<R) (V:k<n) (h0:M k k≠0):ElimSt R n (k+1) (M k k) (qca (fun _=>true) M k k D) A:=by
 obtain⟨P,σ,b,Z,hσ,hb,hl⟩:=h.dets;have O:DR k P σ≠0:=by rw [Z];exact h.nz
 have U:∀j,j<n->M k j=BR k P σ (b k) j:=hb k qN hk;have H:∀i,i≠k->∀j,qca (fun _=>true) M k k D i j=(M k k*M i j-M i k*M k j).tdiv D:=fun i G j=>by
  unfold qca;rw [if_pos ⟨rfl,G⟩]
 have I:qca (fun _=>true) M k k D k=M k:=by unfold qca;rw [if_neg (fun h=>h.2 rfl)]
 have aa:∀i,k<i->i<R->∀j,j<n->M k k*M i j-M i k*M k j=D*BR (k+1) (sel (b k) P) (sel k σ) (b i) j:=fun i G hR j F=>by
  have:=qeb O (b i) (b k) k j;rw [Z,<-hb i (by omega) hR j F,<-U k V,<-hb i (by omega) hR k V,<-U j F] at this;rw [<-this,qbm (M i j)]
 have ae:∀i,i<k->∀j,j<n->M k k*M i j-M i k*M k j=D*(M k k*(if j=i then 1 else 0)-BR (k+1) (sel (b k) P) (sel k σ) (fun x=>if x=i then 1 else 0) j):=fun i G j F=>by
  have:=qeb O (fun x=>if x=i then 1 else 0) (b k) k j;rw [Z,<-U k V,<-U j F] at this;rw [hl i G j F,hl i G k V,if_neg (by omega:¬k=i),Int.mul_sub D,<-this];generalize BR k P σ (fun x=>if x=i then 1 else 0) j=X;generalize BR k P σ (fun x=>if x=i then 1 else 0) k=Y;generalize (if j=i then (1:Int) else 0)=E;rw [qbK,Int.zero_sub,qbI,Int.sub_neg,Int.mul_sub,qbm X,Int.mul_left_comm (M k k) D];omega
 have ag:∀j,j<n->M k j=M k k*(if j=k then 1 else 0)-BR (k+1) (sel (b k) P) (sel k σ) (fun x=>if x=k then 1 else 0) j:=fun j F=>by
  have:=qeb O (fun x=>if x=k then 1 else 0) (b k) k j;rw [Z,<-U k V,<-U j F,qhL k P σ _ j (fun s hs=>if_neg (by have:=hσ s hs;omega)),qhL k P σ _ k (fun s hs=>if_neg (by have:=hσ s hs;omega)),Z,if_pos rfl] at this;have e:D*(M k k*(if j=k then 1 else 0)-M k j)=D*BR (k+1) (sel (b k) P) (sel k σ) (fun x=>if x=k then 1 else 0) j:=by
   rw [<-this,Int.mul_sub,Int.mul_one];generalize (if j=k then (1:Int) else 0)=E;rw [qbD,qbm E]
  have:=Int.eq_of_mul_eq_mul_left h.nz e;omega
 refine⟨(qje hk h.nz h0 fun i G _ af j F=>?_).symm.trans h.span,⟨sel (b k) P,sel k σ,b,by rw [qjq];exact (U k V).symm,?_,fun i G hR j F=>?_,fun i G j F=>?_⟩,fun i G c ah=>?_,h0⟩
 ·rcases Nat.lt_or_gt_of_ne af with e | e
  ·exact⟨_,ae i e j F⟩
  ·exact⟨_,aa i e G j F⟩
 ·intro s hs;cases s with
  | zero=>show k<k+1;omega
  | succ s=>show σ s<k+1;have:=hσ s (by omega);omega
 ·rw [H i (by omega) j,aa i (by omega) hR j F,Int.mul_tdiv_cancel_left _ h.nz]
 ·by_cases e:i=k
  ·subst e;rw [I];exact ag j F
  ·rw [H i e j,ae i (by omega) j F,Int.mul_tdiv_cancel_left _ h.nz]
 ·by_cases e:i=k
  ·subst e;rw [I]
   by_cases J:i=c
   ·rw [if_pos J,J]
   ·rw [if_neg J,h.diag i G c (by omega),if_neg J]
  ·rw [H i e c]
   by_cases J:c=k
   ·subst J;rw [if_neg e,qbm,Int.sub_self];exact Int.zero_tdiv _
   ·rw [h.diag i G c (by omega),h.diag k hk c (by omega),if_neg (fun h:k=c=>J h.symm),qbK,Int.sub_zero]
    by_cases e3:i=c
    ·rw [if_pos e3,if_pos e3,Int.mul_tdiv_cancel _ h.nz]
    ·rw [if_neg e3,if_neg e3,qbK];exact Int.zero_tdiv _
open Go.RowKit Go.Proofs.Tryz
def KK (K k:Nat):Nat:=(K+1)*2 ^ k-1
theorem qlT (K:Nat):KK K 0=K:=by unfold KK;rw [Nat.pow_zero,qbO];omega
theorem qlS (K k:Nat):KK K (k+1)=KK K k+KK K k+1:=by
 unfold KK;have h:0<(K+1)*2 ^ k:=qbW (by omega) (Nat.pow_pos (by decide));rw [qaH,<-qaw];omega
theorem KK_le {K k:Nat} (I:K<=33554430) (H:k<=10):KK K k<=34359738368:=by
 unfold KK;have E:2 ^ k<=2 ^ 10:=qa9 (by decide) H;have F:(K+1)*2 ^ k<=(K+1)*2 ^ 10:=qaJ _ E;have G:(2:Nat) ^ 10=1024:=by decide
 rw [G] at F;omega
theorem fit_step {a b c d z:Int} {K:Nat} (G:Fit a.natAbs K) (H:Fit b.natAbs K) (I:Fit c.natAbs K) (J:Fit d.natAbs K):Fit ((a*b-c*d).tdiv z).natAbs (K+K+1):=by
 have E:=G.mul H;have F:=I.mul J;rw [<-qaK] at E F;refine ((E.add F).le ?_);refine qal ?_ (show (a*b-c*d).natAbs<=_ by omega);rw [Int.natAbs_tdiv];exact qaV _ _
theorem swap_fit {M:Nat->Nat->Int} {k a R n K:Nat} (H:k<R) (F:a<R) (h:∀i,i<R->∀j,j<n->Fit (M i j).natAbs K):∀i,i<R->∀j,j<n->Fit (qcd M k a i j).natAbs K:=by
 intro i G j E;unfold qcd;split
 ·exact h a F j E
 ·split
  ·exact h k H j E
  ·exact h i G j E
def qcj (W:World) (g:Nat) (z:Int):Prop:=∃(a:Option Addr) (m c:Nat) (b:Bool),W.heap[g]? = some (.cells #[.slice a m c,.bool b] 217 (0,0))/\IntAt W (.agg #[.slice a m c,.bool b]) z
theorem qcj.below {W W':World} {g:Nat} {z:Int} (h:qcj W g z) (F:Below W.heap.size W W'):qcj W' g z:=by
 obtain⟨a,m,c,b,E,G⟩:=h;exact⟨a,m,c,b,(F.block _ (qG E).1).trans E,G.below F⟩
theorem qcj.keep {W W':World} {g F R n:Nat} {I:Nat->Nat} {z:Int} (h:qcj W g z) (G:W.grownBy W' (some F)) (H:W.heap[F]? = some (.cells (rowvs R n I).toArray 212 (0,0))):qcj W' g z:=by
 obtain⟨a,m,c,b,E,x,e,J⟩:=h;have hne:g≠F:=by
  intro e;subst e;have:=E.symm.trans H;simp at this
 exact⟨a,m,c,b,(G.block _ (qG E).1 (fun e=>hne (qag e))).trans E,x,e,qcq J G H qgV⟩
theorem qkm {a:Option Addr} {m c:Nat} {b:Bool}:∀x∈(#[.slice a m c,.bool b]:Array Value).toList,∀d,x≠.int .u32 d:=by
 intro x hx d e;rcases qav.1 hx with h | h
 ·rw [h] at e;cases e
 ·rw [qan.1 h] at e;cases e
theorem qd8 (W:World) (g:Nat) (u v:Value):W.grownBy ((W.setCell ⟨g,0,none⟩ u).setCell ⟨g,1,none⟩ v) (some g):=qbX (qb0 W g 0 u) (qb0 _ g 1 v)
theorem qcj.put {W:World} {g:Nat} {z0 z:Int} {a:Option Addr} {m c:Nat} {b:Bool} (h:qcj W g z0) (F:IntAt W (.agg #[.slice a m c,.bool b]) z):qcj ((W.setCell ⟨g,0,none⟩ (.slice a m c)).setCell ⟨g,1,none⟩ (.bool b)) g z:=by
 obtain⟨a0,m0,c0,b0,E,_⟩:=h;obtain⟨x,e,G⟩:=F;exact⟨a,m,c,b,heap_setCell_same _ g 1 _ _ _ (heap_setCell_same _ g 0 _ _ _ E),x,e,qcq G (qd8 W g _ _) E qkm⟩
theorem qcm.put {W W':World} {g E n:Nat} {z0:Int} {m:Nat->Int} (h:qcm W E n m) (H:qcj W g z0) (F:W.grownBy W' (some g)) (hne:E≠g):qcm W' E n m:=by
 obtain⟨a0,m0,c0,b0,G,_⟩:=H;obtain⟨ps,p1,p2,p3⟩:=h;exact⟨ps,p1,⟨(F.block _ (qG p2.1).1 (fun e=>hne (qag e))).trans p2.1,p2.2⟩,p3.keep F G qkm⟩
theorem MatAt.put {W W':World} {F R n g:Nat} {E:Nat->Nat} {M:Nat->Nat->Int} {z0:Int} (h:MatAt W F R n E M) (G:qcj W g z0) (I:W.grownBy W' (some g)) (hne:∀i,i<R->E i≠g):MatAt W' F R n E M:=by
 refine⟨?_,fun i H=>(h.rows i H).put G I (hne i H)⟩;have:F≠g:=by
  intro e;subst e;obtain⟨_,_,_,_,J,_⟩:=G;have:=h.row.symm.trans J;simp at this
 exact (I.block _ (qG h.row).1 (fun e=>this (qag e))).trans h.row
theorem qcj.cells {W:World} {g:Nat} {z:Int} (h:qcj W g z):∃(a:Option Addr) (m c:Nat) (b:Bool),(W.cell? ⟨g,0,none⟩=some (.slice a m c)/\W.cell? ⟨g,1,none⟩=some (.bool b))/\(W.frozen? ⟨g,0,none⟩=false/\W.frozen? ⟨g,1,none⟩=false)/\IntAt W (.agg #[.slice a m c,.bool b]) z:=by
 obtain⟨a,m,c,b,E,F⟩:=h;exact⟨a,m,c,b,⟨qC _ _ 0 _ _ _ E,qC _ _ 1 _ _ _ E⟩,⟨qF _ _ 0 _ _ E,qF _ _ 1 _ _ E⟩,F⟩
theorem qcm.pair {W:World} {g n:Nat} {m:Nat->Int} (h:qcm W g n m) {c:Nat} (H:c<n):∃(a:Option Addr) (l k:Nat) (b:Bool),W.cell? ⟨g,c*2,none⟩=some (.slice a l k)/\W.cell? ⟨g,c*2+1,none⟩=some (.bool b)/\IntAt W (.agg #[.slice a l k,.bool b]) (m c):=by
 obtain⟨ps,E,F,G⟩:=h;obtain⟨d0,d1⟩:=qcm.cells E F c H;obtain⟨a,l,k,b,e,I⟩:=qdm G (k:=c) (by omega);rw [e] at d0 d1;exact⟨a,l,k,b,d0,d1,I⟩
theorem qcj.lt {W:World} {g:Nat} {z:Int} (h:qcj W g z):g<W.heap.size:=by
 obtain⟨_,_,_,_,E,_⟩:=h;exact (qG E).1
theorem qeK {a b:World} {row:Option Nat} (h:a.grownBy b row) {p:Addr} (F:a.heap.size<=p.block) (v:Value):a.grownBy (b.setCell p v) row :=
 ⟨h.os,h.tape,h.output,by simpa [World.setCell] using h.size,fun i E hne=>(qW b p v i (by omega)).trans (h.block i E hne)⟩
theorem gs_set {R i g x:Nat} {E:Nat->Nat} (h:∀j,j<R->E j≠x) (hg:g≠x):∀j,j<R->(fun j=>if j=i then g else E j) j≠x:=by
 intro j F
 by_cases e:j=i
 ·simp only [if_pos e];exact hg
 ·simp only [if_neg e];exact h j F
theorem qms {R k a x:Nat} {E:Nat->Nat} (I:k<R) (G:a<R) (h:∀i,i<R->E i≠x):∀i,i<R->(fun j=>if j=k then E a else if j=a then E k else E j) i≠x:=by
 intro i H
 by_cases e:i=k
 ·simp only [if_pos e];exact h a G
 ·by_cases F:i=a
  ·simp only [if_neg e,if_pos F];exact h k I
  ·simp only [if_neg e,if_neg F];exact h i H
theorem qhP {W:World} {H I n c K:Nat} {F G:Nat->Int} {v0:Value} {z0:Int} (hK:K<=34359738368) (hn:n<=64) (hc:c<n) (hi:qcm W H n F) (hk:qcm W I n G) (O:∀j,j<n->Fit (F j).natAbs K) (U:∀j,j<n->Fit (G j).natAbs K) (h0:IntAt W v0 z0) (J:Fit z0.natAbs K) (Z:z0≠0) :
  Calls prog 256 #[rowv H n,rowv I n,.int .i64 c,v0] W fun e W'=>∃g,e=.returned (rowv g n)/\W.heap.size<=g/\Below W.heap.size W W'/\qcm W' g n (fun j=>(G c*F j-F c*G j).tdiv z0):=by
 obtain⟨ps,p1,p2,p3⟩:=hi;obtain⟨qs,q1,q2,q3⟩:=hk;refine (qir H I n n n c ps qs F G K hK v0 z0 W hn hc p1 q1 (qcm.cells p1 p2) (qcm.cells q1 q2) p3 q3 O U h0 J Z).mono ?_;rintro e W' ⟨g,rs,rfl,hg,hb,Y,E,V⟩;exact⟨g,rfl,hg,hb,rs,Y,E,V⟩
def epart (M:Nat->Nat->Int) (k:Nat) (D:Int) (i:Nat):Nat->Nat->Int:=qca (fun j=>decide (j<i)) M k k D
theorem qjC (M:Nat->Nat->Int) (k:Nat) (D:Int):epart M k D 0=M:=by
 funext j
 unfold epart qca;rw [if_neg];intro h;have:=of_decide_eq_true h.1;omega
theorem qfh (M:Nat->Nat->Int) (k:Nat) (D:Int) (i:Nat):epart M k D i i=M i/\epart M k D i k=M k:=by
 unfold epart qca
 constructor
 ·rw [if_neg];intro h;have:=of_decide_eq_true h.1;omega
 ·rw [if_neg];intro h;exact h.2 rfl
theorem qkV (M:Nat->Nat->Int) (k:Nat) (D:Int) (i:Nat) (E:i≠k):(fun j=>if j=i then (fun x=>(M k k*M i x-M i k*M k x).tdiv D) else epart M k D i j)=epart M k D (i+1):=by
 funext j
 by_cases e:j=i
 ·subst e;rw [if_pos rfl];unfold epart qca;rw [if_pos ⟨qV (by omega),E⟩]
 ·rw [if_neg e];unfold epart qca;have h:decide (j<i)=decide (j<i+1):=decide_eq_decide.2 (by omega);simp only [h]
theorem qkW (M:Nat->Nat->Int) (k:Nat) (D:Int):epart M k D k=epart M k D (k+1):=by
 funext j
 unfold epart qca
 by_cases e:j=k
 ·rw [if_neg (fun h=>h.2 e),if_neg (fun h=>h.2 e)]
 ·have h:decide (j<k)=decide (j<k+1):=decide_eq_decide.2 (by omega);simp only [h]
theorem qmd (M:Nat->Nat->Int) (k:Nat) (D:Int) (R:Nat):∀j,j<R->epart M k D R j=qca (fun _=>true) M k k D j:=by
 intro j E;unfold epart qca;simp only [qV E]
theorem qme {M:Nat->Nat->Int} {k:Nat} {D:Int} {R n K:Nat} (H:k<R) (G:k<n) (h:∀i,i<R->∀j,j<n->Fit (M i j).natAbs K):∀i,i<R->∀j,j<n->Fit (qca (fun _=>true) M k k D i j).natAbs (K+K+1):=by
 intro i E j F;unfold qca;split
 ·exact fit_step (h k H k G) (h i E j F) (h i E k G) (h k H j F)
 ·exact (h i E j F).mono (by omega)
theorem qmf {W:World} {E R n k i g:Nat} {D:Int} {F:Nat->Nat} {M:Nat->Nat->Int} (h:MatAt W E R n F (epart M k D i)) (G:i≠k) (hg:qcm W g n (fun j=>(epart M k D i k k*epart M k D i i j-epart M k D i i k*epart M k D i k j).tdiv D)) :
  MatAt (W.setCell ⟨E,i,none⟩ (rowv g n)) E R n (fun j=>if j=i then g else F j) (epart M k D (i+1)):=by
 rw [(qfh M k D i).1,(qfh M k D i).2] at hg;have:=h.set i g _ hg;rw [qkV M k D i G] at this;exact this
theorem qcj.other {W:World} {g E:Nat} {z z0:Int} {u v:Value} (h:qcj W g z) (H:qcj W E z0) (hne:g≠E):qcj ((W.setCell ⟨E,0,none⟩ u).setCell ⟨E,1,none⟩ v) g z:=by
 obtain⟨a,m,c,b,F,x,e,I⟩:=h;obtain⟨_,_,_,_,k1,_⟩:=H;have G:=qd8 W E u v;exact⟨a,m,c,b,(G.block _ (qG F).1 (fun e=>hne (qag e))).trans F,x,e,qcq I G k1 qkm⟩
theorem qcj.row2 {W:World} {g:Nat} {z0 z:Int} {a:Option Addr} {m c:Nat} {b:Bool} (h:qcj W g z0) (F:IntAt W (.agg #[.slice a m c,.bool b]) z):((W.setCell ⟨g,0,none⟩ (.slice a m c)).setCell ⟨g,1,none⟩ (.bool b)).heap[g]? = some (.cells #[.slice a m c,.bool b] 217 (0,0))/\IntAt ((W.setCell ⟨g,0,none⟩ (.slice a m c)).setCell ⟨g,1,none⟩ (.bool b)) (.agg #[.slice a m c,.bool b]) z:=by
 obtain⟨a0,m0,c0,b0,E,_⟩:=h;obtain⟨x,e,G⟩:=F;exact⟨heap_setCell_same _ g 1 _ _ _ (heap_setCell_same _ g 0 _ _ _ E),x,e,qcq G (qd8 W g _ _) E qkm⟩
theorem qcj.zero {W:World} {g:Nat} {z0:Int} (h:qcj W g z0):((W.setCell ⟨g,0,none⟩ (.slice none 0 0)).setCell ⟨g,1,none⟩ (.bool false)).heap[g]? = some (.cells #[.slice none 0 0,.bool false] 217 (0,0)) :=
 (h.row2 (z:=0) ⟨_,rfl,MagAt.nil _⟩).1
def ElmAs (w:World) (F R n K:Nat) (A:Nat->Nat->Int) (e:Ending) (E:World):Prop :=
  ∃(v:Value) (z:Int),e=.returned v/\IntAt E v z/\w.grownBy E (some F) /\
    ((z=0/\∃(k:Nat) (D:Int) (M:Nat->Nat->Int),k<R/\ElimSt R n k D M A/\∀i,k<=i->i<R->M i k=0) \/
     (Fit z.natAbs (KK K R)/\∃(G:Nat->Nat) (M:Nat->Nat->Int),MatAt E F R n G M/\ElimSt R n R z M A/\∀i,i<R->∀j,j<n->Fit (M i j).natAbs (KK K R)))
theorem elim_any (tb R n K:Nat) (Z:Nat->Nat) (A:Nat->Nat->Int) (w:World) (aT:0<R) (hR:R<=10) (aU:R<=n) (hn:n<=11) (hK:K<=33554430) (aO:0<K) (hM:MatAt w tb R n Z A) (aG:∀i,i<R->Z i<w.heap.size) (hF:∀i,i<R->∀j,j<n->Fit (A i j).natAbs K) :
  Calls prog 240 #[.slice (some ⟨tb,0,none⟩) R R] w fun e w'=>ElmAs w tb R n K A e w':=by
 have HM:=qH (qA hM (qA aG hF));have aX:tb<w.heap.size:=(qG hM.row).1;have aR:(0:Int)<R:=by omega
 clear hM hF aG;go_enter func240,ntmps240;go_wp2_with fail
 go_loopw [10] (fun x10 W=>∃(k:Nat) (D:Int) (Z:Nat->Nat) (M:Nat->Nat->Int),k<=R/\x10=.int .i64 k/\Hu (ElimSt R n k D M A)/\Hu (MatAt W tb R n Z M/\(∀i,i<R->Z i≠w.heap.size+1+1)/\∀i,i<R->Z i≠w.heap.size)/\Hu (qcj W (w.heap.size+1+1) D/\qcj W w.heap.size 0)/\Hu (w.grownBy W (some tb))/\Hu (Fit D.natAbs (KK K k)/\∀i,i<R->∀j,j<n->Fit (M i j).natAbs (KK K k))) (fun x10 _=>R-(intOf x10).toNat)
 case atStart =>
  have hb:Below w.heap.size w (((w.alloc (.cells #[.slice none 0 0,.bool false] 217)).alloc (.cells #[.int .u32 1] 201)).alloc (.cells #[.slice (some ⟨w.heap.size+1,0,none⟩) 1 1,.bool false] 217)):=qbY (qbY (qbY qB qN) qN) qN;refine⟨0,1,Z,A,qaj _,rfl,qH (ElimSt.start _ _ _),qH ⟨HM.o.1.below hb,fun i Y=>by have:=HM.o.2.1 i Y;omega,fun i Y=>by have:=HM.o.2.1 i Y;omega⟩,qH ⟨⟨_,_,_,_,qM _ _ _ (by simp),_,rfl,?_⟩,⟨_,_,_,_,(qL _ _ _ (by simp only [qab];omega)).trans ((qL _ _ _ (by simp only [qab];omega)).trans (qM _ _ _ rfl)),_,rfl,MagAt.nil _⟩⟩,qH (qb6 _ hb),qH ⟨?_,fun i Y j hj=>by rw [qlT];exact HM.o.2.2 i Y j hj⟩⟩
  ·have:=(qfO (w.alloc (.cells #[.slice none 0 0,.bool false] 217)) 201 (s:=1) (by decide) (by decide)).below (qbY (o:=.cells #[.slice (some ⟨w.heap.size+1,0,none⟩) 1 1,.bool false] 217) qB qN);rw [qab] at this;exact this
  ·rw [qlT];exact Fit.mono (show Fit 1 1 by show 1<1000000000 ^ 1;decide) aO
 case round =>
  obtain⟨k,D,gs1,M,hk,rfl,hS,J,hI,hG,aa⟩:=hrel
  by_cases F:k<R
  ·have aS:(k:Int)<R:=by omega
   have V:k<n:=by omega
   go_wp2_with fail;refine (qnk tb R n k k gs1 M _ (by omega) F V (by omega) J.o.1).mono ?_;rintro e w2 (⟨rfl,hw,h0⟩ | ⟨rfl,aj,a,aQ,ai,hne,az⟩)
   ·subst hw;have H0:=qH h0;obtain⟨a,m,d,b,⟨e0,e1⟩,⟨z0,z1⟩,_⟩:=hI.o.2.cells;have O:=hI.o.2.zero;have ah:=qeK (qeK hG.o qN (p:=⟨w.heap.size,0,none⟩) (.slice none 0 0)) qN (p:=⟨w.heap.size,1,none⟩) (.bool false);have H:=qH (qA O ah);clear h0 O ah;go_wp2_with fail;exact qR (v:=.agg #[.slice none 0 0,.bool false]) (rA_ rfl w.heap.size H.o.1 underlying217 2) rfl ⟨_,0,rfl,⟨_,rfl,MagAt.nil _⟩,H.o.2,qax ⟨rfl,k,D,M,F,hS.o,H0.o⟩⟩
   ·have ax:=qH (hS.o.swap aQ ai);have aL:=qH (qA (hI.o.1.keep aj J.o.1.row) (hI.o.2.keep aj J.o.1.row));have aK:=qH (qbX hG.o aj);have U:=qH (qA aa.o.1 (swap_fit F ai aa.o.2));have aC:=qH (show qcd M k a k k≠0 by unfold qcd;rw [if_pos rfl];exact hne);obtain⟨gs2,au⟩:=qY (fun j=>if j=k then gs1 a else if j=a then gs1 k else gs1 j);have aA:=qms F ai J.o.2.1;have af:=qms F ai J.o.2.2;rw [<-au] at az aA af;have ae:MatAt w2 tb R n gs2 (qcd M k a):=az;obtain⟨M2,ak⟩:=qY (qcd M k a);rw [<-ak] at ae ax U aC;have aB:=qH (qA ae (qA aA af));clear az ae au ak hne aj aA af hS J hI hG aa;go_wp2_with fail
    go_loopw [21] (fun x21 W=>∃(i:Nat) (Z:Nat->Nat),i<=R/\x21=.int .i64 i/\Hu (MatAt W tb R n Z (epart M2 k D i)/\(∀i,i<R->Z i≠w.heap.size+1+1)/\∀i,i<R->Z i≠w.heap.size)/\Hu (qcj W (w.heap.size+1+1) D/\qcj W w.heap.size 0)/\Hu (w.grownBy W (some tb))) (fun x21 _=>R-(intOf x21).toNat)
    case atStart=>exact⟨0,gs2,qaj _,rfl,qH ⟨by rw [qjC];exact aB.o.1,aB.o.2⟩,aL,aK⟩
    case round =>
     obtain⟨i,aD,aV,rfl,E,G,ay⟩:=hrel
     by_cases Y:i<R
     ·have aW:(i:Int)<R:=by omega
      by_cases ag:i=k
      ·have aH:((i:Int) != (k:Int))=false:=by simp [ag]
       have aN:=qH (show epart M2 k D i=epart M2 k D (i+1) by rw [ag];exact qkW M2 k D);clear ag;go_wp2;go_roundw
       case rel=>exact⟨i+1,aD,Y,by go_num,qH ⟨by rw [<-aN.o];exact E.o.1,E.o.2⟩,G,ay⟩
       case measure=>simp [intOf];omega
      ·have aH:((i:Int) != (k:Int))=true:=by rw [bne_iff_ne];omega
       have aM:=qH ag;clear ag;obtain⟨ci,fi⟩:=E.o.1.cell Y;obtain⟨ck,fk⟩:=E.o.1.cell F;obtain⟨a,m,d,b,⟨e0,e1⟩,_,I⟩:=G.o.1.cells;have HC:=qH (fun W (h:Below wr.heap.size wr W)=>qhP (KK_le hK (show k<=10 by omega)) (show n<=64 by omega) V ((E.o.1.below h).rows i Y) ((E.o.1.below h).rows k F) (by rw [(qfh M2 k D i).1];exact U.o.2 i Y) (by rw [(qfh M2 k D i).2];exact U.o.2 k F) (I.below h) U.o.1 ax.o.nz);have av:Below wr.heap.size wr wr.drew:=qB.drew;clear I;go_wp2_with fail
       go_region_with (first | (go_at_call 256;refine (HC.o _ av).mono ?_;rintro e w4 ⟨g,rfl,aP,aF,aJ⟩;have hb:=av.trans aF;obtain⟨q0,q1⟩:=(E.o.1.below hb).cell Y;have H:=qH (qA (E.o.1.below hb) (qA (qA (G.o.1.below hb) (G.o.2.below hb)) (qA aP (qA aJ (qco ay.o hb)))));clear aF aJ hb))
       all_goals go_wp2_with fail
       all_goals go_roundw
       all_goals first
        | exact⟨i+1,_,Y,by go_num,qH ⟨qmf H.o.1 aM.o H.o.2.2.2.1,gs_set E.o.2.1 (qbo (qak G.o.1.lt H.o.2.2.1)),gs_set E.o.2.2 (qbo (qak G.o.2.lt H.o.2.2.1))⟩,qH ⟨H.o.2.1.1.keep (qb0 _ _ _ _) H.o.1.row,H.o.2.1.2.keep (qb0 _ _ _ _) H.o.1.row⟩,qH (qbX H.o.2.2.2.2 (qb0 _ _ _ _))⟩
        | (simp [intOf];omega)
     ·obtain rfl:i=R:=by omega
      obtain⟨ck,fk⟩:=E.o.1.cell F;obtain⟨a,m,d,b,⟨e0,e1⟩,⟨z0,z1⟩,_⟩:=G.o.1.cells;obtain⟨a2,m2,d2,b2,p0,p1,I⟩:=(E.o.1.rows k F).pair V;rw [(qfh M2 k D i).2] at I;have H:=qH I;clear I;go_wp2;go_roundw
      case rel =>
       refine⟨k+1,M2 k k,aD,qca (fun _=>true) M2 k k D,by omega,by go_num,qH (ax.o.next F V aC.o),qH ⟨(E.o.1.put G.o.1 (qd8 _ _ _ _) E.o.2.1).congr (fun _ _=>rfl) (qmd M2 k D i),E.o.2⟩,qH ⟨G.o.1.put H.o,G.o.2.other G.o.1 (by omega)⟩,qH ?_,qH ⟨?_,?_⟩⟩
       ·exact qeK (qeK ay.o (qap (qbc _)) _) (qap (qbc _)) _
       ·rw [qlS];exact (U.o.2 k F k V).mono (by omega)
       ·rw [qlS];exact qme F V U.o.2
      case measure=>simp [intOf];omega
  ·obtain rfl:k=R:=by omega
   obtain⟨a,m,d,b,⟨e0,e1⟩,_,I⟩:=hI.o.1.cells;obtain⟨a2,m2,d2,b2,⟨p0,p1⟩,⟨z0,z1⟩,_⟩:=hI.o.2.cells;have O:=hI.o.2.row2 I;have ah:=qeK (qeK hG.o qN (p:=⟨w.heap.size,0,none⟩) (.slice a m d)) qN (p:=⟨w.heap.size,1,none⟩) (.bool b);have aI:=J.o.1.put hI.o.2 (qd8 _ _ (.slice a m d) (.bool b)) J.o.2.2;have H:=qH (qA O (qA ah aI));clear I O ah aI;go_wp2_with fail;exact qR (v:=.agg #[.slice a m d,.bool b]) (rA_ rfl w.heap.size H.o.1.1 underlying217 2) rfl ⟨_,D,rfl,H.o.1.2,H.o.2.1,qam ⟨aa.o.1,gs1,M,H.o.2.2,hS.o,aa.o.2⟩⟩
def Sing (R:Nat) (A:Nat->Nat->Rat):Prop:=∃y:Nat->Rat,(∃j,j<R/\y j≠0)/\∀i,i<R->sumQ R (fun j=>A i j*y j)=0
def qcO (R:Nat) (A:Nat->Nat->Rat) (b x:Nat->Rat):Prop:=∀i,i<R->sumQ R (fun j=>A i j*x j)=b i
theorem qcO.uniq {R:Nat} {A:Nat->Nat->Rat} {b x y:Nat->Rat} (h:¬Sing R A) (hx:qcO R A b x) (hy:qcO R A b y):∀i,i<R->x i=y i:=by
 intro i F;apply Classical.byContradiction;intro hne;refine h ⟨fun j=>x j-y j,⟨i,F,fun h=>hne (by grind)⟩,fun k E=>?_⟩;have e:sumQ R (fun j=>A k j*(x j-y j))=sumQ R (fun j=>A k j*x j)+(-1)*sumQ R (fun j=>A k j*y j):=by
  rw [<-qcr,<-qeS];exact qb4 fun j _=>by grind
 rw [e,hx k E,hy k E];grind
theorem Sing.congr {R:Nat} {A B:Nat->Nat->Rat} (h:Sing R A) (e:∀i,i<R->∀j,j<R->A i j=B i j):Sing R B:=by
 obtain⟨y,hy,F⟩:=h;exact⟨y,hy,fun i E=>by rw [<-F i E];exact qb4 fun j G=>by rw [e i E j G]⟩
theorem qcO.congr {R:Nat} {A B:Nat->Nat->Rat} {b c x y:Nat->Rat} (h:qcO R A b x) (e:∀i,i<R->∀j,j<R->A i j=B i j) (G:∀i,i<R->b i=c i) (ex:∀i,i<R->x i=y i):qcO R B c y:=fun i E=>by
 rw [<-G i E,<-h i E];exact qb4 fun j F=>by rw [e i E j F,ex j F]
theorem Span.kill {R n:Nat} {A:Nat->Nat->Rat} {v y:Nat->Rat} (h:Span R n A v) (E:∀i,i<R->sumQ n (fun j=>A i j*y j)=0):sumQ n (fun j=>v j*y j)=0:=by
 obtain⟨c,F⟩:=h;have e:sumQ n (fun j=>v j*y j)=sumQ n fun j=>sumQ R fun i=>c i*(A i j*y j):=qb4 fun j H=>by
  rw [F j H,show sumQ R (fun i=>c i*A i j)*y j=y j*sumQ R (fun i=>c i*A i j) by grind,<-qcr];exact qb4 fun i _=>by grind
 rw [e,qeA];refine qc7 _ _ fun i G=>?_
 rw [qcr,E i G];grind
theorem qg9 (n:Nat) (f x:Nat->Rat) (a:Rat):sumQ (n+1) (fun j=>f j*(if j<n then x j else a))=sumQ n (fun j=>f j*x j)+f n*a:=by
 show sumQ n _+f n*(if n<n then x n else a)=_
 rw [if_neg (Nat.lt_irrefl n)]
 congr 1
 exact qb4 fun j E=>by rw [if_pos E]
theorem qiw {R n k:Nat} {D:Int} {M A:Nat->Nat->Int} (h:ElimSt R n k D M A) (hn:R<=n) (Z:k<R) (O:∀i,k<=i->i<R->M i k=0):Sing R (castM A):=by
 have U:(D:Rat)≠0:=by exact_mod_cast h.nz
 refine⟨fun j=>if j<k then -(M j k:Rat) else if j=k then (D:Rat) else 0,⟨k,Z,by simp only [Nat.lt_irrefl,if_false,if_true];exact U⟩,?_⟩;have V:∀i,i<R->sumQ n (fun j=>castM M i j*(if j<k then -(M j k:Rat) else if j=k then (D:Rat) else 0))=0:=by
  intro i F
  by_cases G:i<k
  ·rw [sumQ_two n i k _ (by omega) (by omega) (by omega) fun j Y H I=>by
    by_cases e:j<k
    ·show (M i j:Rat)*_=0
     rw [h.diag i F j e,if_neg (fun h=>H h.symm)];simp
    ·rw [if_neg e,if_neg I];grind]
   rw [if_pos G,if_neg (Nat.lt_irrefl k),if_pos rfl]
   show (M i i:Rat)*_+(M i k:Rat)*_=0
   rw [h.diag i F i G,if_pos rfl];grind
  ·refine qc7 _ _ fun j Y=>?_
   by_cases e:j<k
   ·show (M i j:Rat)*_=0
    rw [h.diag i F j e,if_neg (by omega)];simp
   ·by_cases J:j=k
    ·show (M i j:Rat)*_=0
     rw [J,O i (by omega) F];simp
    ·rw [if_neg e,if_neg J];grind
 intro i F;have E:=(h.span.2 i F).kill V;have e:sumQ n (fun j=>castM A i j*(if j<k then -(M j k:Rat) else if j=k then (D:Rat) else 0))=sumQ R (fun j=>castM A i j*(if j<k then -(M j k:Rat) else if j=k then (D:Rat) else 0)):=by
  obtain⟨m,rfl⟩:∃m,n=R+m:=⟨n-R,by omega⟩;rw [qeB,qc7 m _ fun j _=>by rw [if_neg (by omega),if_neg (by omega)];grind]
  grind
 rw [e] at E;exact E
theorem qgf {R:Nat} {z:Int} {M A:Nat->Nat->Int} (h:ElimSt R (R+1) R z M A):qcO R (castM A) (fun i=>castM A i R) (fun i=>(M i R:Rat) / z)/\¬Sing R (castM A):=by
 have J:(z:Rat)≠0:=by exact_mod_cast h.nz
 have H:∀(x:Nat->Rat) (a:Rat) i,i<R->sumQ (R+1) (fun j=>castM M i j*(if j<R then x j else a))=z*x i+M i R*a:=by
  intro x a i E;rw [qg9,qdv R i _ E fun j F G=>by show (M i j:Rat)*_=0;rw [h.diag i E j F,if_neg (fun h=>G h.symm)];simp]
  show (M i i:Rat)*x i+(M i R:Rat)*a=_
  rw [h.diag i E i E,if_pos rfl]
 refine⟨fun i E=>?_,?_⟩
 ·have:=(h.span.2 i E).kill (y:=fun j=>if j<R then (M j R:Rat) / z else -1) fun i E=>by rw [H _ _ i E];grind
  rw [qg9] at this
  show sumQ R _=castM A i R
  grind
 ·rintro ⟨y,⟨j,F,hy⟩,I⟩;have:=(h.span.1 j F).kill (y:=fun j=>if j<R then y j else 0) fun i E=>by rw [qg9,I i E];grind
  rw [H _ _ j F] at this;apply hy;have:(z:Rat)*y j=0:=by grind
  rcases Rat.mul_eq_zero.1 this with h | h
  ·exact absurd h J
  ·exact h
def ftxt (q:Rat):FT:=(qcb q.num,num q.den)
theorem qeG (q:Rat):fstr q=.agg #[.string (ftxt q).1,.string (ftxt q).2]:=rfl
def FRow (W:World) (g n:Nat) (l:List FT):Prop:=W.heap[g]? = some (.cells (fflat (l++List.replicate (n-l.length) fd0)).toArray 27 (0,0))/\l.length<=n
theorem FRow.below {W W':World} {g n:Nat} {l:List FT} (h:FRow W g n l) (E:Below W.heap.size W W'):FRow W' g n l :=
 ⟨(E.block _ (qG h.1).1).trans h.1,h.2⟩
theorem FRow.at {W:World} {g n:Nat} {l:List FT} (h:FRow W g n l) (H:l.length<n):(W.cell? ⟨g,l.length*2,none⟩=some (.string ⟨#[]⟩)/\W.cell? ⟨g,l.length*2+1,none⟩=some (.string ⟨#[]⟩))/\∀j,W.frozen? ⟨g,j,none⟩=false:=by
 have E:(l++List.replicate (n-l.length) fd0)[l.length]? = some fd0:=by
  rw [qau qN,qaM,qbk,if_pos (by omega)]
 obtain⟨F,G⟩:=qfi _ _ _ E;exact⟨⟨(qC _ _ _ _ _ _ h.1).trans ((qaC ..).trans F),(qC _ _ _ _ _ _ h.1).trans ((qaC ..).trans G)⟩,fun j=>qF _ _ _ _ _ h.1⟩
theorem FRow.set {W:World} {g n:Nat} {l:List FT} (h:FRow W g n l) (H:l.length<n) (x:FT) :
  FRow ((W.setCell ⟨g,l.length*2,none⟩ (.string x.1)).setCell ⟨g,l.length*2+1,none⟩ (.string x.2)) g n (l++[x]):=by
 refine⟨?_,by rw [qaf,qaG];omega⟩;rw [heap_setCell_same _ g (l.length*2+1) _ _ _ (heap_setCell_same _ g (l.length*2) _ _ _ h.1)]
 congr 3
 obtain⟨m,G⟩:∃m,n-l.length=m+1:=⟨n-l.length-1,by omega⟩;have E:fflat (l++List.replicate (m+1) fd0)=fflat l++(.string fd0.1 :: .string fd0.2 :: fflat (List.replicate m fd0)):=by
  rw [qd0,qbr];rfl
 have F:fflat (l++[x]++List.replicate m fd0)=fflat l++(.string x.1 :: .string x.2 :: fflat (List.replicate m fd0)):=by
  rw [qd0,qd0,qaE];rfl
 rw [qaL,qaL,G,qaf,qaG,show n-(l.length+1)=m by omega,E,F];rw [qbb _ _ (by rw [qcv];exact qae _),qcv,qaM,qbp,qbb _ _ (by rw [qcv];omega),qcv,show l.length*2+1-l.length*2=1 by omega]
 rfl
theorem qmi (n:Nat):fflat (List.replicate n fd0)=List.replicate (n*2) (.string ⟨#[]⟩):=by
 induction n with
 | zero=>rfl
 | succ n ih =>
  rw [qbr,show (n+1)*2=n*2+1+1 by omega,qbr,qbr,<-ih];rfl
theorem qlh (n:Nat):madeCells #[.string ⟨#[]⟩,.string ⟨#[]⟩] (n*2)=(fflat (List.replicate n fd0)).toArray:=by
 rw [qmi];apply Array.ext';apply List.ext_getElem?;intro i;rw [Array.getElem?_toList]
 show _=(List.replicate (n*2) (Value.string ⟨#[]⟩))[i]?
 by_cases E:i<n*2
 ·rw [qbk,if_pos E];have F:(madeCells #[.string ⟨#[]⟩,.string ⟨#[]⟩] (n*2))[i]? = some ((#[.string ⟨#[]⟩,.string ⟨#[]⟩]:Array Value)[i % 2]!):=by simp [madeCells,E]
  rw [F]
  congr 1
  rcases (show i % 2=0\/i % 2=1 by omega) with e | e <;> rw [e] <;> rfl
 ·rw [Array.getElem?_eq_none (by rw [size_madeCells];omega),qaO (by rw [qaS];omega)]
theorem FRow.made (W:World) (n:Nat):FRow (W.alloc (.cells (madeCells #[.string ⟨#[]⟩,.string ⟨#[]⟩] (n*2)) 27)) W.heap.size n []:=by
 refine⟨?_,qaj _⟩;rw [qM _ _ _ rfl,qbj,List.length_nil,Nat.sub_zero,qlh]
theorem qhX (n:Nat) (I:n<=1048576) (w:World):(Instr.makeSlice 22 (.int .i64 (n:Int)) (.int .i64 (n:Int))).run prog w=.ok (.slice (some ⟨w.heap.size,0,none⟩) n n) (w.alloc (.cells (madeCells #[.string ⟨#[]⟩,.string ⟨#[]⟩] (n*2)) 27)):=by
 obtain⟨i,H,E,F,G⟩:=info_parts infoF;have h:=run_make (P:=prog) w 22 27 i _ underlying22 H E .i64 .i64 (n:Int) (n:Int) (by omega) (Int.le_refl _) (by rw [G];omega) (by omega);rw [F,Int.toNat_natCast] at h;exact h
theorem FRow.cells {W:World} {g n:Nat} {l:List FT} (h:FRow W g n l) (F:l.length=n):FCells W (some ⟨g,0,none⟩) g 0 l:=by
 have E:=h.1;rw [F,qaM,List.replicate_zero,qbw] at E;exact FCells.ofRow E
theorem HasT.keepRow {W W':World} {G R n:Nat} {H:Nat->Nat} (h:HasT W) (O:W.grownBy W' (some G)) (U:W.heap[G]? = some (.cells (rowvs R n H).toArray 212 (0,0))):HasT W':=by
 unfold HasT Lib.TabIs World.var? at *;cases hg:(prog).globalNamed "internal/strconv.uint64pow10" with
 | none=>simp [hg] at h
 | some g =>
  simp only [hg,Option.bind_some] at h ⊢;have F:g<W.heap.size:=by
   rcases qaB g W.heap.size with h' | h'
   ·exact h'
   ·rw [Array.getElem?_eq_none h'] at h;simp at h
  have hne:g≠G:=by
   intro e;subst e;rw [U] at h;simp only [Option.some.injEq] at h;have E:=congrArg (fun a:Array Value=>a[0]?) h;have I:((Lib.pow10Tab.map fun z=>Value.int .u64 z).toArray)[0]? = some (.int .u64 1):=rfl;have E:(rowvs R n H).toArray[0]? = (Lib.pow10Tab.map fun z=>Value.int .u64 z).toArray[0]?:=E;rw [I,qaC] at E
   by_cases J:0<R
   ·rw [qd7 J] at E;simp at E
   ·rw [qaO (by rw [qcN];omega)] at E;simp at E
  rw [O.block g F (fun e=>hne (qag e))];exact h
def told (n:Nat) (x:Nat->Rat):List FT:=(List.range n).map fun i=>ftxt (x i)
def qb3 (n:Nat) (x:Nat->Rat):Prop:=∀i,i<n->Short (x i)
theorem qb3.snoc {n:Nat} {x:Nat->Rat} (h:qb3 n x) (E:Short (x n)):qb3 (n+1) x:=fun j F=>by
 by_cases e:j=n
 ·rw [e];exact E
 ·exact h j (by omega)
theorem qeC (n:Nat) (x:Nat->Rat):told (n+1) x=told n x++[ftxt (x n)]:=by
 unfold told;rw [List.range_succ,qbn];rfl
theorem qb1 (n:Nat) (x:Nat->Rat):(told n x).length=n:=by unfold told;rw [qaD,qbs]
def FOne (E W:World) (g:Nat) (x:FT):Prop:=W.heap[g]? = some (.cells #[.string x.1,.string x.2] 27 (0,0))/\Below E.heap.size E W/\E.heap.size<=g
theorem fone_a {E W:World} {x1 x2:ByteArray} (F:Below E.heap.size E W):FOne E (W.alloc (.cells #[.string x1,.string x2] 27)) W.heap.size (x1,x2) :=
 ⟨qM _ _ _ rfl,qbY F qN,F.size⟩
theorem fone_p {E W:World} {g:Nat} {x1 x2:ByteArray} {F c1:Value} (G:Below E.heap.size E W) (hg:E.heap.size<=g) (H:W.heap[g]? = some (.cells #[F,c1] 27 (0,0))) :
  FOne E ((W.setCell ⟨g,0,none⟩ (.string x1)).setCell ⟨g,1,none⟩ (.string x2)) g (x1,x2) :=
 ⟨heap_setCell_same _ g 1 _ _ _ (heap_setCell_same _ g 0 _ _ _ H),(G.setCell (p:=⟨g,0,none⟩) hg _).setCell (p:=⟨g,1,none⟩) hg _,hg⟩
theorem qfZ {w F:World} {q:Rat} {e:Ending} (h:qgp w q e F):∃(x1 x2:ByteArray) (c:Int),e=.returned (.tuple #[.agg #[.string x1,.string x2],.int .i64 c])/\(Short q/\(x1,x2)=ftxt q/\c=0\/¬Short q/\(x1,x2)=fd0/\c=6)/\Below w.heap.size w F:=by
 obtain⟨h | h,E⟩:=h
 ·exact⟨(ftxt q).1,(ftxt q).2,0,h.2,qax ⟨h.1,rfl,rfl⟩,E⟩
 ·exact⟨_,_,6,h.2,qam ⟨h.1,rfl,rfl⟩,E⟩
def Tells (n:Nat) (x:Nat->Rat) (e:Ending) (E:World):Prop :=
 (qb3 n x/\∃g,e=.returned (.tuple #[.slice (some ⟨g,0,none⟩) n n,.int .i64 0])/\FCells E (some ⟨g,0,none⟩) g 0 (told n x)) \/
 (¬qb3 n x/\e=.returned (.tuple #[.slice none 0 0,.int .i64 6]))
def SolvesAs (w:World) (F R:Nat) (A:Nat->Nat->Int) (e:Ending) (E:World):Prop :=
 w.grownBy E (some F)/\((Sing R (castM A)/\e=.returned (.tuple #[.slice none 0 0,.int .i64 7])) \/
  (¬Sing R (castM A)/\∃x,qcO R (castM A) (fun i=>castM A i R) x/\Tells R x e E))
theorem fit_pos {z:Int} {K:Nat} (h:Fit z.natAbs K) (E:z≠0):0<K:=by
 rcases qaU K with e | e
 ·subst e;have:z.natAbs<1:=h;omega
 ·exact e
theorem qgt (a b:Int):Rat.divInt a b=(a:Rat) / b:=Rat.divInt_eq_div a b
theorem qnD (tb R K:Nat) (gs:Nat->Nat) (A:Nat->Nat->Int) (w:World) (bB:0<R) (hR:R<=10) (hK:K<=33554430) (bA:0<K) (hM:MatAt w tb R (R+1) gs A) (aC:∀i,i<R->gs i<w.heap.size) (hF:∀i,i<R->∀j,j<R+1->Fit (A i j).natAbs K) (hT:HasT w) :
  Calls prog 190 #[.agg #[.slice (some ⟨tb,0,none⟩) R R]] w fun e w'=>SolvesAs w tb R A e w':=by
 have HM:=qH (qA hM (qA aC hF));have HT:=qH hT;have bE:tb<w.heap.size:=(qG hM.row).1;have bF:(0:Int)<R:=by omega
 have ai:Below w.heap.size w (w.alloc (.cells #[.slice (some ⟨tb,0,none⟩) R R] 262)):=qbY qB qN;have HE:=qH (elim_any tb R (R+1) K gs A (w.alloc (.cells #[.slice (some ⟨tb,0,none⟩) R R] 262)) bB hR (by omega) (by omega) hK bA (hM.below ai) (fun i O=>qak (aC i O) ai.size) hF);have au:=qH ai;have bI:=qfj;clear hM hF aC hT ai;go_enter func190,ntmps190;go_wp2_with fail;refine HE.o.mono ?_;rintro e G ⟨v,z,rfl,hv,J,hz⟩;obtain⟨a,m,d,b,rfl⟩:=qbZ hv;have aX:=(HM.o.1.below au.o);have aK:=(HT.o.below au.o).keepRow J aX.row;have hg:=qbX (qb6 tb au.o) J;have bg:=(qcK .l) z.natAbs (.slice a m d);have Hv:=qH hv;have HX:=qH (qA aK (qA hg J));have aV:MagAt G (.slice a m d) z.natAbs:=by
  obtain⟨_,e,h⟩:=hv;simp only [qaY,qa5,qaW] at e;rw [e.1];exact h
 have ay:Below G.heap.size G (G.alloc (.cells #[.slice a m d,.bool b] 217)):=qbY qB qN;have HZ:=qH (bg _ (aV.below ay));have I:=qH ay;have bC:(G.alloc (.cells #[.slice a m d,.bool b] 217)).heap.size=G.heap.size+1:=by rw [qab]
 have bD:w.heap.size<G.heap.size:=by have:=J.size;rw [qab] at this;omega
 have V:G.heap[w.heap.size]? = some (.cells #[.slice (some ⟨tb,0,none⟩) R R] 262 (0,0)):=(J.block _ (by rw [qab];omega) (fun e=>Nat.lt_irrefl _ (qag e▸bE))).trans (qM _ _ _ rfl);have bi:=qH V;have bu:=qC _ _ 0 _ _ _ V;clear hv J aX aK hg bg aV ay bC V;go_wp2_with fail;obtain⟨W3,U⟩:=qY (G.alloc (.cells #[.slice a m d,.bool b] 217));rw [<-U] at HZ I ⊢;have aB:Hu (w.grownBy W3 (some tb)):=qH (qco HX.o.2.1 I.o);rcases hz with ⟨ak,k,D,M,hk,hS,h0⟩ | ⟨aT,gs',M,aJ,hS,aP⟩
 ·refine HZ.o.mono ?_;rintro e w4 ⟨rfl,hw⟩;rw [qV (show z.natAbs=0 by omega)];have HS:=qH (qiw hS (by omega) hk h0);subst hw;clear hS h0 ak U;go_wp2_with fail
  go_ret2
  exact⟨aB.o,qax ⟨HS.o,rfl⟩⟩
 ·refine HZ.o.mono ?_;rintro e w4 ⟨rfl,hw⟩;have ak:=hS.nz;rw [qU (show ¬z.natAbs=0 by omega)];have aW:=qhX R (by omega) W3;obtain⟨W5,ah⟩:=qY (W3.alloc (.cells (madeCells #[.string ⟨#[]⟩,.string ⟨#[]⟩] (R*2)) 27));rw [<-ah] at aW;have aS:FRow W5 W3.heap.size R []:=ah▸FRow.made W3 R;have az:Below W3.heap.size W3 W5:=ah▸qbY qB qN;clear ah;have aY:W3.heap[G.heap.size]? = some (.cells #[.slice a m d,.bool b] 217 (0,0)):=by rw [U];exact qM _ _ _ rfl
  have H:=(I.o.block _ (by exact bD)).trans bi.o;have Y:=(az.block _ (qG H).1).trans H;have bz:=qC _ _ 0 _ _ _ Y;have H5:=qH (qA aS (qA az Y));have HS:=qH (qA aT (qA (aJ.below I.o) (qA hS aP)));have H3:=qH (qA aY (qA H (qA (Hv.o.below I.o) (HX.o.1.below I.o))));have aH:=qH ak;have aZ:W3.heap.size=G.heap.size+1:=by rw [U,qab]
  have bG:=qH aZ;subst hw;clear hS ak U aJ aP aT aY H bu aZ aS az Y;have bv:=qC _ _ 0 _ _ _ H3.o.2.1;go_wp2_with fail
  go_loopw [26] (fun x26 W=>∃(i:Nat),i<=R/\x26=.int .i64 i/\Hu (qb3 i (fun i=>(M i R:Rat) / z))/\Hu (FRow W w4.heap.size R (told i (fun i=>(M i R:Rat) / z)))/\Hu (Below w4.heap.size w4 W)) (fun x26 _=>R-(intOf x26).toNat)
  case atStart=>exact⟨0,qaj _,rfl,qH (fun i O=>absurd O (by omega)),qH H5.o.1,qH H5.o.2.1⟩
  case round =>
   obtain⟨i,bJ,rfl,hA,hF,hB⟩:=hrel
   by_cases O:i<R
   ·have bK:(i:Int)<R:=by omega
    have bH:(R:Int)<R+1:=by omega
    have ax:=HS.o.2.1.below hB.o;obtain⟨ci,fi⟩:=ax.cell O;obtain⟨a2,m2,d2,b2,p0,p1,aU⟩:=(ax.rows i O).pair (show R<R+1 by omega);have hr:=(hB.o.block _ (qG H3.o.1).1).trans H3.o.1;have aA:=(hB.o.block _ (qG H3.o.2.1).1).trans H3.o.2.1;have C0:∀W,Below wr.heap.size wr W->W.cell? ⟨w.heap.size,0,none⟩=some (.slice (some ⟨tb,0,none⟩) R R):=fun W h=>(h.cell (p:=⟨w.heap.size,0,none⟩) (qG aA).1).trans (qC _ _ 0 _ _ _ aA)
    have C1:∀W,Below wr.heap.size wr W->W.cell? ⟨gs' i,R*2,none⟩=some (.slice a2 m2 d2):=fun W h=>(h.cell (qac wr _ p0)).trans p0
    have C2:∀W,Below wr.heap.size wr W->W.cell? ⟨gs' i,R*2+1,none⟩=some (.bool b2):=fun W h=>(h.cell (qac wr _ p1)).trans p1
    have C3:∀W,Below wr.heap.size wr W->W.cell? ⟨G.heap.size,0,none⟩=some (.slice a m d):=fun W h=>(h.cell (p:=⟨G.heap.size,0,none⟩) (qG hr).1).trans (qC _ _ 0 _ _ _ hr)
    have C4:∀W,Below wr.heap.size wr W->W.cell? ⟨G.heap.size,1,none⟩=some (.bool b):=fun W h=>(h.cell (p:=⟨G.heap.size,1,none⟩) (qG hr).1).trans (qC _ _ 1 _ _ _ hr)
    have bf:=H3.o.2.2.1.below hB.o;have aL:=H3.o.2.2.2.below hB.o;have aQ:=HS.o.2.2.2 i O R (by omega);have HW:=qH (fun W (h:Below wr.heap.size wr W)=>qhx (M i R) z aH.o (KK K R) (fit_pos HS.o.1 aH.o) (KK_le hK hR) _ _ W (aU.below h) (bf.below h) aQ HS.o.1 (aL.below h));have aG:Below wr.heap.size wr wr:=Below.refl _ _;have ae:Below wr.heap.size wr wr.drew:=aG.drew;have aa:Below wr.heap.size wr (wr.alloc (.cells #[.string ⟨#[]⟩,.string ⟨#[]⟩] 27)).drew:=(qbY aG qN).drew;have aI:=hF.o.at (by rw [qb1];exact O);have HF:=qH aI;clear ax aU p0 p1 hr aA bf aL aQ aI bv bz aW;go_wp2_with fail
    go_cut [9,10] (fun x9 x10 W=>∃(g9:Nat) (x1 x2:ByteArray) (c:Int),x9=.pointer (some ⟨g9,0,none⟩)/\x10=.int .i64 c/\Hu (Short (Rat.divInt (M i R) z)/\(x1,x2)=ftxt (Rat.divInt (M i R) z)/\c=0\/¬Short (Rat.divInt (M i R) z)/\(x1,x2)=fd0/\c=6)/\FOne wr W g9 (x1,x2))
    case first =>
     go_region_held3 (fun W=>Below wr.heap.size wr W) (first | with_reducible exact aG | with_reducible exact ae | with_reducible exact aa | with_reducible exact E | exact qbY E qN | exact (E.setCell qN _).setCell qN _ | exact (E.setCell E.size _).setCell E.size _) (first | (go_at_call 160;refine (HW.o _ (by first | with_reducible exact ae | with_reducible exact aa)).mono ?_;rintro e w6 hx;obtain⟨x1,x2,c6,rfl,hx,aj⟩:=qfZ hx;have E:Below wr.heap.size wr w6:=bjoin (by first | with_reducible exact ae | with_reducible exact aa) aj;have bq:=qH hx;obtain⟨k6,bM⟩:=bcell aj;have Z6:=qH (zkeep aj);clear hx aj))
     all_goals go_wp2_with fail
     all_goals go_meet
     all_goals refine⟨_,x1,x2,c6,rfl,rfl,bq,?_⟩
     all_goals first
      | with_reducible exact fone_a E
      | exact fone_p E qN (Z6.o _ _ (qM _ _ _ rfl))
    case rest =>
     obtain⟨g9,x1,x2,c,rfl,rfl,hx,ho⟩:=hcut;obtain⟨aD,aF,bL⟩:=ho;have o0:=qC _ _ 0 _ _ _ aD;have o1:=qC _ _ 1 _ _ _ aD;have av:=hF.o.below aF;have aM:=av.at (by rw [qb1];exact O);have Z:=av.set (by rw [qb1];exact O) (x1,x2);rw [qb1] at aM Z;obtain⟨⟨q0,q1⟩,qf⟩:=aM;have bN:=qf (i*2);have bO:=qf (i*2+1);have aN:=((hB.o.trans (aF.mono hB.o.size)).setCell (p:=⟨w4.heap.size,i*2,none⟩) qN (.string x1)).setCell (p:=⟨w4.heap.size,i*2+1,none⟩) qN (.string x2);have aO:=hB.o.trans (aF.mono hB.o.size);have HQ:=qH (qA Z (qA aN aO));have HX:=qH hx.o;have hq:=qgt (M i R) z;clear Z aN aO aD av qf C0 C1 C2 C3 C4 ci fi;rcases hx.o with ⟨F,af,rfl⟩ | ⟨F,af,rfl⟩
     ·rw [hq] at F af;have ag:=qH (qA F af);clear F af hq;go_wp2;go_roundw
      case rel=>exact⟨i+1,O,by go_num,qH (hA.o.snoc ag.o.1),qH (by rw [qeC,<-ag.o.2];exact HQ.o.1),qH HQ.o.2.1⟩
      case measure=>simp [intOf];omega
     ·rw [hq] at F;have ag:=qH F;clear F af hq;go_wp2_with fail
      go_ret2
      exact⟨qco aB.o HQ.o.2.2,qam ⟨(qgf HS.o.2.2.1).2,_,(qgf HS.o.2.2.1).1,qam ⟨fun h=>ag.o (h i O),rfl⟩⟩⟩
   ·obtain rfl:i=R:=by omega
    have aR:=hF.o.cells (qb1 _ _);have bn:=qH aR;clear aR;go_wp2_with fail
    go_ret2
    exact⟨qco aB.o hB.o,qam ⟨(qgf HS.o.2.2.1).2,_,(qgf HS.o.2.2.1).1,qax ⟨hA.o,_,rfl,bn.o⟩⟩⟩
abbrev Tbl:=List (List FT)
structure TCells (W:World) (ao:Option Addr) (b off:Nat) (t:Tbl):Prop where
 addr:0<t.length->ao=some ⟨b,off,none⟩
 row:∀k,k<t.length->∃(ra:Option Addr) (rb ro rc:Nat),W.cell? ⟨b,off+k,none⟩=some (.slice ra (t.getD k []).length rc)/\FCells W ra rb ro (t.getD k [])
theorem TCells.below {W W':World} {F:Option Addr} {b E:Nat} {t:Tbl} (h:TCells W F b E t) (H:Below W.heap.size W W'):TCells W' F b E t :=
 ⟨h.addr,fun k J=>by
  obtain⟨ra,rb,ro,rc,G,I⟩:=h.row k J;exact⟨ra,rb,ro,rc,(H.cell (qac W _ G)).trans G,I.below H⟩⟩
def wid (t:Tbl):Nat:=(t.getD 0 []).length
structure TOk (t:Tbl):Prop where
 r1:1<=t.length
 r2:t.length<=40
 c1:1<=wid t
 c2:wid t<=10
 rows:∀k,k<t.length->(t.getD k []).length=wid t/\FAll (t.getD k [])
theorem ql2 (ao:Option Addr) (b au R c:Nat) (t:Tbl) (w:World) (hR:t.length=R) (hl:R<=4611686018427387904) (hw:∀k,k<R->(t.getD k []).length<=4611686018427387904) (Y:TCells w ao b au t) :
  Calls prog 209 #[.slice ao R c] w fun e w'=>qfb w (TOk t) 60 e w':=by
 have G:=qH (qA Y (qA hR hw))
 by_cases h1:1<=R
 case neg =>
  have U:(R:Int)<1:=by omega
  clear Y hR;go_enter func209,ntmps209;go_wp2;go_ret;exact⟨60,rfl,qam ⟨rfl,fun h=>by have:=h.r1;have:=G.o.2.1;omega⟩,Below.refl _ _⟩
 have aD:¬(R:Int)<1:=by omega
 by_cases h2:R<=40
 case neg =>
  have U:(40:Int)<R:=by omega
  clear Y hR;go_enter func209,ntmps209;go_wp2;go_ret;exact⟨60,rfl,qam ⟨rfl,fun h=>by have:=h.r2;have:=G.o.2.1;omega⟩,Below.refl _ _⟩
 have aF:¬(40:Int)<R:=by omega
 have aC:(0:Int)<R:=by omega
 have ax:=Y.addr (by omega);subst ax;obtain⟨aL,aM,aO,aN,J,_⟩:=Y.row 0 (by omega);rw [qbA] at J;obtain⟨n,hn⟩:=qX (wid t);have ak:(t.getD 0 []).length=n:=hn;have az:=hw 0 (by omega);rw [ak] at J az;have V:=qH hn;have aA:b<w.heap.size:=qac w _ J;clear Y hR hn ak hw
 by_cases h3:1<=n
 case neg =>
  have U:(n:Int)<1:=by omega
  go_enter func209,ntmps209;go_wp2;go_ret;exact⟨60,rfl,qam ⟨rfl,fun h=>by have:=h.c1;have:=V.o;omega⟩,Below.refl _ _⟩
 have aG:¬(n:Int)<1:=by omega
 by_cases h4:n<=10
 case neg =>
  have U:(10:Int)<n:=by omega
  go_enter func209,ntmps209;go_wp2;go_ret;exact⟨60,rfl,qam ⟨rfl,fun h=>by have:=h.c2;have:=V.o;omega⟩,Below.refl _ _⟩
 have aH:¬(10:Int)<n:=by omega
 go_enter func209,ntmps209;go_wp2_with fail
 go_loopw [31] (fun x31 W=>∃k:Nat,k<=R/\x31=.int .i64 k/\Hu (∀i,i<k->(t.getD i []).length=n/\FAll (t.getD i []))/\Hu (Below w.heap.size w W)) (fun x31 _=>R-(intOf x31).toNat)
 case atStart=>exact⟨0,qaj _,rfl,qH (fun i Z=>absurd Z (by omega)),qH qB⟩
 case round =>
  obtain⟨k,hk,rfl,hI,hB⟩:=hrel
  by_cases ai:k<R
  ·have aK:(k:Int)<R:=by omega
   have aI:=(hB.o.cell (p:=⟨b,au,none⟩) aA).trans J;obtain⟨ra,rb,ro,rc,af,ag⟩:=(G.o.1.below hB.o).row k (by have:=G.o.2.1;omega);have HF:=qH ag;obtain⟨row,F⟩:=qX (t.getD k []);obtain⟨l,O⟩:=qX row.length;have aj:=G.o.2.2 k ai;rw [F] at af HF aj;rw [O] at af aj;have H:=qH (qA F O);clear F O ag
   by_cases E:l=n
   case neg =>
    have hne:((l:Int) != (n:Int))=true:=by rw [bne_iff_ne];omega
    have HL:=qH E;clear E;go_wp2;go_ret;exact⟨60,rfl,qam ⟨rfl,fun h=>HL.o (by rw [<-H.o.2,<-H.o.1,<-V.o];exact (h.rows k (by have:=G.o.2.1;omega)).1)⟩,hB.o⟩
   have hne:((l:Int) != (n:Int))=false:=by simp [E]
   have HL:=qH E;clear E;obtain⟨wo,aB⟩:=qY wr;subst aB;go_wp2_with fail
   go_loopw [44] (fun x44 W=>∃j:Nat,j<=l/\x44=.int .i64 j/\Hu (∀i,i<j->FOk (row.getD i fd0).1.data.toList (row.getD i fd0).2.data.toList)/\Hu (Below wo.heap.size wo W)) (fun x44 _=>l-(intOf x44).toNat)
   case atStart=>exact⟨0,qaj _,rfl,qH (fun i Z=>absurd Z (by omega)),qH qB⟩
   case round =>
    obtain⟨j,hj,rfl,hJ,I⟩:=hrel
    by_cases ah:j<l
    ·have aJ:(j:Int)<l:=by omega
     have av:=HF.o.addr (by have:=H.o.2;omega);subst av;obtain⟨d0,d1⟩:=(HF.o.below I.o).cell j (by have:=H.o.2;omega);obtain⟨N,hN⟩:=qX ((row.getD j fd0).1);obtain⟨D,hD⟩:=qX ((row.getD j fd0).2);rw [hN] at d0;rw [hD] at d1;have HX:=qH (qA hN hD);clear hN hD;go_wp2_with fail;refine (qeF N D _).mono ?_;rintro e w2 ⟨cc,rfl,ay,ae⟩;have aa:=qH (I.o.trans ((qB.alloc qN _ |>.trans (ae.mono (by simp only [qab];omega))).mono I.o.size));clear ae;rcases ay with ⟨rfl,hf⟩ | ⟨rfl,hf⟩
     ·have Hf:=qH hf;clear hf;go_wp2;go_roundw
      case rel=>exact⟨j+1,ah,by go_num,qH (fun i Z=>by
       rcases (show i<j\/i=j by omega) with h | h
       ·exact hJ.o i h
       ·rw [h,HX.o.1,HX.o.2];exact Hf.o),aa⟩
      case measure=>simp [intOf];omega
     ·have Hf:=qH hf;clear hf;go_wp2;go_ret;exact⟨60,rfl,qam ⟨rfl,fun h=>Hf.o (by
       have:=(h.rows k (by have:=G.o.2.1;omega)).2 j (by rw [H.o.1,H.o.2];exact ah);rw [H.o.1,HX.o.1,HX.o.2] at this;exact this)⟩,hB.o.trans (aa.o.mono hB.o.size)⟩
    ·obtain rfl:j=l:=by omega
     go_wp2;go_roundw
     case rel=>exact⟨k+1,ai,by go_num,qH (fun i Z=>by
      rcases (show i<k\/i=k by omega) with h | h
      ·exact hI.o i h
      ·rw [h,H.o.1,H.o.2];exact⟨HL.o,fun x hx=>hJ.o x (by rw [<-H.o.2];exact hx)⟩),qH (hB.o.trans (I.o.mono hB.o.size))⟩
     case measure=>simp [intOf];omega
  ·obtain rfl:k=R:=by omega
   go_wp2;go_ret;exact⟨0,rfl,qax ⟨rfl,⟨by have:=G.o.2.1;omega,by have:=G.o.2.1;omega,by rw [V.o];exact h3,by rw [V.o];exact h4,fun i Z=>by rw [V.o];exact hI.o i (by have:=G.o.2.1;omega)⟩⟩,hB.o⟩
def CLAs (w:World) (t L:Tbl) (e:Ending) (E:World):Prop :=
 ∃c:Int,e=.returned (.int .i64 c)/\(c=60/\¬TOk t\/c=20/\TOk t/\¬(∀k,k<L.length->FAll (L.getD k []))\/c=0/\TOk t/\∀k,k<L.length->FAll (L.getD k []))/\Below w.heap.size w E
theorem qeW (ao:Option Addr) (b ak R c:Nat) (t:Tbl) (Y:Option Addr) (b2 au R2 c2:Nat) (L:Tbl) (w:World) (hR:t.length=R) (hl:R<=4611686018427387904) (hw:∀k,k<R->(t.getD k []).length<=4611686018427387904) (hc:TCells w ao b ak t)
  (Z:L.length=R2) (H:R2<=4611686018427387904) (aj:∀k,k<R2->(L.getD k []).length<=4611686018427387904) (aa:TCells w Y b2 au L) :
  Calls prog 145 #[.slice ao R c,.slice Y R2 c2] w fun e w'=>CLAs w t L e w':=by
 have HK:=qH (ql2 ao b ak R c t w hR hl hw hc);have I:=qH (qA aa (qA Z aj));clear hR hw hc Z aj aa;go_enter func145,ntmps145;go_wp2_with fail;refine HK.o.mono ?_;rintro e w2 ⟨cc,rfl,O,E⟩;have HB:=qH E;clear E;rcases O with ⟨rfl,hT⟩ | ⟨rfl,hT⟩
 case inr =>
  have HT:=qH hT;clear hT;go_wp2;go_ret;exact⟨60,rfl,qax ⟨rfl,HT.o⟩,HB.o⟩
 have HT:=qH hT;clear hT;go_wp2_with fail
 go_loopw [17] (fun x17 W=>∃k:Nat,k<=R2/\x17=.int .i64 k/\Hu (∀i,i<k->FAll (L.getD i []))/\Hu (Below w.heap.size w W)) (fun x17 _=>R2-(intOf x17).toNat)
 case atStart=>exact⟨0,qaj _,rfl,qH (fun i U=>absurd U (by omega)),HB⟩
 case round =>
  obtain⟨k,hk,rfl,hI,hB⟩:=hrel
  by_cases ah:k<R2
  ·have aA:(k:Int)<R2:=by omega
   have ax:=I.o.1.addr (by have:=I.o.2.1;omega);subst ax;obtain⟨ra,rb,ro,rc,ae,af⟩:=(I.o.1.below hB.o).row k (by have:=I.o.2.1;omega);have HF:=qH af;obtain⟨row,F⟩:=qX (L.getD k []);obtain⟨l,H⟩:=qX row.length;have ai:=I.o.2.2 k ah;rw [F] at ae HF ai;rw [H] at ae ai;have J:=qH (qA F H);clear F H af;obtain⟨wo,ay⟩:=qY wr;subst ay;go_wp2_with fail
   go_loopw [23] (fun x23 W=>∃j:Nat,j<=l/\x23=.int .i64 j/\Hu (∀i,i<j->FOk (row.getD i fd0).1.data.toList (row.getD i fd0).2.data.toList)/\Hu (Below wo.heap.size wo W)) (fun x23 _=>l-(intOf x23).toNat)
   case atStart=>exact⟨0,qaj _,rfl,qH (fun i U=>absurd U (by omega)),qH qB⟩
   case round =>
    obtain⟨j,hj,rfl,hJ,G⟩:=hrel
    by_cases ag:j<l
    ·have az:(j:Int)<l:=by omega
     have av:=HF.o.addr (by have:=J.o.2;omega);subst av;obtain⟨d0,d1⟩:=(HF.o.below G.o).cell j (by have:=J.o.2;omega);obtain⟨N,hN⟩:=qX ((row.getD j fd0).1);obtain⟨D,hD⟩:=qX ((row.getD j fd0).2);rw [hN] at d0;rw [hD] at d1;have HX:=qH (qA hN hD);clear hN hD;go_wp2_with fail;refine (qeF N D _).mono ?_;rintro e w2 ⟨cc,rfl,O,E⟩;have V:=qH (G.o.trans ((qB.alloc qN _ |>.trans (E.mono (by simp only [qab];omega))).mono G.o.size));clear E;rcases O with ⟨rfl,hf⟩ | ⟨rfl,hf⟩
     ·have Hf:=qH hf;clear hf;go_wp2;go_roundw
      case rel=>exact⟨j+1,ag,by go_num,qH (fun i U=>by
       rcases (show i<j\/i=j by omega) with h | h
       ·exact hJ.o i h
       ·rw [h,HX.o.1,HX.o.2];exact Hf.o),V⟩
      case measure=>simp [intOf];omega
     ·have Hf:=qH hf;clear hf;go_wp2;go_ret;exact⟨20,rfl,qam (qax ⟨rfl,HT.o,fun h=>Hf.o (by
       have:=h k (by have:=I.o.2.1;omega) j (by rw [J.o.1,J.o.2];exact ag);rw [J.o.1,HX.o.1,HX.o.2] at this;exact this)⟩),hB.o.trans (V.o.mono hB.o.size)⟩
    ·obtain rfl:j=l:=by omega
     go_wp2;go_roundw
     case rel=>exact⟨k+1,ah,by go_num,qH (fun i U=>by
      rcases (show i<k\/i=k by omega) with h | h
      ·exact hI.o i h
      ·rw [h,J.o.1];exact fun x hx=>hJ.o x (by rw [<-J.o.2];exact hx)),qH (hB.o.trans (G.o.mono hB.o.size))⟩
     case measure=>simp [intOf];omega
  ·obtain rfl:k=R2:=by omega
   go_wp2;go_ret;exact⟨0,rfl,qam (qam ⟨rfl,HT.o,fun i U=>hI.o i (by have:=I.o.2.1;omega)⟩),hB.o⟩
def Neg (l:List FT):Prop:=∃k,k<l.length/\ival (l.getD k fd0).1.data.toList<0
def NegAs (w:World) (l:List FT) (e:Ending) (E:World):Prop:=∃x:Bool,e=.returned (.bool x)/\(x=true↔Neg l)/\Below w.heap.size w E
theorem qf9 (ao:Option Addr) (b ae n c:Nat) (l:List FT) (w:World) (hn:l.length=n) (hl:n<=4611686018427387904) (hc:FCells w ao b ae l) (hf:FAll l) :
  Calls prog 146 #[.slice ao n c] w fun e w'=>NegAs w l e w':=by
 have F:=qH (qA hc (qA hn hf));have ag:=qfj;clear hc hn hf;go_enter func146,ntmps146;go_wp2_with fail
 go_loopw [7] (fun x7 W=>∃j:Nat,j<=n/\x7=.int .i64 j/\Hu (∀i,i<j->0<=ival (l.getD i fd0).1.data.toList)/\Hu (Below w.heap.size w W)) (fun x7 _=>n-(intOf x7).toNat)
 case atStart=>exact⟨0,qaj _,rfl,qH (fun i hi=>absurd hi (by omega)),qH qB⟩
 case round =>
  obtain⟨j,hj,rfl,hJ,E⟩:=hrel
  by_cases Z:j<n
  ·have ah:(j:Int)<n:=by omega
   have Y:=F.o.1.addr (by have:=F.o.2.1;omega);subst Y;obtain⟨d0,d1⟩:=(F.o.1.below E.o).cell j (by have:=F.o.2.1;omega);have H:=(F.o.2.2 j (by have:=F.o.2.1;omega)).vn;obtain⟨N,hN⟩:=qX ((l.getD j fd0).1);obtain⟨D,hD⟩:=qX ((l.getD j fd0).2);rw [hN] at d0 H;rw [hD] at d1;have U:=qH (qA hN H);clear hN hD H;go_wp2_with fail;refine ((qcl .l) N U.o.2 _).mono ?_;rintro e w2 ⟨v2,rfl,J,aa⟩;have I:=qH (E.o.trans ((qB.alloc qN _ |>.trans (J.mono (by simp only [qab];omega))).mono E.o.size));obtain⟨m2,rfl,O⟩:=aa;have af:∀b W,(Instr.field 217 (.agg #[m2,.bool b]) 1).run prog W=.ok (.bool b) W:=by
    obtain⟨_,_,_,_,_,_,rfl,_,_⟩:=O;intro b W;kernel_rfl
   clear J O
   by_cases G:ival N.data.toList<0
   ·rw [qV G];have V:=qH G;clear G;go_wp2;go_ret;exact⟨true,rfl,⟨fun _=>⟨j,by have:=F.o.2.1;omega,by rw [U.o.1];exact V.o⟩,fun _=>rfl⟩,I.o⟩
   ·rw [qU G];have V:=qH (Int.not_lt.1 G);clear G;go_wp2;go_roundw
    case rel=>exact⟨j+1,Z,by go_num,qH (fun i hi=>by
     rcases (show i<j\/i=j by omega) with h | h
     ·exact hJ.o i h
     ·rw [h,U.o.1];exact V.o),I⟩
    case measure=>simp [intOf];omega
  ·obtain rfl:j=n:=by omega
   go_wp2;go_ret;exact⟨false,rfl,⟨fun h=>absurd h (by decide),fun⟨k,hk,G⟩=>absurd G (Int.not_lt.2 (hJ.o k (by have:=F.o.2.1;omega)))⟩,E.o⟩
def lval (l:List FT) (k:Nat):Rat:=fval (l.getD k fd0).1.data.toList (l.getD k fd0).2.data.toList
def tval (t:Tbl) (i:Nat):Nat->Rat:=lval (t.getD i [])
theorem qhR (n d:List UInt8):fval n d=(ival n:Rat) / ((ival d).natAbs:Rat):=by
 unfold fval;rw [<-Rat.divInt_ofNat,Rat.divInt_eq_div];rfl
theorem flcd_dvd {l:List FT} {k:Nat} (E:k<l.length):fden (l.getD k fd0)∣flcd l:=by
 have h:=qhU (l.map fden) (l.map fden).length k (by rw [qaD];exact E) qN;rw [qbf] at h;have e:(l.map fden).getD k 0=fden (l.getD k fd0):=by
  rw [qaa,qaN,qaa,qad E];rfl
 rw [e] at h;exact h
theorem ql9 {l:List FT} {j:Nat} (F:j<(l.map fden).length):(l.map fden).getD j 0=fden (l.getD j fd0):=by
 have E:j<l.length:=by rw [qaD] at F;exact F
 rw [qaa,qaN,qaa,qad E];rfl
theorem qkk {l:List FT} (h:FAll l):0<flcd l:=by
 have:=qft (l.map fden) (fun j E=>by rw [ql9 E];exact (qd1 h (by rw [qaD] at E;exact E)).1) (l.map fden).length qN;rw [qbf] at this;exact this
theorem qfl {l:List FT} (h:FAll l) {m:Nat} (F:l.length<=m):Fit (flcd l) (m*67+1):=by
 have:=qfs (l.map fden) 67 (fun j E=>by rw [ql9 E];exact qd1 h (by rw [qaD] at E;exact E)) (l.map fden).length qN;rw [qbf,qaD] at this;exact this.mono (by omega)
theorem qfm {l:List FT} (h:FAll l) {k:Nat} (F:k<l.length):((ftop l k:Int):Rat)=(flcd l:Rat)*lval l k:=by
 obtain⟨q,G⟩:=flcd_dvd F;have E:=(qd1 h F).1;have e:flcd l / fden (l.getD k fd0)=q:=by rw [G];exact qa2 _ E
 unfold ftop lval;rw [qhR,e,G];have H:((fden (l.getD k fd0):Nat):Rat)≠0:=by
  have:=qbo E
  exact_mod_cast this
 show _=_*((ival _:Rat) / ((fden (l.getD k fd0):Nat):Rat))
 push_cast
 grind
theorem qdc {l:List FT} (h:FAll l) {m:Nat} (F:l.length<=m) {k:Nat} (E:k<l.length):Fit (ftop l k).natAbs (67+(m*67+1)):=by
 unfold ftop;rw [qaK,qar];exact (h k E).vn.fit.mul ((qfl h F).le (qaV _ _))
theorem Sing.scale {R:Nat} {A B:Nat->Nat->Rat} (s:Nat->Rat) (I:∀i,i<R->s i≠0) (h:∀i,i<R->∀j,j<R->A i j=s i*B i j):Sing R A↔Sing R B:=by
 have F:∀(y:Nat->Rat) i,i<R->sumQ R (fun j=>A i j*y j)=s i*sumQ R (fun j=>B i j*y j):=fun y i E=>by
  rw [<-qcr];exact qb4 fun j H=>by rw [h i E j H];grind
 constructor
 ·rintro ⟨y,hy,G⟩;refine⟨y,hy,fun i E=>?_⟩;have:=G i E;rw [F y i E] at this;rcases Rat.mul_eq_zero.1 this with e | e
  ·exact absurd e (I i E)
  ·exact e
 ·rintro ⟨y,hy,G⟩;exact⟨y,hy,fun i E=>by rw [F y i E,G i E];grind⟩
theorem qcO.scale {R:Nat} {A B:Nat->Nat->Rat} {b c x:Nat->Rat} (s:Nat->Rat) (J:∀i,i<R->s i≠0) (h:∀i,i<R->∀j,j<R->A i j=s i*B i j) (H:∀i,i<R->b i=s i*c i) (hx:qcO R A b x):qcO R B c x:=fun i E=>by
 have F:=hx i E;have G:sumQ R (fun j=>A i j*x j)=s i*sumQ R (fun j=>B i j*x j):=by
  rw [<-qcr];exact qb4 fun j I=>by rw [h i E j I];grind
 rw [G,H i E] at F;have:=J i E
 grind
theorem qgx {l:List FT} {x:FT} {k:Nat} (E:k<l.length):(l++[x]).getD k fd0=l.getD k fd0:=by
 rw [qaa,qaz E,<-qaa]
theorem qgw {l:List FT} {x:FT}:(l++[x]).getD l.length fd0=x:=by
 rw [qaa,qau qN,qaM];rfl
theorem FAll.snoc {l:List FT} {x:FT} (h:FAll l) (hx:FOk x.1.data.toList x.2.data.toList):FAll (l++[x]):=fun k E=>by
 rw [qaf,qaG] at E
 by_cases e:k<l.length
 ·rw [qgx e];exact h k e
 ·obtain rfl:k=l.length:=by omega
  rw [qgw];exact hx
theorem qgH {l:List FT} {x:FT} {k:Nat} (E:k<l.length):lval (l++[x]) k=lval l k:=by unfold lval;rw [qgx E]
theorem qgG {l:List FT} {x:FT}:lval (l++[x]) l.length=fval x.1.data.toList x.2.data.toList:=by unfold lval;rw [qgw]
structure MatPart (W:World) (tb R k n:Nat) (gs:Nat->Nat) (M:Nat->Nat->Int):Prop where
 row:W.heap[tb]? = some (.cells (rowvs k n gs++List.replicate (R-k) zs0).toArray 212 (0,0))
 rows:∀i,i<k->qcm W (gs i) n (M i)
 le:k<=R
theorem MatPart.below {W W':World} {G R k n:Nat} {E:Nat->Nat} {M:Nat->Nat->Int} (h:MatPart W G R k n E M) (F:Below W.heap.size W W'):MatPart W' G R k n E M :=
 ⟨(F.block _ (qG h.row).1).trans h.row,fun i H=>(h.rows i H).below F,h.le⟩
theorem qh5 {R k n:Nat} {E:Nat->Nat}:∀x∈(rowvs k n E++List.replicate (R-k) zs0).toArray.toList,∀d,x≠.int .u32 d:=by
 intro x hx d e;rcases qaI.1 (show x∈rowvs k n E++List.replicate (R-k) zs0 from hx) with h | h
 ·exact qgV x h d e
 ·rw [(List.mem_replicate.1 h).2] at e;cases e
theorem qcm.keepRows {W W':World} {G g J:Nat} {cs:Array Value} {m:Nat->Int} (h:qcm W g J m) (H:W.grownBy W' (some G)) (I:W.heap[G]? = some (.cells cs 212 (0,0))) (hne:∀x∈cs.toList,∀d,x≠.int .u32 d):qcm W' g J m:=by
 obtain⟨ps,O,F,U⟩:=h;have E:g≠G:=by
  intro e;subst e;have:=F.1.symm.trans I;simp at this
 exact⟨ps,O,⟨(H.block _ (qG F.1).1 (fun e=>E (qag e))).trans F.1,F.2⟩,U.keep H I hne⟩
theorem MatPart.at {W:World} {E R k n:Nat} {F:Nat->Nat} {M:Nat->Nat->Int} (h:MatPart W E R k n F M) (G:k<R):W.cell? ⟨E,k,none⟩=some zs0/\W.frozen? ⟨E,k,none⟩=false:=by
 refine⟨(qC _ _ _ _ _ _ h.row).trans ?_,qF _ _ _ _ _ h.row⟩;rw [qaC,qau (by rw [qcN];exact qae _),qcN,qaM,qbk,if_pos (by omega)]
theorem MatPart.done {W:World} {F R n:Nat} {E:Nat->Nat} {M:Nat->Nat->Int} (h:MatPart W F R R n E M):MatAt W F R n E M:=by
 have:=h.row;rw [qaM,List.replicate_zero,qbw] at this;exact⟨this,h.rows⟩
theorem MatPart.made (W:World) (R n:Nat) (E:Nat->Nat) (M:Nat->Nat->Int):MatPart (W.alloc (.cells (madeCells #[zs0] R) 212)) W.heap.size R 0 n E M:=by
 refine⟨?_,fun i F=>absurd F (by omega),qaj _⟩;rw [qM _ _ _ rfl,Nat.sub_zero,show rowvs 0 n E=[] from rfl,qbj,<-toList_madeCells_one,Array.toArray_toList]
theorem qkn:(Tryz.prog.info? 212).map (fun i=>(i.zero,i.size,i.bytes))=some (some (.slice none 0 0),1,24):=by kernel_rfl
theorem qmY (n:Nat) (I:n<=1048576) (w:World):(Instr.makeSlice 260 (.int .i64 (n:Int)) (.int .i64 (n:Int))).run prog w=.ok (.slice (some ⟨w.heap.size,0,none⟩) n n) (w.alloc (.cells (madeCells #[zs0] n) 212)):=by
 obtain⟨i,H,E,F,G⟩:=info_parts qkn;have h:=run_make (P:=prog) w 260 212 i _ underlying260 H E .i64 .i64 (n:Int) (n:Int) (by omega) (Int.le_refl _) (by rw [G];omega) (by omega);rw [F,Int.toNat_natCast,qbO] at h;exact h
theorem qec {w a b:World} {g:Nat} (h:Below w.heap.size w a) (k:a.grownBy b (some g)) (hg:w.heap.size<=g:=by omega):Below w.heap.size w b :=
 h.trans ⟨k.os,k.tape,k.output,k.size,fun i E=>k.block i (qak E h.size) (fun e=>by have:=qag e;omega)⟩
theorem qd5 {a b:World} {g:Nat} (h:a.grownBy b (some g)) {p:Addr} (E:p.block<a.heap.size) (hne:p.block≠g):b.cell? p=a.cell? p:=World.cell?_of_block (h.block _ E (fun e=>hne (qag e)))
theorem qer {W:World} {G:Option Addr} {b F n c:Nat} {l:List FT} (O:l.length=n) (V:n<=64) (E:FCells W G b F l) (J:FAll l) :
  Calls prog 147 #[.slice G n c] W fun e W'=>∃g v,e=.returned (.tuple #[rowv g n,v])/\W.heap.size<=g/\Below W.heap.size W W'/\MagAt W' v (flcd l)/\qcm W' g n (ftop l):=by
 refine (qiA G b F n c l W O V E J).mono ?_;rintro e W' ⟨g,v,ps,rfl,hg,I,U,Y,hr,H⟩;exact⟨g,v,rfl,hg,I,U,ps,Y,hr,H⟩
def besides (t:Tbl) (l:List FT) (i:Nat):List FT:=t.getD i []++[l.getD i fd0]
def resR (n:Nat) (A:Nat->Nat->Rat) (b z:Nat->Rat) (i:Nat):Rat:=sumQ n (fun j=>A i j*z j)-b i
def msR (R n:Nat) (A:Nat->Nat->Rat) (b w z:Nat->Rat):Rat:=sumQ R fun i=>w i*(resR n A b z i*resR n A b z i)
