import Derived.Test.YtjalhnlhcdfncaaGreatDoorBf12
set_option maxRecDepth 100000
set_option maxHeartbeats 0
namespace Go.Proofs.YtjalhnlhcdfncaaGreatDoor
def sel {α:Type} (a:α) (P:Nat->α):Nat->α
 | 0=>a
 | s+1=>P s
def BR (k:Nat) (P:Nat->Nat->Int) (σ:Nat->Nat) (a:Nat->Int) (j:Nat):Int:=det (k+1) fun r x=>sel a P r (sel j σ x)
def DR (k:Nat) (P:Nat->Nat->Int) (σ:Nat->Nat):Int:=det k fun r x=>P r (σ x)
theorem qiR (P:Nat->Nat->Int) (σ:Nat->Nat) (a:Nat->Int) (j:Nat):BR 0 P σ a j=a j:=by
 show sumN 1 _=_
 show 0+sg 0*a j*1=a j
 rw [sg0];omega
theorem qdT {k:Nat} {P:Nat->Nat->Int} {σ:Nat->Nat} (J:DR k P σ≠0) (a p:Nat->Int) (c j:Nat) :
  BR k P σ a j*BR k P σ p c-BR k P σ a c*BR k P σ p j=DR k P σ*BR (k+1) (sel p P) (sel c σ) a j:=by
 have h:=qmW k (fun r x=>sel a (sel p P) r (sel j (sel c σ) x)) J;have F:bord k (fun r x=>sel a (sel p P) r (sel j (sel c σ) x)) 0 0=BR k P σ a j:=by
  unfold bord BR
  congr 1;funext r x
  cases r <;> cases x <;> rfl
 have I:bord k (fun r x=>sel a (sel p P) r (sel j (sel c σ) x)) 1 1=BR k P σ p c:=by
  unfold bord BR
  congr 1;funext r x
  cases r <;> cases x <;> rfl
 have G:bord k (fun r x=>sel a (sel p P) r (sel j (sel c σ) x)) 0 1=BR k P σ a c:=by
  unfold bord BR
  congr 1;funext r x
  cases r <;> cases x <;> rfl
 have H:bord k (fun r x=>sel a (sel p P) r (sel j (sel c σ) x)) 1 0=BR k P σ p j:=by
  unfold bord BR
  congr 1;funext r x
  cases r <;> cases x <;> rfl
 rw [F,I,G,H] at h;exact h
theorem qiS (k:Nat) (P:Nat->Nat->Int) (σ:Nat->Nat) (p:Nat->Int) (c:Nat):DR (k+1) (sel p P) (sel c σ)=BR k P σ p c:=rfl
theorem qhm (k:Nat) (P:Nat->Nat->Int) (σ:Nat->Nat) (a:Nat->Int) (j:Nat) (h:∀s,s<k->a (σ s)=0):BR k P σ a j=DR k P σ*a j:=by
 show sumN (k+1) (fun x=>sg x*sel a P 0 (sel j σ x)*det k fun r c=>sel a P (r+1) (sel j σ (skip x c)))=_
 rw [qfh k _ fun i F=>by
  show sg (i+1)*a (σ i)*_=0
  rw [h i F,qbA,Int.zero_mul]]
 have e:(fun r c=>sel a P (r+1) (sel j σ (skip 0 c)))=fun r x=>P r (σ x):=by
  funext r c;rw [qdx];rfl
 rw [e,sg0,Int.one_mul,qbf];rfl
abbrev castM (M:Nat->Nat->Int):Nat->Nat->Rat:=fun i j=>(M i j:Rat)
def qb0 (f:Nat->Bool) (M:Nat->Nat->Int) (p c:Nat) (D:Int):Nat->Nat->Int:=fun i=>if f i=true/\i≠p then fun j=>(M p c*M i j-M i c*M p j).tdiv D else M i
theorem qiF {f:Nat->Bool} {R n p c:Nat} {M:Nat->Nat->Int} {D:Int} (V:p<R) (Y:D≠0) (hc:M p c≠0) (hx:∀i,i<R->f i=true->i≠p->∀j,j<n->D∣M p c*M i j-M i c*M p j):qcZ R R n (castM M) (castM (qb0 f M p c D)):=by
 have Z:(D:Rat)≠0:=by exact_mod_cast Y
 have aa:(M p c:Rat)≠0:=by exact_mod_cast hc
 have H:∀i,i<R->f i=true->i≠p->∀j,j<n->(D:Rat)*((qb0 f M p c D i j:Int):Rat)=M p c*M i j-M i c*M p j:=by
  intro i G U J j O;have e:qb0 f M p c D i j=(M p c*M i j-M i c*M p j).tdiv D:=by unfold qb0;rw [if_pos ⟨U,J⟩]
  have:=Int.mul_tdiv_cancel' (hx i G U J j O);rw [e]
  exact_mod_cast this
 have F:∀i,¬(f i=true/\i≠p)->qb0 f M p c D i=M i:=fun i h=>by unfold qb0;rw [if_neg h]
 have I:qb0 f M p c D p=M p:=F p (fun h=>h.2 rfl);refine⟨fun i G=>?_,fun i G=>?_⟩
 ·by_cases h:f i=true/\i≠p
  ·refine Span.congr (Span.comb (Span.row (A:=castM (qb0 f M p c D)) G) (Span.row (A:=castM (qb0 f M p c D)) V) ((D:Rat) / M p c) ((M i c:Rat) / M p c)) (fun _ _ _ _=>rfl) fun j O=>?_
   have:=H i G h.1 h.2 j O
   show (D:Rat) / M p c*((qb0 f M p c D i j:Int):Rat)+(M i c:Rat) / M p c*((qb0 f M p c D p j:Int):Rat)=(M i j:Rat)
   rw [I]
   grind
  ·have:=Span.row (R:=R) (n:=n) (A:=castM (qb0 f M p c D)) (i:=i) G;exact Span.congr this (fun _ _ _ _=>rfl) fun j _=>by show ((qb0 f M p c D i j:Int):Rat)=_;rw [F i h]
 ·by_cases h:f i=true/\i≠p
  ·refine Span.congr (Span.comb (Span.row (A:=castM M) G) (Span.row (A:=castM M) V) ((M p c:Rat) / D) (-(M i c:Rat) / D)) (fun _ _ _ _=>rfl) fun j O=>?_
   have:=H i G h.1 h.2 j O
   show (M p c:Rat) / D*(M i j:Rat) + -(M i c:Rat) / D*(M p j:Rat)=((qb0 f M p c D i j:Int):Rat)
   grind
  ·have:=Span.row (R:=R) (n:=n) (A:=castM M) (i:=i) G;exact Span.congr this (fun _ _ _ _=>rfl) fun j _=>by show (M i j:Rat)=((qb0 f M p c D i j:Int):Rat);rw [F i h]
def qb3 {α:Type} (M:Nat->α) (k a:Nat):Nat->α:=fun j=>if j=k then M a else if j=a then M k else M j
theorem qiG {R n k a:Nat} {M:Nat->Nat->Int} (J:k<R) (I:a<R):qcZ R R n (castM M) (castM (qb3 M k a)):=by
 have row:∀i l,i<R->qb3 M k a i=M l->Span R n (castM (qb3 M k a)) (castM M l):=fun i l H h =>
  Span.congr (Span.row (R:=R) (n:=n) (A:=castM (qb3 M k a)) (i:=i) H) (fun _ _ _ _=>rfl) fun j _=>by show ((qb3 M k a i j:Int):Rat)=_;rw [h]
 have F:∀i l,l<R->qb3 M k a i=M l->Span R n (castM M) (castM (qb3 M k a) i):=fun i l O h =>
  Span.congr (Span.row (R:=R) (n:=n) (A:=castM M) (i:=l) O) (fun _ _ _ _=>rfl) fun j _=>by show (M l j:Rat)=((qb3 M k a i j:Int):Rat);rw [h]
 refine⟨fun i H=>?_,fun i H=>?_⟩
 ·by_cases e:i=k
  ·subst e
   by_cases G:a=i
   ·subst G;exact row a a I (by unfold qb3;rw [if_pos rfl])
   ·exact row a i I (by unfold qb3;rw [if_neg G,if_pos rfl])
  ·by_cases G:i=a
   ·subst G;exact row k i J (by unfold qb3;rw [if_pos rfl])
   ·exact row i i H (by unfold qb3;rw [if_neg e,if_neg G])
 ·by_cases e:i=k
  ·exact F i a I (by unfold qb3;rw [if_pos e])
  ·by_cases G:i=a
   ·exact F i k J (by unfold qb3;rw [if_neg e,if_pos G])
   ·exact F i i H (by unfold qb3;rw [if_neg e,if_neg G])
theorem qjr {α:Type} {M:Nat->α} {k a i:Nat} (G:i<k) (F:k<=a):qb3 M k a i=M i:=by unfold qb3;rw [if_neg (by omega),if_neg (by omega)]
structure ElimSt (R n k:Nat) (D:Int) (M A:Nat->Nat->Int):Prop where
 span:qcZ R R n (castM M) (castM A)
 dets:∃(P:Nat->Nat->Int) (σ:Nat->Nat) (a:Nat->Nat->Int),DR k P σ=D/\(∀s,s<k->σ s<k)/\(∀i,k<=i->i<R->∀j,j<n->M i j=BR k P σ (a i) j) /\
  ∀i,i<k->∀j,j<n->M i j=D*(if j=i then 1 else 0)-BR k P σ (fun x=>if x=i then 1 else 0) j
 diag:∀i,i<R->∀c,c<k->M i c=if i=c then D else 0
 nz:D≠0
theorem ElimSt.start (R n:Nat) (A:Nat->Nat->Int):ElimSt R n 0 1 A A :=
 ⟨qcZ.refl _ _ _,⟨fun _ _=>0,fun _=>0,A,rfl,fun s H=>absurd H (by omega),fun i _ _ j _=>(qiR _ _ _ _).symm,fun i F=>absurd F (by omega)⟩,fun _ _ j G=>absurd G (by omega),by decide⟩
theorem ElimSt.swap {R n k a:Nat} {D:Int} {M A:Nat->Nat->Int} (h:ElimSt R n k D M A) (V:k<=a) (I:a<R):ElimSt R n k D (qb3 M k a) A:=by
 have U:k<R:=by omega
 refine⟨(qiG U I).symm.trans h.span,?_,?_,h.nz⟩
 ·obtain⟨P,σ,b,Y,hσ,J,hl⟩:=h.dets;refine⟨P,σ,qb3 b k a,Y,hσ,fun i G Z j H=>?_,fun i G j H=>by rw [qjr G V];exact hl i G j H⟩;unfold qb3
  by_cases e:i=k
  ·rw [if_pos e,if_pos e];exact J a V I j H
  ·by_cases F:i=a
   ·rw [if_neg e,if_neg e,if_pos F,if_pos F];exact J k qN U j H
   ·rw [if_neg e,if_neg e,if_neg F,if_neg F];exact J i G Z j H
 ·intro i G c O;have hd:=h.diag i G c O;unfold qb3
  by_cases e:i=k
  ·rw [if_pos e,h.diag a I c O,if_neg (by omega),if_neg (by omega)]
  ·by_cases F:i=a
   ·rw [if_neg e,if_pos F,h.diag k U c O,if_neg (by omega),if_neg (by omega)]
   ·rw [if_neg e,if_neg F,hd]
theorem ElimSt.next {R n k:Nat} {D:Int} {M A:Nat->Nat->Int} (h:ElimSt R n k D M A) (hk:k<R) (V:k<n) (h0:M k k≠0):ElimSt R n (k+1) (M k k) (qb0 (fun _=>true) M k k D) A:=by
 obtain⟨P,σ,b,Z,hσ,hb,hl⟩:=h.dets;have O:DR k P σ≠0:=by rw [Z];exact h.nz
 have U:∀j,j<n->M k j=BR k P σ (b k) j:=hb k qN hk;have H:∀i,i≠k->∀j,qb0 (fun _=>true) M k k D i j=(M k k*M i j-M i k*M k j).tdiv D:=fun i G j=>by
  unfold qb0;rw [if_pos ⟨rfl,G⟩]
 have I:qb0 (fun _=>true) M k k D k=M k:=by unfold qb0;rw [if_neg (fun h=>h.2 rfl)]
 have aa:∀i,k<i->i<R->∀j,j<n->M k k*M i j-M i k*M k j=D*BR (k+1) (sel (b k) P) (sel k σ) (b i) j:=fun i G hR j F=>by
  have:=qdT O (b i) (b k) k j;rw [Z,<-hb i (by omega) hR j F,<-U k V,<-hb i (by omega) hR k V,<-U j F] at this;rw [<-this,qbf (M i j)]
 have ae:∀i,i<k->∀j,j<n->M k k*M i j-M i k*M k j=D*(M k k*(if j=i then 1 else 0)-BR (k+1) (sel (b k) P) (sel k σ) (fun x=>if x=i then 1 else 0) j):=fun i G j F=>by
  have:=qdT O (fun x=>if x=i then 1 else 0) (b k) k j;rw [Z,<-U k V,<-U j F] at this;rw [hl i G j F,hl i G k V,if_neg (by omega:¬k=i),Int.mul_sub D,<-this];generalize BR k P σ (fun x=>if x=i then 1 else 0) j=X;generalize BR k P σ (fun x=>if x=i then 1 else 0) k=Y;generalize (if j=i then (1:Int) else 0)=E;rw [qbA,Int.zero_sub,qbz,Int.sub_neg,Int.mul_sub,qbf X,Int.mul_left_comm (M k k) D];omega
 have ag:∀j,j<n->M k j=M k k*(if j=k then 1 else 0)-BR (k+1) (sel (b k) P) (sel k σ) (fun x=>if x=k then 1 else 0) j:=fun j F=>by
  have:=qdT O (fun x=>if x=k then 1 else 0) (b k) k j;rw [Z,<-U k V,<-U j F,qhm k P σ _ j (fun s hs=>if_neg (by have:=hσ s hs;omega)),qhm k P σ _ k (fun s hs=>if_neg (by have:=hσ s hs;omega)),Z,if_pos rfl] at this;have e:D*(M k k*(if j=k then 1 else 0)-M k j)=D*BR (k+1) (sel (b k) P) (sel k σ) (fun x=>if x=k then 1 else 0) j:=by
   rw [<-this,Int.mul_sub,Int.mul_one];generalize (if j=k then (1:Int) else 0)=E;rw [qbw,qbf E]
  have:=Int.eq_of_mul_eq_mul_left h.nz e;omega
 refine⟨(qiF hk h.nz h0 fun i G _ af j F=>?_).symm.trans h.span,⟨sel (b k) P,sel k σ,b,by rw [qiS];exact (U k V).symm,?_,fun i G hR j F=>?_,fun i G j F=>?_⟩,fun i G c ah=>?_,h0⟩
 ·rcases Nat.lt_or_gt_of_ne af with e | e
  ·exact⟨_,ae i e j F⟩
  ·exact⟨_,aa i e G j F⟩
 ·intro s hs;cases s with
  | zero=>show k<k+1;omega
  | succ s=>show σ s<k+1;have:=hσ s (by omega);omega
 ·rw [H i (by omega) j,aa i (by omega) hR j F,Int.mul_tdiv_cancel_left _ h.nz]
 ·by_cases e:i=k
  ·subst e;rw [I];exact ag j F
  ·rw [H i e j,ae i (by omega) j F,Int.mul_tdiv_cancel_left _ h.nz]
 ·by_cases e:i=k
  ·subst e;rw [I]
   by_cases J:i=c
   ·rw [if_pos J,J]
   ·rw [if_neg J,h.diag i G c (by omega),if_neg J]
  ·rw [H i e c]
   by_cases J:c=k
   ·subst J;rw [if_neg e,qbf,Int.sub_self];exact Int.zero_tdiv _
   ·rw [h.diag i G c (by omega),h.diag k hk c (by omega),if_neg (fun h:k=c=>J h.symm),qbA,Int.sub_zero]
    by_cases e3:i=c
    ·rw [if_pos e3,if_pos e3,Int.mul_tdiv_cancel _ h.nz]
    ·rw [if_neg e3,if_neg e3,qbA];exact Int.zero_tdiv _
open Go.RowKit Go.Proofs.Tryz
def KK (K k:Nat):Nat:=(K+1)*2 ^ k-1
theorem qk8 (K:Nat):KK K 0=K:=by unfold KK;rw [Nat.pow_zero,qbI];omega
theorem qk7 (K k:Nat):KK K (k+1)=KK K k+KK K k+1:=by
 unfold KK;have h:0<(K+1)*2 ^ k:=qbM (by omega) (Nat.pow_pos (by decide));rw [qaR,<-qaJ];omega
theorem KK_le {K k:Nat} (J:K<=33554430) (I:k<=10):KK K k<=34359738368:=by
 unfold KK;have F:2 ^ k<=2 ^ 10:=qa1 (by decide) I;have G:(K+1)*2 ^ k<=(K+1)*2 ^ 10:=qaG _ F;have H:(2:Nat) ^ 10=1024:=by decide
 rw [H] at G;omega
theorem fit_step {a b c d z:Int} {K:Nat} (H:Fit a.natAbs K) (I:Fit b.natAbs K) (J:Fit c.natAbs K) (O:Fit d.natAbs K):Fit ((a*b-c*d).tdiv z).natAbs (K+K+1):=by
 have F:=H.mul I;have G:=J.mul O;rw [<-qaE] at F G;refine ((F.add G).le ?_);refine qaj ?_ (show (a*b-c*d).natAbs<=_ by omega);rw [Int.natAbs_tdiv];exact qaN _ _
theorem swap_fit {M:Nat->Nat->Int} {k a R n K:Nat} (I:k<R) (G:a<R) (h:∀i,i<R->∀j,j<n->Fit (M i j).natAbs K):∀i,i<R->∀j,j<n->Fit (qb3 M k a i j).natAbs K:=by
 intro i H j F;unfold qb3;split
 ·exact h a G j F
 ·split
  ·exact h k I j F
  ·exact h i H j F
def qb8 (W:World) (g:Nat) (z:Int):Prop:=∃(a:Option Addr) (m c:Nat) (b:Bool),W.heap[g]? = some (.cells #[.slice a m c,.bool b] 217 (0,0))/\IntAt W (.agg #[.slice a m c,.bool b]) z
theorem qb8.below {W W':World} {g:Nat} {z:Int} (h:qb8 W g z) (G:Below W.heap.size W W'):qb8 W' g z:=by
 obtain⟨a,m,c,b,F,H⟩:=h;exact⟨a,m,c,b,(G.block _ (qG F).1).trans F,H.below G⟩
theorem qb8.keep {W W':World} {g G R n:Nat} {J:Nat->Nat} {z:Int} (h:qb8 W g z) (H:W.grownBy W' (some G)) (I:W.heap[G]? = some (.cells (rowvs R n J).toArray 212 (0,0))):qb8 W' g z:=by
 obtain⟨a,m,c,b,F,x,e,O⟩:=h;have hne:g≠G:=by
  intro e;subst e;have:=F.symm.trans I;simp at this
 exact⟨a,m,c,b,(H.block _ (qG F).1 (fun e=>hne (qag e))).trans F,x,e,qcj O H I qgr⟩
theorem qjK {a:Option Addr} {m c:Nat} {b:Bool}:∀x∈(#[.slice a m c,.bool b]:Array Value).toList,∀d,x≠.int .u32 d:=by
 intro x F d e;rcases qaz.1 F with h | h
 ·rw [h] at e;cases e
 ·rw [qao.1 h] at e;cases e
theorem qdR (W:World) (g:Nat) (u v:Value):W.grownBy ((W.setCell ⟨g,0,none⟩ u).setCell ⟨g,1,none⟩ v) (some g):=qbR (qbP W g 0 u) (qbP _ g 1 v)
theorem qb8.put {W:World} {g:Nat} {z0 z:Int} {a:Option Addr} {m c:Nat} {b:Bool} (h:qb8 W g z0) (G:IntAt W (.agg #[.slice a m c,.bool b]) z):qb8 ((W.setCell ⟨g,0,none⟩ (.slice a m c)).setCell ⟨g,1,none⟩ (.bool b)) g z:=by
 obtain⟨a0,m0,c0,b0,F,_⟩:=h;obtain⟨x,e,H⟩:=G;exact⟨a,m,c,b,heap_setCell_same _ g 1 _ _ _ (heap_setCell_same _ g 0 _ _ _ F),x,e,qcj H (qdR W g _ _) F qjK⟩
theorem qca.put {W W':World} {g F n:Nat} {z0:Int} {m:Nat->Int} (h:qca W F n m) (I:qb8 W g z0) (G:W.grownBy W' (some g)) (hne:F≠g):qca W' F n m:=by
 obtain⟨a0,m0,c0,b0,H,_⟩:=I;obtain⟨ps,p1,p2,p3⟩:=h;exact⟨ps,p1,⟨(G.block _ (qG p2.1).1 (fun e=>hne (qag e))).trans p2.1,p2.2⟩,p3.keep G H qjK⟩
theorem MatAt.put {W W':World} {G R n g:Nat} {F:Nat->Nat} {M:Nat->Nat->Int} {z0:Int} (h:MatAt W G R n F M) (H:qb8 W g z0) (J:W.grownBy W' (some g)) (hne:∀i,i<R->F i≠g):MatAt W' G R n F M:=by
 refine⟨?_,fun i I=>(h.rows i I).put H J (hne i I)⟩;have:G≠g:=by
  intro e;subst e;obtain⟨_,_,_,_,O,_⟩:=H;have:=h.row.symm.trans O;simp at this
 exact (J.block _ (qG h.row).1 (fun e=>this (qag e))).trans h.row
theorem qb8.cells {W:World} {g:Nat} {z:Int} (h:qb8 W g z):∃(a:Option Addr) (m c:Nat) (b:Bool),(W.cell? ⟨g,0,none⟩=some (.slice a m c)/\W.cell? ⟨g,1,none⟩=some (.bool b))/\(W.frozen? ⟨g,0,none⟩=false/\W.frozen? ⟨g,1,none⟩=false)/\IntAt W (.agg #[.slice a m c,.bool b]) z:=by
 obtain⟨a,m,c,b,F,G⟩:=h;exact⟨a,m,c,b,⟨qC _ _ 0 _ _ _ F,qC _ _ 1 _ _ _ F⟩,⟨qF _ _ 0 _ _ F,qF _ _ 1 _ _ F⟩,G⟩
theorem qca.pair {W:World} {g n:Nat} {m:Nat->Int} (h:qca W g n m) {c:Nat} (I:c<n):∃(a:Option Addr) (l k:Nat) (b:Bool),W.cell? ⟨g,c*2,none⟩=some (.slice a l k)/\W.cell? ⟨g,c*2+1,none⟩=some (.bool b)/\IntAt W (.agg #[.slice a l k,.bool b]) (m c):=by
 obtain⟨ps,F,G,H⟩:=h;obtain⟨d0,d1⟩:=qca.cells F G c I;obtain⟨a,l,k,b,e,J⟩:=qc1 H (k:=c) (by omega);rw [e] at d0 d1;exact⟨a,l,k,b,d0,d1,J⟩
theorem qb8.lt {W:World} {g:Nat} {z:Int} (h:qb8 W g z):g<W.heap.size:=by
 obtain⟨_,_,_,_,F,_⟩:=h;exact (qG F).1
theorem qeq {a b:World} {row:Option Nat} (h:a.grownBy b row) {p:Addr} (G:a.heap.size<=p.block) (v:Value):a.grownBy (b.setCell p v) row :=
 ⟨h.os,h.tape,h.output,by simpa [World.setCell] using h.size,fun i F hne=>(qW b p v i (by omega)).trans (h.block i F hne)⟩
theorem gs_set {R i g x:Nat} {F:Nat->Nat} (h:∀j,j<R->F j≠x) (hg:g≠x):∀j,j<R->(fun j=>if j=i then g else F j) j≠x:=by
 intro j G
 by_cases e:j=i
 ·simp only [if_pos e];exact hg
 ·simp only [if_neg e];exact h j G
theorem qlE {R k a x:Nat} {F:Nat->Nat} (J:k<R) (H:a<R) (h:∀i,i<R->F i≠x):∀i,i<R->(fun j=>if j=k then F a else if j=a then F k else F j) i≠x:=by
 intro i I
 by_cases e:i=k
 ·simp only [if_pos e];exact h a H
 ·by_cases G:i=a
  ·simp only [if_neg e,if_pos G];exact h k J
  ·simp only [if_neg e,if_neg G];exact h i I
theorem qhs {W:World} {I J n c K:Nat} {G H:Nat->Int} {v0:Value} {z0:Int} (hK:K<=34359738368) (hn:n<=64) (hc:c<n) (hi:qca W I n G) (hk:qca W J n H) (U:∀j,j<n->Fit (G j).natAbs K) (V:∀j,j<n->Fit (H j).natAbs K) (h0:IntAt W v0 z0) (O:Fit z0.natAbs K) (aa:z0≠0) :
  Calls prog 256 #[rowv I n,rowv J n,.int .i64 c,v0] W fun e W'=>∃g,e=.returned (rowv g n)/\W.heap.size<=g/\Below W.heap.size W W'/\qca W' g n (fun j=>(H c*G j-G c*H j).tdiv z0):=by
 obtain⟨ps,p1,p2,p3⟩:=hi;obtain⟨qs,q1,q2,q3⟩:=hk;refine (qhY I J n n n c ps qs G H K hK v0 z0 W hn hc p1 q1 (qca.cells p1 p2) (qca.cells q1 q2) p3 q3 U V h0 O aa).mono ?_;rintro e W' ⟨g,rs,rfl,hg,hb,Z,F,Y⟩;exact⟨g,rfl,hg,hb,rs,Z,F,Y⟩
def epart (M:Nat->Nat->Int) (k:Nat) (D:Int) (i:Nat):Nat->Nat->Int:=qb0 (fun j=>decide (j<i)) M k k D
theorem qi3 (M:Nat->Nat->Int) (k:Nat) (D:Int):epart M k D 0=M:=by
 funext j
 unfold epart qb0;rw [if_neg];intro h;have:=of_decide_eq_true h.1;omega
theorem qeU (M:Nat->Nat->Int) (k:Nat) (D:Int) (i:Nat):epart M k D i i=M i/\epart M k D i k=M k:=by
 unfold epart qb0
 constructor
 ·rw [if_neg];intro h;have:=of_decide_eq_true h.1;omega
 ·rw [if_neg];intro h;exact h.2 rfl
theorem qkn (M:Nat->Nat->Int) (k:Nat) (D:Int) (i:Nat) (F:i≠k):(fun j=>if j=i then (fun x=>(M k k*M i x-M i k*M k x).tdiv D) else epart M k D i j)=epart M k D (i+1):=by
 funext j
 by_cases e:j=i
 ·subst e;rw [if_pos rfl];unfold epart qb0;rw [if_pos ⟨qV (by omega),F⟩]
 ·rw [if_neg e];unfold epart qb0;have h:decide (j<i)=decide (j<i+1):=decide_eq_decide.2 (by omega);simp only [h]
theorem qko (M:Nat->Nat->Int) (k:Nat) (D:Int):epart M k D k=epart M k D (k+1):=by
 funext j
 unfold epart qb0
 by_cases e:j=k
 ·rw [if_neg (fun h=>h.2 e),if_neg (fun h=>h.2 e)]
 ·have h:decide (j<k)=decide (j<k+1):=decide_eq_decide.2 (by omega);simp only [h]
theorem qlq (M:Nat->Nat->Int) (k:Nat) (D:Int) (R:Nat):∀j,j<R->epart M k D R j=qb0 (fun _=>true) M k k D j:=by
 intro j F;unfold epart qb0;simp only [qV F]
theorem qlr {M:Nat->Nat->Int} {k:Nat} {D:Int} {R n K:Nat} (I:k<R) (H:k<n) (h:∀i,i<R->∀j,j<n->Fit (M i j).natAbs K):∀i,i<R->∀j,j<n->Fit (qb0 (fun _=>true) M k k D i j).natAbs (K+K+1):=by
 intro i F j G;unfold qb0;split
 ·exact fit_step (h k I k H) (h i F j G) (h i F k H) (h k I j G)
 ·exact (h i F j G).mono (by omega)
theorem qls {W:World} {F R n k i g:Nat} {D:Int} {G:Nat->Nat} {M:Nat->Nat->Int} (h:MatAt W F R n G (epart M k D i)) (H:i≠k) (hg:qca W g n (fun j=>(epart M k D i k k*epart M k D i i j-epart M k D i i k*epart M k D i k j).tdiv D)) :
  MatAt (W.setCell ⟨F,i,none⟩ (rowv g n)) F R n (fun j=>if j=i then g else G j) (epart M k D (i+1)):=by
 rw [(qeU M k D i).1,(qeU M k D i).2] at hg;have:=h.set i g _ hg;rw [qkn M k D i H] at this;exact this
theorem qb8.other {W:World} {g F:Nat} {z z0:Int} {u v:Value} (h:qb8 W g z) (I:qb8 W F z0) (hne:g≠F):qb8 ((W.setCell ⟨F,0,none⟩ u).setCell ⟨F,1,none⟩ v) g z:=by
 obtain⟨a,m,c,b,G,x,e,J⟩:=h;obtain⟨_,_,_,_,k1,_⟩:=I;have H:=qdR W F u v;exact⟨a,m,c,b,(H.block _ (qG G).1 (fun e=>hne (qag e))).trans G,x,e,qcj J H k1 qjK⟩
theorem qb8.row2 {W:World} {g:Nat} {z0 z:Int} {a:Option Addr} {m c:Nat} {b:Bool} (h:qb8 W g z0) (G:IntAt W (.agg #[.slice a m c,.bool b]) z):((W.setCell ⟨g,0,none⟩ (.slice a m c)).setCell ⟨g,1,none⟩ (.bool b)).heap[g]? = some (.cells #[.slice a m c,.bool b] 217 (0,0))/\IntAt ((W.setCell ⟨g,0,none⟩ (.slice a m c)).setCell ⟨g,1,none⟩ (.bool b)) (.agg #[.slice a m c,.bool b]) z:=by
 obtain⟨a0,m0,c0,b0,F,_⟩:=h;obtain⟨x,e,H⟩:=G;exact⟨heap_setCell_same _ g 1 _ _ _ (heap_setCell_same _ g 0 _ _ _ F),x,e,qcj H (qdR W g _ _) F qjK⟩
theorem qb8.zero {W:World} {g:Nat} {z0:Int} (h:qb8 W g z0):((W.setCell ⟨g,0,none⟩ (.slice none 0 0)).setCell ⟨g,1,none⟩ (.bool false)).heap[g]? = some (.cells #[.slice none 0 0,.bool false] 217 (0,0)) :=
 (h.row2 (z:=0) ⟨_,rfl,MagAt.nil _⟩).1
def ElmAs (w:World) (F R n K:Nat) (A:Nat->Nat->Int) (e:Ending) (w':World):Prop :=
  ∃(v:Value) (z:Int),e=.returned v/\IntAt w' v z/\w.grownBy w' (some F) /\
    ((z=0/\∃(k:Nat) (D:Int) (M:Nat->Nat->Int),k<R/\ElimSt R n k D M A/\∀i,k<=i->i<R->M i k=0) \/
     (Fit z.natAbs (KK K R)/\∃(G:Nat->Nat) (M:Nat->Nat->Int),MatAt w' F R n G M/\ElimSt R n R z M A/\∀i,i<R->∀j,j<n->Fit (M i j).natAbs (KK K R)))
theorem elim_any (tb R n K:Nat) (gs:Nat->Nat) (A:Nat->Nat->Int) (w:World) (aT:0<R) (hR:R<=10) (aU:R<=n) (hn:n<=11) (hK:K<=33554430) (aO:0<K) (hM:MatAt w tb R n gs A) (aG:∀i,i<R->gs i<w.heap.size) (hF:∀i,i<R->∀j,j<n->Fit (A i j).natAbs K) :
  Calls prog 240 #[.slice (some ⟨tb,0,none⟩) R R] w fun e w'=>ElmAs w tb R n K A e w':=by
 have HM:=qH (qA hM (qA aG hF));have aX:tb<w.heap.size:=(qG hM.row).1;have aR:(0:Int)<R:=by omega
 clear hM hF aG;go_enter func240,ntmps240;go_wp2_with fail
 go_loopw [10] (fun x10 W=>∃(k:Nat) (D:Int) (gs:Nat->Nat) (M:Nat->Nat->Int),k<=R/\x10=.int .i64 k/\Hu (ElimSt R n k D M A)/\Hu (MatAt W tb R n gs M/\(∀i,i<R->gs i≠w.heap.size+1+1)/\∀i,i<R->gs i≠w.heap.size)/\Hu (qb8 W (w.heap.size+1+1) D/\qb8 W w.heap.size 0)/\Hu (w.grownBy W (some tb))/\Hu (Fit D.natAbs (KK K k)/\∀i,i<R->∀j,j<n->Fit (M i j).natAbs (KK K k))) (fun x10 _=>R-(intOf x10).toNat)
 case atStart =>
  have hb:Below w.heap.size w (((w.alloc (.cells #[.slice none 0 0,.bool false] 217)).alloc (.cells #[.int .u32 1] 201)).alloc (.cells #[.slice (some ⟨w.heap.size+1,0,none⟩) 1 1,.bool false] 217)):=qbN (qbN (qbN qB qN) qN) qN;refine⟨0,1,gs,A,qam _,rfl,qH (ElimSt.start _ _ _),qH ⟨HM.o.1.below hb,fun i Z=>by have:=HM.o.2.1 i Z;omega,fun i Z=>by have:=HM.o.2.1 i Z;omega⟩,qH ⟨⟨_,_,_,_,qM _ _ _ (by simp),_,rfl,?_⟩,⟨_,_,_,_,(qL _ _ _ (by simp only [qaa];omega)).trans ((qL _ _ _ (by simp only [qaa];omega)).trans (qM _ _ _ rfl)),_,rfl,MagAt.nil _⟩⟩,qH (qbX _ hb),qH ⟨?_,fun i Z j hj=>by rw [qk8];exact HM.o.2.2 i Z j hj⟩⟩
  ·have:=(qfo (w.alloc (.cells #[.slice none 0 0,.bool false] 217)) 201 (s:=1) (by decide) (by decide)).below (qbN (o:=.cells #[.slice (some ⟨w.heap.size+1,0,none⟩) 1 1,.bool false] 217) qB qN);rw [qaa] at this;exact this
  ·rw [qk8];exact Fit.mono (show Fit 1 1 by show 1<1000000000 ^ 1;decide) aO
 case round =>
  obtain⟨k,D,gs1,M,hk,rfl,hS,O,hI,hG,aa⟩:=hrel
  by_cases G:k<R
  ·have aS:(k:Int)<R:=by omega
   have Y:k<n:=by omega
   go_wp2_with fail;refine (qmv tb R n k k gs1 M _ (by omega) G Y (by omega) O.o.1).mono ?_;rintro e w2 (⟨rfl,hw,h0⟩ | ⟨rfl,aj,a,aQ,ai,hne,az⟩)
   ·subst hw;have H0:=qH h0;obtain⟨a,m,d,b,⟨e0,e1⟩,⟨z0,z1⟩,_⟩:=hI.o.2.cells;have U:=hI.o.2.zero;have ah:=qeq (qeq hG.o qN (p:=⟨w.heap.size,0,none⟩) (.slice none 0 0)) qN (p:=⟨w.heap.size,1,none⟩) (.bool false);have I:=qH (qA U ah);clear h0 U ah;go_wp2_with fail;exact qR (v:=.agg #[.slice none 0 0,.bool false]) (rA_ rfl w.heap.size I.o.1 underlying217 2) rfl ⟨_,0,rfl,⟨_,rfl,MagAt.nil _⟩,I.o.2,qaw ⟨rfl,k,D,M,G,hS.o,H0.o⟩⟩
   ·have ax:=qH (hS.o.swap aQ ai);have aL:=qH (qA (hI.o.1.keep aj O.o.1.row) (hI.o.2.keep aj O.o.1.row));have aK:=qH (qbR hG.o aj);have V:=qH (qA aa.o.1 (swap_fit G ai aa.o.2));have aC:=qH (show qb3 M k a k k≠0 by unfold qb3;rw [if_pos rfl];exact hne);obtain⟨gs2,au⟩:=qY (fun j=>if j=k then gs1 a else if j=a then gs1 k else gs1 j);have aA:=qlE G ai O.o.2.1;have af:=qlE G ai O.o.2.2;rw [<-au] at az aA af;have ae:MatAt w2 tb R n gs2 (qb3 M k a):=az;obtain⟨M2,ak⟩:=qY (qb3 M k a);rw [<-ak] at ae ax V aC;have aB:=qH (qA ae (qA aA af));clear az ae au ak hne aj aA af hS O hI hG aa;go_wp2_with fail
    go_loopw [21] (fun x21 W=>∃(i:Nat) (gs:Nat->Nat),i<=R/\x21=.int .i64 i/\Hu (MatAt W tb R n gs (epart M2 k D i)/\(∀i,i<R->gs i≠w.heap.size+1+1)/\∀i,i<R->gs i≠w.heap.size)/\Hu (qb8 W (w.heap.size+1+1) D/\qb8 W w.heap.size 0)/\Hu (w.grownBy W (some tb))) (fun x21 _=>R-(intOf x21).toNat)
    case atStart=>exact⟨0,gs2,qam _,rfl,qH ⟨by rw [qi3];exact aB.o.1,aB.o.2⟩,aL,aK⟩
    case round =>
     obtain⟨i,aD,aV,rfl,F,H,ay⟩:=hrel
     by_cases Z:i<R
     ·have aW:(i:Int)<R:=by omega
      by_cases ag:i=k
      ·have aH:((i:Int) != (k:Int))=false:=by simp [ag]
       have aN:=qH (show epart M2 k D i=epart M2 k D (i+1) by rw [ag];exact qko M2 k D);clear ag;go_wp2;go_roundw
       case rel=>exact⟨i+1,aD,Z,by go_num,qH ⟨by rw [<-aN.o];exact F.o.1,F.o.2⟩,H,ay⟩
       case measure=>simp [intOf];omega
      ·have aH:((i:Int) != (k:Int))=true:=by rw [bne_iff_ne];omega
       have aM:=qH ag;clear ag;obtain⟨ci,fi⟩:=F.o.1.cell Z;obtain⟨ck,fk⟩:=F.o.1.cell G;obtain⟨a,m,d,b,⟨e0,e1⟩,_,J⟩:=H.o.1.cells;have HC:=qH (fun W (h:Below wr.heap.size wr W)=>qhs (KK_le hK (show k<=10 by omega)) (show n<=64 by omega) Y ((F.o.1.below h).rows i Z) ((F.o.1.below h).rows k G) (by rw [(qeU M2 k D i).1];exact V.o.2 i Z) (by rw [(qeU M2 k D i).2];exact V.o.2 k G) (J.below h) V.o.1 ax.o.nz);have av:Below wr.heap.size wr wr.drew:=qB.drew;clear J;go_wp2_with fail
       go_region_with (first | (go_at_call 256;refine (HC.o _ av).mono ?_;rintro e w4 ⟨g,rfl,aP,aF,aJ⟩;have hb:=av.trans aF;obtain⟨q0,q1⟩:=(F.o.1.below hb).cell Z;have I:=qH (qA (F.o.1.below hb) (qA (qA (H.o.1.below hb) (H.o.2.below hb)) (qA aP (qA aJ (qcd ay.o hb)))));clear aF aJ hb))
       all_goals go_wp2_with fail
       all_goals go_roundw
       all_goals first
        | exact⟨i+1,_,Z,by go_num,qH ⟨qls I.o.1 aM.o I.o.2.2.2.1,gs_set F.o.2.1 (qbh (qai H.o.1.lt I.o.2.2.1)),gs_set F.o.2.2 (qbh (qai H.o.2.lt I.o.2.2.1))⟩,qH ⟨I.o.2.1.1.keep (qbP _ _ _ _) I.o.1.row,I.o.2.1.2.keep (qbP _ _ _ _) I.o.1.row⟩,qH (qbR I.o.2.2.2.2 (qbP _ _ _ _))⟩
        | (simp [intOf];omega)
     ·obtain rfl:i=R:=by omega
      obtain⟨ck,fk⟩:=F.o.1.cell G;obtain⟨a,m,d,b,⟨e0,e1⟩,⟨z0,z1⟩,_⟩:=H.o.1.cells;obtain⟨a2,m2,d2,b2,p0,p1,J⟩:=(F.o.1.rows k G).pair Y;rw [(qeU M2 k D i).2] at J;have I:=qH J;clear J;go_wp2;go_roundw
      case rel =>
       refine⟨k+1,M2 k k,aD,qb0 (fun _=>true) M2 k k D,by omega,by go_num,qH (ax.o.next G Y aC.o),qH ⟨(F.o.1.put H.o.1 (qdR _ _ _ _) F.o.2.1).congr (fun _ _=>rfl) (qlq M2 k D i),F.o.2⟩,qH ⟨H.o.1.put I.o,H.o.2.other H.o.1 (by omega)⟩,qH ?_,qH ⟨?_,?_⟩⟩
       ·exact qeq (qeq ay.o (qan (qa9 _)) _) (qan (qa9 _)) _
       ·rw [qk7];exact (V.o.2 k G k Y).mono (by omega)
       ·rw [qk7];exact qlr G Y V.o.2
      case measure=>simp [intOf];omega
  ·obtain rfl:k=R:=by omega
   obtain⟨a,m,d,b,⟨e0,e1⟩,_,J⟩:=hI.o.1.cells;obtain⟨a2,m2,d2,b2,⟨p0,p1⟩,⟨z0,z1⟩,_⟩:=hI.o.2.cells;have U:=hI.o.2.row2 J;have ah:=qeq (qeq hG.o qN (p:=⟨w.heap.size,0,none⟩) (.slice a m d)) qN (p:=⟨w.heap.size,1,none⟩) (.bool b);have aI:=O.o.1.put hI.o.2 (qdR _ _ (.slice a m d) (.bool b)) O.o.2.2;have I:=qH (qA U (qA ah aI));clear J U ah aI;go_wp2_with fail;exact qR (v:=.agg #[.slice a m d,.bool b]) (rA_ rfl w.heap.size I.o.1.1 underlying217 2) rfl ⟨_,D,rfl,I.o.1.2,I.o.2.1,qak ⟨aa.o.1,gs1,M,I.o.2.2,hS.o,aa.o.2⟩⟩
def Sing (R:Nat) (A:Nat->Nat->Rat):Prop:=∃y:Nat->Rat,(∃j,j<R/\y j≠0)/\∀i,i<R->sumQ R (fun j=>A i j*y j)=0
def qcs (R:Nat) (A:Nat->Nat->Rat) (b x:Nat->Rat):Prop:=∀i,i<R->sumQ R (fun j=>A i j*x j)=b i
theorem qcs.uniq {R:Nat} {A:Nat->Nat->Rat} {b x y:Nat->Rat} (h:¬Sing R A) (H:qcs R A b x) (I:qcs R A b y):∀i,i<R->x i=y i:=by
 intro i G;apply Classical.byContradiction;intro hne;refine h ⟨fun j=>x j-y j,⟨i,G,fun h=>hne (by grind)⟩,fun k F=>?_⟩;have e:sumQ R (fun j=>A k j*(x j-y j))=sumQ R (fun j=>A k j*x j)+(-1)*sumQ R (fun j=>A k j*y j):=by
  rw [<-qb1,<-qc8];exact qbQ fun j _=>by grind
 rw [e,H k F,I k F];grind
theorem Sing.congr {R:Nat} {A B:Nat->Nat->Rat} (h:Sing R A) (e:∀i,i<R->∀j,j<R->A i j=B i j):Sing R B:=by
 obtain⟨y,I,G⟩:=h;exact⟨y,I,fun i F=>by rw [<-G i F];exact qbQ fun j H=>by rw [e i F j H]⟩
theorem qcs.congr {R:Nat} {A B:Nat->Nat->Rat} {b c x y:Nat->Rat} (h:qcs R A b x) (e:∀i,i<R->∀j,j<R->A i j=B i j) (H:∀i,i<R->b i=c i) (ex:∀i,i<R->x i=y i):qcs R B c y:=fun i F=>by
 rw [<-H i F,<-h i F];exact qbQ fun j G=>by rw [e i F j G,ex j G]
theorem Span.kill {R n:Nat} {A:Nat->Nat->Rat} {v y:Nat->Rat} (h:Span R n A v) (F:∀i,i<R->sumQ n (fun j=>A i j*y j)=0):sumQ n (fun j=>v j*y j)=0:=by
 obtain⟨c,G⟩:=h;have e:sumQ n (fun j=>v j*y j)=sumQ n fun j=>sumQ R fun i=>c i*(A i j*y j):=qbQ fun j I=>by
  rw [G j I,show sumQ R (fun i=>c i*A i j)*y j=y j*sumQ R (fun i=>c i*A i j) by grind,<-qb1];exact qbQ fun i _=>by grind
 rw [e,qcX];refine qcv _ _ fun i H=>?_
 rw [qb1,F i H];grind
theorem qgA (n:Nat) (f x:Nat->Rat) (a:Rat):sumQ (n+1) (fun j=>f j*(if j<n then x j else a))=sumQ n (fun j=>f j*x j)+f n*a:=by
 show sumQ n _+f n*(if n<n then x n else a)=_
 rw [if_neg (Nat.lt_irrefl n)]
 congr 1
 exact qbQ fun j F=>by rw [if_pos F]
theorem qh2 {R n k:Nat} {D:Int} {M A:Nat->Nat->Int} (h:ElimSt R n k D M A) (hn:R<=n) (hk:k<R) (U:∀i,k<=i->i<R->M i k=0):Sing R (castM A):=by
 have V:(D:Rat)≠0:=by exact_mod_cast h.nz
 refine⟨fun j=>if j<k then -(M j k:Rat) else if j=k then (D:Rat) else 0,⟨k,hk,by simp only [Nat.lt_irrefl,if_false,if_true];exact V⟩,?_⟩;have Y:∀i,i<R->sumQ n (fun j=>castM M i j*(if j<k then -(M j k:Rat) else if j=k then (D:Rat) else 0))=0:=by
  intro i G
  by_cases H:i<k
  ·rw [sumQ_two n i k _ (by omega) (by omega) (by omega) fun j Z I J=>by
    by_cases e:j<k
    ·show (M i j:Rat)*_=0
     rw [h.diag i G j e,if_neg (fun h=>I h.symm)];simp
    ·rw [if_neg e,if_neg J];grind]
   rw [if_pos H,if_neg (Nat.lt_irrefl k),if_pos rfl]
   show (M i i:Rat)*_+(M i k:Rat)*_=0
   rw [h.diag i G i H,if_pos rfl];grind
  ·refine qcv _ _ fun j Z=>?_
   by_cases e:j<k
   ·show (M i j:Rat)*_=0
    rw [h.diag i G j e,if_neg (by omega)];simp
   ·by_cases O:j=k
    ·show (M i j:Rat)*_=0
     rw [O,U i (by omega) G];simp
    ·rw [if_neg e,if_neg O];grind
 intro i G;have F:=(h.span.2 i G).kill Y;have e:sumQ n (fun j=>castM A i j*(if j<k then -(M j k:Rat) else if j=k then (D:Rat) else 0))=sumQ R (fun j=>castM A i j*(if j<k then -(M j k:Rat) else if j=k then (D:Rat) else 0)):=by
  obtain⟨m,rfl⟩:∃m,n=R+m:=⟨n-R,by omega⟩;rw [qel,qcv m _ fun j _=>by rw [if_neg (by omega),if_neg (by omega)];grind]
  grind
 rw [e] at F;exact F
theorem qfJ {R:Nat} {z:Int} {M A:Nat->Nat->Int} (h:ElimSt R (R+1) R z M A):qcs R (castM A) (fun i=>castM A i R) (fun i=>(M i R:Rat) / z)/\¬Sing R (castM A):=by
 have U:(z:Rat)≠0:=by exact_mod_cast h.nz
 have I:∀(x:Nat->Rat) (a:Rat) i,i<R->sumQ (R+1) (fun j=>castM M i j*(if j<R then x j else a))=z*x i+M i R*a:=by
  intro x a i F;rw [qgA,qcY R i _ F fun j G H=>by show (M i j:Rat)*_=0;rw [h.diag i F j G,if_neg (fun h=>H h.symm)];simp]
  show (M i i:Rat)*x i+(M i R:Rat)*a=_
  rw [h.diag i F i F,if_pos rfl]
 refine⟨fun i F=>?_,?_⟩
 ·have:=(h.span.2 i F).kill (y:=fun j=>if j<R then (M j R:Rat) / z else -1) fun i F=>by rw [I _ _ i F];grind
  rw [qgA] at this
  show sumQ R _=castM A i R
  grind
 ·rintro ⟨y,⟨j,G,O⟩,J⟩;have:=(h.span.1 j G).kill (y:=fun j=>if j<R then y j else 0) fun i F=>by rw [qgA,J i F];grind
  rw [I _ _ j G] at this;apply O;have:(z:Rat)*y j=0:=by grind
  rcases Rat.mul_eq_zero.1 this with h | h
  ·exact absurd h U
  ·exact h
def ftxt (q:Rat):FT:=(qce q.num,num q.den)
theorem qfK (q:Rat):fstr q=.agg #[.string (ftxt q).1,.string (ftxt q).2]:=rfl
def FRow (W:World) (g n:Nat) (l:List FT):Prop:=W.heap[g]? = some (.cells (fflat (l++List.replicate (n-l.length) fd0)).toArray 27 (0,0))/\l.length<=n
theorem FRow.below {W W':World} {g n:Nat} {l:List FT} (h:FRow W g n l) (F:Below W.heap.size W W'):FRow W' g n l :=
 ⟨(F.block _ (qG h.1).1).trans h.1,h.2⟩
theorem FRow.at {W:World} {g n:Nat} {l:List FT} (h:FRow W g n l) (I:l.length<n):(W.cell? ⟨g,l.length*2,none⟩=some (.string ⟨#[]⟩)/\W.cell? ⟨g,l.length*2+1,none⟩=some (.string ⟨#[]⟩))/\∀j,W.frozen? ⟨g,j,none⟩=false:=by
 have F:(l++List.replicate (n-l.length) fd0)[l.length]? = some fd0:=by
  rw [qar qN,qaK,qbs,if_pos (by omega)]
 obtain⟨G,H⟩:=qeV _ _ _ F;exact⟨⟨(qC _ _ _ _ _ _ h.1).trans ((qaA ..).trans G),(qC _ _ _ _ _ _ h.1).trans ((qaA ..).trans H)⟩,fun j=>qF _ _ _ _ _ h.1⟩
theorem FRow.set {W:World} {g n:Nat} {l:List FT} (h:FRow W g n l) (I:l.length<n) (x:FT) :
  FRow ((W.setCell ⟨g,l.length*2,none⟩ (.string x.1)).setCell ⟨g,l.length*2+1,none⟩ (.string x.2)) g n (l++[x]):=by
 refine⟨?_,by rw [qae,qaC];omega⟩;rw [heap_setCell_same _ g (l.length*2+1) _ _ _ (heap_setCell_same _ g (l.length*2) _ _ _ h.1)]
 congr 3
 obtain⟨m,H⟩:∃m,n-l.length=m+1:=⟨n-l.length-1,by omega⟩;have F:fflat (l++List.replicate (m+1) fd0)=fflat l++(.string fd0.1 :: .string fd0.2 :: fflat (List.replicate m fd0)):=by
  rw [qdE,qbp];rfl
 have G:fflat (l++[x]++List.replicate m fd0)=fflat l++(.string x.1 :: .string x.2 :: fflat (List.replicate m fd0)):=by
  rw [qdE,qdE,qaB];rfl
 rw [qaI,qaI,H,qae,qaC,show n-(l.length+1)=m by omega,F,G];rw [qa6 _ _ (by rw [qcg];exact qaf _),qcg,qaK,qbi,qa6 _ _ (by rw [qcg];omega),qcg,show l.length*2+1-l.length*2=1 by omega]
 rfl
theorem qlw (n:Nat):fflat (List.replicate n fd0)=List.replicate (n*2) (.string ⟨#[]⟩):=by
 induction n with
 | zero=>rfl
 | succ n ih =>
  rw [qbp,show (n+1)*2=n*2+1+1 by omega,qbp,qbp,<-ih];rfl
theorem qkH (n:Nat):madeCells #[.string ⟨#[]⟩,.string ⟨#[]⟩] (n*2)=(fflat (List.replicate n fd0)).toArray:=by
 rw [qlw];apply Array.ext';apply List.ext_getElem?;intro i;rw [Array.getElem?_toList]
 show _=(List.replicate (n*2) (Value.string ⟨#[]⟩))[i]?
 by_cases F:i<n*2
 ·rw [qbs,if_pos F];have G:(madeCells #[.string ⟨#[]⟩,.string ⟨#[]⟩] (n*2))[i]? = some ((#[.string ⟨#[]⟩,.string ⟨#[]⟩]:Array Value)[i % 2]!):=by simp [madeCells,F]
  rw [G]
  congr 1
  rcases (show i % 2=0\/i % 2=1 by omega) with e | e <;> rw [e] <;> rfl
 ·rw [Array.getElem?_eq_none (by rw [size_madeCells];omega),qaX (by rw [qa5];omega)]
theorem FRow.made (W:World) (n:Nat):FRow (W.alloc (.cells (madeCells #[.string ⟨#[]⟩,.string ⟨#[]⟩] (n*2)) 27)) W.heap.size n []:=by
 refine⟨?_,qam _⟩;rw [qM _ _ _ rfl,qbk,List.length_nil,Nat.sub_zero,qkH]
theorem qhB (n:Nat) (J:n<=1048576) (w:World):(Instr.makeSlice 22 (.int .i64 (n:Int)) (.int .i64 (n:Int))).run prog w=.ok (.slice (some ⟨w.heap.size,0,none⟩) n n) (w.alloc (.cells (madeCells #[.string ⟨#[]⟩,.string ⟨#[]⟩] (n*2)) 27)):=by
 obtain⟨i,I,F,G,H⟩:=info_parts infoF;have h:=run_make (P:=prog) w 22 27 i _ underlying22 I F .i64 .i64 (n:Int) (n:Int) (by omega) (Int.le_refl _) (by rw [H];omega) (by omega);rw [G,Int.toNat_natCast] at h;exact h
theorem FRow.cells {W:World} {g n:Nat} {l:List FT} (h:FRow W g n l) (G:l.length=n):FCells W (some ⟨g,0,none⟩) g 0 l:=by
 have F:=h.1;rw [G,qaK,List.replicate_zero,qbB] at F;exact FCells.ofRow F
theorem HasT.keepRow {W W':World} {H R n:Nat} {I:Nat->Nat} (h:HasT W) (U:W.grownBy W' (some H)) (V:W.heap[H]? = some (.cells (rowvs R n I).toArray 212 (0,0))):HasT W':=by
 unfold HasT Lib.TabIs World.var? at *;cases hg:(prog).globalNamed "internal/strconv.uint64pow10" with
 | none=>simp [hg] at h
 | some g =>
  simp only [hg,Option.bind_some] at h ⊢;have G:g<W.heap.size:=by
   rcases qaT g W.heap.size with h' | h'
   ·exact h'
   ·rw [Array.getElem?_eq_none h'] at h;simp at h
  have hne:g≠H:=by
   intro e;subst e;rw [V] at h;simp only [Option.some.injEq] at h;have F:=congrArg (fun a:Array Value=>a[0]?) h;have J:((Lib.pow10Tab.map fun z=>Value.int .u64 z).toArray)[0]? = some (.int .u64 1):=rfl;have F:(rowvs R n I).toArray[0]? = (Lib.pow10Tab.map fun z=>Value.int .u64 z).toArray[0]?:=F;rw [J,qaA] at F
   by_cases O:0<R
   ·rw [qdQ O] at F;simp at F
   ·rw [qaX (by rw [qcu];omega)] at F;simp at F
  rw [U.block g G (fun e=>hne (qag e))];exact h
def told (n:Nat) (x:Nat->Rat):List FT:=(List.range n).map fun i=>ftxt (x i)
def qbS (n:Nat) (x:Nat->Rat):Prop:=∀i,i<n->Short (x i)
theorem qbS.snoc {n:Nat} {x:Nat->Rat} (h:qbS n x) (F:Short (x n)):qbS (n+1) x:=fun j G=>by
 by_cases e:j=n
 ·rw [e];exact F
 ·exact h j (by omega)
theorem qfj (n:Nat) (x:Nat->Rat):told (n+1) x=told n x++[ftxt (x n)]:=by
 unfold told;rw [List.range_succ,qbc];rfl
theorem qbT (n:Nat) (x:Nat->Rat):(told n x).length=n:=by unfold told;rw [qay,qbl]
def FOne (F W:World) (g:Nat) (x:FT):Prop:=W.heap[g]? = some (.cells #[.string x.1,.string x.2] 27 (0,0))/\Below F.heap.size F W/\F.heap.size<=g
theorem fone_a {F W:World} {x1 x2:ByteArray} (G:Below F.heap.size F W):FOne F (W.alloc (.cells #[.string x1,.string x2] 27)) W.heap.size (x1,x2) :=
 ⟨qM _ _ _ rfl,qbN G qN,G.size⟩
theorem fone_p {F W:World} {g:Nat} {x1 x2:ByteArray} {G c1:Value} (H:Below F.heap.size F W) (hg:F.heap.size<=g) (I:W.heap[g]? = some (.cells #[G,c1] 27 (0,0))) :
  FOne F ((W.setCell ⟨g,0,none⟩ (.string x1)).setCell ⟨g,1,none⟩ (.string x2)) g (x1,x2) :=
 ⟨heap_setCell_same _ g 1 _ _ _ (heap_setCell_same _ g 0 _ _ _ I),(H.setCell (p:=⟨g,0,none⟩) hg _).setCell (p:=⟨g,1,none⟩) hg _,hg⟩
theorem qfx {w w':World} {q:Rat} {e:Ending} (h:qhn w q e w'):∃(x1 x2:ByteArray) (c:Int),e=.returned (.tuple #[.agg #[.string x1,.string x2],.int .i64 c])/\(Short q/\(x1,x2)=ftxt q/\c=0\/¬Short q/\(x1,x2)=fd0/\c=6)/\Below w.heap.size w w':=by
 obtain⟨h | h,F⟩:=h
 ·exact⟨(ftxt q).1,(ftxt q).2,0,h.2,qaw ⟨h.1,rfl,rfl⟩,F⟩
 ·exact⟨_,_,6,h.2,qak ⟨h.1,rfl,rfl⟩,F⟩
def Tells (n:Nat) (x:Nat->Rat) (e:Ending) (w':World):Prop :=
 (qbS n x/\∃g,e=.returned (.tuple #[.slice (some ⟨g,0,none⟩) n n,.int .i64 0])/\FCells w' (some ⟨g,0,none⟩) g 0 (told n x)) \/
 (¬qbS n x/\e=.returned (.tuple #[.slice none 0 0,.int .i64 6]))
def SolvesAs (w:World) (F R:Nat) (A:Nat->Nat->Int) (e:Ending) (w':World):Prop :=
 w.grownBy w' (some F)/\((Sing R (castM A)/\e=.returned (.tuple #[.slice none 0 0,.int .i64 7])) \/
  (¬Sing R (castM A)/\∃x,qcs R (castM A) (fun i=>castM A i R) x/\Tells R x e w'))
theorem fit_pos {z:Int} {K:Nat} (h:Fit z.natAbs K) (F:z≠0):0<K:=by
 rcases qaV K with e | e
 ·subst e;have:z.natAbs<1:=h;omega
 ·exact e
theorem qfW (a b:Int):Rat.divInt a b=(a:Rat) / b:=Rat.divInt_eq_div a b
theorem qmK (tb R K:Nat) (gs:Nat->Nat) (A:Nat->Nat->Int) (w:World) (bC:0<R) (hR:R<=10) (hK:K<=33554430) (bB:0<K) (hM:MatAt w tb R (R+1) gs A) (aD:∀i,i<R->gs i<w.heap.size) (hF:∀i,i<R->∀j,j<R+1->Fit (A i j).natAbs K) (hT:HasT w) :
  Calls prog 190 #[.agg #[.slice (some ⟨tb,0,none⟩) R R]] w fun e w'=>SolvesAs w tb R A e w':=by
 have HM:=qH (qA hM (qA aD hF));have HT:=qH hT;have bF:tb<w.heap.size:=(qG hM.row).1;have bG:(0:Int)<R:=by omega
 have aj:Below w.heap.size w (w.alloc (.cells #[.slice (some ⟨tb,0,none⟩) R R] 262)):=qbN qB qN;have HE:=qH (elim_any tb R (R+1) K gs A (w.alloc (.cells #[.slice (some ⟨tb,0,none⟩) R R] 262)) bC hR (by omega) (by omega) hK bB (hM.below aj) (fun i U=>qai (aD i U) aj.size) hF);have av:=qH aj;have bJ:=qeW;clear hM hF aD hT aj;go_enter func190,ntmps190;go_wp2_with fail;refine HE.o.mono ?_;rintro e H ⟨v,z,rfl,hv,O,hz⟩;obtain⟨a,m,d,b,rfl⟩:=qbO hv;have aY:=(HM.o.1.below av.o);have aL:=(HT.o.below av.o).keepRow O aY.row;have hg:=qbR (qbX tb av.o) O;have bi:=(qcq .l) z.natAbs (.slice a m d);have Hv:=qH hv;have HX:=qH (qA aL (qA hg O));have aW:MagAt H (.slice a m d) z.natAbs:=by
  obtain⟨_,e,h⟩:=hv;simp only [qa2,qa4,qaW] at e;rw [e.1];exact h
 have az:Below H.heap.size H (H.alloc (.cells #[.slice a m d,.bool b] 217)):=qbN qB qN;have HZ:=qH (bi _ (aW.below az));have J:=qH az;have bD:(H.alloc (.cells #[.slice a m d,.bool b] 217)).heap.size=H.heap.size+1:=by rw [qaa]
 have bE:w.heap.size<H.heap.size:=by have:=O.size;rw [qaa] at this;omega
 have Y:H.heap[w.heap.size]? = some (.cells #[.slice (some ⟨tb,0,none⟩) R R] 262 (0,0)):=(O.block _ (by rw [qaa];omega) (fun e=>Nat.lt_irrefl _ (qag e▸bF))).trans (qM _ _ _ rfl);have bn:=qH Y;have bv:=qC _ _ 0 _ _ _ Y;clear hv O aY aL hg bi aW az bD Y;go_wp2_with fail;obtain⟨W3,V⟩:=qY (H.alloc (.cells #[.slice a m d,.bool b] 217));rw [<-V] at HZ J ⊢;have aC:Hu (w.grownBy W3 (some tb)):=qH (qcd HX.o.2.1 J.o);rcases hz with ⟨au,k,D,M,hk,hS,h0⟩ | ⟨aU,gs',M,aK,hS,aQ⟩
 ·refine HZ.o.mono ?_;rintro e w4 ⟨rfl,hw⟩;rw [qV (show z.natAbs=0 by omega)];have HS:=qH (qh2 hS (by omega) hk h0);subst hw;clear hS h0 au V;go_wp2_with fail
  go_ret2
  exact⟨aC.o,qaw ⟨HS.o,rfl⟩⟩
 ·refine HZ.o.mono ?_;rintro e w4 ⟨rfl,hw⟩;have au:=hS.nz;rw [qU (show ¬z.natAbs=0 by omega)];have aX:=qhB R (by omega) W3;obtain⟨W5,ai⟩:=qY (W3.alloc (.cells (madeCells #[.string ⟨#[]⟩,.string ⟨#[]⟩] (R*2)) 27));rw [<-ai] at aX;have aT:FRow W5 W3.heap.size R []:=ai▸FRow.made W3 R;have aA:Below W3.heap.size W3 W5:=ai▸qbN qB qN;clear ai;have aZ:W3.heap[H.heap.size]? = some (.cells #[.slice a m d,.bool b] 217 (0,0)):=by rw [V];exact qM _ _ _ rfl
  have I:=(J.o.block _ (by exact bE)).trans bn.o;have Z:=(aA.block _ (qG I).1).trans I;have bA:=qC _ _ 0 _ _ _ Z;have H5:=qH (qA aT (qA aA Z));have HS:=qH (qA aU (qA (aK.below J.o) (qA hS aQ)));have H3:=qH (qA aZ (qA I (qA (Hv.o.below J.o) (HX.o.1.below J.o))));have aI:=qH au;have bf:W3.heap.size=H.heap.size+1:=by rw [V,qaa]
  have bH:=qH bf;subst hw;clear hS au V aK aQ aU aZ I bv bf aT aA Z;have bz:=qC _ _ 0 _ _ _ H3.o.2.1;go_wp2_with fail
  go_loopw [26] (fun x26 W=>∃(i:Nat),i<=R/\x26=.int .i64 i/\Hu (qbS i (fun i=>(M i R:Rat) / z))/\Hu (FRow W w4.heap.size R (told i (fun i=>(M i R:Rat) / z)))/\Hu (Below w4.heap.size w4 W)) (fun x26 _=>R-(intOf x26).toNat)
  case atStart=>exact⟨0,qam _,rfl,qH (fun i U=>absurd U (by omega)),qH H5.o.1,qH H5.o.2.1⟩
  case round =>
   obtain⟨i,bK,rfl,hA,hF,hB⟩:=hrel
   by_cases U:i<R
   ·have bL:(i:Int)<R:=by omega
    have bI:(R:Int)<R+1:=by omega
    have ay:=HS.o.2.1.below hB.o;obtain⟨ci,fi⟩:=ay.cell U;obtain⟨a2,m2,d2,b2,p0,p1,aV⟩:=(ay.rows i U).pair (show R<R+1 by omega);have hr:=(hB.o.block _ (qG H3.o.1).1).trans H3.o.1;have aB:=(hB.o.block _ (qG H3.o.2.1).1).trans H3.o.2.1;have C0:∀W,Below wr.heap.size wr W->W.cell? ⟨w.heap.size,0,none⟩=some (.slice (some ⟨tb,0,none⟩) R R):=fun W h=>(h.cell (p:=⟨w.heap.size,0,none⟩) (qG aB).1).trans (qC _ _ 0 _ _ _ aB)
    have C1:∀W,Below wr.heap.size wr W->W.cell? ⟨gs' i,R*2,none⟩=some (.slice a2 m2 d2):=fun W h=>(h.cell (qac wr _ p0)).trans p0
    have C2:∀W,Below wr.heap.size wr W->W.cell? ⟨gs' i,R*2+1,none⟩=some (.bool b2):=fun W h=>(h.cell (qac wr _ p1)).trans p1
    have C3:∀W,Below wr.heap.size wr W->W.cell? ⟨H.heap.size,0,none⟩=some (.slice a m d):=fun W h=>(h.cell (p:=⟨H.heap.size,0,none⟩) (qG hr).1).trans (qC _ _ 0 _ _ _ hr)
    have C4:∀W,Below wr.heap.size wr W->W.cell? ⟨H.heap.size,1,none⟩=some (.bool b):=fun W h=>(h.cell (p:=⟨H.heap.size,1,none⟩) (qG hr).1).trans (qC _ _ 1 _ _ _ hr)
    have bg:=H3.o.2.2.1.below hB.o;have aM:=H3.o.2.2.2.below hB.o;have aR:=HS.o.2.2.2 i U R (by omega);have HW:=qH (fun W (h:Below wr.heap.size wr W)=>qg6 (M i R) z aI.o (KK K R) (fit_pos HS.o.1 aI.o) (KK_le hK hR) _ _ W (aV.below h) (bg.below h) aR HS.o.1 (aM.below h));have aH:Below wr.heap.size wr wr:=Below.refl _ _;have af:Below wr.heap.size wr wr.drew:=aH.drew;have ae:Below wr.heap.size wr (wr.alloc (.cells #[.string ⟨#[]⟩,.string ⟨#[]⟩] 27)).drew:=(qbN aH qN).drew;have aJ:=hF.o.at (by rw [qbT];exact U);have HF:=qH aJ;clear ay aV p0 p1 hr aB bg aM aR aJ bz bA aX;go_wp2_with fail
    go_cut [9,10] (fun x9 x10 W=>∃(g9:Nat) (x1 x2:ByteArray) (c:Int),x9=.pointer (some ⟨g9,0,none⟩)/\x10=.int .i64 c/\Hu (Short (Rat.divInt (M i R) z)/\(x1,x2)=ftxt (Rat.divInt (M i R) z)/\c=0\/¬Short (Rat.divInt (M i R) z)/\(x1,x2)=fd0/\c=6)/\FOne wr W g9 (x1,x2))
    case first =>
     go_region_held3 (fun W=>Below wr.heap.size wr W) (first | with_reducible exact aH | with_reducible exact af | with_reducible exact ae | with_reducible exact F | exact qbN F qN | exact (F.setCell qN _).setCell qN _ | exact (F.setCell F.size _).setCell F.size _) (first | (go_at_call 160;refine (HW.o _ (by first | with_reducible exact af | with_reducible exact ae)).mono ?_;rintro e w6 hx;obtain⟨x1,x2,c6,rfl,hx,ak⟩:=qfx hx;have F:Below wr.heap.size wr w6:=bjoin (by first | with_reducible exact af | with_reducible exact ae) ak;have bu:=qH hx;obtain⟨k6,bN⟩:=bcell ak;have Z6:=qH (zkeep ak);clear hx ak))
     all_goals go_wp2_with fail
     all_goals go_meet
     all_goals refine⟨_,x1,x2,c6,rfl,rfl,bu,?_⟩
     all_goals first
      | with_reducible exact fone_a F
      | exact fone_p F qN (Z6.o _ _ (qM _ _ _ rfl))
    case rest =>
     obtain⟨g9,x1,x2,c,rfl,rfl,hx,ho⟩:=hcut;obtain⟨aF,aG,bM⟩:=ho;have o0:=qC _ _ 0 _ _ _ aF;have o1:=qC _ _ 1 _ _ _ aF;have ax:=hF.o.below aG;have aN:=ax.at (by rw [qbT];exact U);have aa:=ax.set (by rw [qbT];exact U) (x1,x2);rw [qbT] at aN aa;obtain⟨⟨q0,q1⟩,qf⟩:=aN;have bO:=qf (i*2);have bP:=qf (i*2+1);have aO:=((hB.o.trans (aG.mono hB.o.size)).setCell (p:=⟨w4.heap.size,i*2,none⟩) qN (.string x1)).setCell (p:=⟨w4.heap.size,i*2+1,none⟩) qN (.string x2);have aP:=hB.o.trans (aG.mono hB.o.size);have HQ:=qH (qA aa (qA aO aP));have HX:=qH hx.o;have hq:=qfW (M i R) z;clear aa aO aP aF ax qf C0 C1 C2 C3 C4 ci fi;rcases hx.o with ⟨G,ag,rfl⟩ | ⟨G,ag,rfl⟩
     ·rw [hq] at G ag;have ah:=qH (qA G ag);clear G ag hq;go_wp2;go_roundw
      case rel=>exact⟨i+1,U,by go_num,qH (hA.o.snoc ah.o.1),qH (by rw [qfj,<-ah.o.2];exact HQ.o.1),qH HQ.o.2.1⟩
      case measure=>simp [intOf];omega
     ·rw [hq] at G;have ah:=qH G;clear G ag hq;go_wp2_with fail
      go_ret2
      exact⟨qcd aC.o HQ.o.2.2,qak ⟨(qfJ HS.o.2.2.1).2,_,(qfJ HS.o.2.2.1).1,qak ⟨fun h=>ah.o (h i U),rfl⟩⟩⟩
   ·obtain rfl:i=R:=by omega
    have aS:=hF.o.cells (qbT _ _);have bq:=qH aS;clear aS;go_wp2_with fail
    go_ret2
    exact⟨qcd aC.o hB.o,qak ⟨(qfJ HS.o.2.2.1).2,_,(qfJ HS.o.2.2.1).1,qaw ⟨hA.o,_,rfl,bq.o⟩⟩⟩
abbrev Tbl:=List (List FT)
structure TCells (W:World) (ao:Option Addr) (b off:Nat) (t:Tbl):Prop where
 addr:0<t.length->ao=some ⟨b,off,none⟩
 row:∀k,k<t.length->∃(ra:Option Addr) (rb ro rc:Nat),W.cell? ⟨b,off+k,none⟩=some (.slice ra (t.getD k []).length rc)/\FCells W ra rb ro (t.getD k [])
theorem TCells.below {W W':World} {G:Option Addr} {b F:Nat} {t:Tbl} (h:TCells W G b F t) (I:Below W.heap.size W W'):TCells W' G b F t :=
 ⟨h.addr,fun k O=>by
  obtain⟨ra,rb,ro,rc,H,J⟩:=h.row k O;exact⟨ra,rb,ro,rc,(I.cell (qac W _ H)).trans H,J.below I⟩⟩
def wid (t:Tbl):Nat:=(t.getD 0 []).length
structure TOk (t:Tbl):Prop where
 r1:1<=t.length
 r2:t.length<=40
 c1:1<=wid t
 c2:wid t<=10
 rows:∀k,k<t.length->(t.getD k []).length=wid t/\FAll (t.getD k [])
theorem qlg (ao:Option Addr) (b au R c:Nat) (t:Tbl) (w:World) (hR:t.length=R) (hl:R<=4611686018427387904) (hw:∀k,k<R->(t.getD k []).length<=4611686018427387904) (hc:TCells w ao b au t) :
  Calls prog 209 #[.slice ao R c] w fun e w'=>qeQ w (TOk t) 60 e w':=by
 have H:=qH (qA hc (qA hR hw))
 by_cases h1:1<=R
 case neg =>
  have Y:(R:Int)<1:=by omega
  clear hc hR;go_enter func209,ntmps209;go_wp2;go_ret;exact⟨60,rfl,qak ⟨rfl,fun h=>by have:=h.r1;have:=H.o.2.1;omega⟩,Below.refl _ _⟩
 have aD:¬(R:Int)<1:=by omega
 by_cases h2:R<=40
 case neg =>
  have Y:(40:Int)<R:=by omega
  clear hc hR;go_enter func209,ntmps209;go_wp2;go_ret;exact⟨60,rfl,qak ⟨rfl,fun h=>by have:=h.r2;have:=H.o.2.1;omega⟩,Below.refl _ _⟩
 have aF:¬(40:Int)<R:=by omega
 have aC:(0:Int)<R:=by omega
 have ax:=hc.addr (by omega);subst ax;obtain⟨aL,aM,aO,aN,O,_⟩:=hc.row 0 (by omega);rw [qbD] at O;obtain⟨n,hn⟩:=qX (wid t);have ak:(t.getD 0 []).length=n:=hn;have az:=hw 0 (by omega);rw [ak] at O az;have Z:=qH hn;have aA:b<w.heap.size:=qac w _ O;clear hc hR hn ak hw
 by_cases h3:1<=n
 case neg =>
  have Y:(n:Int)<1:=by omega
  go_enter func209,ntmps209;go_wp2;go_ret;exact⟨60,rfl,qak ⟨rfl,fun h=>by have:=h.c1;have:=Z.o;omega⟩,Below.refl _ _⟩
 have aG:¬(n:Int)<1:=by omega
 by_cases h4:n<=10
 case neg =>
  have Y:(10:Int)<n:=by omega
  go_enter func209,ntmps209;go_wp2;go_ret;exact⟨60,rfl,qak ⟨rfl,fun h=>by have:=h.c2;have:=Z.o;omega⟩,Below.refl _ _⟩
 have aH:¬(10:Int)<n:=by omega
 go_enter func209,ntmps209;go_wp2_with fail
 go_loopw [31] (fun x31 W=>∃k:Nat,k<=R/\x31=.int .i64 k/\Hu (∀i,i<k->(t.getD i []).length=n/\FAll (t.getD i []))/\Hu (Below w.heap.size w W)) (fun x31 _=>R-(intOf x31).toNat)
 case atStart=>exact⟨0,qam _,rfl,qH (fun i hi=>absurd hi (by omega)),qH qB⟩
 case round =>
  obtain⟨k,hk,rfl,hI,U⟩:=hrel
  by_cases ai:k<R
  ·have aK:(k:Int)<R:=by omega
   have aI:=(U.o.cell (p:=⟨b,au,none⟩) aA).trans O;obtain⟨ra,rb,ro,rc,af,ag⟩:=(H.o.1.below U.o).row k (by have:=H.o.2.1;omega);have HF:=qH ag;obtain⟨row,G⟩:=qX (t.getD k []);obtain⟨l,V⟩:=qX row.length;have aj:=H.o.2.2 k ai;rw [G] at af HF aj;rw [V] at af aj;have I:=qH (qA G V);clear G V ag
   by_cases F:l=n
   case neg =>
    have hne:((l:Int) != (n:Int))=true:=by rw [bne_iff_ne];omega
    have HL:=qH F;clear F;go_wp2;go_ret;exact⟨60,rfl,qak ⟨rfl,fun h=>HL.o (by rw [<-I.o.2,<-I.o.1,<-Z.o];exact (h.rows k (by have:=H.o.2.1;omega)).1)⟩,U.o⟩
   have hne:((l:Int) != (n:Int))=false:=by simp [F]
   have HL:=qH F;clear F;obtain⟨wo,aB⟩:=qY wr;subst aB;go_wp2_with fail
   go_loopw [44] (fun x44 W=>∃j:Nat,j<=l/\x44=.int .i64 j/\Hu (∀i,i<j->FOk (row.getD i fd0).1.data.toList (row.getD i fd0).2.data.toList)/\Hu (Below wo.heap.size wo W)) (fun x44 _=>l-(intOf x44).toNat)
   case atStart=>exact⟨0,qam _,rfl,qH (fun i hi=>absurd hi (by omega)),qH qB⟩
   case round =>
    obtain⟨j,hj,rfl,hJ,J⟩:=hrel
    by_cases ah:j<l
    ·have aJ:(j:Int)<l:=by omega
     have av:=HF.o.addr (by have:=I.o.2;omega);subst av;obtain⟨d0,d1⟩:=(HF.o.below J.o).cell j (by have:=I.o.2;omega);obtain⟨N,hN⟩:=qX ((row.getD j fd0).1);obtain⟨D,hD⟩:=qX ((row.getD j fd0).2);rw [hN] at d0;rw [hD] at d1;have HX:=qH (qA hN hD);clear hN hD;go_wp2_with fail;refine (qeo N D _).mono ?_;rintro e w2 ⟨cc,rfl,ay,ae⟩;have aa:=qH (J.o.trans ((qB.alloc qN _ |>.trans (ae.mono (by simp only [qaa];omega))).mono J.o.size));clear ae;rcases ay with ⟨rfl,hf⟩ | ⟨rfl,hf⟩
     ·have Hf:=qH hf;clear hf;go_wp2;go_roundw
      case rel=>exact⟨j+1,ah,by go_num,qH (fun i hi=>by
       rcases (show i<j\/i=j by omega) with h | h
       ·exact hJ.o i h
       ·rw [h,HX.o.1,HX.o.2];exact Hf.o),aa⟩
      case measure=>simp [intOf];omega
     ·have Hf:=qH hf;clear hf;go_wp2;go_ret;exact⟨60,rfl,qak ⟨rfl,fun h=>Hf.o (by
       have:=(h.rows k (by have:=H.o.2.1;omega)).2 j (by rw [I.o.1,I.o.2];exact ah);rw [I.o.1,HX.o.1,HX.o.2] at this;exact this)⟩,U.o.trans (aa.o.mono U.o.size)⟩
    ·obtain rfl:j=l:=by omega
     go_wp2;go_roundw
     case rel=>exact⟨k+1,ai,by go_num,qH (fun i hi=>by
      rcases (show i<k\/i=k by omega) with h | h
      ·exact hI.o i h
      ·rw [h,I.o.1,I.o.2];exact⟨HL.o,fun x hx=>hJ.o x (by rw [<-I.o.2];exact hx)⟩),qH (U.o.trans (J.o.mono U.o.size))⟩
     case measure=>simp [intOf];omega
  ·obtain rfl:k=R:=by omega
   go_wp2;go_ret;exact⟨0,rfl,qaw ⟨rfl,⟨by have:=H.o.2.1;omega,by have:=H.o.2.1;omega,by rw [Z.o];exact h3,by rw [Z.o];exact h4,fun i hi=>by rw [Z.o];exact hI.o i (by have:=H.o.2.1;omega)⟩⟩,U.o⟩
def CLAs (w:World) (t L:Tbl) (e:Ending) (w':World):Prop :=
 ∃c:Int,e=.returned (.int .i64 c)/\(c=60/\¬TOk t\/c=20/\TOk t/\¬(∀k,k<L.length->FAll (L.getD k []))\/c=0/\TOk t/\∀k,k<L.length->FAll (L.getD k []))/\Below w.heap.size w w'
theorem qeB (ao:Option Addr) (b av R c:Nat) (t:Tbl) (aa:Option Addr) (b2 ax R2 c2:Nat) (L:Tbl) (w:World) (hR:t.length=R) (hl:R<=4611686018427387904) (hw:∀k,k<R->(t.getD k []).length<=4611686018427387904) (hc:TCells w ao b av t)
  (ae:L.length=R2) (I:R2<=4611686018427387904) (au:∀k,k<R2->(L.getD k []).length<=4611686018427387904) (af:TCells w aa b2 ax L) :
  Calls prog 145 #[.slice ao R c,.slice aa R2 c2] w fun e w'=>CLAs w t L e w':=by
 have HK:=qH (qlg ao b av R c t w hR hl hw hc);have J:=qH (qA af (qA ae au));clear hR hw hc ae au af;go_enter func145,ntmps145;go_wp2_with fail;refine HK.o.mono ?_;rintro e w2 ⟨cc,rfl,U,F⟩;have HB:=qH F;clear F;rcases U with ⟨rfl,hT⟩ | ⟨rfl,hT⟩
 case inr =>
  have HT:=qH hT;clear hT;go_wp2;go_ret;exact⟨60,rfl,qaw ⟨rfl,HT.o⟩,HB.o⟩
 have HT:=qH hT;clear hT;go_wp2_with fail
 go_loopw [17] (fun x17 W=>∃k:Nat,k<=R2/\x17=.int .i64 k/\Hu (∀i,i<k->FAll (L.getD i []))/\Hu (Below w.heap.size w W)) (fun x17 _=>R2-(intOf x17).toNat)
 case atStart=>exact⟨0,qam _,rfl,qH (fun i Y=>absurd Y (by omega)),HB⟩
 case round =>
  obtain⟨k,hk,rfl,hI,V⟩:=hrel
  by_cases aj:k<R2
  ·have aC:(k:Int)<R2:=by omega
   have az:=J.o.1.addr (by have:=J.o.2.1;omega);subst az;obtain⟨ra,rb,ro,rc,ag,ah⟩:=(J.o.1.below V.o).row k (by have:=J.o.2.1;omega);have HF:=qH ah;obtain⟨row,G⟩:=qX (L.getD k []);obtain⟨l,I⟩:=qX row.length;have ak:=J.o.2.2 k aj;rw [G] at ag HF ak;rw [I] at ag ak;have O:=qH (qA G I);clear G I ah;obtain⟨wo,aA⟩:=qY wr;subst aA;go_wp2_with fail
   go_loopw [23] (fun x23 W=>∃j:Nat,j<=l/\x23=.int .i64 j/\Hu (∀i,i<j->FOk (row.getD i fd0).1.data.toList (row.getD i fd0).2.data.toList)/\Hu (Below wo.heap.size wo W)) (fun x23 _=>l-(intOf x23).toNat)
   case atStart=>exact⟨0,qam _,rfl,qH (fun i Y=>absurd Y (by omega)),qH qB⟩
   case round =>
    obtain⟨j,hj,rfl,hJ,H⟩:=hrel
    by_cases ai:j<l
    ·have aB:(j:Int)<l:=by omega
     have ay:=HF.o.addr (by have:=O.o.2;omega);subst ay;obtain⟨d0,d1⟩:=(HF.o.below H.o).cell j (by have:=O.o.2;omega);obtain⟨N,hN⟩:=qX ((row.getD j fd0).1);obtain⟨D,hD⟩:=qX ((row.getD j fd0).2);rw [hN] at d0;rw [hD] at d1;have HX:=qH (qA hN hD);clear hN hD;go_wp2_with fail;refine (qeo N D _).mono ?_;rintro e w2 ⟨cc,rfl,U,F⟩;have Z:=qH (H.o.trans ((qB.alloc qN _ |>.trans (F.mono (by simp only [qaa];omega))).mono H.o.size));clear F;rcases U with ⟨rfl,hf⟩ | ⟨rfl,hf⟩
     ·have Hf:=qH hf;clear hf;go_wp2;go_roundw
      case rel=>exact⟨j+1,ai,by go_num,qH (fun i Y=>by
       rcases (show i<j\/i=j by omega) with h | h
       ·exact hJ.o i h
       ·rw [h,HX.o.1,HX.o.2];exact Hf.o),Z⟩
      case measure=>simp [intOf];omega
     ·have Hf:=qH hf;clear hf;go_wp2;go_ret;exact⟨20,rfl,qak (qaw ⟨rfl,HT.o,fun h=>Hf.o (by
       have:=h k (by have:=J.o.2.1;omega) j (by rw [O.o.1,O.o.2];exact ai);rw [O.o.1,HX.o.1,HX.o.2] at this;exact this)⟩),V.o.trans (Z.o.mono V.o.size)⟩
    ·obtain rfl:j=l:=by omega
     go_wp2;go_roundw
     case rel=>exact⟨k+1,aj,by go_num,qH (fun i Y=>by
      rcases (show i<k\/i=k by omega) with h | h
      ·exact hI.o i h
      ·rw [h,O.o.1];exact fun x hx=>hJ.o x (by rw [<-O.o.2];exact hx)),qH (V.o.trans (H.o.mono V.o.size))⟩
     case measure=>simp [intOf];omega
  ·obtain rfl:k=R2:=by omega
   go_wp2;go_ret;exact⟨0,rfl,qak (qak ⟨rfl,HT.o,fun i Y=>hI.o i (by have:=J.o.2.1;omega)⟩),V.o⟩
def Neg (l:List FT):Prop:=∃k,k<l.length/\ival (l.getD k fd0).1.data.toList<0
def NegAs (w:World) (l:List FT) (e:Ending) (w':World):Prop:=∃x:Bool,e=.returned (.bool x)/\(x=true↔Neg l)/\Below w.heap.size w w'
theorem qfE (ao:Option Addr) (b af n c:Nat) (l:List FT) (w:World) (hn:l.length=n) (hl:n<=4611686018427387904) (hc:FCells w ao b af l) (hf:FAll l) :
  Calls prog 146 #[.slice ao n c] w fun e w'=>NegAs w l e w':=by
 have G:=qH (qA hc (qA hn hf));have ah:=qeW;clear hc hn hf;go_enter func146,ntmps146;go_wp2_with fail
 go_loopw [7] (fun x7 W=>∃j:Nat,j<=n/\x7=.int .i64 j/\Hu (∀i,i<j->0<=ival (l.getD i fd0).1.data.toList)/\Hu (Below w.heap.size w W)) (fun x7 _=>n-(intOf x7).toNat)
 case atStart=>exact⟨0,qam _,rfl,qH (fun i hi=>absurd hi (by omega)),qH qB⟩
 case round =>
  obtain⟨j,hj,rfl,hJ,F⟩:=hrel
  by_cases aa:j<n
  ·have ai:(j:Int)<n:=by omega
   have Z:=G.o.1.addr (by have:=G.o.2.1;omega);subst Z;obtain⟨d0,d1⟩:=(G.o.1.below F.o).cell j (by have:=G.o.2.1;omega);have I:=(G.o.2.2 j (by have:=G.o.2.1;omega)).vn;obtain⟨N,hN⟩:=qX ((l.getD j fd0).1);obtain⟨D,hD⟩:=qX ((l.getD j fd0).2);rw [hN] at d0 I;rw [hD] at d1;have V:=qH (qA hN I);clear hN hD I;go_wp2_with fail;refine ((qb9 .l) N V.o.2 _).mono ?_;rintro e w2 ⟨v2,rfl,O,ae⟩;have J:=qH (F.o.trans ((qB.alloc qN _ |>.trans (O.mono (by simp only [qaa];omega))).mono F.o.size));obtain⟨m2,rfl,U⟩:=ae;have ag:∀b W,(Instr.field 217 (.agg #[m2,.bool b]) 1).run prog W=.ok (.bool b) W:=by
    obtain⟨_,_,_,_,_,_,rfl,_,_⟩:=U;intro b W;kernel_rfl
   clear O U
   by_cases H:ival N.data.toList<0
   ·rw [qV H];have Y:=qH H;clear H;go_wp2;go_ret;exact⟨true,rfl,⟨fun _=>⟨j,by have:=G.o.2.1;omega,by rw [V.o.1];exact Y.o⟩,fun _=>rfl⟩,J.o⟩
   ·rw [qU H];have Y:=qH (Int.not_lt.1 H);clear H;go_wp2;go_roundw
    case rel=>exact⟨j+1,aa,by go_num,qH (fun i hi=>by
     rcases (show i<j\/i=j by omega) with h | h
     ·exact hJ.o i h
     ·rw [h,V.o.1];exact Y.o),J⟩
    case measure=>simp [intOf];omega
  ·obtain rfl:j=n:=by omega
   go_wp2;go_ret;exact⟨false,rfl,⟨fun h=>absurd h (by decide),fun⟨k,hk,H⟩=>absurd H (Int.not_lt.2 (hJ.o k (by have:=G.o.2.1;omega)))⟩,F.o⟩
def lval (l:List FT) (k:Nat):Rat:=fval (l.getD k fd0).1.data.toList (l.getD k fd0).2.data.toList
def tval (t:Tbl) (i:Nat):Nat->Rat:=lval (t.getD i [])
theorem qhw (n d:List UInt8):fval n d=(ival n:Rat) / ((ival d).natAbs:Rat):=by
 unfold fval;rw [<-Rat.divInt_ofNat,Rat.divInt_eq_div];rfl
theorem flcd_dvd {l:List FT} {k:Nat} (F:k<l.length):fden (l.getD k fd0)∣flcd l:=by
 have h:=qhA (l.map fden) (l.map fden).length k (by rw [qay];exact F) qN;rw [qbd] at h;have e:(l.map fden).getD k 0=fden (l.getD k fd0):=by
  rw [qab,qaL,qab,qad F];rfl
 rw [e] at h;exact h
theorem qlk {l:List FT} {j:Nat} (G:j<(l.map fden).length):(l.map fden).getD j 0=fden (l.getD j fd0):=by
 have F:j<l.length:=by rw [qay] at G;exact G
 rw [qab,qaL,qab,qad F];rfl
theorem qjI {l:List FT} (h:FAll l):0<flcd l:=by
 have:=qe7 (l.map fden) (fun j F=>by rw [qlk F];exact (qdF h (by rw [qay] at F;exact F)).1) (l.map fden).length qN;rw [qbd] at this;exact this
theorem qeY {l:List FT} (h:FAll l) {m:Nat} (G:l.length<=m):Fit (flcd l) (m*67+1):=by
 have:=qe6 (l.map fden) 67 (fun j F=>by rw [qlk F];exact qdF h (by rw [qay] at F;exact F)) (l.map fden).length qN;rw [qbd,qay] at this;exact this.mono (by omega)
theorem qeZ {l:List FT} (h:FAll l) {k:Nat} (G:k<l.length):((ftop l k:Int):Rat)=(flcd l:Rat)*lval l k:=by
 obtain⟨q,H⟩:=flcd_dvd G;have F:=(qdF h G).1;have e:flcd l / fden (l.getD k fd0)=q:=by rw [H];exact qaP _ F
 unfold ftop lval;rw [qhw,e,H];have I:((fden (l.getD k fd0):Nat):Rat)≠0:=by
  have:=qbh F
  exact_mod_cast this
 show _=_*((ival _:Rat) / ((fden (l.getD k fd0):Nat):Rat))
 push_cast
 grind
theorem qcS {l:List FT} (h:FAll l) {m:Nat} (G:l.length<=m) {k:Nat} (F:k<l.length):Fit (ftop l k).natAbs (67+(m*67+1)):=by
 unfold ftop;rw [qaE,qaq];exact (h k F).vn.fit.mul ((qeY h G).le (qaN _ _))
theorem Sing.scale {R:Nat} {A B:Nat->Nat->Rat} (s:Nat->Rat) (O:∀i,i<R->s i≠0) (h:∀i,i<R->∀j,j<R->A i j=s i*B i j):Sing R A↔Sing R B:=by
 have G:∀(y:Nat->Rat) i,i<R->sumQ R (fun j=>A i j*y j)=s i*sumQ R (fun j=>B i j*y j):=fun y i F=>by
  rw [<-qb1];exact qbQ fun j J=>by rw [h i F j J];grind
 constructor
 ·rintro ⟨y,I,H⟩;refine⟨y,I,fun i F=>?_⟩;have:=H i F;rw [G y i F] at this;rcases Rat.mul_eq_zero.1 this with e | e
  ·exact absurd e (O i F)
  ·exact e
 ·rintro ⟨y,I,H⟩;exact⟨y,I,fun i F=>by rw [G y i F,H i F];grind⟩
theorem qcs.scale {R:Nat} {A B:Nat->Nat->Rat} {b c x:Nat->Rat} (s:Nat->Rat) (O:∀i,i<R->s i≠0) (h:∀i,i<R->∀j,j<R->A i j=s i*B i j) (I:∀i,i<R->b i=s i*c i) (U:qcs R A b x):qcs R B c x:=fun i F=>by
 have G:=U i F;have H:sumQ R (fun j=>A i j*x j)=s i*sumQ R (fun j=>B i j*x j):=by
  rw [<-qb1];exact qbQ fun j J=>by rw [h i F j J];grind
 rw [H,I i F] at G;have:=O i F
 grind
theorem qfZ {l:List FT} {x:FT} {k:Nat} (F:k<l.length):(l++[x]).getD k fd0=l.getD k fd0:=by
 rw [qab,qav F,<-qab]
theorem qfY {l:List FT} {x:FT}:(l++[x]).getD l.length fd0=x:=by
 rw [qab,qar qN,qaK];rfl
theorem FAll.snoc {l:List FT} {x:FT} (h:FAll l) (G:FOk x.1.data.toList x.2.data.toList):FAll (l++[x]):=fun k F=>by
 rw [qae,qaC] at F
 by_cases e:k<l.length
 ·rw [qfZ e];exact h k e
 ·obtain rfl:k=l.length:=by omega
  rw [qfY];exact G
theorem qgc {l:List FT} {x:FT} {k:Nat} (F:k<l.length):lval (l++[x]) k=lval l k:=by unfold lval;rw [qfZ F]
theorem qgb {l:List FT} {x:FT}:lval (l++[x]) l.length=fval x.1.data.toList x.2.data.toList:=by unfold lval;rw [qfY]
structure MatPart (W:World) (tb R k n:Nat) (gs:Nat->Nat) (M:Nat->Nat->Int):Prop where
 row:W.heap[tb]? = some (.cells (rowvs k n gs++List.replicate (R-k) zs0).toArray 212 (0,0))
 rows:∀i,i<k->qca W (gs i) n (M i)
 le:k<=R
theorem MatPart.below {W W':World} {H R k n:Nat} {F:Nat->Nat} {M:Nat->Nat->Int} (h:MatPart W H R k n F M) (G:Below W.heap.size W W'):MatPart W' H R k n F M :=
 ⟨(G.block _ (qG h.row).1).trans h.row,fun i I=>(h.rows i I).below G,h.le⟩
theorem qhH {R k n:Nat} {F:Nat->Nat}:∀x∈(rowvs k n F++List.replicate (R-k) zs0).toArray.toList,∀d,x≠.int .u32 d:=by
 intro x G d e;rcases qaH.1 (show x∈rowvs k n F++List.replicate (R-k) zs0 from G) with h | h
 ·exact qgr x h d e
 ·rw [(List.mem_replicate.1 h).2] at e;cases e
theorem qca.keepRows {W W':World} {H g O:Nat} {cs:Array Value} {m:Nat->Int} (h:qca W g O m) (I:W.grownBy W' (some H)) (J:W.heap[H]? = some (.cells cs 212 (0,0))) (hne:∀x∈cs.toList,∀d,x≠.int .u32 d):qca W' g O m:=by
 obtain⟨ps,U,G,V⟩:=h;have F:g≠H:=by
  intro e;subst e;have:=G.1.symm.trans J;simp at this
 exact⟨ps,U,⟨(I.block _ (qG G.1).1 (fun e=>F (qag e))).trans G.1,G.2⟩,V.keep I J hne⟩
theorem MatPart.at {W:World} {F R k n:Nat} {G:Nat->Nat} {M:Nat->Nat->Int} (h:MatPart W F R k n G M) (H:k<R):W.cell? ⟨F,k,none⟩=some zs0/\W.frozen? ⟨F,k,none⟩=false:=by
 refine⟨(qC _ _ _ _ _ _ h.row).trans ?_,qF _ _ _ _ _ h.row⟩;rw [qaA,qar (by rw [qcu];exact qaf _),qcu,qaK,qbs,if_pos (by omega)]
theorem MatPart.done {W:World} {G R n:Nat} {F:Nat->Nat} {M:Nat->Nat->Int} (h:MatPart W G R R n F M):MatAt W G R n F M:=by
 have:=h.row;rw [qaK,List.replicate_zero,qbB] at this;exact⟨this,h.rows⟩
theorem MatPart.made (W:World) (R n:Nat) (F:Nat->Nat) (M:Nat->Nat->Int):MatPart (W.alloc (.cells (madeCells #[zs0] R) 212)) W.heap.size R 0 n F M:=by
 refine⟨?_,fun i G=>absurd G (by omega),qam _⟩;rw [qM _ _ _ rfl,Nat.sub_zero,show rowvs 0 n F=[] from rfl,qbk,<-toList_madeCells_one,Array.toArray_toList]
theorem qjL:(Tryz.prog.info? 212).map (fun i=>(i.zero,i.size,i.bytes))=some (some (.slice none 0 0),1,24):=by kernel_rfl
theorem ql4 (n:Nat) (J:n<=1048576) (w:World):(Instr.makeSlice 260 (.int .i64 (n:Int)) (.int .i64 (n:Int))).run prog w=.ok (.slice (some ⟨w.heap.size,0,none⟩) n n) (w.alloc (.cells (madeCells #[zs0] n) 212)):=by
 obtain⟨i,I,F,G,H⟩:=info_parts qjL;have h:=run_make (P:=prog) w 260 212 i _ underlying260 I F .i64 .i64 (n:Int) (n:Int) (by omega) (Int.le_refl _) (by rw [H];omega) (by omega);rw [G,Int.toNat_natCast,qbI] at h;exact h
theorem qdU {w a b:World} {g:Nat} (h:Below w.heap.size w a) (k:a.grownBy b (some g)) (hg:w.heap.size<=g:=by omega):Below w.heap.size w b :=
 h.trans ⟨k.os,k.tape,k.output,k.size,fun i F=>k.block i (qai F h.size) (fun e=>by have:=qag e;omega)⟩
theorem qdL {a b:World} {g:Nat} (h:a.grownBy b (some g)) {p:Addr} (F:p.block<a.heap.size) (hne:p.block≠g):b.cell? p=a.cell? p:=World.cell?_of_block (h.block _ F (fun e=>hne (qag e)))
theorem qeb {W:World} {H:Option Addr} {b G n c:Nat} {l:List FT} (U:l.length=n) (Y:n<=64) (F:FCells W H b G l) (O:FAll l) :
  Calls prog 147 #[.slice H n c] W fun e W'=>∃g v,e=.returned (.tuple #[rowv g n,v])/\W.heap.size<=g/\Below W.heap.size W W'/\MagAt W' v (flcd l)/\qca W' g n (ftop l):=by
 refine (qh6 H b G n c l W U Y F O).mono ?_;rintro e W' ⟨g,v,ps,rfl,hg,J,V,Z,hr,I⟩;exact⟨g,v,rfl,hg,J,V,ps,Z,hr,I⟩
def besides (t:Tbl) (l:List FT) (i:Nat):List FT:=t.getD i []++[l.getD i fd0]
