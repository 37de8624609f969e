import Derived.Test.YtjalhnlhcdfncaaGreatDoorBo12
set_option maxRecDepth 100000
set_option maxHeartbeats 0
namespace Go.Proofs.YtjalhnlhcdfncaaGreatDoor
def sel {α:Type} (a:α) (P:Nat->α):Nat->α
 | 0=>a
 | s+1=>P s
def BR (k:Nat) (P:Nat->Nat->Int) (σ:Nat->Nat) (a:Nat->Int) (j:Nat):Int:=det (k+1) fun r x=>sel a P r (sel j σ x)
def DR (k:Nat) (P:Nat->Nat->Int) (σ:Nat->Nat):Int:=det k fun r x=>P r (σ x)
theorem qke (P:Nat->Nat->Int) (σ:Nat->Nat) (a:Nat->Int) (j:Nat):BR 0 P σ a j=a j:=by
 show sumN 1 _=_
 show 0+sg 0*a j*1=a j
 rw [sg0];omega
theorem qey {k:Nat} {P:Nat->Nat->Int} {σ:Nat->Nat} (J:DR k P σ≠0) (a p:Nat->Int) (c j:Nat) :
  BR k P σ a j*BR k P σ p c-BR k P σ a c*BR k P σ p j=DR k P σ*BR (k+1) (sel p P) (sel c σ) a j:=by
 have h:=qo8 k (fun r x=>sel a (sel p P) r (sel j (sel c σ) x)) J;have E:bord k (fun r x=>sel a (sel p P) r (sel j (sel c σ) x)) 0 0=BR k P σ a j:=by
  unfold bord BR
  congr 1;funext r x
  cases r <;> cases x <;> rfl
 have I:bord k (fun r x=>sel a (sel p P) r (sel j (sel c σ) x)) 1 1=BR k P σ p c:=by
  unfold bord BR
  congr 1;funext r x
  cases r <;> cases x <;> rfl
 have F:bord k (fun r x=>sel a (sel p P) r (sel j (sel c σ) x)) 0 1=BR k P σ a c:=by
  unfold bord BR
  congr 1;funext r x
  cases r <;> cases x <;> rfl
 have H:bord k (fun r x=>sel a (sel p P) r (sel j (sel c σ) x)) 1 0=BR k P σ p j:=by
  unfold bord BR
  congr 1;funext r x
  cases r <;> cases x <;> rfl
 rw [E,I,F,H] at h;exact h
theorem qkf (k:Nat) (P:Nat->Nat->Int) (σ:Nat->Nat) (p:Nat->Int) (c:Nat):DR (k+1) (sel p P) (sel c σ)=BR k P σ p c:=rfl
theorem qiw (k:Nat) (P:Nat->Nat->Int) (σ:Nat->Nat) (a:Nat->Int) (j:Nat) (h:∀s,s<k->a (σ s)=0):BR k P σ a j=DR k P σ*a j:=by
 show sumN (k+1) (fun x=>sg x*sel a P 0 (sel j σ x)*det k fun r c=>sel a P (r+1) (sel j σ (skip x c)))=_
 rw [qgg k _ fun i E=>by
  show sg (i+1)*a (σ i)*_=0
  rw [h i E,qbP,Int.zero_mul]]
 have e:(fun r c=>sel a P (r+1) (sel j σ (skip 0 c)))=fun r x=>P r (σ x):=by
  funext r c;rw [qec];rfl
 rw [e,sg0,Int.one_mul,qbs];rfl
abbrev castM (M:Nat->Nat->Int):Nat->Nat->Rat:=fun i j=>(M i j:Rat)
def qck (f:Nat->Bool) (M:Nat->Nat->Int) (p c:Nat) (D:Int):Nat->Nat->Int:=fun i=>if f i=true/\i≠p then fun j=>(M p c*M i j-M i c*M p j).tdiv D else M i
theorem qj1 {f:Nat->Bool} {R n p c:Nat} {M:Nat->Nat->Int} {D:Int} (V:p<R) (Y:D≠0) (hc:M p c≠0) (hx:∀i,i<R->f i=true->i≠p->∀j,j<n->D∣M p c*M i j-M i c*M p j):qdA R R n (castM M) (castM (qck f M p c D)):=by
 have Z:(D:Rat)≠0:=by exact_mod_cast Y
 have aa:(M p c:Rat)≠0:=by exact_mod_cast hc
 have H:∀i,i<R->f i=true->i≠p->∀j,j<n->(D:Rat)*((qck f M p c D i j:Int):Rat)=M p c*M i j-M i c*M p j:=by
  intro i F U J j O;have e:qck f M p c D i j=(M p c*M i j-M i c*M p j).tdiv D:=by unfold qck;rw [if_pos ⟨U,J⟩]
  have:=Int.mul_tdiv_cancel' (hx i F U J j O);rw [e]
  exact_mod_cast this
 have E:∀i,¬(f i=true/\i≠p)->qck f M p c D i=M i:=fun i h=>by unfold qck;rw [if_neg h]
 have I:qck f M p c D p=M p:=E p (fun h=>h.2 rfl);refine⟨fun i F=>?_,fun i F=>?_⟩
 ·by_cases h:f i=true/\i≠p
  ·refine Span.congr (Span.comb (Span.row (A:=castM (qck f M p c D)) F) (Span.row (A:=castM (qck f M p c D)) V) ((D:Rat) / M p c) ((M i c:Rat) / M p c)) (fun _ _ _ _=>rfl) fun j O=>?_
   have:=H i F h.1 h.2 j O
   show (D:Rat) / M p c*((qck f M p c D i j:Int):Rat)+(M i c:Rat) / M p c*((qck f M p c D p j:Int):Rat)=(M i j:Rat)
   rw [I]
   grind
  ·have:=Span.row (R:=R) (n:=n) (A:=castM (qck f M p c D)) (i:=i) F;exact Span.congr this (fun _ _ _ _=>rfl) fun j _=>by show ((qck f M p c D i j:Int):Rat)=_;rw [E i h]
 ·by_cases h:f i=true/\i≠p
  ·refine Span.congr (Span.comb (Span.row (A:=castM M) F) (Span.row (A:=castM M) V) ((M p c:Rat) / D) (-(M i c:Rat) / D)) (fun _ _ _ _=>rfl) fun j O=>?_
   have:=H i F h.1 h.2 j O
   show (M p c:Rat) / D*(M i j:Rat) + -(M i c:Rat) / D*(M p j:Rat)=((qck f M p c D i j:Int):Rat)
   grind
  ·have:=Span.row (R:=R) (n:=n) (A:=castM M) (i:=i) F;exact Span.congr this (fun _ _ _ _=>rfl) fun j _=>by show (M i j:Rat)=((qck f M p c D i j:Int):Rat);rw [E i h]
def qcp {α:Type} (M:Nat->α) (k a:Nat):Nat->α:=fun j=>if j=k then M a else if j=a then M k else M j
theorem qj2 {R n k a:Nat} {M:Nat->Nat->Int} (J:k<R) (I:a<R):qdA R R n (castM M) (castM (qcp M k a)):=by
 have row:∀i l,i<R->qcp M k a i=M l->Span R n (castM (qcp M k a)) (castM M l):=fun i l H h =>
  Span.congr (Span.row (R:=R) (n:=n) (A:=castM (qcp M k a)) (i:=i) H) (fun _ _ _ _=>rfl) fun j _=>by show ((qcp M k a i j:Int):Rat)=_;rw [h]
 have E:∀i l,l<R->qcp M k a i=M l->Span R n (castM M) (castM (qcp M k a) i):=fun i l O h =>
  Span.congr (Span.row (R:=R) (n:=n) (A:=castM M) (i:=l) O) (fun _ _ _ _=>rfl) fun j _=>by show (M l j:Rat)=((qcp M k a i j:Int):Rat);rw [h]
 refine⟨fun i H=>?_,fun i H=>?_⟩
 ·by_cases e:i=k
  ·subst e
   by_cases F:a=i
   ·subst F;exact row a a I (by unfold qcp;rw [if_pos rfl])
   ·exact row a i I (by unfold qcp;rw [if_neg F,if_pos rfl])
  ·by_cases F:i=a
   ·subst F;exact row k i J (by unfold qcp;rw [if_pos rfl])
   ·exact row i i H (by unfold qcp;rw [if_neg e,if_neg F])
 ·by_cases e:i=k
  ·exact E i a I (by unfold qcp;rw [if_pos e])
  ·by_cases F:i=a
   ·exact E i k J (by unfold qcp;rw [if_neg e,if_pos F])
   ·exact E i i H (by unfold qcp;rw [if_neg e,if_neg F])
theorem qkY {α:Type} {M:Nat->α} {k a i:Nat} (F:i<k) (E:k<=a):qcp M k a i=M i:=by unfold qcp;rw [if_neg (by omega),if_neg (by omega)]
structure ElimSt (R n k:Nat) (D:Int) (M A:Nat->Nat->Int):Prop where
 span:qdA R R n (castM M) (castM A)
 dets:∃(P:Nat->Nat->Int) (σ:Nat->Nat) (a:Nat->Nat->Int),DR k P σ=D/\(∀s,s<k->σ s<k)/\(∀i,k<=i->i<R->∀j,j<n->M i j=BR k P σ (a i) j) /\
  ∀i,i<k->∀j,j<n->M i j=D*(if j=i then 1 else 0)-BR k P σ (fun x=>if x=i then 1 else 0) j
 diag:∀i,i<R->∀c,c<k->M i c=if i=c then D else 0
 nz:D≠0
theorem ElimSt.start (R n:Nat) (A:Nat->Nat->Int):ElimSt R n 0 1 A A :=
 ⟨qdA.refl _ _ _,⟨fun _ _=>0,fun _=>0,A,rfl,fun s H=>absurd H (by omega),fun i _ _ j _=>(qke _ _ _ _).symm,fun i E=>absurd E (by omega)⟩,fun _ _ j F=>absurd F (by omega),by decide⟩
theorem ElimSt.swap {R n k a:Nat} {D:Int} {M A:Nat->Nat->Int} (h:ElimSt R n k D M A) (V:k<=a) (I:a<R):ElimSt R n k D (qcp M k a) A:=by
 have U:k<R:=by omega
 refine⟨(qj2 U I).symm.trans h.span,?_,?_,h.nz⟩
 ·obtain⟨P,σ,b,Y,hσ,J,hl⟩:=h.dets;refine⟨P,σ,qcp b k a,Y,hσ,fun i F Z j H=>?_,fun i F j H=>by rw [qkY F V];exact hl i F j H⟩;unfold qcp
  by_cases e:i=k
  ·rw [if_pos e,if_pos e];exact J a V I j H
  ·by_cases E:i=a
   ·rw [if_neg e,if_neg e,if_pos E,if_pos E];exact J k qN U j H
   ·rw [if_neg e,if_neg e,if_neg E,if_neg E];exact J i F Z j H
 ·intro i F c O;have hd:=h.diag i F c O;unfold qcp
  by_cases e:i=k
  ·rw [if_pos e,h.diag a I c O,if_neg (by omega),if_neg (by omega)]
  ·by_cases E:i=a
   ·rw [if_neg e,if_pos E,h.diag k U c O,if_neg (by omega),if_neg (by omega)]
   ·rw [if_neg e,if_neg E,hd]
theorem ElimSt.next {R n k:Nat} {D:Int} {M A:Nat->Nat->Int} (h:ElimSt R n k D M A) (hk:k<R) (Z:k<n) (h0:M k k≠0):ElimSt R n (k+1) (M k k) (qck (fun _=>true) M k k D) A:=by
 obtain⟨P,σ,b,hD,hσ,hb,hl⟩:=h.dets;have U:DR k P σ≠0:=by rw [hD];exact h.nz
 have V:∀j,j<n->M k j=BR k P σ (b k) j:=hb k qN hk;have I:∀i,i≠k->∀j,qck (fun _=>true) M k k D i j=(M k k*M i j-M i k*M k j).tdiv D:=fun i H j=>by
  unfold qck;rw [if_pos ⟨rfl,H⟩]
 have J:qck (fun _=>true) M k k D k=M k:=by unfold qck;rw [if_neg (fun h=>h.2 rfl)]
 have aa:∀i,k<i->i<R->∀j,j<n->M k k*M i j-M i k*M k j=D*BR (k+1) (sel (b k) P) (sel k σ) (b i) j:=fun i H hR j F=>by
  have:=qey U (b i) (b k) k j;rw [hD,<-hb i (by omega) hR j F,<-V k Z,<-hb i (by omega) hR k Z,<-V j F] at this;rw [<-this,qbs (M i j)]
 have ae:∀i,i<k->∀j,j<n->M k k*M i j-M i k*M k j=D*(M k k*(if j=i then 1 else 0)-BR (k+1) (sel (b k) P) (sel k σ) (fun x=>if x=i then 1 else 0) j):=fun i H j F=>by
  have:=qey U (fun x=>if x=i then 1 else 0) (b k) k j;rw [hD,<-V k Z,<-V j F] at this;rw [hl i H j F,hl i H k Z,if_neg (by omega:¬k=i),Int.mul_sub D,<-this];generalize BR k P σ (fun x=>if x=i then 1 else 0) j=X;generalize BR k P σ (fun x=>if x=i then 1 else 0) k=Y;generalize (if j=i then (1:Int) else 0)=E;rw [qbP,Int.zero_sub,qbN,Int.sub_neg,Int.mul_sub,qbs X,Int.mul_left_comm (M k k) D];omega
 have ag:∀j,j<n->M k j=M k k*(if j=k then 1 else 0)-BR (k+1) (sel (b k) P) (sel k σ) (fun x=>if x=k then 1 else 0) j:=fun j F=>by
  have:=qey U (fun x=>if x=k then 1 else 0) (b k) k j;rw [hD,<-V k Z,<-V j F,qiw k P σ _ j (fun s hs=>if_neg (by have:=hσ s hs;omega)),qiw k P σ _ k (fun s hs=>if_neg (by have:=hσ s hs;omega)),hD,if_pos rfl] at this;have e:D*(M k k*(if j=k then 1 else 0)-M k j)=D*BR (k+1) (sel (b k) P) (sel k σ) (fun x=>if x=k then 1 else 0) j:=by
   rw [<-this,Int.mul_sub,Int.mul_one];generalize (if j=k then (1:Int) else 0)=E;rw [qbK,qbs E]
  have:=Int.eq_of_mul_eq_mul_left h.nz e;omega
 refine⟨(qj1 hk h.nz h0 fun i H _ af j F=>?_).symm.trans h.span,⟨sel (b k) P,sel k σ,b,by rw [qkf];exact (V k Z).symm,?_,fun i H hR j F=>?_,fun i H j F=>?_⟩,fun i H c ah=>?_,h0⟩
 ·rcases Nat.lt_or_gt_of_ne af with e | e
  ·exact⟨_,ae i e j F⟩
  ·exact⟨_,aa i e H j F⟩
 ·intro s hs;cases s with
  | zero=>show k<k+1;omega
  | succ s=>show σ s<k+1;have:=hσ s (by omega);omega
 ·rw [I i (by omega) j,aa i (by omega) hR j F,Int.mul_tdiv_cancel_left _ h.nz]
 ·by_cases e:i=k
  ·subst e;rw [J];exact ag j F
  ·rw [I i e j,ae i (by omega) j F,Int.mul_tdiv_cancel_left _ h.nz]
 ·by_cases e:i=k
  ·subst e;rw [J]
   by_cases O:i=c
   ·rw [if_pos O,O]
   ·rw [if_neg O,h.diag i H c (by omega),if_neg O]
  ·rw [I i e c]
   by_cases O:c=k
   ·subst O;rw [if_neg e,qbs,Int.sub_self];exact Int.zero_tdiv _
   ·rw [h.diag i H c (by omega),h.diag k hk c (by omega),if_neg (fun h:k=c=>O h.symm),qbP,Int.sub_zero]
    by_cases e3:i=c
    ·rw [if_pos e3,if_pos e3,Int.mul_tdiv_cancel _ h.nz]
    ·rw [if_neg e3,if_neg e3,qbP];exact Int.zero_tdiv _
open Go.RowKit Go.Proofs.Tryz
def KK (K k:Nat):Nat:=(K+1)*2 ^ k-1
theorem qm4 (K:Nat):KK K 0=K:=by unfold KK;rw [Nat.pow_zero,qbV];omega
theorem qm3 (K k:Nat):KK K (k+1)=KK K k+KK K k+1:=by
 unfold KK;have h:0<(K+1)*2 ^ k:=qb3 (by omega) (Nat.pow_pos (by decide));rw [qaF,<-qay];omega
theorem KK_le {K k:Nat} (J:K<=33554430) (I:k<=10):KK K k<=34359738368:=by
 unfold KK;have E:2 ^ k<=2 ^ 10:=qaO (by decide) I;have F:(K+1)*2 ^ k<=(K+1)*2 ^ 10:=qaK _ E;have H:(2:Nat) ^ 10=1024:=by decide
 rw [H] at F;omega
theorem fit_step {a b c d z:Int} {K:Nat} (H:Fit a.natAbs K) (I:Fit b.natAbs K) (J:Fit c.natAbs K) (O:Fit d.natAbs K):Fit ((a*b-c*d).tdiv z).natAbs (K+K+1):=by
 have E:=H.mul I;have F:=J.mul O;rw [<-qaE] at E F;refine ((E.add F).le ?_);refine qak ?_ (show (a*b-c*d).natAbs<=_ by omega);rw [Int.natAbs_tdiv];exact qa2 _ _
theorem swap_fit {M:Nat->Nat->Int} {k a R n K:Nat} (I:k<R) (F:a<R) (h:∀i,i<R->∀j,j<n->Fit (M i j).natAbs K):∀i,i<R->∀j,j<n->Fit (qcp M k a i j).natAbs K:=by
 intro i H j E;unfold qcp;split
 ·exact h a F j E
 ·split
  ·exact h k I j E
  ·exact h i H j E
def qcu (W:World) (g:Nat) (z:Int):Prop:=∃(a:Option Addr) (m c:Nat) (b:Bool),W.heap[g]? = some (.cells #[.slice a m c,.bool b] 217 (0,0))/\IntAt W (.agg #[.slice a m c,.bool b]) z
theorem qcu.below {W W':World} {g:Nat} {z:Int} (h:qcu W g z) (F:Below W.heap.size W W'):qcu W' g z:=by
 obtain⟨a,m,c,b,E,H⟩:=h;exact⟨a,m,c,b,(F.block _ (qG E).1).trans E,H.below F⟩
theorem qcu.keep {W W':World} {g F R n:Nat} {J:Nat->Nat} {z:Int} (h:qcu W g z) (H:W.grownBy W' (some F)) (I:W.heap[F]? = some (.cells (rowvs R n J).toArray 212 (0,0))):qcu W' g z:=by
 obtain⟨a,m,c,b,E,x,e,O⟩:=h;have hne:g≠F:=by
  intro e;subst e;have:=E.symm.trans I;simp at this
 exact⟨a,m,c,b,(H.block _ (qG E).1 (fun e=>hne (qag e))).trans E,x,e,qcA O H I qhG⟩
theorem qli {a:Option Addr} {m c:Nat} {b:Bool}:∀x∈(#[.slice a m c,.bool b]:Array Value).toList,∀d,x≠.int .u32 d:=by
 intro x hx d e;rcases qat.1 hx with h | h
 ·rw [h] at e;cases e
 ·rw [qap.1 h] at e;cases e
theorem qew (W:World) (g:Nat) (u v:Value):W.grownBy ((W.setCell ⟨g,0,none⟩ u).setCell ⟨g,1,none⟩ v) (some g):=qb5 (qb7 W g 0 u) (qb7 _ g 1 v)
theorem qcu.put {W:World} {g:Nat} {z0 z:Int} {a:Option Addr} {m c:Nat} {b:Bool} (h:qcu W g z0) (F:IntAt W (.agg #[.slice a m c,.bool b]) z):qcu ((W.setCell ⟨g,0,none⟩ (.slice a m c)).setCell ⟨g,1,none⟩ (.bool b)) g z:=by
 obtain⟨a0,m0,c0,b0,E,_⟩:=h;obtain⟨x,e,H⟩:=F;exact⟨a,m,c,b,heap_setCell_same _ g 1 _ _ _ (heap_setCell_same _ g 0 _ _ _ E),x,e,qcA H (qew W g _ _) E qli⟩
theorem qcy.put {W W':World} {g E n:Nat} {z0:Int} {m:Nat->Int} (h:qcy W E n m) (I:qcu W g z0) (F:W.grownBy W' (some g)) (hne:E≠g):qcy W' E n m:=by
 obtain⟨a0,m0,c0,b0,H,_⟩:=I;obtain⟨ps,p1,p2,p3⟩:=h;exact⟨ps,p1,⟨(F.block _ (qG p2.1).1 (fun e=>hne (qag e))).trans p2.1,p2.2⟩,p3.keep F H qli⟩
theorem MatAt.put {W W':World} {F R n g:Nat} {E:Nat->Nat} {M:Nat->Nat->Int} {z0:Int} (h:MatAt W F R n E M) (H:qcu W g z0) (J:W.grownBy W' (some g)) (hne:∀i,i<R->E i≠g):MatAt W' F R n E M:=by
 refine⟨?_,fun i I=>(h.rows i I).put H J (hne i I)⟩;have:F≠g:=by
  intro e;subst e;obtain⟨_,_,_,_,O,_⟩:=H;have:=h.row.symm.trans O;simp at this
 exact (J.block _ (qG h.row).1 (fun e=>this (qag e))).trans h.row
theorem qcu.cells {W:World} {g:Nat} {z:Int} (h:qcu W g z):∃(a:Option Addr) (m c:Nat) (b:Bool),(W.cell? ⟨g,0,none⟩=some (.slice a m c)/\W.cell? ⟨g,1,none⟩=some (.bool b))/\(W.frozen? ⟨g,0,none⟩=false/\W.frozen? ⟨g,1,none⟩=false)/\IntAt W (.agg #[.slice a m c,.bool b]) z:=by
 obtain⟨a,m,c,b,E,F⟩:=h;exact⟨a,m,c,b,⟨qC _ _ 0 _ _ _ E,qC _ _ 1 _ _ _ E⟩,⟨qF _ _ 0 _ _ E,qF _ _ 1 _ _ E⟩,F⟩
theorem qcy.pair {W:World} {g n:Nat} {m:Nat->Int} (h:qcy W g n m) {c:Nat} (I:c<n):∃(a:Option Addr) (l k:Nat) (b:Bool),W.cell? ⟨g,c*2,none⟩=some (.slice a l k)/\W.cell? ⟨g,c*2+1,none⟩=some (.bool b)/\IntAt W (.agg #[.slice a l k,.bool b]) (m c):=by
 obtain⟨ps,E,F,H⟩:=h;obtain⟨d0,d1⟩:=qcy.cells E F c I;obtain⟨a,l,k,b,e,J⟩:=qdE H (k:=c) (by omega);rw [e] at d0 d1;exact⟨a,l,k,b,d0,d1,J⟩
theorem qcu.lt {W:World} {g:Nat} {z:Int} (h:qcu W g z):g<W.heap.size:=by
 obtain⟨_,_,_,_,E,_⟩:=h;exact (qG E).1
theorem qfc {a b:World} {row:Option Nat} (h:a.grownBy b row) {p:Addr} (F:a.heap.size<=p.block) (v:Value):a.grownBy (b.setCell p v) row :=
 ⟨h.os,h.tape,h.output,by simpa [World.setCell] using h.size,fun i E hne=>(qW b p v i (by omega)).trans (h.block i E hne)⟩
theorem gs_set {R i g x:Nat} {E:Nat->Nat} (h:∀j,j<R->E j≠x) (hg:g≠x):∀j,j<R->(fun j=>if j=i then g else E j) j≠x:=by
 intro j F
 by_cases e:j=i
 ·simp only [if_pos e];exact hg
 ·simp only [if_neg e];exact h j F
theorem qnF {R k a x:Nat} {E:Nat->Nat} (J:k<R) (H:a<R) (h:∀i,i<R->E i≠x):∀i,i<R->(fun j=>if j=k then E a else if j=a then E k else E j) i≠x:=by
 intro i I
 by_cases e:i=k
 ·simp only [if_pos e];exact h a H
 ·by_cases F:i=a
  ·simp only [if_neg e,if_pos F];exact h k J
  ·simp only [if_neg e,if_neg F];exact h i I
theorem qiy {W:World} {I J n c K:Nat} {F H:Nat->Int} {v0:Value} {z0:Int} (hK:K<=34359738368) (hn:n<=64) (hc:c<n) (hi:qcy W I n F) (hk:qcy W J n H) (U:∀j,j<n->Fit (F j).natAbs K) (V:∀j,j<n->Fit (H j).natAbs K) (h0:IntAt W v0 z0) (O:Fit z0.natAbs K) (aa:z0≠0) :
  Calls prog 256 #[rowv I n,rowv J n,.int .i64 c,v0] W fun e W'=>∃g,e=.returned (rowv g n)/\W.heap.size<=g/\Below W.heap.size W W'/\qcy W' g n (fun j=>(H c*F j-F c*H j).tdiv z0):=by
 obtain⟨ps,p1,p2,p3⟩:=hi;obtain⟨qs,q1,q2,q3⟩:=hk;refine (qjb I J n n n c ps qs F H K hK v0 z0 W hn hc p1 q1 (qcy.cells p1 p2) (qcy.cells q1 q2) p3 q3 U V h0 O aa).mono ?_;rintro e W' ⟨g,rs,rfl,hg,hb,Z,E,Y⟩;exact⟨g,rfl,hg,hb,rs,Z,E,Y⟩
def epart (M:Nat->Nat->Int) (k:Nat) (D:Int) (i:Nat):Nat->Nat->Int:=qck (fun j=>decide (j<i)) M k k D
theorem qkw (M:Nat->Nat->Int) (k:Nat) (D:Int):epart M k D 0=M:=by
 funext j
 unfold epart qck;rw [if_neg];intro h;have:=of_decide_eq_true h.1;omega
theorem qfP (M:Nat->Nat->Int) (k:Nat) (D:Int) (i:Nat):epart M k D i i=M i/\epart M k D i k=M k:=by
 unfold epart qck
 constructor
 ·rw [if_neg];intro h;have:=of_decide_eq_true h.1;omega
 ·rw [if_neg];intro h;exact h.2 rfl
theorem qlY (M:Nat->Nat->Int) (k:Nat) (D:Int) (i:Nat) (E:i≠k):(fun j=>if j=i then (fun x=>(M k k*M i x-M i k*M k x).tdiv D) else epart M k D i j)=epart M k D (i+1):=by
 funext j
 by_cases e:j=i
 ·subst e;rw [if_pos rfl];unfold epart qck;rw [if_pos ⟨qV (by omega),E⟩]
 ·rw [if_neg e];unfold epart qck;have h:decide (j<i)=decide (j<i+1):=decide_eq_decide.2 (by omega);simp only [h]
theorem qlZ (M:Nat->Nat->Int) (k:Nat) (D:Int):epart M k D k=epart M k D (k+1):=by
 funext j
 unfold epart qck
 by_cases e:j=k
 ·rw [if_neg (fun h=>h.2 e),if_neg (fun h=>h.2 e)]
 ·have h:decide (j<k)=decide (j<k+1):=decide_eq_decide.2 (by omega);simp only [h]
theorem qnq (M:Nat->Nat->Int) (k:Nat) (D:Int) (R:Nat):∀j,j<R->epart M k D R j=qck (fun _=>true) M k k D j:=by
 intro j E;unfold epart qck;simp only [qV E]
theorem qnr {M:Nat->Nat->Int} {k:Nat} {D:Int} {R n K:Nat} (I:k<R) (H:k<n) (h:∀i,i<R->∀j,j<n->Fit (M i j).natAbs K):∀i,i<R->∀j,j<n->Fit (qck (fun _=>true) M k k D i j).natAbs (K+K+1):=by
 intro i E j F;unfold qck;split
 ·exact fit_step (h k I k H) (h i E j F) (h i E k H) (h k I j F)
 ·exact (h i E j F).mono (by omega)
theorem qns {W:World} {E R n k i g:Nat} {D:Int} {F:Nat->Nat} {M:Nat->Nat->Int} (h:MatAt W E R n F (epart M k D i)) (H:i≠k) (hg:qcy W g n (fun j=>(epart M k D i k k*epart M k D i i j-epart M k D i i k*epart M k D i k j).tdiv D)) :
  MatAt (W.setCell ⟨E,i,none⟩ (rowv g n)) E R n (fun j=>if j=i then g else F j) (epart M k D (i+1)):=by
 rw [(qfP M k D i).1,(qfP M k D i).2] at hg;have:=h.set i g _ hg;rw [qlY M k D i H] at this;exact this
theorem qcu.other {W:World} {g E:Nat} {z z0:Int} {u v:Value} (h:qcu W g z) (I:qcu W E z0) (hne:g≠E):qcu ((W.setCell ⟨E,0,none⟩ u).setCell ⟨E,1,none⟩ v) g z:=by
 obtain⟨a,m,c,b,F,x,e,J⟩:=h;obtain⟨_,_,_,_,k1,_⟩:=I;have H:=qew W E u v;exact⟨a,m,c,b,(H.block _ (qG F).1 (fun e=>hne (qag e))).trans F,x,e,qcA J H k1 qli⟩
theorem qcu.row2 {W:World} {g:Nat} {z0 z:Int} {a:Option Addr} {m c:Nat} {b:Bool} (h:qcu W g z0) (F:IntAt W (.agg #[.slice a m c,.bool b]) z):((W.setCell ⟨g,0,none⟩ (.slice a m c)).setCell ⟨g,1,none⟩ (.bool b)).heap[g]? = some (.cells #[.slice a m c,.bool b] 217 (0,0))/\IntAt ((W.setCell ⟨g,0,none⟩ (.slice a m c)).setCell ⟨g,1,none⟩ (.bool b)) (.agg #[.slice a m c,.bool b]) z:=by
 obtain⟨a0,m0,c0,b0,E,_⟩:=h;obtain⟨x,e,H⟩:=F;exact⟨heap_setCell_same _ g 1 _ _ _ (heap_setCell_same _ g 0 _ _ _ E),x,e,qcA H (qew W g _ _) E qli⟩
theorem qcu.zero {W:World} {g:Nat} {z0:Int} (h:qcu W g z0):((W.setCell ⟨g,0,none⟩ (.slice none 0 0)).setCell ⟨g,1,none⟩ (.bool false)).heap[g]? = some (.cells #[.slice none 0 0,.bool false] 217 (0,0)) :=
 (h.row2 (z:=0) ⟨_,rfl,MagAt.nil _⟩).1
def ElmAs (w:World) (E R n K:Nat) (A:Nat->Nat->Int) (e:Ending) (w':World):Prop :=
  ∃(v:Value) (z:Int),e=.returned v/\IntAt w' v z/\w.grownBy w' (some E) /\
    ((z=0/\∃(k:Nat) (D:Int) (M:Nat->Nat->Int),k<R/\ElimSt R n k D M A/\∀i,k<=i->i<R->M i k=0) \/
     (Fit z.natAbs (KK K R)/\∃(F:Nat->Nat) (M:Nat->Nat->Int),MatAt w' E R n F M/\ElimSt R n R z M A/\∀i,i<R->∀j,j<n->Fit (M i j).natAbs (KK K R)))
theorem elim_any (tb R n K:Nat) (gs:Nat->Nat) (A:Nat->Nat->Int) (w:World) (aT:0<R) (hR:R<=10) (aU:R<=n) (hn:n<=11) (hK:K<=33554430) (aO:0<K) (hM:MatAt w tb R n gs A) (aG:∀i,i<R->gs i<w.heap.size) (hF:∀i,i<R->∀j,j<n->Fit (A i j).natAbs K) :
  Calls prog 240 #[.slice (some ⟨tb,0,none⟩) R R] w fun e w'=>ElmAs w tb R n K A e w':=by
 have HM:=qH (qA hM (qA aG hF));have aX:tb<w.heap.size:=(qG hM.row).1;have aR:(0:Int)<R:=by omega
 clear hM hF aG;go_enter func240,ntmps240;go_wp2_with fail
 go_loopw [10] (fun x10 W=>∃(k:Nat) (D:Int) (gs:Nat->Nat) (M:Nat->Nat->Int),k<=R/\x10=.int .i64 k/\Hu (ElimSt R n k D M A)/\Hu (MatAt W tb R n gs M/\(∀i,i<R->gs i≠w.heap.size+1+1)/\∀i,i<R->gs i≠w.heap.size)/\Hu (qcu W (w.heap.size+1+1) D/\qcu W w.heap.size 0)/\Hu (w.grownBy W (some tb))/\Hu (Fit D.natAbs (KK K k)/\∀i,i<R->∀j,j<n->Fit (M i j).natAbs (KK K k))) (fun x10 _=>R-(intOf x10).toNat)
 case atStart =>
  have hb:Below w.heap.size w (((w.alloc (.cells #[.slice none 0 0,.bool false] 217)).alloc (.cells #[.int .u32 1] 201)).alloc (.cells #[.slice (some ⟨w.heap.size+1,0,none⟩) 1 1,.bool false] 217)):=qb4 (qb4 (qb4 qB qN) qN) qN;refine⟨0,1,gs,A,qaj _,rfl,qH (ElimSt.start _ _ _),qH ⟨HM.o.1.below hb,fun i Z=>by have:=HM.o.2.1 i Z;omega,fun i Z=>by have:=HM.o.2.1 i Z;omega⟩,qH ⟨⟨_,_,_,_,qM _ _ _ (by simp),_,rfl,?_⟩,⟨_,_,_,_,(qL _ _ _ (by simp only [qab];omega)).trans ((qL _ _ _ (by simp only [qab];omega)).trans (qM _ _ _ rfl)),_,rfl,MagAt.nil _⟩⟩,qH (qch _ hb),qH ⟨?_,fun i Z j hj=>by rw [qm4];exact HM.o.2.2 i Z j hj⟩⟩
  ·have:=(qgp (w.alloc (.cells #[.slice none 0 0,.bool false] 217)) 201 (s:=1) (by decide) (by decide)).below (qb4 (o:=.cells #[.slice (some ⟨w.heap.size+1,0,none⟩) 1 1,.bool false] 217) qB qN);rw [qab] at this;exact this
  ·rw [qm4];exact Fit.mono (show Fit 1 1 by show 1<1000000000 ^ 1;decide) aO
 case round =>
  obtain⟨k,D,gs1,M,hk,rfl,hS,O,hI,hG,aa⟩:=hrel
  by_cases F:k<R
  ·have aS:(k:Int)<R:=by omega
   have Y:k<n:=by omega
   go_wp2_with fail;refine (qoz tb R n k k gs1 M _ (by omega) F Y (by omega) O.o.1).mono ?_;rintro e w2 (⟨rfl,hw,h0⟩ | ⟨rfl,aj,a,aQ,ai,hne,az⟩)
   ·subst hw;have H0:=qH h0;obtain⟨a,m,d,b,⟨e0,e1⟩,⟨z0,z1⟩,_⟩:=hI.o.2.cells;have U:=hI.o.2.zero;have ah:=qfc (qfc hG.o qN (p:=⟨w.heap.size,0,none⟩) (.slice none 0 0)) qN (p:=⟨w.heap.size,1,none⟩) (.bool false);have I:=qH (qA U ah);clear h0 U ah;go_wp2_with fail;exact qR (v:=.agg #[.slice none 0 0,.bool false]) (rA_ rfl w.heap.size I.o.1 underlying217 2) rfl ⟨_,0,rfl,⟨_,rfl,MagAt.nil _⟩,I.o.2,qaw ⟨rfl,k,D,M,F,hS.o,H0.o⟩⟩
   ·have ax:=qH (hS.o.swap aQ ai);have aL:=qH (qA (hI.o.1.keep aj O.o.1.row) (hI.o.2.keep aj O.o.1.row));have aK:=qH (qb5 hG.o aj);have V:=qH (qA aa.o.1 (swap_fit F ai aa.o.2));have aC:=qH (show qcp M k a k k≠0 by unfold qcp;rw [if_pos rfl];exact hne);obtain⟨gs2,au⟩:=qY (fun j=>if j=k then gs1 a else if j=a then gs1 k else gs1 j);have aA:=qnF F ai O.o.2.1;have af:=qnF F ai O.o.2.2;rw [<-au] at az aA af;have ae:MatAt w2 tb R n gs2 (qcp M k a):=az;obtain⟨M2,ak⟩:=qY (qcp M k a);rw [<-ak] at ae ax V aC;have aB:=qH (qA ae (qA aA af));clear az ae au ak hne aj aA af hS O hI hG aa;go_wp2_with fail
    go_loopw [21] (fun x21 W=>∃(i:Nat) (gs:Nat->Nat),i<=R/\x21=.int .i64 i/\Hu (MatAt W tb R n gs (epart M2 k D i)/\(∀i,i<R->gs i≠w.heap.size+1+1)/\∀i,i<R->gs i≠w.heap.size)/\Hu (qcu W (w.heap.size+1+1) D/\qcu W w.heap.size 0)/\Hu (w.grownBy W (some tb))) (fun x21 _=>R-(intOf x21).toNat)
    case atStart=>exact⟨0,gs2,qaj _,rfl,qH ⟨by rw [qkw];exact aB.o.1,aB.o.2⟩,aL,aK⟩
    case round =>
     obtain⟨i,aD,aV,rfl,E,H,ay⟩:=hrel
     by_cases Z:i<R
     ·have aW:(i:Int)<R:=by omega
      by_cases ag:i=k
      ·have aH:((i:Int) != (k:Int))=false:=by simp [ag]
       have aN:=qH (show epart M2 k D i=epart M2 k D (i+1) by rw [ag];exact qlZ M2 k D);clear ag;go_wp2;go_roundw
       case rel=>exact⟨i+1,aD,Z,by go_num,qH ⟨by rw [<-aN.o];exact E.o.1,E.o.2⟩,H,ay⟩
       case measure=>simp [intOf];omega
      ·have aH:((i:Int) != (k:Int))=true:=by rw [bne_iff_ne];omega
       have aM:=qH ag;clear ag;obtain⟨ci,fi⟩:=E.o.1.cell Z;obtain⟨ck,fk⟩:=E.o.1.cell F;obtain⟨a,m,d,b,⟨e0,e1⟩,_,J⟩:=H.o.1.cells;have HC:=qH (fun W (h:Below wr.heap.size wr W)=>qiy (KK_le hK (show k<=10 by omega)) (show n<=64 by omega) Y ((E.o.1.below h).rows i Z) ((E.o.1.below h).rows k F) (by rw [(qfP M2 k D i).1];exact V.o.2 i Z) (by rw [(qfP M2 k D i).2];exact V.o.2 k F) (J.below h) V.o.1 ax.o.nz);have av:Below wr.heap.size wr wr.drew:=qB.drew;clear J;go_wp2_with fail
       go_region_with (first | (go_at_call 256;refine (HC.o _ av).mono ?_;rintro e w4 ⟨g,rfl,aP,aF,aJ⟩;have hb:=av.trans aF;obtain⟨q0,q1⟩:=(E.o.1.below hb).cell Z;have I:=qH (qA (E.o.1.below hb) (qA (qA (H.o.1.below hb) (H.o.2.below hb)) (qA aP (qA aJ (qcl ay.o hb)))));clear aF aJ hb))
       all_goals go_wp2_with fail
       all_goals go_roundw
       all_goals first
        | exact⟨i+1,_,Z,by go_num,qH ⟨qns I.o.1 aM.o I.o.2.2.2.1,gs_set E.o.2.1 (qbu (qai H.o.1.lt I.o.2.2.1)),gs_set E.o.2.2 (qbu (qai H.o.2.lt I.o.2.2.1))⟩,qH ⟨I.o.2.1.1.keep (qb7 _ _ _ _) I.o.1.row,I.o.2.1.2.keep (qb7 _ _ _ _) I.o.1.row⟩,qH (qb5 I.o.2.2.2.2 (qb7 _ _ _ _))⟩
        | (simp [intOf];omega)
     ·obtain rfl:i=R:=by omega
      obtain⟨ck,fk⟩:=E.o.1.cell F;obtain⟨a,m,d,b,⟨e0,e1⟩,⟨z0,z1⟩,_⟩:=H.o.1.cells;obtain⟨a2,m2,d2,b2,p0,p1,J⟩:=(E.o.1.rows k F).pair Y;rw [(qfP M2 k D i).2] at J;have I:=qH J;clear J;go_wp2;go_roundw
      case rel =>
       refine⟨k+1,M2 k k,aD,qck (fun _=>true) M2 k k D,by omega,by go_num,qH (ax.o.next F Y aC.o),qH ⟨(E.o.1.put H.o.1 (qew _ _ _ _) E.o.2.1).congr (fun _ _=>rfl) (qnq M2 k D i),E.o.2⟩,qH ⟨H.o.1.put I.o,H.o.2.other H.o.1 (by omega)⟩,qH ?_,qH ⟨?_,?_⟩⟩
       ·exact qfc (qfc ay.o (qar (qbf _)) _) (qar (qbf _)) _
       ·rw [qm3];exact (V.o.2 k F k Y).mono (by omega)
       ·rw [qm3];exact qnr F Y V.o.2
      case measure=>simp [intOf];omega
  ·obtain rfl:k=R:=by omega
   obtain⟨a,m,d,b,⟨e0,e1⟩,_,J⟩:=hI.o.1.cells;obtain⟨a2,m2,d2,b2,⟨p0,p1⟩,⟨z0,z1⟩,_⟩:=hI.o.2.cells;have U:=hI.o.2.row2 J;have ah:=qfc (qfc hG.o qN (p:=⟨w.heap.size,0,none⟩) (.slice a m d)) qN (p:=⟨w.heap.size,1,none⟩) (.bool b);have aI:=O.o.1.put hI.o.2 (qew _ _ (.slice a m d) (.bool b)) O.o.2.2;have I:=qH (qA U (qA ah aI));clear J U ah aI;go_wp2_with fail;exact qR (v:=.agg #[.slice a m d,.bool b]) (rA_ rfl w.heap.size I.o.1.1 underlying217 2) rfl ⟨_,D,rfl,I.o.1.2,I.o.2.1,qam ⟨aa.o.1,gs1,M,I.o.2.2,hS.o,aa.o.2⟩⟩
def Sing (R:Nat) (A:Nat->Nat->Rat):Prop:=∃y:Nat->Rat,(∃j,j<R/\y j≠0)/\∀i,i<R->sumQ R (fun j=>A i j*y j)=0
def qcZ (R:Nat) (A:Nat->Nat->Rat) (b x:Nat->Rat):Prop:=∀i,i<R->sumQ R (fun j=>A i j*x j)=b i
theorem qcZ.uniq {R:Nat} {A:Nat->Nat->Rat} {b x y:Nat->Rat} (h:¬Sing R A) (hx:qcZ R A b x) (hy:qcZ R A b y):∀i,i<R->x i=y i:=by
 intro i F;apply Classical.byContradiction;intro hne;refine h ⟨fun j=>x j-y j,⟨i,F,fun h=>hne (by grind)⟩,fun k E=>?_⟩;have e:sumQ R (fun j=>A k j*(x j-y j))=sumQ R (fun j=>A k j*x j)+(-1)*sumQ R (fun j=>A k j*y j):=by
  rw [<-qcD,<-qfl];exact qcc fun j _=>by grind
 rw [e,hx k E,hy k E];grind
theorem Sing.congr {R:Nat} {A B:Nat->Nat->Rat} (h:Sing R A) (e:∀i,i<R->∀j,j<R->A i j=B i j):Sing R B:=by
 obtain⟨y,hy,F⟩:=h;exact⟨y,hy,fun i E=>by rw [<-F i E];exact qcc fun j H=>by rw [e i E j H]⟩
theorem qcZ.congr {R:Nat} {A B:Nat->Nat->Rat} {b c x y:Nat->Rat} (h:qcZ R A b x) (e:∀i,i<R->∀j,j<R->A i j=B i j) (H:∀i,i<R->b i=c i) (ex:∀i,i<R->x i=y i):qcZ R B c y:=fun i E=>by
 rw [<-H i E,<-h i E];exact qcc fun j F=>by rw [e i E j F,ex j F]
theorem Span.kill {R n:Nat} {A:Nat->Nat->Rat} {v y:Nat->Rat} (h:Span R n A v) (E:∀i,i<R->sumQ n (fun j=>A i j*y j)=0):sumQ n (fun j=>v j*y j)=0:=by
 obtain⟨c,F⟩:=h;have e:sumQ n (fun j=>v j*y j)=sumQ n fun j=>sumQ R fun i=>c i*(A i j*y j):=qcc fun j I=>by
  rw [F j I,show sumQ R (fun i=>c i*A i j)*y j=y j*sumQ R (fun i=>c i*A i j) by grind,<-qcD];exact qcc fun i _=>by grind
 rw [e,qe1];refine qdi _ _ fun i H=>?_
 rw [qcD,E i H];grind
theorem qhQ (n:Nat) (f x:Nat->Rat) (a:Rat):sumQ (n+1) (fun j=>f j*(if j<n then x j else a))=sumQ n (fun j=>f j*x j)+f n*a:=by
 show sumQ n _+f n*(if n<n then x n else a)=_
 rw [if_neg (Nat.lt_irrefl n)]
 congr 1
 exact qcc fun j E=>by rw [if_pos E]
theorem qji {R n k:Nat} {D:Int} {M A:Nat->Nat->Int} (h:ElimSt R n k D M A) (hn:R<=n) (hk:k<R) (U:∀i,k<=i->i<R->M i k=0):Sing R (castM A):=by
 have V:(D:Rat)≠0:=by exact_mod_cast h.nz
 refine⟨fun j=>if j<k then -(M j k:Rat) else if j=k then (D:Rat) else 0,⟨k,hk,by simp only [Nat.lt_irrefl,if_false,if_true];exact V⟩,?_⟩;have Y:∀i,i<R->sumQ n (fun j=>castM M i j*(if j<k then -(M j k:Rat) else if j=k then (D:Rat) else 0))=0:=by
  intro i F
  by_cases H:i<k
  ·rw [sumQ_two n i k _ (by omega) (by omega) (by omega) fun j Z I J=>by
    by_cases e:j<k
    ·show (M i j:Rat)*_=0
     rw [h.diag i F j e,if_neg (fun h=>I h.symm)];simp
    ·rw [if_neg e,if_neg J];grind]
   rw [if_pos H,if_neg (Nat.lt_irrefl k),if_pos rfl]
   show (M i i:Rat)*_+(M i k:Rat)*_=0
   rw [h.diag i F i H,if_pos rfl];grind
  ·refine qdi _ _ fun j Z=>?_
   by_cases e:j<k
   ·show (M i j:Rat)*_=0
    rw [h.diag i F j e,if_neg (by omega)];simp
   ·by_cases O:j=k
    ·show (M i j:Rat)*_=0
     rw [O,U i (by omega) F];simp
    ·rw [if_neg e,if_neg O];grind
 intro i F;have E:=(h.span.2 i F).kill Y;have e:sumQ n (fun j=>castM A i j*(if j<k then -(M j k:Rat) else if j=k then (D:Rat) else 0))=sumQ R (fun j=>castM A i j*(if j<k then -(M j k:Rat) else if j=k then (D:Rat) else 0)):=by
  obtain⟨m,rfl⟩:∃m,n=R+m:=⟨n-R,by omega⟩;rw [qe2,qdi m _ fun j _=>by rw [if_neg (by omega),if_neg (by omega)];grind]
  grind
 rw [e] at E;exact E
theorem qgR {R:Nat} {z:Int} {M A:Nat->Nat->Int} (h:ElimSt R (R+1) R z M A):qcZ R (castM A) (fun i=>castM A i R) (fun i=>(M i R:Rat) / z)/\¬Sing R (castM A):=by
 have O:(z:Rat)≠0:=by exact_mod_cast h.nz
 have I:∀(x:Nat->Rat) (a:Rat) i,i<R->sumQ (R+1) (fun j=>castM M i j*(if j<R then x j else a))=z*x i+M i R*a:=by
  intro x a i E;rw [qhQ,qdN R i _ E fun j F H=>by show (M i j:Rat)*_=0;rw [h.diag i E j F,if_neg (fun h=>H h.symm)];simp]
  show (M i i:Rat)*x i+(M i R:Rat)*a=_
  rw [h.diag i E i E,if_pos rfl]
 refine⟨fun i E=>?_,?_⟩
 ·have:=(h.span.2 i E).kill (y:=fun j=>if j<R then (M j R:Rat) / z else -1) fun i E=>by rw [I _ _ i E];grind
  rw [qhQ] at this
  show sumQ R _=castM A i R
  grind
 ·rintro ⟨y,⟨j,F,hy⟩,J⟩;have:=(h.span.1 j F).kill (y:=fun j=>if j<R then y j else 0) fun i E=>by rw [qhQ,J i E];grind
  rw [I _ _ j F] at this;apply hy;have:(z:Rat)*y j=0:=by grind
  rcases Rat.mul_eq_zero.1 this with h | h
  ·exact absurd h O
  ·exact h
def ftxt (q:Rat):FT:=(qcj q.num,num q.den)
theorem qe7 (q:Rat):fstr q=.agg #[.string (ftxt q).1,.string (ftxt q).2]:=rfl
def FRow (W:World) (g n:Nat) (l:List FT):Prop:=W.heap[g]? = some (.cells (fflat (l++List.replicate (n-l.length) fd0)).toArray 27 (0,0))/\l.length<=n
theorem FRow.below {W W':World} {g n:Nat} {l:List FT} (h:FRow W g n l) (E:Below W.heap.size W W'):FRow W' g n l :=
 ⟨(E.block _ (qG h.1).1).trans h.1,h.2⟩
theorem FRow.at {W:World} {g n:Nat} {l:List FT} (h:FRow W g n l) (I:l.length<n):(W.cell? ⟨g,l.length*2,none⟩=some (.string ⟨#[]⟩)/\W.cell? ⟨g,l.length*2+1,none⟩=some (.string ⟨#[]⟩))/\∀j,W.frozen? ⟨g,j,none⟩=false:=by
 have E:(l++List.replicate (n-l.length) fd0)[l.length]? = some fd0:=by
  rw [qau qN,qaJ,qbq,if_pos (by omega)]
 obtain⟨F,H⟩:=qfQ _ _ _ E;exact⟨⟨(qC _ _ _ _ _ _ h.1).trans ((qaz ..).trans F),(qC _ _ _ _ _ _ h.1).trans ((qaz ..).trans H)⟩,fun j=>qF _ _ _ _ _ h.1⟩
theorem FRow.set {W:World} {g n:Nat} {l:List FT} (h:FRow W g n l) (I:l.length<n) (x:FT) :
  FRow ((W.setCell ⟨g,l.length*2,none⟩ (.string x.1)).setCell ⟨g,l.length*2+1,none⟩ (.string x.2)) g n (l++[x]):=by
 refine⟨?_,by rw [qaf,qaH];omega⟩;rw [heap_setCell_same _ g (l.length*2+1) _ _ _ (heap_setCell_same _ g (l.length*2) _ _ _ h.1)]
 congr 3
 obtain⟨m,H⟩:∃m,n-l.length=m+1:=⟨n-l.length-1,by omega⟩;have E:fflat (l++List.replicate (m+1) fd0)=fflat l++(.string fd0.1 :: .string fd0.2 :: fflat (List.replicate m fd0)):=by
  rw [qd5,qby];rfl
 have F:fflat (l++[x]++List.replicate m fd0)=fflat l++(.string x.1 :: .string x.2 :: fflat (List.replicate m fd0)):=by
  rw [qd5,qd5,qaG];rfl
 rw [qaQ,qaQ,H,qaf,qaH,show n-(l.length+1)=m by omega,E,F];rw [qbi _ _ (by rw [qcK];exact qad _),qcK,qaJ,qbx,qbi _ _ (by rw [qcK];omega),qcK,show l.length*2+1-l.length*2=1 by omega]
 rfl
theorem qnv (n:Nat):fflat (List.replicate n fd0)=List.replicate (n*2) (.string ⟨#[]⟩):=by
 induction n with
 | zero=>rfl
 | succ n ih =>
  rw [qby,show (n+1)*2=n*2+1+1 by omega,qby,qby,<-ih];rfl
theorem qmj (n:Nat):madeCells #[.string ⟨#[]⟩,.string ⟨#[]⟩] (n*2)=(fflat (List.replicate n fd0)).toArray:=by
 rw [qnv];apply Array.ext';apply List.ext_getElem?;intro i;rw [Array.getElem?_toList]
 show _=(List.replicate (n*2) (Value.string ⟨#[]⟩))[i]?
 by_cases E:i<n*2
 ·rw [qbq,if_pos E];have F:(madeCells #[.string ⟨#[]⟩,.string ⟨#[]⟩] (n*2))[i]? = some ((#[.string ⟨#[]⟩,.string ⟨#[]⟩]:Array Value)[i % 2]!):=by simp [madeCells,E]
  rw [F]
  congr 1
  rcases (show i % 2=0\/i % 2=1 by omega) with e | e <;> rw [e] <;> rfl
 ·rw [Array.getElem?_eq_none (by rw [size_madeCells];omega),qaR (by rw [qaZ];omega)]
theorem FRow.made (W:World) (n:Nat):FRow (W.alloc (.cells (madeCells #[.string ⟨#[]⟩,.string ⟨#[]⟩] (n*2)) 27)) W.heap.size n []:=by
 refine⟨?_,qaj _⟩;rw [qM _ _ _ rfl,qbp,List.length_nil,Nat.sub_zero,qmj]
theorem qiG (n:Nat) (J:n<=1048576) (w:World):(Instr.makeSlice 22 (.int .i64 (n:Int)) (.int .i64 (n:Int))).run prog w=.ok (.slice (some ⟨w.heap.size,0,none⟩) n n) (w.alloc (.cells (madeCells #[.string ⟨#[]⟩,.string ⟨#[]⟩] (n*2)) 27)):=by
 obtain⟨i,I,E,F,H⟩:=info_parts infoF;have h:=run_make (P:=prog) w 22 27 i _ underlying22 I E .i64 .i64 (n:Int) (n:Int) (by omega) (Int.le_refl _) (by rw [H];omega) (by omega);rw [F,qbO] at h;exact h
theorem FRow.cells {W:World} {g n:Nat} {l:List FT} (h:FRow W g n l) (F:l.length=n):FCells W (some ⟨g,0,none⟩) g 0 l:=by
 have E:=h.1;rw [F,qaJ,List.replicate_zero,qbj] at E;exact FCells.ofRow E
theorem HasT.keepRow {W W':World} {H R n:Nat} {I:Nat->Nat} (h:HasT W) (U:W.grownBy W' (some H)) (V:W.heap[H]? = some (.cells (rowvs R n I).toArray 212 (0,0))):HasT W':=by
 unfold HasT Lib.TabIs World.var? at *;cases hg:(prog).globalNamed "internal/strconv.uint64pow10" with
 | none=>simp [hg] at h
 | some g =>
  simp only [hg,Option.bind_some] at h ⊢;have F:g<W.heap.size:=by
   rcases qaB g W.heap.size with h' | h'
   ·exact h'
   ·rw [Array.getElem?_eq_none h'] at h;simp at h
  have hne:g≠H:=by
   intro e;subst e;rw [V] at h;simp only [Option.some.injEq] at h;have E:=congrArg (fun a:Array Value=>a[0]?) h;have J:((Lib.pow10Tab.map fun z=>Value.int .u64 z).toArray)[0]? = some (.int .u64 1):=rfl;have E:(rowvs R n I).toArray[0]? = (Lib.pow10Tab.map fun z=>Value.int .u64 z).toArray[0]?:=E;rw [J,qaz] at E
   by_cases O:0<R
   ·rw [qev O] at E;simp at E
   ·rw [qaR (by rw [qcY];omega)] at E;simp at E
  rw [U.block g F (fun e=>hne (qag e))];exact h
def told (n:Nat) (x:Nat->Rat):List FT:=(List.range n).map fun i=>ftxt (x i)
def qb9 (n:Nat) (x:Nat->Rat):Prop:=∀i,i<n->Short (x i)
theorem qb9.snoc {n:Nat} {x:Nat->Rat} (h:qb9 n x) (E:Short (x n)):qb9 (n+1) x:=fun j F=>by
 by_cases e:j=n
 ·rw [e];exact E
 ·exact h j (by omega)
theorem qe3 (n:Nat) (x:Nat->Rat):told (n+1) x=told n x++[ftxt (x n)]:=by
 unfold told;rw [List.range_succ,qbh];rfl
theorem qcb (n:Nat) (x:Nat->Rat):(told n x).length=n:=by unfold told;rw [qaD,qbo]
def FOne (E W:World) (g:Nat) (x:FT):Prop:=W.heap[g]? = some (.cells #[.string x.1,.string x.2] 27 (0,0))/\Below E.heap.size E W/\E.heap.size<=g
theorem fone_a {E W:World} {x1 x2:ByteArray} (F:Below E.heap.size E W):FOne E (W.alloc (.cells #[.string x1,.string x2] 27)) W.heap.size (x1,x2) :=
 ⟨qM _ _ _ rfl,qb4 F qN,F.size⟩
theorem fone_p {E W:World} {g:Nat} {x1 x2:ByteArray} {F c1:Value} (H:Below E.heap.size E W) (hg:E.heap.size<=g) (I:W.heap[g]? = some (.cells #[F,c1] 27 (0,0))) :
  FOne E ((W.setCell ⟨g,0,none⟩ (.string x1)).setCell ⟨g,1,none⟩ (.string x2)) g (x1,x2) :=
 ⟨heap_setCell_same _ g 1 _ _ _ (heap_setCell_same _ g 0 _ _ _ I),(H.setCell (p:=⟨g,0,none⟩) hg _).setCell (p:=⟨g,1,none⟩) hg _,hg⟩
theorem qgB {w w':World} {q:Rat} {e:Ending} (h:qg4 w q e w'):∃(x1 x2:ByteArray) (c:Int),e=.returned (.tuple #[.agg #[.string x1,.string x2],.int .i64 c])/\(Short q/\(x1,x2)=ftxt q/\c=0\/¬Short q/\(x1,x2)=fd0/\c=6)/\Below w.heap.size w w':=by
 obtain⟨h | h,E⟩:=h
 ·exact⟨(ftxt q).1,(ftxt q).2,0,h.2,qaw ⟨h.1,rfl,rfl⟩,E⟩
 ·exact⟨_,_,6,h.2,qam ⟨h.1,rfl,rfl⟩,E⟩
def Tells (n:Nat) (x:Nat->Rat) (e:Ending) (w':World):Prop :=
 (qb9 n x/\∃g,e=.returned (.tuple #[.slice (some ⟨g,0,none⟩) n n,.int .i64 0])/\FCells w' (some ⟨g,0,none⟩) g 0 (told n x)) \/
 (¬qb9 n x/\e=.returned (.tuple #[.slice none 0 0,.int .i64 6]))
def SolvesAs (w:World) (E R:Nat) (A:Nat->Nat->Int) (e:Ending) (w':World):Prop :=
 w.grownBy w' (some E)/\((Sing R (castM A)/\e=.returned (.tuple #[.slice none 0 0,.int .i64 7])) \/
  (¬Sing R (castM A)/\∃x,qcZ R (castM A) (fun i=>castM A i R) x/\Tells R x e w'))
theorem fit_pos {z:Int} {K:Nat} (h:Fit z.natAbs K) (E:z≠0):0<K:=by
 rcases qaN K with e | e
 ·subst e;have:z.natAbs<1:=h;omega
 ·exact e
theorem qg9 (a b:Int):Rat.divInt a b=(a:Rat) / b:=Rat.divInt_eq_div a b
theorem qo0 (tb R K:Nat) (gs:Nat->Nat) (A:Nat->Nat->Int) (w:World) (bC:0<R) (hR:R<=10) (hK:K<=33554430) (bB:0<K) (hM:MatAt w tb R (R+1) gs A) (aD:∀i,i<R->gs i<w.heap.size) (hF:∀i,i<R->∀j,j<R+1->Fit (A i j).natAbs K) (hT:HasT w) :
  Calls prog 190 #[.agg #[.slice (some ⟨tb,0,none⟩) R R]] w fun e w'=>SolvesAs w tb R A e w':=by
 have HM:=qH (qA hM (qA aD hF));have HT:=qH hT;have bF:tb<w.heap.size:=(qG hM.row).1;have bG:(0:Int)<R:=by omega
 have aj:Below w.heap.size w (w.alloc (.cells #[.slice (some ⟨tb,0,none⟩) R R] 262)):=qb4 qB qN;have HE:=qH (elim_any tb R (R+1) K gs A (w.alloc (.cells #[.slice (some ⟨tb,0,none⟩) R R] 262)) bC hR (by omega) (by omega) hK bB (hM.below aj) (fun i U=>qai (aD i U) aj.size) hF);have av:=qH aj;have bJ:=qfR;clear hM hF aD hT aj;go_enter func190,ntmps190;go_wp2_with fail;refine HE.o.mono ?_;rintro e H ⟨v,z,rfl,hv,O,hz⟩;obtain⟨a,m,d,b,rfl⟩:=qb6 hv;have aY:=(HM.o.1.below av.o);have aL:=(HT.o.below av.o).keepRow O aY.row;have hg:=qb5 (qch tb av.o) O;have bi:=(qcV .l) z.natAbs (.slice a m d);have Hv:=qH hv;have HX:=qH (qA aL (qA hg O));have aW:MagAt H (.slice a m d) z.natAbs:=by
  obtain⟨_,e,h⟩:=hv;simp only [qaX,qa1,qaV] at e;rw [e.1];exact h
 have az:Below H.heap.size H (H.alloc (.cells #[.slice a m d,.bool b] 217)):=qb4 qB qN;have HZ:=qH (bi _ (aW.below az));have J:=qH az;have bD:(H.alloc (.cells #[.slice a m d,.bool b] 217)).heap.size=H.heap.size+1:=by rw [qab]
 have bE:w.heap.size<H.heap.size:=by have:=O.size;rw [qab] at this;omega
 have Y:H.heap[w.heap.size]? = some (.cells #[.slice (some ⟨tb,0,none⟩) R R] 262 (0,0)):=(O.block _ (by rw [qab];omega) (fun e=>Nat.lt_irrefl _ (qag e▸bF))).trans (qM _ _ _ rfl);have bn:=qH Y;have bv:=qC _ _ 0 _ _ _ Y;clear hv O aY aL hg bi aW az bD Y;go_wp2_with fail;obtain⟨W3,V⟩:=qY (H.alloc (.cells #[.slice a m d,.bool b] 217));rw [<-V] at HZ J ⊢;have aC:Hu (w.grownBy W3 (some tb)):=qH (qcl HX.o.2.1 J.o);rcases hz with ⟨au,k,D,M,hk,hS,h0⟩ | ⟨aU,gs',M,aK,hS,aQ⟩
 ·refine HZ.o.mono ?_;rintro e w4 ⟨rfl,hw⟩;rw [qV (show z.natAbs=0 by omega)];have HS:=qH (qji hS (by omega) hk h0);subst hw;clear hS h0 au V;go_wp2_with fail
  go_ret2
  exact⟨aC.o,qaw ⟨HS.o,rfl⟩⟩
 ·refine HZ.o.mono ?_;rintro e w4 ⟨rfl,hw⟩;have au:=hS.nz;rw [qU (show ¬z.natAbs=0 by omega)];have aX:=qiG R (by omega) W3;obtain⟨W5,ai⟩:=qY (W3.alloc (.cells (madeCells #[.string ⟨#[]⟩,.string ⟨#[]⟩] (R*2)) 27));rw [<-ai] at aX;have aT:FRow W5 W3.heap.size R []:=ai▸FRow.made W3 R;have aA:Below W3.heap.size W3 W5:=ai▸qb4 qB qN;clear ai;have aZ:W3.heap[H.heap.size]? = some (.cells #[.slice a m d,.bool b] 217 (0,0)):=by rw [V];exact qM _ _ _ rfl
  have I:=(J.o.block _ (by exact bE)).trans bn.o;have Z:=(aA.block _ (qG I).1).trans I;have bA:=qC _ _ 0 _ _ _ Z;have H5:=qH (qA aT (qA aA Z));have HS:=qH (qA aU (qA (aK.below J.o) (qA hS aQ)));have H3:=qH (qA aZ (qA I (qA (Hv.o.below J.o) (HX.o.1.below J.o))));have aI:=qH au;have bf:W3.heap.size=H.heap.size+1:=by rw [V,qab]
  have bH:=qH bf;subst hw;clear hS au V aK aQ aU aZ I bv bf aT aA Z;have bz:=qC _ _ 0 _ _ _ H3.o.2.1;go_wp2_with fail
  go_loopw [26] (fun x26 W=>∃(i:Nat),i<=R/\x26=.int .i64 i/\Hu (qb9 i (fun i=>(M i R:Rat) / z))/\Hu (FRow W w4.heap.size R (told i (fun i=>(M i R:Rat) / z)))/\Hu (Below w4.heap.size w4 W)) (fun x26 _=>R-(intOf x26).toNat)
  case atStart=>exact⟨0,qaj _,rfl,qH (fun i U=>absurd U (by omega)),qH H5.o.1,qH H5.o.2.1⟩
  case round =>
   obtain⟨i,bK,rfl,hA,hF,hB⟩:=hrel
   by_cases U:i<R
   ·have bL:(i:Int)<R:=by omega
    have bI:(R:Int)<R+1:=by omega
    have ay:=HS.o.2.1.below hB.o;obtain⟨ci,fi⟩:=ay.cell U;obtain⟨a2,m2,d2,b2,p0,p1,aV⟩:=(ay.rows i U).pair (show R<R+1 by omega);have hr:=(hB.o.block _ (qG H3.o.1).1).trans H3.o.1;have aB:=(hB.o.block _ (qG H3.o.2.1).1).trans H3.o.2.1;have C0:∀W,Below wr.heap.size wr W->W.cell? ⟨w.heap.size,0,none⟩=some (.slice (some ⟨tb,0,none⟩) R R):=fun W h=>(h.cell (p:=⟨w.heap.size,0,none⟩) (qG aB).1).trans (qC _ _ 0 _ _ _ aB)
    have C1:∀W,Below wr.heap.size wr W->W.cell? ⟨gs' i,R*2,none⟩=some (.slice a2 m2 d2):=fun W h=>(h.cell (qae wr _ p0)).trans p0
    have C2:∀W,Below wr.heap.size wr W->W.cell? ⟨gs' i,R*2+1,none⟩=some (.bool b2):=fun W h=>(h.cell (qae wr _ p1)).trans p1
    have C3:∀W,Below wr.heap.size wr W->W.cell? ⟨H.heap.size,0,none⟩=some (.slice a m d):=fun W h=>(h.cell (p:=⟨H.heap.size,0,none⟩) (qG hr).1).trans (qC _ _ 0 _ _ _ hr)
    have C4:∀W,Below wr.heap.size wr W->W.cell? ⟨H.heap.size,1,none⟩=some (.bool b):=fun W h=>(h.cell (p:=⟨H.heap.size,1,none⟩) (qG hr).1).trans (qC _ _ 1 _ _ _ hr)
    have bg:=H3.o.2.2.1.below hB.o;have aM:=H3.o.2.2.2.below hB.o;have aR:=HS.o.2.2.2 i U R (by omega);have HW:=qH (fun W (h:Below wr.heap.size wr W)=>qih (M i R) z aI.o (KK K R) (fit_pos HS.o.1 aI.o) (KK_le hK hR) _ _ W (aV.below h) (bg.below h) aR HS.o.1 (aM.below h));have aH:Below wr.heap.size wr wr:=Below.refl _ _;have af:Below wr.heap.size wr wr.drew:=aH.drew;have ae:Below wr.heap.size wr (wr.alloc (.cells #[.string ⟨#[]⟩,.string ⟨#[]⟩] 27)).drew:=(qb4 aH qN).drew;have aJ:=hF.o.at (by rw [qcb];exact U);have HF:=qH aJ;clear ay aV p0 p1 hr aB bg aM aR aJ bz bA aX;go_wp2_with fail
    go_cut [9,10] (fun x9 x10 W=>∃(g9:Nat) (x1 x2:ByteArray) (c:Int),x9=.pointer (some ⟨g9,0,none⟩)/\x10=.int .i64 c/\Hu (Short (Rat.divInt (M i R) z)/\(x1,x2)=ftxt (Rat.divInt (M i R) z)/\c=0\/¬Short (Rat.divInt (M i R) z)/\(x1,x2)=fd0/\c=6)/\FOne wr W g9 (x1,x2))
    case first =>
     go_region_held3 (fun W=>Below wr.heap.size wr W) (first | with_reducible exact aH | with_reducible exact af | with_reducible exact ae | with_reducible exact E | exact qb4 E qN | exact (E.setCell qN _).setCell qN _ | exact (E.setCell E.size _).setCell E.size _) (first | (go_at_call 160;refine (HW.o _ (by first | with_reducible exact af | with_reducible exact ae)).mono ?_;rintro e w6 hx;obtain⟨x1,x2,c6,rfl,hx,ak⟩:=qgB hx;have E:Below wr.heap.size wr w6:=bjoin (by first | with_reducible exact af | with_reducible exact ae) ak;have bu:=qH hx;obtain⟨k6,bN⟩:=bcell ak;have Z6:=qH (zkeep ak);clear hx ak))
     all_goals go_wp2_with fail
     all_goals go_meet
     all_goals refine⟨_,x1,x2,c6,rfl,rfl,bu,?_⟩
     all_goals first
      | with_reducible exact fone_a E
      | exact fone_p E qN (Z6.o _ _ (qM _ _ _ rfl))
    case rest =>
     obtain⟨g9,x1,x2,c,rfl,rfl,hx,ho⟩:=hcut;obtain⟨aF,aG,bM⟩:=ho;have o0:=qC _ _ 0 _ _ _ aF;have o1:=qC _ _ 1 _ _ _ aF;have ax:=hF.o.below aG;have aN:=ax.at (by rw [qcb];exact U);have aa:=ax.set (by rw [qcb];exact U) (x1,x2);rw [qcb] at aN aa;obtain⟨⟨q0,q1⟩,qf⟩:=aN;have bO:=qf (i*2);have bP:=qf (i*2+1);have aO:=((hB.o.trans (aG.mono hB.o.size)).setCell (p:=⟨w4.heap.size,i*2,none⟩) qN (.string x1)).setCell (p:=⟨w4.heap.size,i*2+1,none⟩) qN (.string x2);have aP:=hB.o.trans (aG.mono hB.o.size);have HQ:=qH (qA aa (qA aO aP));have HX:=qH hx.o;have hq:=qg9 (M i R) z;clear aa aO aP aF ax qf C0 C1 C2 C3 C4 ci fi;rcases hx.o with ⟨F,ag,rfl⟩ | ⟨F,ag,rfl⟩
     ·rw [hq] at F ag;have ah:=qH (qA F ag);clear F ag hq;go_wp2;go_roundw
      case rel=>exact⟨i+1,U,by go_num,qH (hA.o.snoc ah.o.1),qH (by rw [qe3,<-ah.o.2];exact HQ.o.1),qH HQ.o.2.1⟩
      case measure=>simp [intOf];omega
     ·rw [hq] at F;have ah:=qH F;clear F ag hq;go_wp2_with fail
      go_ret2
      exact⟨qcl aC.o HQ.o.2.2,qam ⟨(qgR HS.o.2.2.1).2,_,(qgR HS.o.2.2.1).1,qam ⟨fun h=>ah.o (h i U),rfl⟩⟩⟩
   ·obtain rfl:i=R:=by omega
    have aS:=hF.o.cells (qcb _ _);have bq:=qH aS;clear aS;go_wp2_with fail
    go_ret2
    exact⟨qcl aC.o hB.o,qam ⟨(qgR HS.o.2.2.1).2,_,(qgR HS.o.2.2.1).1,qaw ⟨hA.o,_,rfl,bq.o⟩⟩⟩
abbrev Tbl:=List (List FT)
structure TCells (W:World) (ao:Option Addr) (b off:Nat) (t:Tbl):Prop where
 addr:0<t.length->ao=some ⟨b,off,none⟩
 row:∀k,k<t.length->∃(ra:Option Addr) (rb ro rc:Nat),W.cell? ⟨b,off+k,none⟩=some (.slice ra (t.getD k []).length rc)/\FCells W ra rb ro (t.getD k [])
theorem TCells.below {W W':World} {E:Option Addr} {b off:Nat} {t:Tbl} (h:TCells W E b off t) (H:Below W.heap.size W W'):TCells W' E b off t :=
 ⟨h.addr,fun k J=>by
  obtain⟨ra,rb,ro,rc,F,I⟩:=h.row k J;exact⟨ra,rb,ro,rc,(H.cell (qae W _ F)).trans F,I.below H⟩⟩
def wid (t:Tbl):Nat:=(t.getD 0 []).length
structure TOk (t:Tbl):Prop where
 r1:1<=t.length
 r2:t.length<=40
 c1:1<=wid t
 c2:wid t<=10
 rows:∀k,k<t.length->(t.getD k []).length=wid t/\FAll (t.getD k [])
theorem qng (ao:Option Addr) (b off R c:Nat) (t:Tbl) (w:World) (hR:t.length=R) (hl:R<=4611686018427387904) (hw:∀k,k<R->(t.getD k []).length<=4611686018427387904) (Z:TCells w ao b off t) :
  Calls prog 209 #[.slice ao R c] w fun e w'=>qfI w (TOk t) 60 e w':=by
 have H:=qH (qA Z (qA hR hw))
 by_cases h1:1<=R
 case neg =>
  have V:(R:Int)<1:=by omega
  clear Z hR;go_enter func209,ntmps209;go_wp2;go_ret;exact⟨60,rfl,qam ⟨rfl,fun h=>by have:=h.r1;have:=H.o.2.1;omega⟩,Below.refl _ _⟩
 have aC:¬(R:Int)<1:=by omega
 by_cases h2:R<=40
 case neg =>
  have V:(40:Int)<R:=by omega
  clear Z hR;go_enter func209,ntmps209;go_wp2;go_ret;exact⟨60,rfl,qam ⟨rfl,fun h=>by have:=h.r2;have:=H.o.2.1;omega⟩,Below.refl _ _⟩
 have aD:¬(40:Int)<R:=by omega
 have aB:(0:Int)<R:=by omega
 have av:=Z.addr (by omega);subst av;obtain⟨aK,aL,aN,aM,O,_⟩:=Z.row 0 (by omega);rw [qbt] at O;obtain⟨n,hn⟩:=qX (wid t);have ak:(t.getD 0 []).length=n:=hn;have ay:=hw 0 (by omega);rw [ak] at O ay;have Y:=qH hn;have az:b<w.heap.size:=qae w _ O;clear Z hR hn ak hw
 by_cases h3:1<=n
 case neg =>
  have V:(n:Int)<1:=by omega
  go_enter func209,ntmps209;go_wp2;go_ret;exact⟨60,rfl,qam ⟨rfl,fun h=>by have:=h.c1;have:=Y.o;omega⟩,Below.refl _ _⟩
 have aF:¬(n:Int)<1:=by omega
 by_cases h4:n<=10
 case neg =>
  have V:(10:Int)<n:=by omega
  go_enter func209,ntmps209;go_wp2;go_ret;exact⟨60,rfl,qam ⟨rfl,fun h=>by have:=h.c2;have:=Y.o;omega⟩,Below.refl _ _⟩
 have aG:¬(10:Int)<n:=by omega
 go_enter func209,ntmps209;go_wp2_with fail
 go_loopw [31] (fun x31 W=>∃k:Nat,k<=R/\x31=.int .i64 k/\Hu (∀i,i<k->(t.getD i []).length=n/\FAll (t.getD i []))/\Hu (Below w.heap.size w W)) (fun x31 _=>R-(intOf x31).toNat)
 case atStart=>exact⟨0,qaj _,rfl,qH (fun i hi=>absurd hi (by omega)),qH qB⟩
 case round =>
  obtain⟨k,hk,rfl,hI,hB⟩:=hrel
  by_cases ai:k<R
  ·have aJ:(k:Int)<R:=by omega
   have aH:=(hB.o.cell (p:=⟨b,off,none⟩) az).trans O;obtain⟨ra,rb,ro,rc,af,ag⟩:=(H.o.1.below hB.o).row k (by have:=H.o.2.1;omega);have HF:=qH ag;obtain⟨row,F⟩:=qX (t.getD k []);obtain⟨l,U⟩:=qX row.length;have aj:=H.o.2.2 k ai;rw [F] at af HF aj;rw [U] at af aj;have I:=qH (qA F U);clear F U ag
   by_cases E:l=n
   case neg =>
    have hne:((l:Int) != (n:Int))=true:=by rw [bne_iff_ne];omega
    have HL:=qH E;clear E;go_wp2;go_ret;exact⟨60,rfl,qam ⟨rfl,fun h=>HL.o (by rw [<-I.o.2,<-I.o.1,<-Y.o];exact (h.rows k (by have:=H.o.2.1;omega)).1)⟩,hB.o⟩
   have hne:((l:Int) != (n:Int))=false:=by simp [E]
   have HL:=qH E;clear E;obtain⟨wo,aA⟩:=qY wr;subst aA;go_wp2_with fail
   go_loopw [44] (fun x44 W=>∃j:Nat,j<=l/\x44=.int .i64 j/\Hu (∀i,i<j->FOk (row.getD i fd0).1.data.toList (row.getD i fd0).2.data.toList)/\Hu (Below wo.heap.size wo W)) (fun x44 _=>l-(intOf x44).toNat)
   case atStart=>exact⟨0,qaj _,rfl,qH (fun i hi=>absurd hi (by omega)),qH qB⟩
   case round =>
    obtain⟨j,hj,rfl,hJ,J⟩:=hrel
    by_cases ah:j<l
    ·have aI:(j:Int)<l:=by omega
     have au:=HF.o.addr (by have:=I.o.2;omega);subst au;obtain⟨d0,d1⟩:=(HF.o.below J.o).cell j (by have:=I.o.2;omega);obtain⟨N,hN⟩:=qX ((row.getD j fd0).1);obtain⟨D,hD⟩:=qX ((row.getD j fd0).2);rw [hN] at d0;rw [hD] at d1;have HX:=qH (qA hN hD);clear hN hD;go_wp2_with fail;refine (qe6 N D _).mono ?_;rintro e w2 ⟨cc,rfl,ax,ae⟩;have aa:=qH (J.o.trans ((qB.alloc qN _ |>.trans (ae.mono (by simp only [qab];omega))).mono J.o.size));clear ae;rcases ax with ⟨rfl,hf⟩ | ⟨rfl,hf⟩
     ·have Hf:=qH hf;clear hf;go_wp2;go_roundw
      case rel=>exact⟨j+1,ah,by go_num,qH (fun i hi=>by
       rcases (show i<j\/i=j by omega) with h | h
       ·exact hJ.o i h
       ·rw [h,HX.o.1,HX.o.2];exact Hf.o),aa⟩
      case measure=>simp [intOf];omega
     ·have Hf:=qH hf;clear hf;go_wp2;go_ret;exact⟨60,rfl,qam ⟨rfl,fun h=>Hf.o (by
       have:=(h.rows k (by have:=H.o.2.1;omega)).2 j (by rw [I.o.1,I.o.2];exact ah);rw [I.o.1,HX.o.1,HX.o.2] at this;exact this)⟩,hB.o.trans (aa.o.mono hB.o.size)⟩
    ·obtain rfl:j=l:=by omega
     go_wp2;go_roundw
     case rel=>exact⟨k+1,ai,by go_num,qH (fun i hi=>by
      rcases (show i<k\/i=k by omega) with h | h
      ·exact hI.o i h
      ·rw [h,I.o.1,I.o.2];exact⟨HL.o,fun x hx=>hJ.o x (by rw [<-I.o.2];exact hx)⟩),qH (hB.o.trans (J.o.mono hB.o.size))⟩
     case measure=>simp [intOf];omega
  ·obtain rfl:k=R:=by omega
   go_wp2;go_ret;exact⟨0,rfl,qaw ⟨rfl,⟨by have:=H.o.2.1;omega,by have:=H.o.2.1;omega,by rw [Y.o];exact h3,by rw [Y.o];exact h4,fun i hi=>by rw [Y.o];exact hI.o i (by have:=H.o.2.1;omega)⟩⟩,hB.o⟩
def CLAs (w:World) (t L:Tbl) (e:Ending) (w':World):Prop :=
 ∃c:Int,e=.returned (.int .i64 c)/\(c=60/\¬TOk t\/c=20/\TOk t/\¬(∀k,k<L.length->FAll (L.getD k []))\/c=0/\TOk t/\∀k,k<L.length->FAll (L.getD k []))/\Below w.heap.size w w'
theorem qfp (ao:Option Addr) (b off R c:Nat) (t:Tbl) (Z:Option Addr) (b2 au R2 c2:Nat) (L:Tbl) (w:World) (hR:t.length=R) (hl:R<=4611686018427387904) (hw:∀k,k<R->(t.getD k []).length<=4611686018427387904) (hc:TCells w ao b off t)
  (aa:L.length=R2) (I:R2<=4611686018427387904) (ak:∀k,k<R2->(L.getD k []).length<=4611686018427387904) (ae:TCells w Z b2 au L) :
  Calls prog 145 #[.slice ao R c,.slice Z R2 c2] w fun e w'=>CLAs w t L e w':=by
 have HK:=qH (qng ao b off R c t w hR hl hw hc);have J:=qH (qA ae (qA aa ak));clear hR hw hc aa ak ae;go_enter func145,ntmps145;go_wp2_with fail;refine HK.o.mono ?_;rintro e w2 ⟨cc,rfl,U,E⟩;have HB:=qH E;clear E;rcases U with ⟨rfl,hT⟩ | ⟨rfl,hT⟩
 case inr =>
  have HT:=qH hT;clear hT;go_wp2;go_ret;exact⟨60,rfl,qaw ⟨rfl,HT.o⟩,HB.o⟩
 have HT:=qH hT;clear hT;go_wp2_with fail
 go_loopw [17] (fun x17 W=>∃k:Nat,k<=R2/\x17=.int .i64 k/\Hu (∀i,i<k->FAll (L.getD i []))/\Hu (Below w.heap.size w W)) (fun x17 _=>R2-(intOf x17).toNat)
 case atStart=>exact⟨0,qaj _,rfl,qH (fun i V=>absurd V (by omega)),HB⟩
 case round =>
  obtain⟨k,hk,rfl,hI,hB⟩:=hrel
  by_cases ai:k<R2
  ·have aA:(k:Int)<R2:=by omega
   have ax:=J.o.1.addr (by have:=J.o.2.1;omega);subst ax;obtain⟨ra,rb,ro,rc,af,ag⟩:=(J.o.1.below hB.o).row k (by have:=J.o.2.1;omega);have HF:=qH ag;obtain⟨row,F⟩:=qX (L.getD k []);obtain⟨l,I⟩:=qX row.length;have aj:=J.o.2.2 k ai;rw [F] at af HF aj;rw [I] at af aj;have O:=qH (qA F I);clear F I ag;obtain⟨wo,ay⟩:=qY wr;subst ay;go_wp2_with fail
   go_loopw [23] (fun x23 W=>∃j:Nat,j<=l/\x23=.int .i64 j/\Hu (∀i,i<j->FOk (row.getD i fd0).1.data.toList (row.getD i fd0).2.data.toList)/\Hu (Below wo.heap.size wo W)) (fun x23 _=>l-(intOf x23).toNat)
   case atStart=>exact⟨0,qaj _,rfl,qH (fun i V=>absurd V (by omega)),qH qB⟩
   case round =>
    obtain⟨j,hj,rfl,hJ,H⟩:=hrel
    by_cases ah:j<l
    ·have az:(j:Int)<l:=by omega
     have av:=HF.o.addr (by have:=O.o.2;omega);subst av;obtain⟨d0,d1⟩:=(HF.o.below H.o).cell j (by have:=O.o.2;omega);obtain⟨N,hN⟩:=qX ((row.getD j fd0).1);obtain⟨D,hD⟩:=qX ((row.getD j fd0).2);rw [hN] at d0;rw [hD] at d1;have HX:=qH (qA hN hD);clear hN hD;go_wp2_with fail;refine (qe6 N D _).mono ?_;rintro e w2 ⟨cc,rfl,U,E⟩;have Y:=qH (H.o.trans ((qB.alloc qN _ |>.trans (E.mono (by simp only [qab];omega))).mono H.o.size));clear E;rcases U with ⟨rfl,hf⟩ | ⟨rfl,hf⟩
     ·have Hf:=qH hf;clear hf;go_wp2;go_roundw
      case rel=>exact⟨j+1,ah,by go_num,qH (fun i V=>by
       rcases (show i<j\/i=j by omega) with h | h
       ·exact hJ.o i h
       ·rw [h,HX.o.1,HX.o.2];exact Hf.o),Y⟩
      case measure=>simp [intOf];omega
     ·have Hf:=qH hf;clear hf;go_wp2;go_ret;exact⟨20,rfl,qam (qaw ⟨rfl,HT.o,fun h=>Hf.o (by
       have:=h k (by have:=J.o.2.1;omega) j (by rw [O.o.1,O.o.2];exact ah);rw [O.o.1,HX.o.1,HX.o.2] at this;exact this)⟩),hB.o.trans (Y.o.mono hB.o.size)⟩
    ·obtain rfl:j=l:=by omega
     go_wp2;go_roundw
     case rel=>exact⟨k+1,ai,by go_num,qH (fun i V=>by
      rcases (show i<k\/i=k by omega) with h | h
      ·exact hI.o i h
      ·rw [h,O.o.1];exact fun x hx=>hJ.o x (by rw [<-O.o.2];exact hx)),qH (hB.o.trans (H.o.mono hB.o.size))⟩
     case measure=>simp [intOf];omega
  ·obtain rfl:k=R2:=by omega
   go_wp2;go_ret;exact⟨0,rfl,qam (qam ⟨rfl,HT.o,fun i V=>hI.o i (by have:=J.o.2.1;omega)⟩),hB.o⟩
def Neg (l:List FT):Prop:=∃k,k<l.length/\ival (l.getD k fd0).1.data.toList<0
def NegAs (w:World) (l:List FT) (e:Ending) (w':World):Prop:=∃x:Bool,e=.returned (.bool x)/\(x=true↔Neg l)/\Below w.heap.size w w'
theorem qgH (ao:Option Addr) (b off n c:Nat) (l:List FT) (w:World) (hn:l.length=n) (hl:n<=4611686018427387904) (hc:FCells w ao b off l) (hf:FAll l) :
  Calls prog 146 #[.slice ao n c] w fun e w'=>NegAs w l e w':=by
 have F:=qH (qA hc (qA hn hf));have ag:=qfR;clear hc hn hf;go_enter func146,ntmps146;go_wp2_with fail
 go_loopw [7] (fun x7 W=>∃j:Nat,j<=n/\x7=.int .i64 j/\Hu (∀i,i<j->0<=ival (l.getD i fd0).1.data.toList)/\Hu (Below w.heap.size w W)) (fun x7 _=>n-(intOf x7).toNat)
 case atStart=>exact⟨0,qaj _,rfl,qH (fun i hi=>absurd hi (by omega)),qH qB⟩
 case round =>
  obtain⟨j,hj,rfl,hJ,E⟩:=hrel
  by_cases aa:j<n
  ·have ah:(j:Int)<n:=by omega
   have Z:=F.o.1.addr (by have:=F.o.2.1;omega);subst Z;obtain⟨d0,d1⟩:=(F.o.1.below E.o).cell j (by have:=F.o.2.1;omega);have I:=(F.o.2.2 j (by have:=F.o.2.1;omega)).vn;obtain⟨N,hN⟩:=qX ((l.getD j fd0).1);obtain⟨D,hD⟩:=qX ((l.getD j fd0).2);rw [hN] at d0 I;rw [hD] at d1;have V:=qH (qA hN I);clear hN hD I;go_wp2_with fail;refine ((qcx .l) N V.o.2 _).mono ?_;rintro e w2 ⟨v2,rfl,O,ae⟩;have J:=qH (E.o.trans ((qB.alloc qN _ |>.trans (O.mono (by simp only [qab];omega))).mono E.o.size));obtain⟨m2,rfl,U⟩:=ae;have af:∀b W,(Instr.field 217 (.agg #[m2,.bool b]) 1).run prog W=.ok (.bool b) W:=by
    obtain⟨_,_,_,_,_,_,rfl,_,_⟩:=U;intro b W;kernel_rfl
   clear O U
   by_cases H:ival N.data.toList<0
   ·rw [qV H];have Y:=qH H;clear H;go_wp2;go_ret;exact⟨true,rfl,⟨fun _=>⟨j,by have:=F.o.2.1;omega,by rw [V.o.1];exact Y.o⟩,fun _=>rfl⟩,J.o⟩
   ·rw [qU H];have Y:=qH (Int.not_lt.1 H);clear H;go_wp2;go_roundw
    case rel=>exact⟨j+1,aa,by go_num,qH (fun i hi=>by
     rcases (show i<j\/i=j by omega) with h | h
     ·exact hJ.o i h
     ·rw [h,V.o.1];exact Y.o),J⟩
    case measure=>simp [intOf];omega
  ·obtain rfl:j=n:=by omega
   go_wp2;go_ret;exact⟨false,rfl,⟨fun h=>absurd h (by decide),fun⟨k,hk,H⟩=>absurd H (Int.not_lt.2 (hJ.o k (by have:=F.o.2.1;omega)))⟩,E.o⟩
def lval (l:List FT) (k:Nat):Rat:=fval (l.getD k fd0).1.data.toList (l.getD k fd0).2.data.toList
def tval (t:Tbl) (i:Nat):Nat->Rat:=lval (t.getD i [])
theorem qiB (n d:List UInt8):fval n d=(ival n:Rat) / ((ival d).natAbs:Rat):=by
 unfold fval;rw [<-Rat.divInt_ofNat,Rat.divInt_eq_div];rfl
theorem flcd_dvd {l:List FT} {k:Nat} (E:k<l.length):fden (l.getD k fd0)∣flcd l:=by
 have h:=qiF (l.map fden) (l.map fden).length k (by rw [qaD];exact E) qN;rw [qbl] at h;have e:(l.map fden).getD k 0=fden (l.getD k fd0):=by
  rw [qaa,qaP,qaa,qac E];rfl
 rw [e] at h;exact h
theorem qnn {l:List FT} {j:Nat} (F:j<(l.map fden).length):(l.map fden).getD j 0=fden (l.getD j fd0):=by
 have E:j<l.length:=by rw [qaD] at F;exact F
 rw [qaa,qaP,qaa,qac E];rfl
theorem qlf {l:List FT} (h:FAll l):0<flcd l:=by
 have:=qf5 (l.map fden) (fun j E=>by rw [qnn E];exact (qem h (by rw [qaD] at E;exact E)).1) (l.map fden).length qN;rw [qbl] at this;exact this
theorem qfT {l:List FT} (h:FAll l) {m:Nat} (F:l.length<=m):Fit (flcd l) (m*67+1):=by
 have:=qf4 (l.map fden) 67 (fun j E=>by rw [qnn E];exact qem h (by rw [qaD] at E;exact E)) (l.map fden).length qN;rw [qbl,qaD] at this;exact this.mono (by omega)
theorem qfV {l:List FT} (h:FAll l) {k:Nat} (F:k<l.length):((ftop l k:Int):Rat)=(flcd l:Rat)*lval l k:=by
 obtain⟨q,H⟩:=flcd_dvd F;have E:=(qem h F).1;have e:flcd l / fden (l.getD k fd0)=q:=by rw [H];exact qa6 _ E
 unfold ftop lval;rw [qiB,e,H];have I:((fden (l.getD k fd0):Nat):Rat)≠0:=by
  have:=qbu E
  exact_mod_cast this
 show _=_*((ival _:Rat) / ((fden (l.getD k fd0):Nat):Rat))
 push_cast
 grind
theorem qdq {l:List FT} (h:FAll l) {m:Nat} (F:l.length<=m) {k:Nat} (E:k<l.length):Fit (ftop l k).natAbs (67+(m*67+1)):=by
 unfold ftop;rw [qaE,qas];exact (h k E).vn.fit.mul ((qfT h F).le (qa2 _ _))
theorem Sing.scale {R:Nat} {A B:Nat->Nat->Rat} (s:Nat->Rat) (J:∀i,i<R->s i≠0) (h:∀i,i<R->∀j,j<R->A i j=s i*B i j):Sing R A↔Sing R B:=by
 have F:∀(y:Nat->Rat) i,i<R->sumQ R (fun j=>A i j*y j)=s i*sumQ R (fun j=>B i j*y j):=fun y i E=>by
  rw [<-qcD];exact qcc fun j I=>by rw [h i E j I];grind
 constructor
 ·rintro ⟨y,hy,H⟩;refine⟨y,hy,fun i E=>?_⟩;have:=H i E;rw [F y i E] at this;rcases Rat.mul_eq_zero.1 this with e | e
  ·exact absurd e (J i E)
  ·exact e
 ·rintro ⟨y,hy,H⟩;exact⟨y,hy,fun i E=>by rw [F y i E,H i E];grind⟩
theorem qcZ.scale {R:Nat} {A B:Nat->Nat->Rat} {b c x:Nat->Rat} (s:Nat->Rat) (O:∀i,i<R->s i≠0) (h:∀i,i<R->∀j,j<R->A i j=s i*B i j) (I:∀i,i<R->b i=s i*c i) (hx:qcZ R A b x):qcZ R B c x:=fun i E=>by
 have F:=hx i E;have H:sumQ R (fun j=>A i j*x j)=s i*sumQ R (fun j=>B i j*x j):=by
  rw [<-qcD];exact qcc fun j J=>by rw [h i E j J];grind
 rw [H,I i E] at F;have:=O i E
 grind
theorem qhe {l:List FT} {x:FT} {k:Nat} (E:k<l.length):(l++[x]).getD k fd0=l.getD k fd0:=by
 rw [qaa,qax E,<-qaa]
theorem qhd {l:List FT} {x:FT}:(l++[x]).getD l.length fd0=x:=by
 rw [qaa,qau qN,qaJ];rfl
theorem FAll.snoc {l:List FT} {x:FT} (h:FAll l) (hx:FOk x.1.data.toList x.2.data.toList):FAll (l++[x]):=fun k E=>by
 rw [qaf,qaH] at E
 by_cases e:k<l.length
 ·rw [qhe e];exact h k e
 ·obtain rfl:k=l.length:=by omega
  rw [qhd];exact hx
theorem qho {l:List FT} {x:FT} {k:Nat} (E:k<l.length):lval (l++[x]) k=lval l k:=by unfold lval;rw [qhe E]
theorem qhn {l:List FT} {x:FT}:lval (l++[x]) l.length=fval x.1.data.toList x.2.data.toList:=by unfold lval;rw [qhd]
structure MatPart (W:World) (tb R k n:Nat) (gs:Nat->Nat) (M:Nat->Nat->Int):Prop where
 row:W.heap[tb]? = some (.cells (rowvs k n gs++List.replicate (R-k) zs0).toArray 212 (0,0))
 rows:∀i,i<k->qcy W (gs i) n (M i)
 le:k<=R
theorem MatPart.below {W W':World} {H R k n:Nat} {E:Nat->Nat} {M:Nat->Nat->Int} (h:MatPart W H R k n E M) (F:Below W.heap.size W W'):MatPart W' H R k n E M :=
 ⟨(F.block _ (qG h.row).1).trans h.row,fun i I=>(h.rows i I).below F,h.le⟩
theorem qiR {R k n:Nat} {E:Nat->Nat}:∀x∈(rowvs k n E++List.replicate (R-k) zs0).toArray.toList,∀d,x≠.int .u32 d:=by
 intro x hx d e;rcases qaL.1 (show x∈rowvs k n E++List.replicate (R-k) zs0 from hx) with h | h
 ·exact qhG x h d e
 ·rw [(List.mem_replicate.1 h).2] at e;cases e
theorem qcy.keepRows {W W':World} {H g O:Nat} {cs:Array Value} {m:Nat->Int} (h:qcy W g O m) (I:W.grownBy W' (some H)) (J:W.heap[H]? = some (.cells cs 212 (0,0))) (hne:∀x∈cs.toList,∀d,x≠.int .u32 d):qcy W' g O m:=by
 obtain⟨ps,U,F,V⟩:=h;have E:g≠H:=by
  intro e;subst e;have:=F.1.symm.trans J;simp at this
 exact⟨ps,U,⟨(I.block _ (qG F.1).1 (fun e=>E (qag e))).trans F.1,F.2⟩,V.keep I J hne⟩
theorem MatPart.at {W:World} {E R k n:Nat} {F:Nat->Nat} {M:Nat->Nat->Int} (h:MatPart W E R k n F M) (H:k<R):W.cell? ⟨E,k,none⟩=some zs0/\W.frozen? ⟨E,k,none⟩=false:=by
 refine⟨(qC _ _ _ _ _ _ h.row).trans ?_,qF _ _ _ _ _ h.row⟩;rw [qaz,qau (by rw [qcY];exact qad _),qcY,qaJ,qbq,if_pos (by omega)]
theorem MatPart.done {W:World} {F R n:Nat} {E:Nat->Nat} {M:Nat->Nat->Int} (h:MatPart W F R R n E M):MatAt W F R n E M:=by
 have:=h.row;rw [qaJ,List.replicate_zero,qbj] at this;exact⟨this,h.rows⟩
theorem MatPart.made (W:World) (R n:Nat) (E:Nat->Nat) (M:Nat->Nat->Int):MatPart (W.alloc (.cells (madeCells #[zs0] R) 212)) W.heap.size R 0 n E M:=by
 refine⟨?_,fun i F=>absurd F (by omega),qaj _⟩;rw [qM _ _ _ rfl,Nat.sub_zero,show rowvs 0 n E=[] from rfl,qbp,<-toList_madeCells_one,Array.toArray_toList]
theorem qlk:(Tryz.prog.info? 212).map (fun i=>(i.zero,i.size,i.bytes))=some (some (.slice none 0 0),1,24):=by kernel_rfl
theorem qoa (n:Nat) (J:n<=1048576) (w:World):(Instr.makeSlice 260 (.int .i64 (n:Int)) (.int .i64 (n:Int))).run prog w=.ok (.slice (some ⟨w.heap.size,0,none⟩) n n) (w.alloc (.cells (madeCells #[zs0] n) 212)):=by
 obtain⟨i,I,E,F,H⟩:=info_parts qlk;have h:=run_make (P:=prog) w 260 212 i _ underlying260 I E .i64 .i64 (n:Int) (n:Int) (by omega) (Int.le_refl _) (by rw [H];omega) (by omega);rw [F,qbO,qbV] at h;exact h
theorem qez {w a b:World} {g:Nat} (h:Below w.heap.size w a) (k:a.grownBy b (some g)) (hg:w.heap.size<=g:=by omega):Below w.heap.size w b :=
 h.trans ⟨k.os,k.tape,k.output,k.size,fun i E=>k.block i (qai E h.size) (fun e=>by have:=qag e;omega)⟩
theorem qer {a b:World} {g:Nat} (h:a.grownBy b (some g)) {p:Addr} (E:p.block<a.heap.size) (hne:p.block≠g):b.cell? p=a.cell? p:=World.cell?_of_block (h.block _ E (fun e=>hne (qag e)))
theorem qeO {W:World} {F:Option Addr} {b off n c:Nat} {l:List FT} (O:l.length=n) (V:n<=64) (E:FCells W F b off l) (J:FAll l) :
  Calls prog 147 #[.slice F n c] W fun e W'=>∃g v,e=.returned (.tuple #[rowv g n,v])/\W.heap.size<=g/\Below W.heap.size W W'/\MagAt W' v (flcd l)/\qcy W' g n (ftop l):=by
 refine (qjm F b off n c l W O V E J).mono ?_;rintro e W' ⟨g,v,ps,rfl,hg,I,U,Y,hr,H⟩;exact⟨g,v,rfl,hg,I,U,ps,Y,hr,H⟩
def besides (t:Tbl) (l:List FT) (i:Nat):List FT:=t.getD i []++[l.getD i fd0]
def resR (n:Nat) (A:Nat->Nat->Rat) (b z:Nat->Rat) (i:Nat):Rat:=sumQ n (fun j=>A i j*z j)-b i
def msR (R n:Nat) (A:Nat->Nat->Rat) (b w z:Nat->Rat):Rat:=sumQ R fun i=>w i*(resR n A b z i*resR n A b z i)
