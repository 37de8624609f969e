import Derived.Defers
import Derived.Recover
import Derived.Test.YtplkdeknjghobaaGreatDoorBb16
set_option maxRecDepth 100000
set_option maxHeartbeats 0
namespace Go.Proofs.YtplkdeknjghobaaGreatDoor
open Go Go.RowKit
theorem nw1 (w:World) (a:Array Value) (t:TypeId):∃W,W=w.alloc (.cells a t)/\Kn (fun W=>Below w.heap.size w W/\W.heap[w.heap.size]? = some (.cells a t (0,0))) W :=
 ⟨_,rfl,.of ⟨qB.alloc qN _,qM _ _ _ rfl⟩⟩
theorem nw2 (w:World) (a:Array Value) (t:TypeId) (b:Array Value) (u:TypeId):∃W,W=(w.alloc (.cells a t)).alloc (.cells b u) /\
  Kn (fun W=>Below w.heap.size w W/\W.heap[w.heap.size]? = some (.cells a t (0,0))/\W.heap[w.heap.size+1]? = some (.cells b u (0,0))) W :=
 ⟨_,rfl,.of ⟨(qB.alloc qN _).alloc (by simp) _,
  (qL _ _ _ (by simp only [qab];omega)).trans (qM _ _ _ rfl),qM _ _ _ (by simp)⟩⟩
theorem nw3 (w:World) (a:Array Value) (t:TypeId) (b:Array Value) (u:TypeId) (c:Array Value) (v:TypeId):∃W,W=((w.alloc (.cells a t)).alloc (.cells b u)).alloc (.cells c v) /\
  Kn (fun W=>Below w.heap.size w W/\W.heap[w.heap.size]? = some (.cells a t (0,0))/\W.heap[w.heap.size+1]? = some (.cells b u (0,0))/\W.heap[w.heap.size+1+1]? = some (.cells c v (0,0))) W :=
 ⟨_,rfl,.of ⟨((qB.alloc qN _).alloc (by simp) _).alloc (by simp;omega) _,
  (qL _ _ _ (by simp only [qab];omega)).trans ((qL _ _ _ (by simp only [qab];omega)).trans (qM _ _ _ rfl)),
  (qL _ _ _ (by simp only [qab];omega)).trans (qM _ _ _ (by simp)),qM _ _ _ (by simp)⟩⟩
section
variable {P:Program} {ops:Array Oper} {Q:Exit->Act->World->Prop} {md:Region.Mode} {S:World->Prop} {fuel:Nat} {listed:Array Bool} {a a':Act} {w:World} {o:Oper}
theorem hCx (i:Nat) {f:FuncId} {J:Array Value} {R:Ending->World->Prop} (Y:Calls P f J w R) (I:nthOp ops.toList i=some o:=by rfl) (Z:decide (Region.ready md ops listed=[i])=true:=by kernel_rfl)
  (hw:Region.wanted o (yielded ops a.tmps)=true:=by rfl) (he:(execOp a.eval o).run P w=.ok (.enter f J) w:=by (go_simp <;> with_reducible rfl))
  (h:∀e F,R e F->(∃v,e=.returned v/\S F/\wpAnyH P md ops Q S fuel (listed.setIfInBounds i true) (a.put o.dst v) F)\/∃H,e=.panicked H/\Q (.panic H) a F):wpAnyH P md ops Q S (fuel+1) listed a w :=
 qhv i I Z fun K V=>by
  rw [if_pos hw];unfold Oper.wp;rw [he,Oper.upon_enter];refine Y.mono fun e F r=>?_
  rcases h e F r with ⟨v,rfl,O,U⟩ | ⟨H,rfl,h⟩
  ·exact V.on S _ _ (fun _ h=>h) O fun _=>U
  ·exact h
end
theorem keepB {a b:World} {g:Nat} (h:Below a.heap.size a b):a.grownBy b (some g):=qb5 g h
theorem qhw {a b:World} {g:Nat} (h:Below a.drew.heap.size a.drew b):a.grownBy b (some g):=qb5 g (qb4 h)
open Go.Proofs.Tryz
section
variable {P:Program}
theorem qhm (w:World) (base:Nat) (t ty e:TypeId) (i:TypeInfo) (z:Value) (size bytes:Nat) (ht:P.underlying t=some (.slice e)) (hi:P.info? e=some i) (hz:i.zero=some z)
  (ah:i.size=size) (ax:i.bytes=bytes) (ak:z.cells.size=size) (aC:0<size) (aj:∀x∈z.cells.toList,qcD x)
  (v:Value) (n:Nat) (xs:List Value) (H:Rws w base e size v n xs)
  (a:Addr) (m c:Nat) (F:List Value) (Z:F.length=m*size) (J:∀j u,F[j]? = some u->w.cell? (a.add j)=some u) (h1:∀u∈F,u.oneCell'=true) (ag:∀u∈F,qcD u) (aA:0<m)
  (aa:n+m<=maxLen) (U:(n+m)*bytes<=140737488355328) (V:base<=w.heap.size) :
  ∃v' w',(Builtin.append_ #[t,t] ty #[v,.slice (some a) m c]).run P w=.ok v' w'/\Rws w' base e size v' (n+m) (xs++F)/\(v'.ownBlock=v.ownBlock/\w.grownBy w' v.ownBlock\/v'.ownBlock=some w.heap.size/\w.grownBy w' none):=by
 subst ah;subst ax;have au:n+m<=9223372036854775807:=by simp only [maxLen] at aa;omega
 have I:(xs++F).length=(n+m)*i.size:=by rw [qaf,H.1,Z,qaE]
 rcases H.2 with ⟨rfl,rfl⟩ | ⟨g,cap,cur,rfl,av,hg,aB,ay,az,Y,ae⟩
 ·have hx:xs=[]:=List.eq_nil_of_length_eq_zero (by simpa using H.1);subst hx;have hr:=run_append_nil (P:=P) w t ty e i z ht hi hz a m c F Z J aA (by omega) (by have hb:=U;simp only [qaM] at hb;omega);have af:=grownCap_ge w m 0 e;refine⟨_,_,hr,⟨by simpa using I,.inr ⟨w.heap.size,_,_,by rw [qaM],V,heap_alloc_new w.drew _,by rw [qaM];exact af,grownCap_le_maxLen w m 0 e (by simpa using aa),?_,?_,?_⟩⟩,qag ⟨rfl,rfl,rfl,rfl,by simp,fun k hk _=>qL w.drew _ k hk⟩⟩
  ·simp only [Array.size_append,qbG,size_zeroCells,ak,Z,<-qaE]
   congr 1;omega
  ·rw [qaM,qbq,<-Z,qbf];exact List.take_left
  ·intro x hx;rw [qbf] at hx;rcases qaK.1 hx with h | h
   ·exact ag x h
   ·exact qgr aj _ x h
 ·by_cases O:n+m<=cap
  ·have ai:n*i.size+F.length<=cur.size:=by rw [Z,az,<-qaE];exact qaH _ O
   have hr:=run_append_room (P:=P) w t ty e i ht hi g n cap cur hg a m c F Z J h1 O ai;refine⟨_,_,hr,⟨I,.inr ⟨g,cap,_,rfl,av,qT w g cur _ e _ hg,O,ay,?_,?_,?_⟩⟩,qan ⟨rfl,rfl,rfl,rfl,by simp,fun k _ hk=>setRow_other w g k _ (fun e=>hk (by simp [Value.ownBlock,e]))⟩⟩
   ·simp only [qbG,qaf,qax,qbd,qbm];omega
   ·rw [Y,<-I];exact List.take_left
   ·intro x hx;rcases qaK.1 hx with h | h
    ·rcases qaK.1 h with h | h
     ·exact ae x (qbL h)
     ·exact ag x h
    ·exact ae x (List.mem_of_mem_drop h)
  ·have holds:∀j u,xs[j]? = some u->w.cell? ((⟨g,0,none⟩:Addr).add j)=some u:=H.own.cells (g:=g) rfl;have hr:=run_append_grow (P:=P) w t ty e i z ht hi hz ⟨g,0,none⟩ n cap xs H.1 holds a m c F Z J (by omega) (by omega) (growslice_fits (by omega) U);have af:=grownCap_ge w (n+m) cap e;refine⟨_,_,hr,⟨I,.inr ⟨w.heap.size,_,_,rfl,V,heap_alloc_new w.drew _,af,grownCap_le_maxLen w (n+m) cap e aa,?_,?_,?_⟩⟩,qag ⟨rfl,rfl,rfl,rfl,by simp,fun k hk _=>qL w.drew _ k hk⟩⟩
   ·simp only [Array.size_append,qbG,size_zeroCells,ak,H.1,Z,<-qaE]
    congr 1;omega
   ·simp only [qbf,qaI];rw [<-qaI,<-I];exact List.take_left
   ·intro x hx;rw [qbf,qbf] at hx;rcases qaK.1 hx with h | h
    ·rcases qaK.1 h with h | h
     ·rw [<-Y] at h;exact ae x (qbL (by simpa using h))
     ·exact ag x h
    ·exact qgr aj _ x h
end
theorem frac_not:∀y∈(Value.agg #[.string ⟨#[]⟩,.string ⟨#[]⟩]).cells.toList,qcD y:=by
 intro y hy;rcases qaJ.1 (show y∈[Value.string ⟨#[]⟩,Value.string ⟨#[]⟩] from hy) with rfl | hy
 ·exact qd4 _
 ·rw [qap.1 hy];exact qd4 _
theorem qmd (l:List FT):∀u∈fflat l,qcD u:=fun u F=>by
 unfold fflat at F;obtain⟨x,_,hx⟩:=List.mem_flatMap.1 F;rcases qaJ.1 hx with rfl | hx
 ·exact qd4 _
 ·rw [qap.1 hx];exact qd4 _
theorem qfB {w:World} {B:Nat} {v:Value} {n m c b off:Nat} {l l2:List FT} {Y:Option Addr} (ty:TypeId) (I:Rws w B 44 2 v n (fflat l)) (hB:B<=w.heap.size) (Z:FCells w Y b off l2) (hm:l2.length=m) (J:0<m) (hn:n+m<=1000000) :
  ∃F H,(Builtin.append_ #[35,35] ty #[v,.slice Y m c]).run prog w=.ok F H/\Rws H B 44 2 F (n+m) (fflat (l++l2))/\(F.ownBlock=v.ownBlock/\w.grownBy H v.ownBlock\/F.ownBlock=some w.heap.size/\w.grownBy H none):=by
 obtain⟨i0,hi,O,U,V⟩:=info_parts infoF;have ha:=Z.addr (by omega);subst ha;obtain⟨F,H,hr,h2,h3⟩:=qhm (P:=prog) w B 35 ty 44 i0 _ 2 32 underlying35 hi O U V rfl (by decide) frac_not v n (fflat l) I ⟨b,off,none⟩ m c (fflat l2) (by rw [qce,hm]) Z.src (qiy _) (qmd _) J (by unfold maxLen;omega) (by omega) hB;exact⟨F,H,hr,by rw [qcM];exact h2,h3⟩
theorem qmb {W:World} {g:Nat} {x1 x2:ByteArray} (hg:W.heap[g]? = some (.cells #[.string x1,.string x2] 44 (0,0))):FCells W (some ⟨g,0,none⟩) g 0 [(x1,x2)] :=
 ⟨fun _=>rfl,fun k F=>by
  obtain rfl:k=0:=by simp at F;omega
  exact⟨qC _ _ 0 _ _ _ hg,qC _ _ 1 _ _ _ hg⟩⟩
theorem qnz {W:World} {B g:Nat} {x1 x2:ByteArray} (hg:W.heap[g]? = some (.cells #[.string x1,.string x2] 44 (0,0))) (F:B<=g):Rws W B 44 2 (.slice (some ⟨g,0,none⟩) 1 1) 1 (fflat [(x1,x2)]) :=
 ⟨rfl,qag ⟨g,1,_,rfl,F,hg,qae _,by decide,rfl,rfl,fun x hx=>by
  rcases qaJ.1 (show x∈[Value.string x1,Value.string x2] from hx) with rfl | hx
  ·exact qd4 _
  ·rw [qap.1 hx];exact qd4 _⟩⟩
theorem qdL {P:Program} {F:Array Oper} {rest:List Oper} {o:Oper} {a:Act} {w J:World} {Q:Exit->Act->World->Prop} (H:o.guard=none) (s x:Operand) (t:TypeId) (U:o.op=.call { callee:=.builtin .append,args:=#[s,x],argTypes:=#[t,t] }) {v u I:Value} (Y:a.eval s=v) (hx:a.eval x=u)
  (V:(Builtin.append_ #[t,t] o.type #[v,u]).run P w=.ok I J) (h:wpList P F Q rest (a.put o.dst I) J):wpList P F Q (o :: rest) a w :=
 wpList_plain H fun _K O=>qn5 (qfT U rfl Y hx V) (O _ _ h)
def fct:Nat->Nat
 | 0=>1
 | n+1=>(n+1)*fct n
theorem qkM (C:Nat):∀(m:Nat) (f:Nat->Int),(∀j,j<m->(f j).natAbs<=C)->(sumN m f).natAbs<=m*C
 | 0,_,_=>by show (0:Int).natAbs<=_;simp
 | m+1,f,h=>by
  have ih:=qkM C m f fun j H=>h j (by omega)
  have F:=h m (by omega)
  show (sumN m f+f m).natAbs<=_
  have:=qbF (sumN m f) (f m);rw [qaE,qbu];omega
theorem sg_abs (j:Nat):(sg j).natAbs=1:=by unfold sg;split <;> rfl
theorem qjx {B:Nat}:∀(n:Nat) (M:Nat->Nat->Int),(∀r c,r<n->c<n->(M r c).natAbs<=B)->(det n M).natAbs<=fct n*B ^ n
 | 0,_,_=>by show (1:Int).natAbs<=1*1;decide
 | n+1,M,h=>by
  have I:=qkM (B*(fct n*B ^ n)) (n+1) (fun j=>sg j*M 0 j*det n fun r c=>M (r+1) (skip j c)) fun j H=>by
   rw [qaF,qaF,sg_abs,qbu];exact Nat.mul_le_mul (h 0 j (by omega) H) (qjx n _ fun r c J F=>h (r+1) (skip j c) (by omega) (qd3 F))
  refine qaj I (Nat.le_of_eq ?_)
  show _=(n+1)*fct n*(B ^ n*B)
  rw [qbr B,qat B,qaw]
structure ElimN (R n k:Nat) (D:Int) (M A:Nat->Nat->Int):Prop where
 st:ElimSt R n k D M A
 dets:∃(P:Nat->Nat->Int) (σ:Nat->Nat) (a:Nat->Nat->Int),DR k P σ=D/\(∀s,s<k->σ s<k)/\(∀i,k<=i->i<R->∀j,j<n->M i j=BR k P σ (a i) j) /\
  (∀i,i<k->∀j,j<n->M i j=D*(if j=i then 1 else 0)-BR k P σ (fun x=>if x=i then 1 else 0) j) /\
  (∀s,s<k->∃r,r<R/\P s=A r)/\∀i,k<=i->i<R->∃r,r<R/\a i=A r
theorem ElimN.start (R n:Nat) (A:Nat->Nat->Int):ElimN R n 0 1 A A :=
 ⟨ElimSt.start R n A,fun _ _=>0,fun _=>0,A,rfl,fun s H=>absurd H (by omega),fun i _ _ j _=>(qjo _ _ _ _).symm,fun i F=>absurd F (by omega),fun s H=>absurd H (by omega),fun i _ F=>⟨i,F,rfl⟩⟩
theorem ElimN.swap {R n k a:Nat} {D:Int} {M A:Nat->Nat->Int} (h:ElimN R n k D M A) (J:k<=a) (V:a<R):ElimN R n k D (qcg M k a) A:=by
 have Z:k<R:=by omega
 refine⟨h.st.swap J V,?_⟩;obtain⟨P,σ,b,hD,hσ,Y,hl,hP,O⟩:=h.dets;refine⟨P,σ,qcg b k a,hD,hσ,fun i H U j I=>?_,fun i H j I=>by rw [qjY H J];exact hl i H j I,hP,fun i H U=>?_⟩
 ·unfold qcg
  by_cases e:i=k
  ·rw [if_pos e,if_pos e];exact Y a J V j I
  ·by_cases F:i=a
   ·rw [if_neg e,if_neg e,if_pos F,if_pos F];exact Y k qN Z j I
   ·rw [if_neg e,if_neg e,if_neg F,if_neg F];exact Y i H U j I
 ·unfold qcg
  by_cases e:i=k
  ·rw [if_pos e];exact O a J V
  ·by_cases F:i=a
   ·rw [if_neg e,if_pos F];exact O k qN Z
   ·rw [if_neg e,if_neg F];exact O i H U
theorem ElimN.next {R n k:Nat} {D:Int} {M A:Nat->Nat->Int} (h:ElimN R n k D M A) (hk:k<R) (J:k<n) (h0:M k k≠0):ElimN R n (k+1) (M k k) (qb9 (fun _=>true) M k k D) A:=by
 refine⟨h.st.next hk J h0,?_⟩;obtain⟨P,σ,b,hD,hσ,hb,hl,hP,hA⟩:=h.dets;have O:DR k P σ≠0:=by rw [hD];exact h.st.nz
 have U:∀j,j<n->M k j=BR k P σ (b k) j:=hb k qN hk;have I:∀i,i≠k->∀j,qb9 (fun _=>true) M k k D i j=(M k k*M i j-M i k*M k j).tdiv D:=fun i H j=>by
  unfold qb9;rw [if_pos ⟨rfl,H⟩]
 have V:qb9 (fun _=>true) M k k D k=M k:=by unfold qb9;rw [if_neg (fun h=>h.2 rfl)]
 have aa:∀i,k<i->i<R->∀j,j<n->M k k*M i j-M i k*M k j=D*BR (k+1) (sel (b k) P) (sel k σ) (b i) j:=fun i H Z j F=>by
  have:=qeg O (b i) (b k) k j;rw [hD,<-hb i (by omega) Z j F,<-U k J,<-hb i (by omega) Z k J,<-U j F] at this;rw [<-this,qbi (M i j)]
 have af:∀i,i<k->∀j,j<n->M k k*M i j-M i k*M k j=D*(M k k*(if j=i then 1 else 0)-BR (k+1) (sel (b k) P) (sel k σ) (fun x=>if x=i then 1 else 0) j):=fun i H j F=>by
  have:=qeg O (fun x=>if x=i then 1 else 0) (b k) k j;rw [hD,<-U k J,<-U j F] at this;rw [hl i H j F,hl i H k J,if_neg (by omega:¬k=i),Int.mul_sub D,<-this];generalize BR k P σ (fun x=>if x=i then 1 else 0) j=X;generalize BR k P σ (fun x=>if x=i then 1 else 0) k=Y;generalize (if j=i then (1:Int) else 0)=E;rw [qbJ,Int.zero_sub,qbz,Int.sub_neg,Int.mul_sub,qbi X,Int.mul_left_comm (M k k) D];omega
 have ae:∀j,j<n->M k j=M k k*(if j=k then 1 else 0)-BR (k+1) (sel (b k) P) (sel k σ) (fun x=>if x=k then 1 else 0) j:=fun j F=>by
  have:=qeg O (fun x=>if x=k then 1 else 0) (b k) k j;rw [hD,<-U k J,<-U j F,qhK k P σ _ j (fun s hs=>if_neg (by have:=hσ s hs;omega)),qhK k P σ _ k (fun s hs=>if_neg (by have:=hσ s hs;omega)),hD,if_pos rfl] at this;have e:D*(M k k*(if j=k then 1 else 0)-M k j)=D*BR (k+1) (sel (b k) P) (sel k σ) (fun x=>if x=k then 1 else 0) j:=by
   rw [<-this,Int.mul_sub,Int.mul_one];generalize (if j=k then (1:Int) else 0)=E;rw [qbC,qbi E]
  have:=Int.eq_of_mul_eq_mul_left h.st.nz e;omega
 refine⟨sel (b k) P,sel k σ,b,by rw [qjp];exact (U k J).symm,?_,fun i H Z j F=>?_,fun i H j F=>?_,?_,fun i H Z=>hA i (by omega) Z⟩
 ·intro s hs;cases s with
  | zero=>show k<k+1;omega
  | succ s=>show σ s<k+1;have:=hσ s (by omega);omega
 ·rw [I i (by omega) j,aa i (by omega) Z j F,Int.mul_tdiv_cancel_left _ h.st.nz]
 ·by_cases e:i=k
  ·subst e;rw [V];exact ae j F
  ·rw [I i e j,af i (by omega) j F,Int.mul_tdiv_cancel_left _ h.st.nz]
 ·intro s hs;cases s with
  | zero=>exact hA k qN hk
  | succ s=>exact hP s (by omega)
theorem qki {R n:Nat} (Y:R<=n) (A:Nat->Nat->Int) (H:¬Sing R (castM A)):∀k,k<=R->∃D M,ElimN R n k D M A
 | 0,_=>⟨1,A,ElimN.start R n A⟩
 | k+1,hk=>by
  obtain⟨D,M,h⟩:=qki Y A H k (by omega)
  by_cases F:∃a,k<=a/\a<R/\M a k≠0
  ·obtain⟨a,ka,I,J⟩:=F;have O:=h.swap ka I;have e:qcg M k a k=M a:=by unfold qcg;rw [if_pos rfl]
   exact⟨_,_,O.next (by omega) (by omega) (by rw [e];exact J)⟩
  ·refine absurd (qix h.st (by omega) (by omega) fun i V U=>?_) H
   by_cases e:M i k=0
   ·exact e
   ·exact absurd ⟨i,V,U,e⟩ F
theorem qnM {R n c:Nat} (f x:Nat->Rat) (a:Rat) (H:R<=c) (J:c<n):sumQ n (fun j=>f j*(if j<R then x j else if j=c then a else 0))=sumQ R (fun j=>f j*x j)+f c*a:=by
 obtain⟨m,rfl⟩:∃m,n=R+m:=⟨n-R,by omega⟩;rw [qeI]
 congr 1
 ·exact qbX fun j F=>by rw [if_pos F]
 ·rw [qc7 m (c-R) _ (by omega) fun i I hne=>by rw [if_neg (by omega),if_neg (by omega)];grind];rw [show R+(c-R)=c by omega,if_neg (by omega),if_pos rfl]
theorem elim_at {R n c:Nat} {z:Int} {M A:Nat->Nat->Int} (h:ElimSt R n R z M A) (I:R<=c) (J:c<n):qcL R (castM A) (fun i=>castM A i c) (fun i=>(M i c:Rat) / z):=by
 have U:(z:Rat)≠0:=by exact_mod_cast h.nz
 intro i F;have:=(h.span.2 i F).kill (y:=fun j=>if j<R then (M j c:Rat) / z else if j=c then -1 else 0) fun i F=>by
  rw [qnM _ _ _ I J,qc7 R i _ F fun j O H=>by show (M i j:Rat)*_=0;rw [h.diag i F j O,if_neg (fun h=>H h.symm)];simp]
  show (M i i:Rat)*_+(M i c:Rat)*_=0
  rw [h.diag i F i F,if_pos rfl];grind
 rw [qnM _ _ _ I J] at this
 show sumQ R _=castM A i c
 grind
theorem qje {R m B:Nat} {A:Nat->Nat->Int} {x:Nat->Nat->Rat} (Y:1<=B) (I:∀i j,i<R->j<R+m->(A i j).natAbs<=B) (V:¬Sing R (castM A)) (hx:∀c,c<m->qcL R (castM A) (fun i=>castM A i (R+c)) (x c)) :
  ∃(q:Int) (p:Nat->Nat->Int),q≠0/\q.natAbs<=fct R*B ^ R/\∀c,c<m->∀i,i<R->x c i=(p c i:Rat) / (q:Rat)/\(p c i).natAbs<=fct (R+1)*B ^ (R+1):=by
 obtain⟨D,M,h⟩:=qki (n:=R+m) (by omega) A V R qN;obtain⟨P,σ,b,Z,hσ,_,hl,J,_⟩:=h.dets;refine⟨D,fun c i=>M i (R+c),h.st.nz,?_,fun c H i O=>⟨(hx c H).uniq V (elim_at h.st (by omega) (by omega)) i O,?_⟩⟩
 ·rw [<-Z];refine qjx R _ fun r c U H=>?_
  obtain⟨r',F,e⟩:=J r U;rw [e];exact I _ _ F (by have:=hσ c H;omega)
 ·have e:=hl i O (R+c) (by omega);rw [if_neg (by omega),qbJ,Int.zero_sub] at e
  show (M i (R+c)).natAbs<=_
  rw [e,qbj];refine qjx (R+1) _ fun r x U hx=>?_
  cases r with
  | zero =>
   show (if _=i then (1:Int) else 0).natAbs<=B
   split
   ·exact Y
   ·exact qal _
  | succ r =>
   obtain⟨r',F,e⟩:=J r (by omega)
   show (P r _).natAbs<=B
   rw [e];refine I _ _ F ?_;cases x with
   | zero=>show R+c<R+m;omega
   | succ x=>show σ x<R+m;have:=hσ x (by omega);omega
structure NCells (W:World) (ao:Option Addr) (b off:Nat) (l:List Int):Prop where
 addr:0<l.length->ao=some ⟨b,off,none⟩
 cell:∀k,k<l.length->W.cell? ⟨b,off+k,none⟩=some (.int .i64 (l.getD k 0))
theorem NCells.below {W W':World} {F:Option Addr} {b off:Nat} {l:List Int} (h:NCells W F b off l) (I:Below W.heap.size W W'):NCells W' F b off l :=
 ⟨h.addr,fun k H=>(I.cell (qac W _ (h.cell k H))).trans (h.cell k H)⟩
structure Pt where
 name:ByteArray
 dev:List Int
 l0:Int
 l1:Int
 l2:Int
def Pt.lab (p:Pt) (c:Nat):Int:=if c=0 then p.l0 else if c=1 then p.l1 else p.l2
def pt0:Pt:=⟨⟨#[]⟩,[],0,0,0⟩
structure PCells (W:World) (ao:Option Addr) (b off:Nat) (l:List Pt):Prop where
 addr:0<l.length->ao=some ⟨b,off,none⟩
 cell:∀k,k<l.length->W.cell? ⟨b,off+k*5,none⟩=some (.string (l.getD k pt0).name) /\
  (∃(ra:Option Addr) (rb ro rc:Nat),W.cell? ⟨b,off+k*5+1,none⟩=some (.slice ra (l.getD k pt0).dev.length rc)/\NCells W ra rb ro (l.getD k pt0).dev) /\
  W.cell? ⟨b,off+k*5+2,none⟩=some (.int .i64 (l.getD k pt0).l0)/\W.cell? ⟨b,off+k*5+3,none⟩=some (.int .i64 (l.getD k pt0).l1)/\W.cell? ⟨b,off+k*5+4,none⟩=some (.int .i64 (l.getD k pt0).l2)
theorem PCells.below {W W':World} {H:Option Addr} {b off:Nat} {l:List Pt} (h:PCells W H b off l) (F:Below W.heap.size W W'):PCells W' H b off l :=
 ⟨h.addr,fun k Z=>by
  obtain⟨I,⟨ra,rb,ro,rc,J,Y⟩,O,U,V⟩:=h.cell k Z;exact⟨(F.cell (qac W _ I)).trans I,⟨ra,rb,ro,rc,(F.cell (qac W _ J)).trans J,Y.below F⟩,
   (F.cell (qac W _ O)).trans O,(F.cell (qac W _ U)).trans U,(F.cell (qac W _ V)).trans V⟩⟩
def qdx (c:UInt8):Bool:=decide (65<=c.toNat/\c.toNat<=90) || decide (97<=c.toNat/\c.toNat<=122) || decide (48<=c.toNat/\c.toNat<=57) || decide (c.toNat=45) || decide (c.toNat=95)
def qhp (s:ByteArray):Prop:=1<=s.size/\s.size<=12/\∀k (h:k<s.size),qdx s[k]=true
def qcJ (d:List Int):Prop:=∀k,k<d.length->0<=d.getD k 0/\d.getD k 0<=10000
structure PtOk (p:Pt):Prop where
 name:qhp p.name
 n1:1<=p.dev.length
 n4:p.dev.length<=4
 vals:qcJ p.dev
 l0:0<=p.l0/\p.l0<=10000
 l1:-12800<=p.l1/\p.l1<=12700
 l2:-12800<=p.l2/\p.l2<=12700
def chans (l:List Pt):Nat:=(l.getD 0 pt0).dev.length
structure PtsOk (l:List Pt):Prop where
 r1:1<=l.length
 r2:l.length<=40
 rows:∀k,k<l.length->PtOk (l.getD k pt0)/\(l.getD k pt0).dev.length=chans l
 apart:∀i k,k<i->i<l.length->(l.getD k pt0).name≠(l.getD i pt0).name
theorem PtsOk.n1 {l:List Pt} (h:PtsOk l):1<=chans l:=(h.rows 0 h.r1).1.n1
theorem PtsOk.n4 {l:List Pt} (h:PtsOk l):chans l<=4:=(h.rows 0 h.r1).1.n4
def many (kind n:Nat):Nat:=if kind=1 then 1+n else if kind=2 then 1+2*n else 2 ^ n
def dq (d:List Int) (k:Nat):Rat:=(d.getD k 0:Rat) / 10000
def prods (d:List Int):Nat->List Rat
 | 0=>[1]
 | n+1=>prods d n++(prods d n).map fun p=>p*dq d n
def termL (kind:Nat) (d:List Int):List Rat :=
 if kind=1 then 1 :: (List.range d.length).map (dq d) else if kind=2 then 1 :: (List.range d.length).map (dq d)++(List.range d.length).map (fun k=>dq d k*dq d k) else prods d d.length
def termQ (kind:Nat) (d:List Int) (j:Nat):Rat:=(termL kind d).getD j 0
theorem qeH (d:List Int):∀n,(prods d n).length=2 ^ n
 | 0=>rfl
 | n+1=>by
  show (prods d n++_).length=_
  rw [qaf,qav,qeH d n,qaB];omega
theorem qeJ (kind:Nat) (d:List Int):(termL kind d).length=many kind d.length:=by
 unfold termL many;split
 ·simp;omega
 ·split
  ·simp;omega
  ·exact qeH d _
def Cd (q:Rat) (D N:Nat):Prop:=∃p:Int,q=(p:Rat) / (D:Rat)/\p.natAbs<=N
theorem Cd.rb {q:Rat} {D N M:Nat} (h:Cd q D N) (F:D≠0) (hN:N<=M) (H:D<=M):Rb q M:=by
 obtain⟨p,e,I⟩:=h;refine qgX (p:=p) (z:=(D:Int)) (by omega) (by omega) (by omega) ?_;rw [e];rfl
theorem Cd.short {q:Rat} {D N:Nat} (h:Cd q D N) (F:D≠0) (hN:N<10 ^ 600) (H:D<10 ^ 600):Short q :=
 qdk (h.rb F (Nat.le_max_left N D) (Nat.le_max_right N D)) (by omega)
theorem Cd.mono {q:Rat} {D N M:Nat} (h:Cd q D N) (F:N<=M):Cd q D M:=by
 obtain⟨p,e,H⟩:=h;exact⟨p,e,by omega⟩
theorem Cd.int (z:Int):Cd (z:Rat) 1 z.natAbs:=⟨z,by rw [show ((1:Nat):Rat)=1 from rfl];grind,qae _⟩
theorem Cd.frac (z:Int) (D:Nat):Cd ((z:Rat) / (D:Rat)) D z.natAbs:=⟨z,rfl,qae _⟩
theorem qeG {D:Nat} (F:D≠0):(D:Rat)≠0:=by exact_mod_cast F
theorem Cd.mul {p q:Rat} {D E N M:Nat} (h:Cd p D N) (k:Cd q E M) (F:D≠0) (hE:E≠0):Cd (p*q) (D*E) (N*M):=by
 obtain⟨a,e,H⟩:=h;obtain⟨b,e2,I⟩:=k;refine⟨a*b,?_,by rw [qaF];exact Nat.mul_le_mul H I⟩;have J:=qeG F;have O:=qeG hE;rw [e,e2];push_cast;grind
theorem Cd.add {p q:Rat} {D N M:Nat} (h:Cd p D N) (k:Cd q D M):Cd (p+q) D (N+M):=by
 obtain⟨a,e,F⟩:=h;obtain⟨b,e2,H⟩:=k;refine⟨a+b,?_,by have:=qbF a b;omega⟩;rw [e,e2];push_cast;grind
theorem Cd.neg {p:Rat} {D N:Nat} (h:Cd p D N):Cd (-p) D N:=by
 obtain⟨a,e,F⟩:=h;refine⟨-a,?_,by omega⟩;rw [e];push_cast;grind
theorem Cd.sub {p q:Rat} {D N M:Nat} (h:Cd p D N) (k:Cd q D M):Cd (p-q) D (N+M):=by
 rw [show p-q=p + -q by grind];exact h.add k.neg
theorem Cd.up {p:Rat} {D N:Nat} (h:Cd p D N) (k:Nat) (F:D≠0) (I:k≠0):Cd p (D*k) (N*k):=by
 obtain⟨a,e,H⟩:=h;have J:=qeG F;have O:=qeG I;refine⟨a*k,?_,by rw [qaF,qam];exact Nat.mul_le_mul H qN⟩;rw [e];push_cast;grind
theorem Cd.zero (D:Nat):Cd 0 D 0:=⟨0,by rw [show ((0:Int):Rat)=0 from rfl];grind,qae _⟩
theorem Cd.sum {D N:Nat}:∀{n:Nat} {f:Nat->Rat},(∀i,i<n->Cd (f i) D N)->Cd (sumQ n f) D (n*N)
 | 0,_,_=>by rw [Nat.zero_mul];exact Cd.zero D
 | n+1,f,h=>by
  have ih:=Cd.sum (n:=n) (f:=f) fun i F=>h i (by omega)
  have:=ih.add (h n (by omega))
  show Cd (sumQ n f+f n) D _
  exact this.mono (by rw [qaE,qbu];exact qae _)
theorem qcJ.at {d:List Int} (h:qcJ d) (k:Nat):0<=d.getD k 0/\d.getD k 0<=10000:=by
 by_cases F:k<d.length
 ·exact h k F
 ·rw [qaa,qaS (by omega)];exact⟨by decide,by decide⟩
theorem dq_cd {d:List Int} (h:qcJ d) (k:Nat):Cd (dq d k) 10000 10000:=by
 have:=h.at k;exact⟨d.getD k 0,rfl,by omega⟩
theorem dq_cd8 {d:List Int} (h:∀k,∃m:Nat,m<=8/\d.getD k 0=1250*m) (k:Nat):Cd (dq d k) 8 8:=by
 obtain⟨m,F,e⟩:=h k;refine⟨m,?_,by omega⟩;unfold dq;rw [e];push_cast;grind
theorem qeS {d:List Int} {E:Nat} (hE:E≠0) (h:∀k,Cd (dq d k) E E):∀n,∀p∈prods d n,Cd p (E ^ n) (E ^ n)
 | 0,p,hp=>by
  obtain rfl:p=1:=by simpa [prods] using hp
  exact⟨1,by show (1:Rat)=((1:Int):Rat) / ((1:Nat):Rat);rw [show ((1:Int):Rat)=1 from rfl,show ((1:Nat):Rat)=1 from rfl];grind,qae 1⟩
 | n+1,p,hp=>by
  have F:E ^ n≠0:=qbl (Nat.pow_pos (qbe hE));rcases qaK.1 (show p∈prods d n++(prods d n).map fun p=>p*dq d n from hp) with hp | hp
  ·exact (qeS hE h n p hp).up E F hE
  ·obtain⟨q,H,rfl⟩:=qbp.1 hp;exact (qeS hE h n q H).mul (h n) F hE
theorem termL_cd {kind:Nat} {d:List Int} {E:Nat} (hE:E≠0) (h:∀k,Cd (dq d k) E E) (O:kind=1\/kind=2\/d.length<=3):∀p∈termL kind d,Cd p (E ^ 3) (E ^ 3):=by
 have H:∀m,E ^ m≠0:=fun m=>qbl (Nat.pow_pos (qbe hE))
 have I:Cd 1 (E ^ 3) (E ^ 3):=by have:=(Cd.int 1).up (E ^ 3) (by decide) (H 3);rw [qbu] at this;exact this.mono (by show 1*E ^ 3<=_;omega)
 have J:∀k,Cd (dq d k) (E ^ 3) (E ^ 3):=fun k=>by have:=(h k).up (E ^ 2) hE (H 2);rw [show E ^ 3=E*E ^ 2 by rw [qaB,qat]];exact this
 have Y:∀k,Cd (dq d k*dq d k) (E ^ 3) (E ^ 3):=fun k=>by
  have:=((h k).mul (h k) hE hE).up E (qbo hE hE) hE;rw [show E ^ 3=E*E*E by rw [qaB,qaB,qaB,Nat.pow_zero,qbu]];exact this
 intro p F;unfold termL at F;split at F
 ·rcases qaJ.1 F with rfl | F
  ·exact I
  ·obtain⟨k,_,rfl⟩:=qbp.1 F;exact J k
 ·split at F
  ·rcases qaK.1 F with F | F
   ·rcases qaJ.1 F with rfl | F
    ·exact I
    ·obtain⟨k,_,rfl⟩:=qbp.1 F;exact J k
   ·obtain⟨k,_,rfl⟩:=qbp.1 F;exact Y k
  ·rename_i U e2;have O:d.length<=3:=by rcases O with e | e | e;exact absurd e U;exact absurd e e2;exact e
   have:=qeS hE h d.length p F;obtain⟨m,V⟩:∃m,3=d.length+m:=⟨3-d.length,by omega⟩;rw [V,Nat.pow_add];exact this.up (E ^ m) (H _) (H _)
theorem termQ_cd {kind:Nat} {d:List Int} {E:Nat} (hE:E≠0) (h:∀k,Cd (dq d k) E E) (H:kind=1\/kind=2\/d.length<=3) (j:Nat):Cd (termQ kind d j) (E ^ 3) (E ^ 3):=by
 unfold termQ
 by_cases F:j<(termL kind d).length
 ·refine termL_cd hE h H _ ?_;rw [qaa,qad F];exact List.getElem_mem F
 ·rw [qaa,qaS (by omega)];exact (Cd.zero _).mono (qal _)
theorem qkc:10000 ^ 3<10 ^ 600:=by decide +kernel
def thrown (c:Int):Ending:=.panicked [{ v:=.iface 203 (.agg #[.int .i64 c]),recovered:=false }]
def tqf (l:List Pt) (kind:Nat) (i j:Nat):Rat:=termQ kind (l.getD i pt0).dev j
def labq (l:List Pt) (c i:Nat):Rat:=((l.getD i pt0).lab c:Rat) / 100
def wq (F:List Int) (i:Nat):Rat:=((F.getD i 0:Int):Rat)
def WOk (F:List Int):Prop:=∀k,k<F.length->0<=F.getD k 0/\F.getD k 0<=1000
def qcA (kind:Int) (k:Nat):Prop:=kind=(k:Int)/\1<=k/\k<=3
structure Md where
 kind:Int
 inn:Int
 r0:List FT
 r1:List FT
 r2:List FT
def Md.row (m:Md) (c:Nat):List FT:=if c=0 then m.r0 else if c=1 then m.r1 else m.r2
structure MdOk (m:Md) (k n:Nat):Prop where
 kind:qcA m.kind k
 inn:m.inn=(n:Int)/\1<=n/\n<=4
 both:¬(k=3/\n=4)
 rows:∀c,c<3->(m.row c).length=many k n/\FAll (m.row c)
def MdAt (W:World) (v:Value) (m:Md):Prop :=
 ∃(a0 F a2:Option Addr) (H O c0 I U c1 J V c2:Nat),v=.agg #[.int .i64 m.kind,.int .i64 m.inn,.slice a0 m.r0.length c0,.slice F m.r1.length c1,.slice a2 m.r2.length c2]/\FCells W a0 H O m.r0/\FCells W F I U m.r1/\FCells W a2 J V m.r2
theorem MdAt.below {W W':World} {v:Value} {m:Md} (h:MdAt W v m) (F:Below W.heap.size W W'):MdAt W' v m:=by
 obtain⟨a0,a1,a2,b0,o0,c0,b1,o1,c1,b2,o2,c2,rfl,H,I,J⟩:=h;exact⟨a0,a1,a2,b0,o0,c0,b1,o1,c1,b2,o2,c2,rfl,H.below F,I.below F,J.below F⟩
def md0:Md:=⟨0,0,[],[],[]⟩
def mdv0:Value:=.agg #[.int .i64 0,.int .i64 0,.slice none 0 0,.slice none 0 0,.slice none 0 0]
def mdq (k n m:Nat) (x:Nat->Nat->Rat):Md:=⟨k,n,told m (x 0),told m (x 1),told m (x 2)⟩
theorem qeo {k n m:Nat} {x:Nat->Nat->Rat} {c:Nat} (F:c<3):(mdq k n m x).row c=told m (x c):=by
 rcases (show c=0\/c=1\/c=2 by omega) with rfl | rfl | rfl <;> rfl
theorem FAll.eq_told {l:List FT} (h:FAll l):l=told l.length (lval l):=by
 refine List.ext_getElem (by rw [qb0]) fun i H O=>?_
 have I:l[i]=l.getD i fd0:=by rw [qaa,qad H];rfl
 have J:(told l.length (lval l))[i]=ftxt (lval l i):=by
  have:=qdr (x:=lval l) H;rw [qaa,qad O] at this;exact this
 rw [I,J];have F:=h i H;unfold lval;obtain⟨n1,n2⟩:=F.val;have U:=F.vn.eq;have V:=F.vd.eq;refine Prod.ext ?_ ?_
 ·show _=qb7 _
  rw [n1];unfold qb7;rw [<-U]
 ·show _=num _
  rw [n2];unfold num;rw [<-qhT,Int.natAbs_of_nonneg (by have:=F.pos;omega),<-V]
theorem FAll.short {l:List FT} (h:FAll l):qb2 l.length (lval l):=fun i U=>by
 have F:=h i U;unfold lval Short;obtain⟨n1,n2⟩:=F.val;rw [n1,n2];have J:=F.vn.le;have O:=F.vd.le;have H:=congrArg body F.vn.eq;have I:=congrArg body F.vd.eq;rw [(qff _).1] at H I;rw [H] at J;rw [I] at O;rw [qdF,qdF];exact⟨J,O⟩
theorem qdf {P:Program} {U:Func} {p q:Tmp} {V H:TypeId} (h:U.results=#[.cell p V,.cell q H]) (F:Array Value) (w:World) (ap I:Addr) (Y v2:Value)
  (hp:F.getD p undef=.pointer (some ap)) (hq:F.getD q undef=.pointer (some I)) (Z:(loadVar V ap).run P w=.ok Y w) (h2:(loadVar H I).run P w=.ok v2 w) :
  (results U F).run P w=.ok (.tuple #[Y,v2]) w:=by
 have J:F[p]?.getD undef=.pointer (some ap):=by simpa using hp
 have O:F[q]?.getD undef=.pointer (some I):=by simpa using hq
 simp [results,h,J,O,asAddr,Z,h2,Sem.run_bind,Result.andThen]
theorem qdu {P:Program} {H:TypeId} {w:World} {g:Nat} {t:TypeId} {v:Value} (d:TypeDesc) (J:P.underlying H=some d) (O:(match d with | .struct _ | .array _ _=>true | _=>false)=false) (hg:w.heap[g]? = some (.cells #[v] t (0,0))) :
  (loadVar H ⟨g,0,none⟩).run P w=.ok v w:=by
 have I:=qC w g 0 _ _ _ hg;have F:(isAgg H).run P w=.ok false w:=by
  unfold isAgg;rw [Sem.run_bind,run_underlying J w];cases d <;> simp_all
 simp [loadVar,Sem.run_bind,F,I]
theorem qfa {W:World} {g:Nat} {v0:Value} {t:TypeId} (h:W.heap[g]? = some (.cells #[v0] t (0,0))) (v:Value):(W.setCell ⟨g,0,none⟩ v).heap[g]? = some (.cells #[v] t (0,0)):=by
 rw [setCell_eq_setRow W g 0 _ t _ v h];exact qT _ _ _ _ _ _ h
theorem qcY {B g:Nat} {a W:World} (h:Below B a W) (hg:B<=g) (cs:Array Value):Below B a (W.setRow g cs) :=
 h.trans ⟨rfl,rfl,rfl,by simp [World.setRow],fun k F=>setRow_other _ _ _ _ (by omega)⟩
theorem qkd {w W:World} {gp gq B:Nat} {U:Array Value} {J O:TypeId} (h:B<=gp/\B<=gq/\gp≠gq) (hB:Below B w W) (hp:W.heap[gp]? = some (.cells U J (0,0))) (hq:W.heap[gq]? = some (.cells #[.int .i64 0] O (0,0))) (c:Int) (o:Obj) :
  (((W.setCell ⟨gq,0,none⟩ (.int .i64 9)).setCell ⟨gq,0,none⟩ (.int .i64 c)).alloc o).heap[gp]? = some (.cells U J (0,0))/\(((W.setCell ⟨gq,0,none⟩ (.int .i64 9)).setCell ⟨gq,0,none⟩ (.int .i64 c)).alloc o).heap[gq]? = some (.cells #[.int .i64 c] O (0,0)) /\
   Below B w (((W.setCell ⟨gq,0,none⟩ (.int .i64 9)).setCell ⟨gq,0,none⟩ (.int .i64 c)).alloc o):=by
 obtain⟨X,F⟩:=qY ((W.setCell ⟨gq,0,none⟩ (.int .i64 9)).setCell ⟨gq,0,none⟩ (.int .i64 c));rw [<-F];have V:X.heap[gq]? = some (.cells #[.int .i64 c] O (0,0)):=F▸qfa (qfa hq _) _;have Y:X.heap[gp]? = some (.cells U J (0,0)):=by rw [F,qW _ _ _ _ h.2.2,qW _ _ _ _ h.2.2];exact hp
 have Z:Below B w X:=F▸(hB.setCell (p:=⟨gq,0,none⟩) h.2.1 _).setCell (p:=⟨gq,0,none⟩) h.2.1 _;have H:=(qG V).1;have I:=(qG Y).1;have hz:B<=X.heap.size:=by have:=h.1;omega
 exact⟨(Below.heap_alloc _ _ _ I).trans Y,(Below.heap_alloc _ _ _ H).trans V,Z.trans ⟨rfl,rfl,rfl,by simp,fun k hk=>Below.heap_alloc _ _ _ (qai hk hz)⟩⟩
theorem filled {w W X:World} {gp gq B:Nat} {V cs:Array Value} {I U:TypeId} (h:B<=gp/\B<=gq/\gp≠gq) (hp:W.heap[gp]? = some (.cells V I (0,0))) (O:W.heap[gq]? = some (.cells #[.int .i64 0] U (0,0)))
  (Y:X.heap[gp]? = some (.cells cs I (0,0))) (J:∀k,k≠gp->X.heap[k]? = W.heap[k]?) (Z:Below B w X) :
  (X.setCell ⟨gq,0,none⟩ (.int .i64 0)).heap[gp]? = some (.cells cs I (0,0))/\(X.setCell ⟨gq,0,none⟩ (.int .i64 0)).heap[gq]? = some (.cells #[.int .i64 0] U (0,0))/\Below B w (X.setCell ⟨gq,0,none⟩ (.int .i64 0)) /\
   ((∀b,.string b∉V.toList)->∀a b,W.cell? a=some (.string b)->(X.setCell ⟨gq,0,none⟩ (.int .i64 0)).cell? a=some (.string b)):=by
 have H:=(J gq (fun e=>h.2.2 e.symm)).trans O;refine⟨?_,qfa H _,Z.setCell (p:=⟨gq,0,none⟩) h.2.1 _,fun hz a b F=>?_⟩
 ·rw [qW _ _ _ _ h.2.2];exact Y
 ·have n1:a.block≠gp:=by
   intro e;unfold World.cell? at F;rw [e,hp] at F;simp only at F;split at F
   ·cases F
   ·exact hz b (by rw [<-Array.mem_def];exact Array.mem_of_getElem? F)
  have n2:a.block≠gq:=by
   intro e;unfold World.cell? at F;rw [e,O] at F;simp only at F;split at F
   ·cases F
   ·have:=Array.mem_of_getElem? F;simp at this
  rw [World.cell?_setCell_far _ _ _ _ (fun e=>n2 e.symm)];unfold World.cell? at F ⊢;rw [J _ n1];exact F
theorem assertM (w:World) (c:Int):(Instr.typeAssert (.iface 203 (.agg #[.int .i64 c])) 20 203 true).run prog w=.ok (.tuple #[.agg #[.int .i64 c],.bool true]) w:=by
 simp [Instr.typeAssert,go_sem]
theorem qjv (p q:Addr) (w:World) :
  CallsD prog 123 #[.pointer (some p),.pointer (some q)] .returning w fun e H I=>e=.returned (.tuple #[])/\H=.returning/\I=w:=by
 refine callsD_of_wpS func123 rfl fun J cs F=>?_
 apply wpS_seq;apply wpS_region;simp [wpOpsS,go_sem,recoverD,F,ntmps123,Exit.thenS,<-qbA,List.replicate];refine wpS_of_wp ?_;go_wp2_with fail;exact⟨rfl,.returning,by rw [<-F],.tuple #[],results_none rfl _ _ _,rfl,rfl,rfl⟩
theorem qkT (gp gq:Nat) (c:Int) (F:List PanicEntry) (w:World) (B:Nat) (O:B<=gp/\B<=gq/\gp≠gq) (hp:w.heap[gp]? = some (.cells #[.int .i64 0,.int .i64 0,.slice none 0 0,.slice none 0 0,.slice none 0 0] 38 (0,0))) (hq:w.heap[gq]? = some (.cells #[.int .i64 0] 39 (0,0))) :
  CallsD prog 123 #[.pointer (some ⟨gp,0,none⟩),.pointer (some ⟨gq,0,none⟩)] (.panicking ({ v:=.iface 203 (.agg #[.int .i64 c]),recovered:=false } :: F)) w fun e u' w'=>e=.returned (.tuple #[])/\u'=.panicking ({ v:=.iface 203 (.agg #[.int .i64 c]),recovered:=true } :: F) /\
   w'.heap[gp]? = some (.cells #[.int .i64 0,.int .i64 0,.slice none 0 0,.slice none 0 0,.slice none 0 0] 38 (0,0))/\w'.heap[gq]? = some (.cells #[.int .i64 c] 39 (0,0))/\Below B w w':=by
 have V:=(qG hp).1;have Z:=(qG hq).1;obtain⟨H,U,I⟩:=nw1 w #[.int .i64 0,.int .i64 0,.slice none 0 0,.slice none 0 0,.slice none 0 0] 38;have Y:=qH (zkeep I.o.1 _ _ hp);have J:(H.setRow gp #[.int .i64 0,.int .i64 0,.slice none 0 0,.slice none 0 0,.slice none 0 0]).heap[gq]? = some (.cells #[.int .i64 0] 39 (0,0)):=(setRow_other _ _ _ _ (fun e=>O.2.2 e.symm)).trans (zkeep I.o.1 _ _ hq);have cq:=qC (H.setRow gp #[.int .i64 0,.int .i64 0,.slice none 0 0,.slice none 0 0,.slice none 0 0]) _ 0 _ _ _ J;have fq:=qF (H.setRow gp #[.int .i64 0,.int .i64 0,.slice none 0 0,.slice none 0 0,.slice none 0 0]) _ 0 _ _ J;have au:(H.setRow gp #[.int .i64 0,.int .i64 0,.slice none 0 0,.slice none 0 0,.slice none 0 0]).heap.size=H.heap.size:=by simp [World.setRow]
 have aa:gp<H.heap.size:=qai V I.o.1.size;have ae:gq<H.heap.size:=qai Z I.o.1.size;have ak:¬gq=H.heap.size:=by omega
 have HE:=qH (qkd O (qcY (I.o.1.mono (qar (qaL O.1 V))) O.1 #[.int .i64 0,.int .i64 0,.slice none 0 0,.slice none 0 0,.slice none 0 0]) (qT H gp #[.int .i64 0,.int .i64 0,.slice none 0 0,.slice none 0 0,.slice none 0 0] #[.int .i64 0,.int .i64 0,.slice none 0 0,.slice none 0 0,.slice none 0 0] 38 _ Y.o) J c (.cells #[.int .i64 c] 203));clear hp hq O J;have av:=assertM;refine callsD_of_wpS func123 rfl fun c₀ cs hu=>?_
 apply wpS_seq;apply wpS_region;simp [wpOpsS,go_sem,recoverD,hu,ntmps123,Exit.thenS,<-qbA,List.replicate];refine wpS_of_wp ?_;go_upto_region 3 with fail;rw [<-U];clear U;have af:=qC H _ 0 _ _ _ I.o.2;have ag:=qC H _ 1 _ _ _ I.o.2;have ah:=qC H _ 2 _ _ _ I.o.2;have ai:=qC H _ 3 _ _ _ I.o.2;have aj:=qC H _ 4 _ _ _ I.o.2
 go_wp2_with ((with_reducible refine sR_ rfl 38 _ _ rfl (gp) #[.int .i64 0,.int .i64 0,.slice none 0 0,.slice none 0 0,.slice none 0 0] Y.o 5 ?_))
 refine⟨rfl,.panicking ({ v:=.iface 203 (.agg #[.int .i64 c]),recovered:=true } :: F),rfl,.tuple #[],results_none rfl _ _ _,rfl,rfl,?_⟩;exact HE.o
theorem qip (fc:FuncId) (H:Array Value) (G:World->Value->Prop) (F:Int->Prop) (w:World) (ah:∀W,(callFunc fc H).run prog W=.ok (.enter fc H) W)
  (hG:∀W W' v,(∀a b,W.cell? a=some (.string b)->W'.cell? a=some (.string b))->G W v->G W' v)
  (hf:∀V,Below w.heap.size w V->Calls prog fc H V fun e w'=>Below V.heap.size V w'/\((∃(i0 I:Int) (J:Option Addr) (n0 c0:Nat) (O:Option Addr) (n1 c1:Nat) (U:Option Addr) (n2 c2:Nat),e=.returned (.agg #[.int .i64 i0,.int .i64 I,.slice J n0 c0,.slice O n1 c1,.slice U n2 c2])/\G w' (.agg #[.int .i64 i0,.int .i64 I,.slice J n0 c0,.slice O n1 c1,.slice U n2 c2]))\/∃c,e=thrown c/\F c)) :
  Calls prog 50 #[.func (.func fc) #[] H] w fun e w'=>Below w.heap.size w w'/\((∃(i0 I:Int) (J:Option Addr) (n0 c0:Nat) (O:Option Addr) (n1 c1:Nat) (U:Option Addr) (n2 c2:Nat),e=.returned (.tuple #[(.agg #[.int .i64 i0,.int .i64 I,.slice J n0 c0,.slice O n1 c1,.slice U n2 c2]),.int .i64 0])/\G w' (.agg #[.int .i64 i0,.int .i64 I,.slice J n0 c0,.slice O n1 c1,.slice U n2 c2]))\/∃c,e=.returned (.tuple #[(.agg #[.int .i64 0,.int .i64 0,.slice none 0 0,.slice none 0 0,.slice none 0 0]),.int .i64 c])/\F c):=by
 have aj:=@hmf_ prog;obtain⟨W2,ae,K2⟩:=nw2 w #[.int .i64 0,.int .i64 0,.slice none 0 0,.slice none 0 0,.slice none 0 0] 38 #[.int .i64 0] 39;have HF:=qH (hf W2 K2.o.1);clear hf
 go_enter_defers func50,ntmps50
 go_upto_region 1 with fail;rw [<-ae];clear ae;go_wp2_with fail;refine HF.o.mono ?_;rintro e V ⟨Z,h⟩;have Y:Kn (fun W=>W.heap[w.heap.size]? = some (.cells #[.int .i64 0,.int .i64 0,.slice none 0 0,.slice none 0 0,.slice none 0 0] 38 (0,0))/\W.heap[w.heap.size+1]? = some (.cells #[.int .i64 0] 39 (0,0))/\Below w.heap.size w W) V :=
  .of ⟨zkeep Z _ _ K2.o.2.1,zkeep Z _ _ K2.o.2.2,K2.o.1.trans (Z.mono K2.o.1.size)⟩
 clear K2;rcases h with ⟨i0,I,J,n0,c0,O,n1,c1,U,n2,c2,rfl,hg⟩ | ⟨c,rfl,hF⟩
 ·have HE:=qH (filled (w:=w) (gp:=w.heap.size) (gq:=w.heap.size+1) (B:=w.heap.size) ⟨qae _,by omega,by omega⟩ Y.o.1 Y.o.2.1 (qT V _ #[.int .i64 0,.int .i64 0,.slice none 0 0,.slice none 0 0,.slice none 0 0] #[.int .i64 i0,.int .i64 I,.slice J n0 c0,.slice O n1 c1,.slice U n2 c2] _ _ Y.o.1) (fun k hk=>setRow_other _ _ _ _ hk) (qcY Y.o.2.2 qN _));have af:=hG _ ((V.setRow w.heap.size #[.int .i64 i0,.int .i64 I,.slice J n0 c0,.slice O n1 c1,.slice U n2 c2]).setCell ⟨w.heap.size+1,0,none⟩ (.int .i64 0)) _ (HE.o.2.2.2 (fun b hb=>by simp at hb)) hg;have aa:(V.setRow w.heap.size #[.int .i64 i0,.int .i64 I,.slice J n0 c0,.slice O n1 c1,.slice U n2 c2]).heap[w.heap.size+1]? = some (.cells #[.int .i64 0] 39 (0,0)):=(setRow_other _ _ _ _ (by omega)).trans Y.o.2.1;have cq:=qC (V.setRow w.heap.size #[.int .i64 i0,.int .i64 I,.slice J n0 c0,.slice O n1 c1,.slice U n2 c2]) _ 0 _ _ _ aa;have fq:=qF (V.setRow w.heap.size #[.int .i64 i0,.int .i64 I,.slice J n0 c0,.slice O n1 c1,.slice U n2 c2]) _ 0 _ _ aa;have HG:=qH af;clear hG hg af HF Z ah aa;rename_i hK;dsimp only;refine hK _ _ ?_
  go_wp2_with ((with_reducible refine sR_ rfl 38 _ _ rfl (w.heap.size) #[.int .i64 i0,.int .i64 I,.slice J n0 c0,.slice O n1 c1,.slice U n2 c2] Y.o.1 5 ?_))
  try simp only [bodyPostD]
  refine leaves_cons (f:=123) (args:=#[.pointer (some ⟨w.heap.size,0,none⟩),.pointer (some ⟨w.heap.size+1,0,none⟩)]) (by simp) (by simp [go_sem]) ?_;refine (qjv _ _ _).mono ?_;rintro e u' ai ⟨rfl,rfl,rfl⟩;refine⟨_,qdf rfl _ _ _ _ _ _ rfl rfl ((fun h=>run_loadVar_row _ _ _ 38 _ (0,0) _ h underlying38 rfl (by kernel_rfl)) HE.o.1) (qdu _ underlying39 rfl HE.o.2.1),HE.o.2.2.1,qan ⟨i0,I,J,n0,c0,O,n1,c1,U,n2,c2,rfl,HG.o⟩⟩
 ·have ag:=qH hF;clear hF hG HF;unfold thrown;go_wp2_with fail
  try simp only [bodyPostD]
  refine leaves_cons (f:=123) (args:=#[.pointer (some ⟨w.heap.size,0,none⟩),.pointer (some ⟨w.heap.size+1,0,none⟩)]) (by simp) (by simp [go_sem]) ?_;refine (qkT w.heap.size (w.heap.size+1) c [] _ w.heap.size ⟨qae _,by omega,by omega⟩ Y.o.1 Y.o.2.1).mono ?_;rintro e u' ai ⟨rfl,rfl,hp,hq,hb⟩;refine⟨_,qdf rfl _ _ _ _ _ _ rfl rfl ((fun h=>run_loadVar_row _ _ _ 38 _ (0,0) _ h underlying38 rfl (by kernel_rfl)) hp) (qdu _ underlying39 rfl hq),Y.o.2.2.trans hb,qag ⟨c,rfl,ag.o⟩⟩
theorem assertL (w:World) (c:Int):(Instr.typeAssert (.iface 203 (.agg #[.int .i64 c])) 20 203 true).run prog w=.ok (.tuple #[.agg #[.int .i64 c],.bool true]) w:=by
 simp [Instr.typeAssert,go_sem]
theorem qju (p q:Addr) (w:World) :
  CallsD prog 152 #[.pointer (some p),.pointer (some q)] .returning w fun e H I=>e=.returned (.tuple #[])/\H=.returning/\I=w:=by
 refine callsD_of_wpS func152 rfl fun J cs F=>?_
 apply wpS_seq;apply wpS_region;simp [wpOpsS,go_sem,recoverD,F,ntmps152,Exit.thenS,<-qbA,List.replicate];refine wpS_of_wp ?_;go_wp2_with fail;exact⟨rfl,.returning,by rw [<-F],.tuple #[],results_none rfl _ _ _,rfl,rfl,rfl⟩
theorem qkS (gp gq:Nat) (c:Int) (F:List PanicEntry) (w:World) (B:Nat) (U:B<=gp/\B<=gq/\gp≠gq) (hp:w.heap[gp]? = some (.cells #[.slice none 0 0] 35 (0,0))) (hq:w.heap[gq]? = some (.cells #[.int .i64 0] 39 (0,0))) :
  CallsD prog 152 #[.pointer (some ⟨gp,0,none⟩),.pointer (some ⟨gq,0,none⟩)] (.panicking ({ v:=.iface 203 (.agg #[.int .i64 c]),recovered:=false } :: F)) w fun e u' w'=>e=.returned (.tuple #[])/\u'=.panicking ({ v:=.iface 203 (.agg #[.int .i64 c]),recovered:=true } :: F) /\
   w'.heap[gp]? = some (.cells #[.slice none 0 0] 35 (0,0))/\w'.heap[gq]? = some (.cells #[.int .i64 c] 39 (0,0))/\Below B w w':=by
 have V:=(qG hp).1;have Z:=(qG hq).1;obtain⟨H,Y,O⟩:∃H,H=w/\Kn (fun W=>Below w.heap.size w W/\True) H:=⟨w,rfl,.of ⟨Below.refl _ _,trivial⟩⟩;subst Y;have J:=qH (zkeep O.o.1 _ _ hp);have I:(H.setCell ⟨gp,0,none⟩ (.slice none 0 0)).heap[gq]? = some (.cells #[.int .i64 0] 39 (0,0)):=(qW _ _ _ _ (fun e=>U.2.2 e.symm)).trans (zkeep O.o.1 _ _ hq);have cq:=qC (H.setCell ⟨gp,0,none⟩ (.slice none 0 0)) _ 0 _ _ _ I;have fq:=qF (H.setCell ⟨gp,0,none⟩ (.slice none 0 0)) _ 0 _ _ I;have cp:=qC H _ 0 _ _ _ J.o;have fp:=qF H _ 0 _ _ J.o;have ag:(H.setCell ⟨gp,0,none⟩ (.slice none 0 0)).heap.size=H.heap.size:=by simp [World.setCell]
 have aa:gp<H.heap.size:=qai V O.o.1.size;have ae:gq<H.heap.size:=qai Z O.o.1.size;have af:¬gq=H.heap.size:=by omega
 have HE:=qH (qkd U ((O.o.1.mono (qar (qaL U.1 V))).setCell U.1 (.slice none 0 0)) (qfa J.o (.slice none 0 0)) I c (.cells #[.int .i64 c] 203));clear hp hq U I;have ah:=assertL;refine callsD_of_wpS func152 rfl fun c₀ cs hu=>?_
 apply wpS_seq;apply wpS_region;simp [wpOpsS,go_sem,recoverD,hu,ntmps152,Exit.thenS,<-qbA,List.replicate];refine wpS_of_wp ?_;go_wp2_with fail;refine⟨rfl,.panicking ({ v:=.iface 203 (.agg #[.int .i64 c]),recovered:=true } :: F),rfl,.tuple #[],results_none rfl _ _ _,rfl,rfl,?_⟩;exact HE.o
theorem qf3 (fc:FuncId) (H:Array Value) (G:World->Value->Prop) (F:Int->Prop) (w:World) (ae:∀W,(callFunc fc H).run prog W=.ok (.enter fc H) W)
  (hG:∀W W' v,(∀a b,W.cell? a=some (.string b)->W'.cell? a=some (.string b))->G W v->G W' v)
  (hf:∀I,Below w.heap.size w I->Calls prog fc H I fun e w'=>Below I.heap.size I w'/\((∃(p:Option Addr) (n c:Nat),e=.returned (.slice p n c)/\G w' (.slice p n c))\/∃c,e=thrown c/\F c)) :
  Calls prog 82 #[.func (.func fc) #[] H] w fun e w'=>Below w.heap.size w w'/\((∃(p:Option Addr) (n c:Nat),e=.returned (.tuple #[(.slice p n c),.int .i64 0])/\G w' (.slice p n c))\/∃c,e=.returned (.tuple #[(.slice none 0 0),.int .i64 c])/\F c):=by
 have ag:=@hmf_ prog;obtain⟨W2,Y,V⟩:=nw2 w #[.slice none 0 0] 35 #[.int .i64 0] 39;have HF:=qH (hf W2 V.o.1);clear hf
 go_enter_defers func82,ntmps82
 go_upto_region 1 with fail;rw [<-Y];clear Y;go_wp2_with fail;refine HF.o.mono ?_;rintro e I ⟨O,h⟩;have J:Kn (fun W=>W.heap[w.heap.size]? = some (.cells #[.slice none 0 0] 35 (0,0))/\W.heap[w.heap.size+1]? = some (.cells #[.int .i64 0] 39 (0,0))/\Below w.heap.size w W) I :=
  .of ⟨zkeep O _ _ V.o.2.1,zkeep O _ _ V.o.2.2,V.o.1.trans (O.mono V.o.1.size)⟩
 clear V;rcases h with ⟨p,n,c,rfl,hg⟩ | ⟨c,rfl,hF⟩
 ·have HE:=qH (filled (w:=w) (gp:=w.heap.size) (gq:=w.heap.size+1) (B:=w.heap.size) ⟨qae _,by omega,by omega⟩ J.o.1 J.o.2.1 (qfa J.o.1 (.slice p n c)) (fun k hk=>qW _ _ _ _ hk) (J.o.2.2.setCell (p:=⟨w.heap.size,0,none⟩) qN _));have Z:=hG _ ((I.setCell ⟨w.heap.size,0,none⟩ (.slice p n c)).setCell ⟨w.heap.size+1,0,none⟩ (.int .i64 0)) _ (HE.o.2.2.2 (fun b hb=>by simp at hb)) hg;have U:(I.setCell ⟨w.heap.size,0,none⟩ (.slice p n c)).heap[w.heap.size+1]? = some (.cells #[.int .i64 0] 39 (0,0)):=(qW _ _ _ _ (by simp)).trans J.o.2.1;have cq:=qC (I.setCell ⟨w.heap.size,0,none⟩ (.slice p n c)) _ 0 _ _ _ U;have fq:=qF (I.setCell ⟨w.heap.size,0,none⟩ (.slice p n c)) _ 0 _ _ U;have cp:=qC I _ 0 _ _ _ J.o.1;have fp:=qF I _ 0 _ _ J.o.1;have HG:=qH Z;clear hG hg Z HF O ae U;go_wp2_with fail
  try simp only [bodyPostD]
  refine leaves_cons (f:=152) (args:=#[.pointer (some ⟨w.heap.size,0,none⟩),.pointer (some ⟨w.heap.size+1,0,none⟩)]) (by simp) (by simp [go_sem]) ?_;refine (qju _ _ _).mono ?_;rintro e u' af ⟨rfl,rfl,rfl⟩;refine⟨_,qdf rfl _ _ _ _ _ _ rfl rfl (qdu _ underlying35 rfl HE.o.1) (qdu _ underlying39 rfl HE.o.2.1),HE.o.2.2.1,qan ⟨p,n,c,rfl,HG.o⟩⟩
 ·have aa:=qH hF;clear hF hG HF;unfold thrown;go_wp2_with fail
  try simp only [bodyPostD]
  refine leaves_cons (f:=152) (args:=#[.pointer (some ⟨w.heap.size,0,none⟩),.pointer (some ⟨w.heap.size+1,0,none⟩)]) (by simp) (by simp [go_sem]) ?_;refine (qkS w.heap.size (w.heap.size+1) c [] _ w.heap.size ⟨qae _,by omega,by omega⟩ J.o.1 J.o.2.1).mono ?_;rintro e u' af ⟨rfl,rfl,hp,hq,hb⟩;refine⟨_,qdf rfl _ _ _ _ _ _ rfl rfl (qdu _ underlying35 rfl hp) (qdu _ underlying39 rfl hq),J.o.2.2.trans hb,qag ⟨c,rfl,aa.o⟩⟩
theorem assertA (w:World) (c:Int):(Instr.typeAssert (.iface 203 (.agg #[.int .i64 c])) 20 203 true).run prog w=.ok (.tuple #[.agg #[.int .i64 c],.bool true]) w:=by
 simp [Instr.typeAssert,go_sem]
theorem qjs (p q:Addr) (w:World) :
  CallsD prog 142 #[.pointer (some p),.pointer (some q)] .returning w fun e H I=>e=.returned (.tuple #[])/\H=.returning/\I=w:=by
 refine callsD_of_wpS func142 rfl fun J cs F=>?_
 apply wpS_seq;apply wpS_region;simp [wpOpsS,go_sem,recoverD,F,ntmps142,Exit.thenS,<-qbA,List.replicate];refine wpS_of_wp ?_;go_wp2_with fail;exact⟨rfl,.returning,by rw [<-F],.tuple #[],results_none rfl _ _ _,rfl,rfl,rfl⟩
theorem qkQ (gp gq:Nat) (c:Int) (H:List PanicEntry) (w:World) (B:Nat) (O:B<=gp/\B<=gq/\gp≠gq) (hp:w.heap[gp]? = some (.cells #[.string ⟨#[]⟩,.string ⟨#[]⟩,.string ⟨#[]⟩,.string ⟨#[]⟩,.string ⟨#[]⟩,.string ⟨#[]⟩] 65 (0,0))) (hq:w.heap[gq]? = some (.cells #[.int .i64 0] 39 (0,0))) :
  CallsD prog 142 #[.pointer (some ⟨gp,0,none⟩),.pointer (some ⟨gq,0,none⟩)] (.panicking ({ v:=.iface 203 (.agg #[.int .i64 c]),recovered:=false } :: H)) w fun e u' w'=>e=.returned (.tuple #[])/\u'=.panicking ({ v:=.iface 203 (.agg #[.int .i64 c]),recovered:=true } :: H) /\
   w'.heap[gp]? = some (.cells #[.string ⟨#[]⟩,.string ⟨#[]⟩,.string ⟨#[]⟩,.string ⟨#[]⟩,.string ⟨#[]⟩,.string ⟨#[]⟩] 65 (0,0))/\w'.heap[gq]? = some (.cells #[.int .i64 c] 39 (0,0))/\Below B w w':=by
 have V:=(qG hp).1;have Z:=(qG hq).1;obtain⟨F,U,I⟩:=nw1 w #[.string ⟨#[]⟩,.string ⟨#[]⟩,.string ⟨#[]⟩,.string ⟨#[]⟩,.string ⟨#[]⟩,.string ⟨#[]⟩] 65;have Y:=qH (zkeep I.o.1 _ _ hp);have J:(F.setRow gp #[.string ⟨#[]⟩,.string ⟨#[]⟩,.string ⟨#[]⟩,.string ⟨#[]⟩,.string ⟨#[]⟩,.string ⟨#[]⟩]).heap[gq]? = some (.cells #[.int .i64 0] 39 (0,0)):=(setRow_other _ _ _ _ (fun e=>O.2.2 e.symm)).trans (zkeep I.o.1 _ _ hq);have cq:=qC (F.setRow gp #[.string ⟨#[]⟩,.string ⟨#[]⟩,.string ⟨#[]⟩,.string ⟨#[]⟩,.string ⟨#[]⟩,.string ⟨#[]⟩]) _ 0 _ _ _ J;have fq:=qF (F.setRow gp #[.string ⟨#[]⟩,.string ⟨#[]⟩,.string ⟨#[]⟩,.string ⟨#[]⟩,.string ⟨#[]⟩,.string ⟨#[]⟩]) _ 0 _ _ J;have av:(F.setRow gp #[.string ⟨#[]⟩,.string ⟨#[]⟩,.string ⟨#[]⟩,.string ⟨#[]⟩,.string ⟨#[]⟩,.string ⟨#[]⟩]).heap.size=F.heap.size:=by simp [World.setRow]
 have aa:gp<F.heap.size:=qai V I.o.1.size;have ae:gq<F.heap.size:=qai Z I.o.1.size;have au:¬gq=F.heap.size:=by omega
 have HE:=qH (qkd O (qcY (I.o.1.mono (qar (qaL O.1 V))) O.1 #[.string ⟨#[]⟩,.string ⟨#[]⟩,.string ⟨#[]⟩,.string ⟨#[]⟩,.string ⟨#[]⟩,.string ⟨#[]⟩]) (qT F gp #[.string ⟨#[]⟩,.string ⟨#[]⟩,.string ⟨#[]⟩,.string ⟨#[]⟩,.string ⟨#[]⟩,.string ⟨#[]⟩] #[.string ⟨#[]⟩,.string ⟨#[]⟩,.string ⟨#[]⟩,.string ⟨#[]⟩,.string ⟨#[]⟩,.string ⟨#[]⟩] 65 _ Y.o) J c (.cells #[.int .i64 c] 203));clear hp hq O J;have ax:=assertA;refine callsD_of_wpS func142 rfl fun c₀ cs hu=>?_
 apply wpS_seq;apply wpS_region;simp [wpOpsS,go_sem,recoverD,hu,ntmps142,Exit.thenS,<-qbA,List.replicate];refine wpS_of_wp ?_;go_upto_region 3 with fail;rw [<-U];clear U;have af:=qC F _ 0 _ _ _ I.o.2;have ag:=qC F _ 1 _ _ _ I.o.2;have ah:=qC F _ 2 _ _ _ I.o.2;have ai:=qC F _ 3 _ _ _ I.o.2;have aj:=qC F _ 4 _ _ _ I.o.2;have ak:=qC F _ 5 _ _ _ I.o.2
 go_wp2_with ((with_reducible refine sR_ rfl 65 _ _ rfl (gp) #[.string ⟨#[]⟩,.string ⟨#[]⟩,.string ⟨#[]⟩,.string ⟨#[]⟩,.string ⟨#[]⟩,.string ⟨#[]⟩] Y.o 6 ?_))
 refine⟨rfl,.panicking ({ v:=.iface 203 (.agg #[.int .i64 c]),recovered:=true } :: H),rfl,.tuple #[],results_none rfl _ _ _,rfl,rfl,?_⟩;exact HE.o
theorem qin (fc:FuncId) (H:Array Value) (G:World->Value->Prop) (F:Int->Prop) (w:World) (ai:∀W,(callFunc fc H).run prog W=.ok (.enter fc H) W)
  (hG:∀W W' v,G W v->G W' v)
  (hf:∀Z,Below w.heap.size w Z->Calls prog fc H Z fun e w'=>Below Z.heap.size Z w'/\((∃(I J O U V Y:ByteArray),e=.returned (.agg #[.string I,.string J,.string O,.string U,.string V,.string Y])/\G w' (.agg #[.string I,.string J,.string O,.string U,.string V,.string Y]))\/∃c,e=thrown c/\F c)) :
  Calls prog 75 #[.func (.func fc) #[] H] w fun e w'=>Below w.heap.size w w'/\((∃(I J O U V Y:ByteArray),e=.returned (.tuple #[(.agg #[.string I,.string J,.string O,.string U,.string V,.string Y]),.int .i64 0])/\G w' (.agg #[.string I,.string J,.string O,.string U,.string V,.string Y]))\/∃c,e=.returned (.tuple #[(.agg #[.string ⟨#[]⟩,.string ⟨#[]⟩,.string ⟨#[]⟩,.string ⟨#[]⟩,.string ⟨#[]⟩,.string ⟨#[]⟩]),.int .i64 c])/\F c):=by
 have ak:=@hmf_ prog;obtain⟨W2,af,K2⟩:=nw2 w #[.string ⟨#[]⟩,.string ⟨#[]⟩,.string ⟨#[]⟩,.string ⟨#[]⟩,.string ⟨#[]⟩,.string ⟨#[]⟩] 65 #[.int .i64 0] 39;have HF:=qH (hf W2 K2.o.1);clear hf
 go_enter_defers func75,ntmps75
 go_upto_region 1 with fail;rw [<-af];clear af;go_wp2_with fail;refine HF.o.mono ?_;rintro e Z ⟨aa,h⟩;have K3:Kn (fun W=>W.heap[w.heap.size]? = some (.cells #[.string ⟨#[]⟩,.string ⟨#[]⟩,.string ⟨#[]⟩,.string ⟨#[]⟩,.string ⟨#[]⟩,.string ⟨#[]⟩] 65 (0,0))/\W.heap[w.heap.size+1]? = some (.cells #[.int .i64 0] 39 (0,0))/\Below w.heap.size w W) Z :=
  .of ⟨zkeep aa _ _ K2.o.2.1,zkeep aa _ _ K2.o.2.2,K2.o.1.trans (aa.mono K2.o.1.size)⟩
 clear K2;rcases h with ⟨I,J,O,U,V,Y,rfl,hg⟩ | ⟨c,rfl,hF⟩
 ·have HE:=qH (filled (w:=w) (gp:=w.heap.size) (gq:=w.heap.size+1) (B:=w.heap.size) ⟨qae _,by omega,by omega⟩ K3.o.1 K3.o.2.1 (qT Z _ #[.string ⟨#[]⟩,.string ⟨#[]⟩,.string ⟨#[]⟩,.string ⟨#[]⟩,.string ⟨#[]⟩,.string ⟨#[]⟩] #[.string I,.string J,.string O,.string U,.string V,.string Y] _ _ K3.o.1) (fun k hk=>setRow_other _ _ _ _ hk) (qcY K3.o.2.2 qN _));have ag:=hG _ ((Z.setRow w.heap.size #[.string I,.string J,.string O,.string U,.string V,.string Y]).setCell ⟨w.heap.size+1,0,none⟩ (.int .i64 0)) _  hg;have ae:(Z.setRow w.heap.size #[.string I,.string J,.string O,.string U,.string V,.string Y]).heap[w.heap.size+1]? = some (.cells #[.int .i64 0] 39 (0,0)):=(setRow_other _ _ _ _ (by omega)).trans K3.o.2.1;have cq:=qC (Z.setRow w.heap.size #[.string I,.string J,.string O,.string U,.string V,.string Y]) _ 0 _ _ _ ae;have fq:=qF (Z.setRow w.heap.size #[.string I,.string J,.string O,.string U,.string V,.string Y]) _ 0 _ _ ae;have HG:=qH ag;clear hG hg ag HF aa ai ae;rename_i hK;dsimp only;refine hK _ _ ?_
  go_wp2_with ((with_reducible refine sR_ rfl 65 _ _ rfl (w.heap.size) #[.string I,.string J,.string O,.string U,.string V,.string Y] K3.o.1 6 ?_))
  try simp only [bodyPostD]
  refine leaves_cons (f:=142) (args:=#[.pointer (some ⟨w.heap.size,0,none⟩),.pointer (some ⟨w.heap.size+1,0,none⟩)]) (by simp) (by simp [go_sem]) ?_;refine (qjs _ _ _).mono ?_;rintro e u' aj ⟨rfl,rfl,rfl⟩;refine⟨_,qdf rfl _ _ _ _ _ _ rfl rfl ((fun h=>run_loadVar_row _ _ _ 65 _ (0,0) _ h underlying65 rfl (by kernel_rfl)) HE.o.1) (qdu _ underlying39 rfl HE.o.2.1),HE.o.2.2.1,qan ⟨I,J,O,U,V,Y,rfl,HG.o⟩⟩
 ·have ah:=qH hF;clear hF hG HF;unfold thrown;go_wp2_with fail
  try simp only [bodyPostD]
  refine leaves_cons (f:=142) (args:=#[.pointer (some ⟨w.heap.size,0,none⟩),.pointer (some ⟨w.heap.size+1,0,none⟩)]) (by simp) (by simp [go_sem]) ?_;refine (qkQ w.heap.size (w.heap.size+1) c [] _ w.heap.size ⟨qae _,by omega,by omega⟩ K3.o.1 K3.o.2.1).mono ?_;rintro e u' aj ⟨rfl,rfl,hp,hq,hb⟩;refine⟨_,qdf rfl _ _ _ _ _ _ rfl rfl ((fun h=>run_loadVar_row _ _ _ 65 _ (0,0) _ h underlying65 rfl (by kernel_rfl)) hp) (qdu _ underlying39 rfl hq),K3.o.2.2.trans hb,qag ⟨c,rfl,ah.o⟩⟩
