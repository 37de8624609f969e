import Derived.Defers
import Derived.Recover
import Derived.Test.YtplkdeknjghobaaGreatDoorBx16
set_option maxRecDepth 100000
set_option maxHeartbeats 0
namespace Go.Proofs.YtplkdeknjghobaaGreatDoor
open Go Go.RowKit
theorem nw1 (w:World) (a:Array Value) (t:TypeId):∃W,W=w.alloc (.cells a t)/\Kn (fun W=>Below w.heap.size w W/\W.heap[w.heap.size]? = some (.cells a t (0,0))) W :=
 ⟨_,rfl,.of ⟨qB.alloc qN _,qM _ _ _ rfl⟩⟩
theorem nw2 (w:World) (a:Array Value) (t:TypeId) (b:Array Value) (u:TypeId):∃W,W=(w.alloc (.cells a t)).alloc (.cells b u) /\
  Kn (fun W=>Below w.heap.size w W/\W.heap[w.heap.size]? = some (.cells a t (0,0))/\W.heap[w.heap.size+1]? = some (.cells b u (0,0))) W :=
 ⟨_,rfl,.of ⟨(qB.alloc qN _).alloc (by simp) _,
  (qL _ _ _ (by simp only [qab];omega)).trans (qM _ _ _ rfl),qM _ _ _ (by simp)⟩⟩
theorem nw3 (w:World) (a:Array Value) (t:TypeId) (b:Array Value) (u:TypeId) (c:Array Value) (v:TypeId):∃W,W=((w.alloc (.cells a t)).alloc (.cells b u)).alloc (.cells c v) /\
  Kn (fun W=>Below w.heap.size w W/\W.heap[w.heap.size]? = some (.cells a t (0,0))/\W.heap[w.heap.size+1]? = some (.cells b u (0,0))/\W.heap[w.heap.size+1+1]? = some (.cells c v (0,0))) W :=
 ⟨_,rfl,.of ⟨((qB.alloc qN _).alloc (by simp) _).alloc (by simp;omega) _,
  (qL _ _ _ (by simp only [qab];omega)).trans ((qL _ _ _ (by simp only [qab];omega)).trans (qM _ _ _ rfl)),
  (qL _ _ _ (by simp only [qab];omega)).trans (qM _ _ _ (by simp)),qM _ _ _ (by simp)⟩⟩
section
variable {P:Program} {ops:Array Oper} {Q:Exit->Act->World->Prop} {md:Region.Mode} {S:World->Prop} {fuel:Nat} {listed:Array Bool} {a a':Act} {w:World} {o:Oper}
theorem hCx (i:Nat) {f:FuncId} {I:Array Value} {R:Ending->World->Prop} (V:Calls P f I w R) (H:nthOp ops.toList i=some o:=by rfl) (Y:decide (Region.ready md ops listed=[i])=true:=by kernel_rfl)
  (Z:Region.wanted o (yielded ops a.tmps)=true:=by rfl) (he:(execOp a.eval o).run P w=.ok (.enter f I) w:=by (go_simp <;> with_reducible rfl))
  (h:∀e F,R e F->(∃v,e=.returned v/\S F/\wpAnyH P md ops Q S fuel (listed.setIfInBounds i true) (a.put o.dst v) F)\/∃G,e=.panicked G/\Q (.panic G) a F):wpAnyH P md ops Q S (fuel+1) listed a w :=
 qhm i H Y fun K U=>by
  rw [if_pos Z];unfold Oper.wp;rw [he,Oper.upon_enter];refine V.mono fun e F r=>?_
  rcases h e F r with ⟨v,rfl,J,O⟩ | ⟨G,rfl,h⟩
  ·exact U.on S _ _ (fun _ h=>h) J fun _=>O
  ·exact h
end
theorem keepB {a b:World} {g:Nat} (h:Below a.heap.size a b):a.grownBy b (some g):=qb1 g h
theorem qkg {a b:World} {g:Nat} (h:Below a.drew.heap.size a.drew b):a.grownBy b (some g):=qb1 g (qb2 h)
open Tryz
section
variable {P:Program}
theorem qhc (w:World) (base:Nat) (t ty e:TypeId) (i:TypeInfo) (z:Value) (size bytes:Nat) (ht:P.underlying t=some (.slice e)) (hi:P.info? e=some i) (hz:i.zero=some z)
  (ag:i.size=size) (av:i.bytes=bytes) (aj:z.cells.size=size) (aB:0<size) (ai:∀x∈z.cells.toList,qcy x)
  (v:Value) (n:Nat) (xs:List Value) (G:Rws w base e size v n xs)
  (a:Addr) (m c:Nat) (F:List Value) (Y:F.length=m*size) (I:∀j u,F[j]? = some u->w.cell? (a.add j)=some u) (h1:∀u∈F,u.oneCell'=true) (af:∀u∈F,qcy u) (az:0<m)
  (Z:n+m<=maxLen) (O:(n+m)*bytes<=140737488355328) (U:base<=w.heap.size) :
  ∃v' w',(Builtin.append_ #[t,t] ty #[v,.slice (some a) m c]).run P w=.ok v' w'/\Rws w' base e size v' (n+m) (xs++F)/\(v'.ownBlock=v.ownBlock/\w.grownBy w' v.ownBlock\/v'.ownBlock=some w.heap.size/\w.grownBy w' none):=by
 subst ag;subst av;have ak:n+m<=9223372036854775807:=by simp only [maxLen] at Z;omega
 have H:(xs++F).length=(n+m)*i.size:=by rw [qaf,G.1,Y,qaG]
 rcases G.2 with ⟨rfl,rfl⟩ | ⟨g,cap,cur,rfl,au,hg,aA,ax,ay,V,aa⟩
 ·have hx:xs=[]:=List.eq_nil_of_length_eq_zero (by simpa using G.1);subst hx;have hr:=run_append_nil (P:=P) w t ty e i z ht hi hz a m c F Y I az (by omega) (by have hb:=O;simp only [qaH] at hb;omega);have ae:=grownCap_ge w m 0 e;refine⟨_,_,hr,⟨by simpa using H,.inr ⟨w.heap.size,_,_,by rw [qaH],U,heap_alloc_new w.drew _,by rw [qaH];exact ae,grownCap_le_maxLen w m 0 e (by simpa using Z),?_,?_,?_⟩⟩,qag ⟨rfl,rfl,rfl,rfl,by simp,fun k hk _=>qL w.drew _ k hk⟩⟩
  ·simp only [Array.size_append,qbJ,size_zeroCells,aj,Y,<-qaG]
   congr 1;omega
  ·rw [qaH,qbh,<-Y,qbk];exact List.take_left
  ·intro x hx;rw [qbk] at hx;rcases qaK.1 hx with h | h
   ·exact af x h
   ·exact qge ai _ x h
 ·by_cases J:n+m<=cap
  ·have ah:n*i.size+F.length<=cur.size:=by rw [Y,ay,<-qaG];exact qa5 _ J
   have hr:=run_append_room (P:=P) w t ty e i ht hi g n cap cur hg a m c F Y I h1 J ah;refine⟨_,_,hr,⟨H,.inr ⟨g,cap,_,rfl,au,qT w g cur _ e _ hg,J,ax,?_,?_,?_⟩⟩,qal ⟨rfl,rfl,rfl,rfl,by simp,fun k _ hk=>setRow_other w g k _ (fun e=>hk (by simp [Value.ownBlock,e]))⟩⟩
   ·simp only [qbJ,qaf,qay,qbm,Array.length_toList];omega
   ·rw [V,<-H];exact List.take_left
   ·intro x hx;rcases qaK.1 hx with h | h
    ·rcases qaK.1 h with h | h
     ·exact aa x (qbG h)
     ·exact af x h
    ·exact aa x (List.mem_of_mem_drop h)
  ·have holds:∀j u,xs[j]? = some u->w.cell? ((⟨g,0,none⟩:Addr).add j)=some u:=G.own.cells (g:=g) rfl;have hr:=run_append_grow (P:=P) w t ty e i z ht hi hz ⟨g,0,none⟩ n cap xs G.1 holds a m c F Y I (by omega) (by omega) (growslice_fits (by omega) O);have ae:=grownCap_ge w (n+m) cap e;refine⟨_,_,hr,⟨H,.inr ⟨w.heap.size,_,_,rfl,U,heap_alloc_new w.drew _,ae,grownCap_le_maxLen w (n+m) cap e Z,?_,?_,?_⟩⟩,qag ⟨rfl,rfl,rfl,rfl,by simp,fun k hk _=>qL w.drew _ k hk⟩⟩
   ·simp only [Array.size_append,qbJ,size_zeroCells,aj,G.1,Y,<-qaG]
    congr 1;omega
   ·simp only [qbk,qaE];rw [<-qaE,<-H];exact List.take_left
   ·intro x hx;rw [qbk,qbk] at hx;rcases qaK.1 hx with h | h
    ·rcases qaK.1 h with h | h
     ·rw [<-V] at h;exact aa x (qbG (by simpa using h))
     ·exact af x h
    ·exact qge ai _ x h
end
theorem frac_not:∀y∈(Value.agg #[.string ⟨#[]⟩,.string ⟨#[]⟩]).cells.toList,qcy y:=by
 intro y hy;rcases qaN.1 (show y∈[Value.string ⟨#[]⟩,Value.string ⟨#[]⟩] from hy) with rfl | hy
 ·exact qdW _
 ·rw [qas.1 hy];exact qdW _
theorem qlR (l:List FT):∀u∈fflat l,qcy u:=fun u F=>by
 unfold fflat at F;obtain⟨x,_,hx⟩:=List.mem_flatMap.1 F;rcases qaN.1 hx with rfl | hx
 ·exact qdW _
 ·rw [qas.1 hx];exact qdW _
theorem qfv {w:World} {B:Nat} {v:Value} {n m c b off:Nat} {l l2:List FT} {V:Option Addr} (Z:TypeId) (H:Rws w B 44 2 v n (fflat l)) (hB:B<=w.heap.size) (Y:FCells w V b off l2) (hm:l2.length=m) (I:0<m) (hn:n+m<=1000000) :
  ∃F G,(Builtin.append_ #[35,35] Z #[v,.slice V m c]).run prog w=.ok F G/\Rws G B 44 2 F (n+m) (fflat (l++l2))/\(F.ownBlock=v.ownBlock/\w.grownBy G v.ownBlock\/F.ownBlock=some w.heap.size/\w.grownBy G none):=by
 obtain⟨i0,hi,J,O,U⟩:=info_parts infoF;have ha:=Y.addr (by omega);subst ha;obtain⟨F,G,hr,h2,h3⟩:=qhc (P:=prog) w B 35 Z 44 i0 _ 2 32 underlying35 hi J O U rfl (by decide) frac_not v n (fflat l) H ⟨b,off,none⟩ m c (fflat l2) (by rw [qb8,hm]) Y.src (qiy _) (qlR _) I (by unfold maxLen;omega) (by omega) hB;exact⟨F,G,hr,by rw [qcF];exact h2,h3⟩
theorem fc_row {W:World} {g:Nat} {x1 x2:ByteArray} (hg:W.heap[g]? = some (.cells #[.string x1,.string x2] 44 (0,0))):FCells W (some ⟨g,0,none⟩) g 0 [(x1,x2)] :=
 ⟨fun _=>rfl,fun k F=>by
  obtain rfl:k=0:=by simp at F;omega
  exact⟨qC _ _ 0 _ _ _ hg,qC _ _ 1 _ _ _ hg⟩⟩
theorem qm0 {W:World} {B g:Nat} {x1 x2:ByteArray} (hg:W.heap[g]? = some (.cells #[.string x1,.string x2] 44 (0,0))) (F:B<=g):Rws W B 44 2 (.slice (some ⟨g,0,none⟩) 1 1) 1 (fflat [(x1,x2)]) :=
 ⟨rfl,qag ⟨g,1,_,rfl,F,hg,qae _,by decide,rfl,rfl,fun x hx=>by
  rcases qaN.1 (show x∈[Value.string x1,Value.string x2] from hx) with rfl | hx
  ·exact qdW _
  ·rw [qas.1 hx];exact qdW _⟩⟩
theorem qdn {P:Program} {F:Array Oper} {rest:List Oper} {o:Oper} {a:Act} {w I:World} {Q:Exit->Act->World->Prop} (G:o.guard=none) (s x:Operand) (t:TypeId) (O:o.op=.call { callee:=.builtin .append,args:=#[s,x],argTypes:=#[t,t] }) {v u H:Value} (V:a.eval s=v) (hx:a.eval x=u)
  (U:(Builtin.append_ #[t,t] o.type #[v,u]).run P w=.ok H I) (h:wpList P F Q rest (a.put o.dst H) I):wpList P F Q (o :: rest) a w :=
 wpList_plain G fun _K J=>qnv (qgR O rfl V hx U) (J _ _ h)
end Go.Proofs.YtplkdeknjghobaaGreatDoor
namespace Go.Proofs.YtplkdeknjghobaaGreatDoor
def fct:Nat->Nat
 | 0=>1
 | n+1=>(n+1)*fct n
theorem qkC (C:Nat):∀(m:Nat) (f:Nat->Int),(∀j,j<m->(f j).natAbs<=C)->(sumN m f).natAbs<=m*C
 | 0,_,_=>by show (0:Int).natAbs<=_;simp
 | m+1,f,h=>by
  have ih:=qkC C m f fun j G=>h j (by omega)
  have F:=h m (by omega)
  show (sumN m f+f m).natAbs<=_
  have:=qbB (sumN m f) (f m);rw [qaG,qbv];omega
theorem sg_abs (j:Nat):(sg j).natAbs=1:=by unfold sg;split <;> rfl
theorem qjt {B:Nat}:∀(n:Nat) (M:Nat->Nat->Int),(∀r c,r<n->c<n->(M r c).natAbs<=B)->(det n M).natAbs<=fct n*B ^ n
 | 0,_,_=>by show (1:Int).natAbs<=1*1;decide
 | n+1,M,h=>by
  have H:=qkC (B*(fct n*B ^ n)) (n+1) (fun j=>sg j*M 0 j*det n fun r c=>M (r+1) (skip j c)) fun j G=>by
   rw [qaD,qaD,sg_abs,qbv];exact Nat.mul_le_mul (h 0 j (by omega) G) (qjt n _ fun r c I F=>h (r+1) (skip j c) (by omega) (qdV F))
  refine qaj H (Nat.le_of_eq ?_)
  show _=(n+1)*fct n*(B ^ n*B)
  rw [qbt B,qax B,qaz]
structure ElimN (R n k:Nat) (D:Int) (M A:Nat->Nat->Int):Prop where
 st:ElimSt R n k D M A
 dets:∃(P:Nat->Nat->Int) (σ:Nat->Nat) (a:Nat->Nat->Int),DR k P σ=D/\(∀s,s<k->σ s<k)/\(∀i,k<=i->i<R->∀j,j<n->M i j=BR k P σ (a i) j) /\
  (∀i,i<k->∀j,j<n->M i j=D*(if j=i then 1 else 0)-BR k P σ (fun x=>if x=i then 1 else 0) j) /\
  (∀s,s<k->∃r,r<R/\P s=A r)/\∀i,k<=i->i<R->∃r,r<R/\a i=A r
theorem ElimN.start (R n:Nat) (A:Nat->Nat->Int):ElimN R n 0 1 A A :=
 ⟨ElimSt.start R n A,fun _ _=>0,fun _=>0,A,rfl,fun s G=>absurd G (by omega),fun i _ _ j _=>(qjk _ _ _ _).symm,fun i F=>absurd F (by omega),fun s G=>absurd G (by omega),fun i _ F=>⟨i,F,rfl⟩⟩
theorem ElimN.swap {R n k a:Nat} {D:Int} {M A:Nat->Nat->Int} (h:ElimN R n k D M A) (I:k<=a) (U:a<R):ElimN R n k D (qca M k a) A:=by
 have Y:k<R:=by omega
 refine⟨h.st.swap I U,?_⟩;obtain⟨P,σ,b,Z,hσ,V,hl,hP,J⟩:=h.dets;refine⟨P,σ,qca b k a,Z,hσ,fun i G O j H=>?_,fun i G j H=>by rw [qjR G I];exact hl i G j H,hP,fun i G O=>?_⟩
 ·unfold qca
  by_cases e:i=k
  ·rw [if_pos e,if_pos e];exact V a I U j H
  ·by_cases F:i=a
   ·rw [if_neg e,if_neg e,if_pos F,if_pos F];exact V k qN Y j H
   ·rw [if_neg e,if_neg e,if_neg F,if_neg F];exact V i G O j H
 ·unfold qca
  by_cases e:i=k
  ·rw [if_pos e];exact J a I U
  ·by_cases F:i=a
   ·rw [if_neg e,if_pos F];exact J k qN Y
   ·rw [if_neg e,if_neg F];exact J i G O
theorem ElimN.next {R n k:Nat} {D:Int} {M A:Nat->Nat->Int} (h:ElimN R n k D M A) (hk:k<R) (I:k<n) (h0:M k k≠0):ElimN R n (k+1) (M k k) (qb4 (fun _=>true) M k k D) A:=by
 refine⟨h.st.next hk I h0,?_⟩;obtain⟨P,σ,b,Z,hσ,hb,hl,hP,hA⟩:=h.dets;have J:DR k P σ≠0:=by rw [Z];exact h.st.nz
 have O:∀j,j<n->M k j=BR k P σ (b k) j:=hb k qN hk;have H:∀i,i≠k->∀j,qb4 (fun _=>true) M k k D i j=(M k k*M i j-M i k*M k j).tdiv D:=fun i G j=>by
  unfold qb4;rw [if_pos ⟨rfl,G⟩]
 have U:qb4 (fun _=>true) M k k D k=M k:=by unfold qb4;rw [if_neg (fun h=>h.2 rfl)]
 have aa:∀i,k<i->i<R->∀j,j<n->M k k*M i j-M i k*M k j=D*BR (k+1) (sel (b k) P) (sel k σ) (b i) j:=fun i G V j F=>by
  have:=qea J (b i) (b k) k j;rw [Z,<-hb i (by omega) V j F,<-O k I,<-hb i (by omega) V k I,<-O j F] at this;rw [<-this,qbc (M i j)]
 have af:∀i,i<k->∀j,j<n->M k k*M i j-M i k*M k j=D*(M k k*(if j=i then 1 else 0)-BR (k+1) (sel (b k) P) (sel k σ) (fun x=>if x=i then 1 else 0) j):=fun i G j F=>by
  have:=qea J (fun x=>if x=i then 1 else 0) (b k) k j;rw [Z,<-O k I,<-O j F] at this;rw [hl i G j F,hl i G k I,if_neg (by omega:¬k=i),Int.mul_sub D,<-this];generalize BR k P σ (fun x=>if x=i then 1 else 0) j=X;generalize BR k P σ (fun x=>if x=i then 1 else 0) k=Y;generalize (if j=i then (1:Int) else 0)=E;rw [qbF,Int.zero_sub,qby,Int.sub_neg,Int.mul_sub,qbc X,Int.mul_left_comm (M k k) D];omega
 have ae:∀j,j<n->M k j=M k k*(if j=k then 1 else 0)-BR (k+1) (sel (b k) P) (sel k σ) (fun x=>if x=k then 1 else 0) j:=fun j F=>by
  have:=qea J (fun x=>if x=k then 1 else 0) (b k) k j;rw [Z,<-O k I,<-O j F,qhG k P σ _ j (fun s hs=>if_neg (by have:=hσ s hs;omega)),qhG k P σ _ k (fun s hs=>if_neg (by have:=hσ s hs;omega)),Z,if_pos rfl] at this;have e:D*(M k k*(if j=k then 1 else 0)-M k j)=D*BR (k+1) (sel (b k) P) (sel k σ) (fun x=>if x=k then 1 else 0) j:=by
   rw [<-this,Int.mul_sub,Int.mul_one];generalize (if j=k then (1:Int) else 0)=E;rw [qbs,qbc E]
  have:=Int.eq_of_mul_eq_mul_left h.st.nz e;omega
 refine⟨sel (b k) P,sel k σ,b,by rw [qjl];exact (O k I).symm,?_,fun i G V j F=>?_,fun i G j F=>?_,?_,fun i G V=>hA i (by omega) V⟩
 ·intro s hs;cases s with
  | zero=>show k<k+1;omega
  | succ s=>show σ s<k+1;have:=hσ s (by omega);omega
 ·rw [H i (by omega) j,aa i (by omega) V j F,Int.mul_tdiv_cancel_left _ h.st.nz]
 ·by_cases e:i=k
  ·subst e;rw [U];exact ae j F
  ·rw [H i e j,af i (by omega) j F,Int.mul_tdiv_cancel_left _ h.st.nz]
 ·intro s hs;cases s with
  | zero=>exact hA k qN hk
  | succ s=>exact hP s (by omega)
theorem qj9 {R n:Nat} (V:R<=n) (A:Nat->Nat->Int) (G:¬Sing R (castM A)):∀k,k<=R->∃D M,ElimN R n k D M A
 | 0,_=>⟨1,A,ElimN.start R n A⟩
 | k+1,hk=>by
  obtain⟨D,M,h⟩:=qj9 V A G k (by omega)
  by_cases F:∃a,k<=a/\a<R/\M a k≠0
  ·obtain⟨a,ka,H,I⟩:=F;have J:=h.swap ka H;have e:qca M k a k=M a:=by unfold qca;rw [if_pos rfl]
   exact⟨_,_,J.next (by omega) (by omega) (by rw [e];exact I)⟩
  ·refine absurd (qiv h.st (by omega) (by omega) fun i U O=>?_) G
   by_cases e:M i k=0
   ·exact e
   ·exact absurd ⟨i,U,O,e⟩ F
theorem qnc {R n c:Nat} (f x:Nat->Rat) (a:Rat) (G:R<=c) (I:c<n):sumQ n (fun j=>f j*(if j<R then x j else if j=c then a else 0))=sumQ R (fun j=>f j*x j)+f c*a:=by
 obtain⟨m,rfl⟩:∃m,n=R+m:=⟨n-R,by omega⟩;rw [qeE]
 congr 1
 ·exact qbV fun j F=>by rw [if_pos F]
 ·rw [qc3 m (c-R) _ (by omega) fun i H hne=>by rw [if_neg (by omega),if_neg (by omega)];grind];rw [show R+(c-R)=c by omega,if_neg (by omega),if_pos rfl]
theorem elim_at {R n c:Nat} {z:Int} {M A:Nat->Nat->Int} (h:ElimSt R n R z M A) (H:R<=c) (I:c<n):qcD R (castM A) (fun i=>castM A i c) (fun i=>(M i c:Rat) / z):=by
 have O:(z:Rat)≠0:=by exact_mod_cast h.nz
 intro i F;have:=(h.span.2 i F).kill (y:=fun j=>if j<R then (M j c:Rat) / z else if j=c then -1 else 0) fun i F=>by
  rw [qnc _ _ _ H I,qc3 R i _ F fun j J G=>by show (M i j:Rat)*_=0;rw [h.diag i F j J,if_neg (fun h=>G h.symm)];simp]
  show (M i i:Rat)*_+(M i c:Rat)*_=0
  rw [h.diag i F i F,if_pos rfl];grind
 rw [qnc _ _ _ H I] at this
 show sumQ R _=castM A i c
 grind
theorem qm4 {R m B:Nat} {A:Nat->Nat->Int} {x:Nat->Nat->Rat} (V:1<=B) (H:∀i j,i<R->j<R+m->(A i j).natAbs<=B) (U:¬Sing R (castM A)) (hx:∀c,c<m->qcD R (castM A) (fun i=>castM A i (R+c)) (x c)) :
  ∃(q:Int) (p:Nat->Nat->Int),q≠0/\q.natAbs<=fct R*B ^ R/\∀c,c<m->∀i,i<R->x c i=(p c i:Rat) / (q:Rat)/\(p c i).natAbs<=fct (R+1)*B ^ (R+1):=by
 obtain⟨D,M,h⟩:=qj9 (n:=R+m) (by omega) A U R qN;obtain⟨P,σ,b,Y,hσ,_,Z,I,_⟩:=h.dets;refine⟨D,fun c i=>M i (R+c),h.st.nz,?_,fun c G i J=>⟨(hx c G).uniq U (elim_at h.st (by omega) (by omega)) i J,?_⟩⟩
 ·rw [<-Y];refine qjt R _ fun r c O G=>?_
  obtain⟨r',F,e⟩:=I r O;rw [e];exact H _ _ F (by have:=hσ c G;omega)
 ·have e:=Z i J (R+c) (by omega);rw [if_neg (by omega),qbF,Int.zero_sub] at e
  show (M i (R+c)).natAbs<=_
  rw [e,qbr];refine qjt (R+1) _ fun r x O hx=>?_
  cases r with
  | zero =>
   show (if _=i then (1:Int) else 0).natAbs<=B
   split
   ·exact V
   ·exact qam _
  | succ r =>
   obtain⟨r',F,e⟩:=I r (by omega)
   show (P r _).natAbs<=B
   rw [e];refine H _ _ F ?_;cases x with
   | zero=>show R+c<R+m;omega
   | succ x=>show σ x<R+m;have:=hσ x (by omega);omega
open Go.RowKit
structure NCells (W:World) (ao:Option Addr) (b off:Nat) (l:List Int):Prop where
 addr:0<l.length->ao=some ⟨b,off,none⟩
 cell:∀k,k<l.length->W.cell? ⟨b,off+k,none⟩=some (.int .i64 (l.getD k 0))
theorem NCells.below {W W':World} {F:Option Addr} {b off:Nat} {l:List Int} (h:NCells W F b off l) (H:Below W.heap.size W W'):NCells W' F b off l :=
 ⟨h.addr,fun k G=>(H.cell (qac W _ (h.cell k G))).trans (h.cell k G)⟩
structure Pt where
 name:ByteArray
 dev:List Int
 l0:Int
 l1:Int
 l2:Int
def Pt.lab (p:Pt) (c:Nat):Int:=if c=0 then p.l0 else if c=1 then p.l1 else p.l2
def pt0:Pt:=⟨⟨#[]⟩,[],0,0,0⟩
structure PCells (W:World) (ao:Option Addr) (b off:Nat) (l:List Pt):Prop where
 addr:0<l.length->ao=some ⟨b,off,none⟩
 cell:∀k,k<l.length->W.cell? ⟨b,off+k*5,none⟩=some (.string (l.getD k pt0).name) /\
  (∃(ra:Option Addr) (rb ro rc:Nat),W.cell? ⟨b,off+k*5+1,none⟩=some (.slice ra (l.getD k pt0).dev.length rc)/\NCells W ra rb ro (l.getD k pt0).dev) /\
  W.cell? ⟨b,off+k*5+2,none⟩=some (.int .i64 (l.getD k pt0).l0)/\W.cell? ⟨b,off+k*5+3,none⟩=some (.int .i64 (l.getD k pt0).l1)/\W.cell? ⟨b,off+k*5+4,none⟩=some (.int .i64 (l.getD k pt0).l2)
theorem PCells.below {W W':World} {G:Option Addr} {b off:Nat} {l:List Pt} (h:PCells W G b off l) (F:Below W.heap.size W W'):PCells W' G b off l :=
 ⟨h.addr,fun k Y=>by
  obtain⟨H,⟨ra,rb,ro,rc,I,V⟩,J,O,U⟩:=h.cell k Y;exact⟨(F.cell (qac W _ H)).trans H,⟨ra,rb,ro,rc,(F.cell (qac W _ I)).trans I,V.below F⟩,
   (F.cell (qac W _ J)).trans J,(F.cell (qac W _ O)).trans O,(F.cell (qac W _ U)).trans U⟩⟩
def qdt (c:UInt8):Bool:=decide (65<=c.toNat/\c.toNat<=90) || decide (97<=c.toNat/\c.toNat<=122) || decide (48<=c.toNat/\c.toNat<=57) || decide (c.toNat=45) || decide (c.toNat=95)
def qhf (s:ByteArray):Prop:=1<=s.size/\s.size<=12/\∀k (h:k<s.size),qdt s[k]=true
def qcz (d:List Int):Prop:=∀k,k<d.length->0<=d.getD k 0/\d.getD k 0<=10000
structure PtOk (p:Pt):Prop where
 name:qhf p.name
 n1:1<=p.dev.length
 n4:p.dev.length<=4
 vals:qcz p.dev
 l0:0<=p.l0/\p.l0<=10000
 l1:-12800<=p.l1/\p.l1<=12700
 l2:-12800<=p.l2/\p.l2<=12700
def chans (l:List Pt):Nat:=(l.getD 0 pt0).dev.length
structure PtsOk (l:List Pt):Prop where
 r1:1<=l.length
 r2:l.length<=40
 rows:∀k,k<l.length->PtOk (l.getD k pt0)/\(l.getD k pt0).dev.length=chans l
 apart:∀i k,k<i->i<l.length->(l.getD k pt0).name≠(l.getD i pt0).name
theorem PtsOk.n1 {l:List Pt} (h:PtsOk l):1<=chans l:=(h.rows 0 h.r1).1.n1
theorem PtsOk.n4 {l:List Pt} (h:PtsOk l):chans l<=4:=(h.rows 0 h.r1).1.n4
def many (kind n:Nat):Nat:=if kind=1 then 1+n else if kind=2 then 1+2*n else 2 ^ n
def dq (d:List Int) (k:Nat):Rat:=(d.getD k 0:Rat) / 10000
def prods (d:List Int):Nat->List Rat
 | 0=>[1]
 | n+1=>prods d n++(prods d n).map fun p=>p*dq d n
def termL (kind:Nat) (d:List Int):List Rat :=
 if kind=1 then 1 :: (List.range d.length).map (dq d) else if kind=2 then 1 :: (List.range d.length).map (dq d)++(List.range d.length).map (fun k=>dq d k*dq d k) else prods d d.length
def termQ (kind:Nat) (d:List Int) (j:Nat):Rat:=(termL kind d).getD j 0
theorem qeD (d:List Int):∀n,(prods d n).length=2 ^ n
 | 0=>rfl
 | n+1=>by
  show (prods d n++_).length=_
  rw [qaf,qat,qeD d n,qaI];omega
theorem qd8 (kind:Nat) (d:List Int):(termL kind d).length=many kind d.length:=by
 unfold termL many;split
 ·simp;omega
 ·split
  ·simp;omega
  ·exact qeD d _
def Cd (q:Rat) (D N:Nat):Prop:=∃p:Int,q=(p:Rat) / (D:Rat)/\p.natAbs<=N
theorem Cd.rb {q:Rat} {D N M:Nat} (h:Cd q D N) (F:D≠0) (hN:N<=M) (G:D<=M):Rb q M:=by
 obtain⟨p,e,H⟩:=h;refine qfY (p:=p) (z:=(D:Int)) (by omega) (by omega) (by omega) ?_;rw [e];rfl
theorem Cd.short {q:Rat} {D N:Nat} (h:Cd q D N) (F:D≠0) (hN:N<10 ^ 600) (G:D<10 ^ 600):Short q :=
 qdf (h.rb F (Nat.le_max_left N D) (Nat.le_max_right N D)) (by omega)
theorem Cd.mono {q:Rat} {D N M:Nat} (h:Cd q D N) (F:N<=M):Cd q D M:=by
 obtain⟨p,e,G⟩:=h;exact⟨p,e,by omega⟩
theorem Cd.int (z:Int):Cd (z:Rat) 1 z.natAbs:=⟨z,by rw [show ((1:Nat):Rat)=1 from rfl];grind,qae _⟩
theorem Cd.frac (z:Int) (D:Nat):Cd ((z:Rat) / (D:Rat)) D z.natAbs:=⟨z,rfl,qae _⟩
theorem qeC {D:Nat} (F:D≠0):(D:Rat)≠0:=by exact_mod_cast F
theorem Cd.mul {p q:Rat} {D E N M:Nat} (h:Cd p D N) (k:Cd q E M) (F:D≠0) (hE:E≠0):Cd (p*q) (D*E) (N*M):=by
 obtain⟨a,e,G⟩:=h;obtain⟨b,e2,H⟩:=k;refine⟨a*b,?_,by rw [qaD];exact Nat.mul_le_mul G H⟩;have I:=qeC F;have J:=qeC hE;rw [e,e2];push_cast;grind
theorem Cd.add {p q:Rat} {D N M:Nat} (h:Cd p D N) (k:Cd q D M):Cd (p+q) D (N+M):=by
 obtain⟨a,e,F⟩:=h;obtain⟨b,e2,G⟩:=k;refine⟨a+b,?_,by have:=qbB a b;omega⟩;rw [e,e2];push_cast;grind
theorem Cd.up {p:Rat} {D N:Nat} (h:Cd p D N) (k:Nat) (F:D≠0) (H:k≠0):Cd p (D*k) (N*k):=by
 obtain⟨a,e,G⟩:=h;have I:=qeC F;have J:=qeC H;refine⟨a*k,?_,by rw [qaD,qan];exact Nat.mul_le_mul G qN⟩;rw [e];push_cast;grind
theorem Cd.zero (D:Nat):Cd 0 D 0:=⟨0,by rw [show ((0:Int):Rat)=0 from rfl];grind,qae _⟩
theorem Cd.sum {D N:Nat}:∀{n:Nat} {f:Nat->Rat},(∀i,i<n->Cd (f i) D N)->Cd (sumQ n f) D (n*N)
 | 0,_,_=>by rw [Nat.zero_mul];exact Cd.zero D
 | n+1,f,h=>by
  have ih:=Cd.sum (n:=n) (f:=f) fun i F=>h i (by omega)
  have:=ih.add (h n (by omega))
  show Cd (sumQ n f+f n) D _
  exact this.mono (by rw [qaG,qbv];exact qae _)
theorem qcz.at {d:List Int} (h:qcz d) (k:Nat):0<=d.getD k 0/\d.getD k 0<=10000:=by
 by_cases F:k<d.length
 ·exact h k F
 ·rw [qaa,qaA (by omega)];exact⟨by decide,by decide⟩
theorem dq_cd {d:List Int} (h:qcz d) (k:Nat):Cd (dq d k) 10000 10000:=by
 have:=h.at k;exact⟨d.getD k 0,rfl,by omega⟩
theorem dq_cd8 {d:List Int} (h:∀k,∃m:Nat,m<=8/\d.getD k 0=1250*m) (k:Nat):Cd (dq d k) 8 8:=by
 obtain⟨m,F,e⟩:=h k;refine⟨m,?_,by omega⟩;unfold dq;rw [e];push_cast;grind
theorem qeM {d:List Int} {E:Nat} (hE:E≠0) (h:∀k,Cd (dq d k) E E):∀n,∀p∈prods d n,Cd p (E ^ n) (E ^ n)
 | 0,p,hp=>by
  obtain rfl:p=1:=by simpa [prods] using hp
  exact⟨1,by show (1:Rat)=((1:Int):Rat) / ((1:Nat):Rat);rw [show ((1:Int):Rat)=1 from rfl,show ((1:Nat):Rat)=1 from rfl];grind,qae 1⟩
 | n+1,p,hp=>by
  have F:E ^ n≠0:=qbj (Nat.pow_pos (qbe hE));rcases qaK.1 (show p∈prods d n++(prods d n).map fun p=>p*dq d n from hp) with hp | hp
  ·exact (qeM hE h n p hp).up E F hE
  ·obtain⟨q,G,rfl⟩:=qbn.1 hp;exact (qeM hE h n q G).mul (h n) F hE
theorem termL_cd {kind:Nat} {d:List Int} {E:Nat} (hE:E≠0) (h:∀k,Cd (dq d k) E E) (J:kind=1\/kind=2\/d.length<=3):∀p∈termL kind d,Cd p (E ^ 3) (E ^ 3):=by
 have G:∀m,E ^ m≠0:=fun m=>qbj (Nat.pow_pos (qbe hE))
 have H:Cd 1 (E ^ 3) (E ^ 3):=by have:=(Cd.int 1).up (E ^ 3) (by decide) (G 3);rw [qbv] at this;exact this.mono (by show 1*E ^ 3<=_;omega)
 have I:∀k,Cd (dq d k) (E ^ 3) (E ^ 3):=fun k=>by have:=(h k).up (E ^ 2) hE (G 2);rw [show E ^ 3=E*E ^ 2 by rw [qaI,qax]];exact this
 have V:∀k,Cd (dq d k*dq d k) (E ^ 3) (E ^ 3):=fun k=>by
  have:=((h k).mul (h k) hE hE).up E (Nat.mul_ne_zero hE hE) hE;rw [show E ^ 3=E*E*E by rw [qaI,qaI,qaI,Nat.pow_zero,qbv]];exact this
 intro p F;unfold termL at F;split at F
 ·rcases qaN.1 F with rfl | F
  ·exact H
  ·obtain⟨k,_,rfl⟩:=qbn.1 F;exact I k
 ·split at F
  ·rcases qaK.1 F with F | F
   ·rcases qaN.1 F with rfl | F
    ·exact H
    ·obtain⟨k,_,rfl⟩:=qbn.1 F;exact I k
   ·obtain⟨k,_,rfl⟩:=qbn.1 F;exact V k
  ·rename_i O e2;have J:d.length<=3:=by rcases J with e | e | e;exact absurd e O;exact absurd e e2;exact e
   have:=qeM hE h d.length p F;obtain⟨m,U⟩:∃m,3=d.length+m:=⟨3-d.length,by omega⟩;rw [U,Nat.pow_add];exact this.up (E ^ m) (G _) (G _)
theorem termQ_cd {kind:Nat} {d:List Int} {E:Nat} (hE:E≠0) (h:∀k,Cd (dq d k) E E) (G:kind=1\/kind=2\/d.length<=3) (j:Nat):Cd (termQ kind d j) (E ^ 3) (E ^ 3):=by
 unfold termQ
 by_cases F:j<(termL kind d).length
 ·refine termL_cd hE h G _ ?_;rw [qaa,qad F];exact List.getElem_mem F
 ·rw [qaa,qaA (by omega)];exact (Cd.zero _).mono (qam _)
theorem qj5:10000 ^ 3<10 ^ 600:=by decide +kernel
def thrown (c:Int):Ending:=.panicked [{ v:=.iface 203 (.agg #[.int .i64 c]),recovered:=false }]
def tqf (l:List Pt) (kind:Nat) (i j:Nat):Rat:=termQ kind (l.getD i pt0).dev j
def labq (l:List Pt) (c i:Nat):Rat:=((l.getD i pt0).lab c:Rat) / 100
def wq (F:List Int) (i:Nat):Rat:=((F.getD i 0:Int):Rat)
def WOk (F:List Int):Prop:=∀k,k<F.length->0<=F.getD k 0/\F.getD k 0<=1000
def qcu (kind:Int) (k:Nat):Prop:=kind=(k:Int)/\1<=k/\k<=3
structure Md where
 kind:Int
 inn:Int
 r0:List FT
 r1:List FT
 r2:List FT
def Md.row (m:Md) (c:Nat):List FT:=if c=0 then m.r0 else if c=1 then m.r1 else m.r2
structure MdOk (m:Md) (k n:Nat):Prop where
 kind:qcu m.kind k
 inn:m.inn=(n:Int)/\1<=n/\n<=4
 both:¬(k=3/\n=4)
 rows:∀c,c<3->(m.row c).length=many k n/\FAll (m.row c)
def MdAt (W:World) (v:Value) (m:Md):Prop :=
 ∃(a0 F a2:Option Addr) (G J c0 H O c1 I U c2:Nat),v=.agg #[.int .i64 m.kind,.int .i64 m.inn,.slice a0 m.r0.length c0,.slice F m.r1.length c1,.slice a2 m.r2.length c2]/\FCells W a0 G J m.r0/\FCells W F H O m.r1/\FCells W a2 I U m.r2
theorem MdAt.below {W W':World} {v:Value} {m:Md} (h:MdAt W v m) (F:Below W.heap.size W W'):MdAt W' v m:=by
 obtain⟨a0,a1,a2,b0,o0,c0,b1,o1,c1,b2,o2,c2,rfl,G,H,I⟩:=h;exact⟨a0,a1,a2,b0,o0,c0,b1,o1,c1,b2,o2,c2,rfl,G.below F,H.below F,I.below F⟩
def md0:Md:=⟨0,0,[],[],[]⟩
def mdv0:Value:=.agg #[.int .i64 0,.int .i64 0,.slice none 0 0,.slice none 0 0,.slice none 0 0]
def mdq (k n m:Nat) (x:Nat->Nat->Rat):Md:=⟨k,n,told m (x 0),told m (x 1),told m (x 2)⟩
theorem qez {k n m:Nat} {x:Nat->Nat->Rat} {c:Nat} (F:c<3):(mdq k n m x).row c=told m (x c):=by
 rcases (show c=0\/c=1\/c=2 by omega) with rfl | rfl | rfl <;> rfl
theorem FAll.eq_told {l:List FT} (h:FAll l):l=told l.length (lval l):=by
 refine List.ext_getElem (by rw [qbW]) fun i G J=>?_
 have H:l[i]=l.getD i fd0:=by rw [qaa,qad G];rfl
 have I:(told l.length (lval l))[i]=ftxt (lval l i):=by
  have:=qdg (x:=lval l) G;rw [qaa,qad J] at this;exact this
 rw [H,I];have F:=h i G;unfold lval;obtain⟨n1,n2⟩:=F.val;have O:=F.vn.eq;have U:=F.vd.eq;refine Prod.ext ?_ ?_
 ·show _=qcc _
  rw [n1];unfold qcc;rw [<-O]
 ·show _=num _
  rw [n2];unfold num;rw [<-qhP,Int.natAbs_of_nonneg (by have:=F.pos;omega),<-U]
theorem FAll.short {l:List FT} (h:FAll l):qbY l.length (lval l):=fun i O=>by
 have F:=h i O;unfold lval Short;obtain⟨n1,n2⟩:=F.val;rw [n1,n2];have I:=F.vn.le;have J:=F.vd.le;have G:=congrArg body F.vn.eq;have H:=congrArg body F.vd.eq;rw [(qe9 _).1] at G H;rw [G] at I;rw [H] at J;rw [qdR,qdR];exact⟨I,J⟩
open Tryz
theorem qcK {P:Program} {O:Func} {p q:Tmp} {U G:TypeId} (h:O.results=#[.cell p U,.cell q G]) (F:Array Value) (w:World) (ap H:Addr) (V v2:Value)
  (hp:F.getD p undef=.pointer (some ap)) (hq:F.getD q undef=.pointer (some H)) (Y:(loadVar U ap).run P w=.ok V w) (Z:(loadVar G H).run P w=.ok v2 w) :
  (results O F).run P w=.ok (.tuple #[V,v2]) w:=by
 have I:F[p]?.getD undef=.pointer (some ap):=by simpa using hp
 have J:F[q]?.getD undef=.pointer (some H):=by simpa using hq
 simp [results,h,I,J,asAddr,Y,Z,Sem.run_bind,Result.andThen]
theorem qcL {P:Program} {G:TypeId} {w:World} {g:Nat} {t:TypeId} {v:Value} (d:TypeDesc) (I:P.underlying G=some d) (J:(match d with | .struct _ | .array _ _=>true | _=>false)=false) (hg:w.heap[g]? = some (.cells #[v] t (0,0))) :
  (loadVar G ⟨g,0,none⟩).run P w=.ok v w:=by
 have H:=qC w g 0 _ _ _ hg;have F:(isAgg G).run P w=.ok false w:=by
  unfold isAgg;rw [Sem.run_bind,run_underlying I w];cases d <;> simp_all
 simp [loadVar,Sem.run_bind,F,H]
theorem qep {W:World} {g:Nat} {v0:Value} {t:TypeId} (h:W.heap[g]? = some (.cells #[v0] t (0,0))) (v:Value):(W.setCell ⟨g,0,none⟩ v).heap[g]? = some (.cells #[v] t (0,0)):=by
 rw [setCell_eq_setRow W g 0 _ t _ v h];exact qT _ _ _ _ _ _ h
theorem qcR {B g:Nat} {a W:World} (h:Below B a W) (hg:B<=g) (cs:Array Value):Below B a (W.setRow g cs) :=
 h.trans ⟨rfl,rfl,rfl,by simp [World.setRow],fun k F=>setRow_other _ _ _ _ (by omega)⟩
theorem qiq {w W:World} {gp gq B:Nat} {O:Array Value} {I J:TypeId} (h:B<=gp/\B<=gq/\gp≠gq) (Z:Below B w W) (hp:W.heap[gp]? = some (.cells O I (0,0))) (hq:W.heap[gq]? = some (.cells #[.int .i64 0] J (0,0))) (c:Int) (o:Obj) :
  (((W.setCell ⟨gq,0,none⟩ (.int .i64 9)).setCell ⟨gq,0,none⟩ (.int .i64 c)).alloc o).heap[gp]? = some (.cells O I (0,0))/\(((W.setCell ⟨gq,0,none⟩ (.int .i64 9)).setCell ⟨gq,0,none⟩ (.int .i64 c)).alloc o).heap[gq]? = some (.cells #[.int .i64 c] J (0,0)) /\
   Below B w (((W.setCell ⟨gq,0,none⟩ (.int .i64 9)).setCell ⟨gq,0,none⟩ (.int .i64 c)).alloc o):=by
 obtain⟨X,F⟩:=qY ((W.setCell ⟨gq,0,none⟩ (.int .i64 9)).setCell ⟨gq,0,none⟩ (.int .i64 c));rw [<-F];have U:X.heap[gq]? = some (.cells #[.int .i64 c] J (0,0)):=F▸qep (qep hq _) _;have V:X.heap[gp]? = some (.cells O I (0,0)):=by rw [F,qW _ _ _ _ h.2.2,qW _ _ _ _ h.2.2];exact hp
 have Y:Below B w X:=F▸(Z.setCell (p:=⟨gq,0,none⟩) h.2.1 _).setCell (p:=⟨gq,0,none⟩) h.2.1 _;have G:=(qG U).1;have H:=(qG V).1;have hz:B<=X.heap.size:=by have:=h.1;omega
 exact⟨(Below.heap_alloc _ _ _ H).trans V,(Below.heap_alloc _ _ _ G).trans U,Y.trans ⟨rfl,rfl,rfl,by simp,fun k hk=>Below.heap_alloc _ _ _ (qai hk hz)⟩⟩
theorem filled {w W X:World} {gp gq B:Nat} {U cs:Array Value} {H O:TypeId} (h:B<=gp/\B<=gq/\gp≠gq) (Z:W.heap[gp]? = some (.cells U H (0,0))) (J:W.heap[gq]? = some (.cells #[.int .i64 0] O (0,0)))
  (V:X.heap[gp]? = some (.cells cs H (0,0))) (I:∀k,k≠gp->X.heap[k]? = W.heap[k]?) (Y:Below B w X) :
  (X.setCell ⟨gq,0,none⟩ (.int .i64 0)).heap[gp]? = some (.cells cs H (0,0))/\(X.setCell ⟨gq,0,none⟩ (.int .i64 0)).heap[gq]? = some (.cells #[.int .i64 0] O (0,0))/\Below B w (X.setCell ⟨gq,0,none⟩ (.int .i64 0)) /\
   ((∀b,.string b∉U.toList)->∀a b,W.cell? a=some (.string b)->(X.setCell ⟨gq,0,none⟩ (.int .i64 0)).cell? a=some (.string b)):=by
 have G:=(I gq (fun e=>h.2.2 e.symm)).trans J;refine⟨?_,qep G _,Y.setCell (p:=⟨gq,0,none⟩) h.2.1 _,fun hz a b F=>?_⟩
 ·rw [qW _ _ _ _ h.2.2];exact V
 ·have n1:a.block≠gp:=by
   intro e;unfold World.cell? at F;rw [e,Z] at F;simp only at F;split at F
   ·cases F
   ·exact hz b (by rw [<-Array.mem_def];exact Array.mem_of_getElem? F)
  have n2:a.block≠gq:=by
   intro e;unfold World.cell? at F;rw [e,J] at F;simp only at F;split at F
   ·cases F
   ·have:=Array.mem_of_getElem? F;simp at this
  rw [World.cell?_setCell_far _ _ _ _ (fun e=>n2 e.symm)];unfold World.cell? at F ⊢;rw [I _ n1];exact F
theorem assertM (w:World) (c:Int):(Instr.typeAssert (.iface 203 (.agg #[.int .i64 c])) 20 203 true).run prog w=.ok (.tuple #[.agg #[.int .i64 c],.bool true]) w:=by
 simp [Instr.typeAssert,go_sem]
theorem qjr (p q:Addr) (w:World) :
  CallsD prog 123 #[.pointer (some p),.pointer (some q)] .returning w fun e G H=>e=.returned (.tuple #[])/\G=.returning/\H=w:=by
 refine callsD_of_wpS func123 rfl fun I cs F=>?_
 apply wpS_seq;apply wpS_region;simp [wpOpsS,go_sem,recoverD,F,ntmps123,Exit.thenS,<-qbl,List.replicate];refine wpS_of_wp ?_;go_wp2_with fail;exact⟨rfl,.returning,by rw [<-F],.tuple #[],results_none rfl _ _ _,rfl,rfl,rfl⟩
theorem qkI (gp gq:Nat) (c:Int) (F:List PanicEntry) (w:World) (B:Nat) (J:B<=gp/\B<=gq/\gp≠gq) (Z:w.heap[gp]? = some (.cells #[.int .i64 0,.int .i64 0,.slice none 0 0,.slice none 0 0,.slice none 0 0] 38 (0,0))) (hq:w.heap[gq]? = some (.cells #[.int .i64 0] 39 (0,0))) :
  CallsD prog 123 #[.pointer (some ⟨gp,0,none⟩),.pointer (some ⟨gq,0,none⟩)] (.panicking ({ v:=.iface 203 (.agg #[.int .i64 c]),recovered:=false } :: F)) w fun e u' w'=>e=.returned (.tuple #[])/\u'=.panicking ({ v:=.iface 203 (.agg #[.int .i64 c]),recovered:=true } :: F) /\
   w'.heap[gp]? = some (.cells #[.int .i64 0,.int .i64 0,.slice none 0 0,.slice none 0 0,.slice none 0 0] 38 (0,0))/\w'.heap[gq]? = some (.cells #[.int .i64 c] 39 (0,0))/\Below B w w':=by
 have U:=(qG Z).1;have Y:=(qG hq).1;obtain⟨G,O,H⟩:=nw1 w #[.int .i64 0,.int .i64 0,.slice none 0 0,.slice none 0 0,.slice none 0 0] 38;have V:=qH (zkeep H.o.1 _ _ Z);have I:(G.setRow gp #[.int .i64 0,.int .i64 0,.slice none 0 0,.slice none 0 0,.slice none 0 0]).heap[gq]? = some (.cells #[.int .i64 0] 39 (0,0)):=(setRow_other _ _ _ _ (fun e=>J.2.2 e.symm)).trans (zkeep H.o.1 _ _ hq);have cq:=qC (G.setRow gp #[.int .i64 0,.int .i64 0,.slice none 0 0,.slice none 0 0,.slice none 0 0]) _ 0 _ _ _ I;have fq:=qF (G.setRow gp #[.int .i64 0,.int .i64 0,.slice none 0 0,.slice none 0 0,.slice none 0 0]) _ 0 _ _ I;have au:(G.setRow gp #[.int .i64 0,.int .i64 0,.slice none 0 0,.slice none 0 0,.slice none 0 0]).heap.size=G.heap.size:=by simp [World.setRow]
 have aa:gp<G.heap.size:=qai U H.o.1.size;have ae:gq<G.heap.size:=qai Y H.o.1.size;have ak:¬gq=G.heap.size:=by omega
 have HE:=qH (qiq J (qcR (H.o.1.mono (qaq (qaL J.1 U))) J.1 #[.int .i64 0,.int .i64 0,.slice none 0 0,.slice none 0 0,.slice none 0 0]) (qT G gp #[.int .i64 0,.int .i64 0,.slice none 0 0,.slice none 0 0,.slice none 0 0] #[.int .i64 0,.int .i64 0,.slice none 0 0,.slice none 0 0,.slice none 0 0] 38 _ V.o) I c (.cells #[.int .i64 c] 203));clear Z hq J I;have av:=assertM;refine callsD_of_wpS func123 rfl fun c₀ cs hu=>?_
 apply wpS_seq;apply wpS_region;simp [wpOpsS,go_sem,recoverD,hu,ntmps123,Exit.thenS,<-qbl,List.replicate];refine wpS_of_wp ?_;go_upto_region 3 with fail;rw [<-O];clear O;have af:=qC G _ 0 _ _ _ H.o.2;have ag:=qC G _ 1 _ _ _ H.o.2;have ah:=qC G _ 2 _ _ _ H.o.2;have ai:=qC G _ 3 _ _ _ H.o.2;have aj:=qC G _ 4 _ _ _ H.o.2
 go_wp2_with ((with_reducible refine sR_ rfl 38 _ _ rfl (gp) #[.int .i64 0,.int .i64 0,.slice none 0 0,.slice none 0 0,.slice none 0 0] V.o 5 ?_))
 refine⟨rfl,.panicking ({ v:=.iface 203 (.agg #[.int .i64 c]),recovered:=true } :: F),rfl,.tuple #[],results_none rfl _ _ _,rfl,rfl,?_⟩;exact HE.o
theorem qil (fc:FuncId) (H:Array Value) (G:World->Value->Prop) (F:Int->Prop) (w:World) (ai:∀W,(callFunc fc H).run prog W=.ok (.enter fc H) W)
  (hG:∀W W' v,(∀a b,W.cell? a=some (.string b)->W'.cell? a=some (.string b))->G W v->G W' v)
  (hf:∀Z,Below w.heap.size w Z->Calls prog fc H Z fun e w'=>Below Z.heap.size Z w'/\((∃(i0 I:Int) (U:Option Addr) (J c0:Nat) (V:Option Addr) (n1 c1:Nat) (Y:Option Addr) (O c2:Nat),e=.returned (.agg #[.int .i64 i0,.int .i64 I,.slice U J c0,.slice V n1 c1,.slice Y O c2])/\G w' (.agg #[.int .i64 i0,.int .i64 I,.slice U J c0,.slice V n1 c1,.slice Y O c2]))\/∃c,e=thrown c/\F c)) :
  Calls prog 50 #[.func (.func fc) #[] H] w fun e w'=>Below w.heap.size w w'/\((∃(i0 I:Int) (U:Option Addr) (J c0:Nat) (V:Option Addr) (n1 c1:Nat) (Y:Option Addr) (O c2:Nat),e=.returned (.tuple #[(.agg #[.int .i64 i0,.int .i64 I,.slice U J c0,.slice V n1 c1,.slice Y O c2]),.int .i64 0])/\G w' (.agg #[.int .i64 i0,.int .i64 I,.slice U J c0,.slice V n1 c1,.slice Y O c2]))\/∃c,e=.returned (.tuple #[(.agg #[.int .i64 0,.int .i64 0,.slice none 0 0,.slice none 0 0,.slice none 0 0]),.int .i64 c])/\F c):=by
 have ak:=@hmf_ prog;obtain⟨W2,af,K2⟩:=nw2 w #[.int .i64 0,.int .i64 0,.slice none 0 0,.slice none 0 0,.slice none 0 0] 38 #[.int .i64 0] 39;have HF:=qH (hf W2 K2.o.1);clear hf
 go_enter_defers func50,ntmps50
 go_upto_region 1 with fail;rw [<-af];clear af;go_wp2_with fail;refine HF.o.mono ?_;rintro e Z ⟨aa,h⟩;have K3:Kn (fun W=>W.heap[w.heap.size]? = some (.cells #[.int .i64 0,.int .i64 0,.slice none 0 0,.slice none 0 0,.slice none 0 0] 38 (0,0))/\W.heap[w.heap.size+1]? = some (.cells #[.int .i64 0] 39 (0,0))/\Below w.heap.size w W) Z :=
  .of ⟨zkeep aa _ _ K2.o.2.1,zkeep aa _ _ K2.o.2.2,K2.o.1.trans (aa.mono K2.o.1.size)⟩
 clear K2;rcases h with ⟨i0,I,U,J,c0,V,n1,c1,Y,O,c2,rfl,hg⟩ | ⟨c,rfl,hF⟩
 ·have HE:=qH (filled (w:=w) (gp:=w.heap.size) (gq:=w.heap.size+1) (B:=w.heap.size) ⟨qae _,by omega,by omega⟩ K3.o.1 K3.o.2.1 (qT Z _ #[.int .i64 0,.int .i64 0,.slice none 0 0,.slice none 0 0,.slice none 0 0] #[.int .i64 i0,.int .i64 I,.slice U J c0,.slice V n1 c1,.slice Y O c2] _ _ K3.o.1) (fun k hk=>setRow_other _ _ _ _ hk) (qcR K3.o.2.2 qN _));have ag:=hG _ ((Z.setRow w.heap.size #[.int .i64 i0,.int .i64 I,.slice U J c0,.slice V n1 c1,.slice Y O c2]).setCell ⟨w.heap.size+1,0,none⟩ (.int .i64 0)) _ (HE.o.2.2.2 (fun b hb=>by simp at hb)) hg;have ae:(Z.setRow w.heap.size #[.int .i64 i0,.int .i64 I,.slice U J c0,.slice V n1 c1,.slice Y O c2]).heap[w.heap.size+1]? = some (.cells #[.int .i64 0] 39 (0,0)):=(setRow_other _ _ _ _ (by omega)).trans K3.o.2.1;have cq:=qC (Z.setRow w.heap.size #[.int .i64 i0,.int .i64 I,.slice U J c0,.slice V n1 c1,.slice Y O c2]) _ 0 _ _ _ ae;have fq:=qF (Z.setRow w.heap.size #[.int .i64 i0,.int .i64 I,.slice U J c0,.slice V n1 c1,.slice Y O c2]) _ 0 _ _ ae;have HG:=qH ag;clear hG hg ag HF aa ai ae;rename_i hK;dsimp only;refine hK _ _ ?_
  go_wp2_with ((with_reducible refine sR_ rfl 38 _ _ rfl (w.heap.size) #[.int .i64 i0,.int .i64 I,.slice U J c0,.slice V n1 c1,.slice Y O c2] K3.o.1 5 ?_))
  try simp only [bodyPostD]
  refine leaves_cons (f:=123) (args:=#[.pointer (some ⟨w.heap.size,0,none⟩),.pointer (some ⟨w.heap.size+1,0,none⟩)]) (by simp) (by simp [go_sem]) ?_;refine (qjr _ _ _).mono ?_;rintro e u' aj ⟨rfl,rfl,rfl⟩;refine⟨_,qcK rfl _ _ _ _ _ _ rfl rfl ((fun h=>run_loadVar_row _ _ _ 38 _ (0,0) _ h underlying38 rfl (by kernel_rfl)) HE.o.1) (qcL _ underlying39 rfl HE.o.2.1),HE.o.2.2.1,qal ⟨i0,I,U,J,c0,V,n1,c1,Y,O,c2,rfl,HG.o⟩⟩
 ·have ah:=qH hF;clear hF hG HF;unfold thrown;go_wp2_with fail
  try simp only [bodyPostD]
  refine leaves_cons (f:=123) (args:=#[.pointer (some ⟨w.heap.size,0,none⟩),.pointer (some ⟨w.heap.size+1,0,none⟩)]) (by simp) (by simp [go_sem]) ?_;refine (qkI w.heap.size (w.heap.size+1) c [] _ w.heap.size ⟨qae _,by omega,by omega⟩ K3.o.1 K3.o.2.1).mono ?_;rintro e u' aj ⟨rfl,rfl,hp,hq,hb⟩;refine⟨_,qcK rfl _ _ _ _ _ _ rfl rfl ((fun h=>run_loadVar_row _ _ _ 38 _ (0,0) _ h underlying38 rfl (by kernel_rfl)) hp) (qcL _ underlying39 rfl hq),K3.o.2.2.trans hb,qag ⟨c,rfl,ah.o⟩⟩
theorem assertL (w:World) (c:Int):(Instr.typeAssert (.iface 203 (.agg #[.int .i64 c])) 20 203 true).run prog w=.ok (.tuple #[.agg #[.int .i64 c],.bool true]) w:=by
 simp [Instr.typeAssert,go_sem]
theorem qjq (p q:Addr) (w:World) :
  CallsD prog 152 #[.pointer (some p),.pointer (some q)] .returning w fun e G H=>e=.returned (.tuple #[])/\G=.returning/\H=w:=by
 refine callsD_of_wpS func152 rfl fun I cs F=>?_
 apply wpS_seq;apply wpS_region;simp [wpOpsS,go_sem,recoverD,F,ntmps152,Exit.thenS,<-qbl,List.replicate];refine wpS_of_wp ?_;go_wp2_with fail;exact⟨rfl,.returning,by rw [<-F],.tuple #[],results_none rfl _ _ _,rfl,rfl,rfl⟩
theorem qkH (gp gq:Nat) (c:Int) (F:List PanicEntry) (w:World) (B:Nat) (O:B<=gp/\B<=gq/\gp≠gq) (Z:w.heap[gp]? = some (.cells #[.slice none 0 0] 35 (0,0))) (hq:w.heap[gq]? = some (.cells #[.int .i64 0] 39 (0,0))) :
  CallsD prog 152 #[.pointer (some ⟨gp,0,none⟩),.pointer (some ⟨gq,0,none⟩)] (.panicking ({ v:=.iface 203 (.agg #[.int .i64 c]),recovered:=false } :: F)) w fun e u' w'=>e=.returned (.tuple #[])/\u'=.panicking ({ v:=.iface 203 (.agg #[.int .i64 c]),recovered:=true } :: F) /\
   w'.heap[gp]? = some (.cells #[.slice none 0 0] 35 (0,0))/\w'.heap[gq]? = some (.cells #[.int .i64 c] 39 (0,0))/\Below B w w':=by
 have U:=(qG Z).1;have Y:=(qG hq).1;obtain⟨G,V,J⟩:∃G,G=w/\Kn (fun W=>Below w.heap.size w W/\True) G:=⟨w,rfl,.of ⟨Below.refl _ _,trivial⟩⟩;subst V;have I:=qH (zkeep J.o.1 _ _ Z);have H:(G.setCell ⟨gp,0,none⟩ (.slice none 0 0)).heap[gq]? = some (.cells #[.int .i64 0] 39 (0,0)):=(qW _ _ _ _ (fun e=>O.2.2 e.symm)).trans (zkeep J.o.1 _ _ hq);have cq:=qC (G.setCell ⟨gp,0,none⟩ (.slice none 0 0)) _ 0 _ _ _ H;have fq:=qF (G.setCell ⟨gp,0,none⟩ (.slice none 0 0)) _ 0 _ _ H;have cp:=qC G _ 0 _ _ _ I.o;have fp:=qF G _ 0 _ _ I.o;have ag:(G.setCell ⟨gp,0,none⟩ (.slice none 0 0)).heap.size=G.heap.size:=by simp [World.setCell]
 have aa:gp<G.heap.size:=qai U J.o.1.size;have ae:gq<G.heap.size:=qai Y J.o.1.size;have af:¬gq=G.heap.size:=by omega
 have HE:=qH (qiq O ((J.o.1.mono (qaq (qaL O.1 U))).setCell O.1 (.slice none 0 0)) (qep I.o (.slice none 0 0)) H c (.cells #[.int .i64 c] 203));clear Z hq O H;have ah:=assertL;refine callsD_of_wpS func152 rfl fun c₀ cs hu=>?_
 apply wpS_seq;apply wpS_region;simp [wpOpsS,go_sem,recoverD,hu,ntmps152,Exit.thenS,<-qbl,List.replicate];refine wpS_of_wp ?_;go_wp2_with fail;refine⟨rfl,.panicking ({ v:=.iface 203 (.agg #[.int .i64 c]),recovered:=true } :: F),rfl,.tuple #[],results_none rfl _ _ _,rfl,rfl,?_⟩;exact HE.o
theorem qfO (fc:FuncId) (H:Array Value) (G:World->Value->Prop) (F:Int->Prop) (w:World) (ae:∀W,(callFunc fc H).run prog W=.ok (.enter fc H) W)
  (hG:∀W W' v,(∀a b,W.cell? a=some (.string b)->W'.cell? a=some (.string b))->G W v->G W' v)
  (hf:∀I,Below w.heap.size w I->Calls prog fc H I fun e w'=>Below I.heap.size I w'/\((∃(p:Option Addr) (n c:Nat),e=.returned (.slice p n c)/\G w' (.slice p n c))\/∃c,e=thrown c/\F c)) :
  Calls prog 82 #[.func (.func fc) #[] H] w fun e w'=>Below w.heap.size w w'/\((∃(p:Option Addr) (n c:Nat),e=.returned (.tuple #[(.slice p n c),.int .i64 0])/\G w' (.slice p n c))\/∃c,e=.returned (.tuple #[(.slice none 0 0),.int .i64 c])/\F c):=by
 have ag:=@hmf_ prog;obtain⟨W2,Y,V⟩:=nw2 w #[.slice none 0 0] 35 #[.int .i64 0] 39;have HF:=qH (hf W2 V.o.1);clear hf
 go_enter_defers func82,ntmps82
 go_upto_region 1 with fail;rw [<-Y];clear Y;go_wp2_with fail;refine HF.o.mono ?_;rintro e I ⟨O,h⟩;have J:Kn (fun W=>W.heap[w.heap.size]? = some (.cells #[.slice none 0 0] 35 (0,0))/\W.heap[w.heap.size+1]? = some (.cells #[.int .i64 0] 39 (0,0))/\Below w.heap.size w W) I :=
  .of ⟨zkeep O _ _ V.o.2.1,zkeep O _ _ V.o.2.2,V.o.1.trans (O.mono V.o.1.size)⟩
 clear V;rcases h with ⟨p,n,c,rfl,hg⟩ | ⟨c,rfl,hF⟩
 ·have HE:=qH (filled (w:=w) (gp:=w.heap.size) (gq:=w.heap.size+1) (B:=w.heap.size) ⟨qae _,by omega,by omega⟩ J.o.1 J.o.2.1 (qep J.o.1 (.slice p n c)) (fun k hk=>qW _ _ _ _ hk) (J.o.2.2.setCell (p:=⟨w.heap.size,0,none⟩) qN _));have Z:=hG _ ((I.setCell ⟨w.heap.size,0,none⟩ (.slice p n c)).setCell ⟨w.heap.size+1,0,none⟩ (.int .i64 0)) _ (HE.o.2.2.2 (fun b hb=>by simp at hb)) hg;have U:(I.setCell ⟨w.heap.size,0,none⟩ (.slice p n c)).heap[w.heap.size+1]? = some (.cells #[.int .i64 0] 39 (0,0)):=(qW _ _ _ _ (by simp)).trans J.o.2.1;have cq:=qC (I.setCell ⟨w.heap.size,0,none⟩ (.slice p n c)) _ 0 _ _ _ U;have fq:=qF (I.setCell ⟨w.heap.size,0,none⟩ (.slice p n c)) _ 0 _ _ U;have cp:=qC I _ 0 _ _ _ J.o.1;have fp:=qF I _ 0 _ _ J.o.1;have HG:=qH Z;clear hG hg Z HF O ae U;go_wp2_with fail
  try simp only [bodyPostD]
  refine leaves_cons (f:=152) (args:=#[.pointer (some ⟨w.heap.size,0,none⟩),.pointer (some ⟨w.heap.size+1,0,none⟩)]) (by simp) (by simp [go_sem]) ?_;refine (qjq _ _ _).mono ?_;rintro e u' af ⟨rfl,rfl,rfl⟩;refine⟨_,qcK rfl _ _ _ _ _ _ rfl rfl (qcL _ underlying35 rfl HE.o.1) (qcL _ underlying39 rfl HE.o.2.1),HE.o.2.2.1,qal ⟨p,n,c,rfl,HG.o⟩⟩
 ·have aa:=qH hF;clear hF hG HF;unfold thrown;go_wp2_with fail
  try simp only [bodyPostD]
  refine leaves_cons (f:=152) (args:=#[.pointer (some ⟨w.heap.size,0,none⟩),.pointer (some ⟨w.heap.size+1,0,none⟩)]) (by simp) (by simp [go_sem]) ?_;refine (qkH w.heap.size (w.heap.size+1) c [] _ w.heap.size ⟨qae _,by omega,by omega⟩ J.o.1 J.o.2.1).mono ?_;rintro e u' af ⟨rfl,rfl,hp,hq,hb⟩;refine⟨_,qcK rfl _ _ _ _ _ _ rfl rfl (qcL _ underlying35 rfl hp) (qcL _ underlying39 rfl hq),J.o.2.2.trans hb,qag ⟨c,rfl,aa.o⟩⟩
theorem assertA (w:World) (c:Int):(Instr.typeAssert (.iface 203 (.agg #[.int .i64 c])) 20 203 true).run prog w=.ok (.tuple #[.agg #[.int .i64 c],.bool true]) w:=by
 simp [Instr.typeAssert,go_sem]
theorem qjo (p q:Addr) (w:World) :
  CallsD prog 142 #[.pointer (some p),.pointer (some q)] .returning w fun e G H=>e=.returned (.tuple #[])/\G=.returning/\H=w:=by
 refine callsD_of_wpS func142 rfl fun I cs F=>?_
 apply wpS_seq;apply wpS_region;simp [wpOpsS,go_sem,recoverD,F,ntmps142,Exit.thenS,<-qbl,List.replicate];refine wpS_of_wp ?_;go_wp2_with fail;exact⟨rfl,.returning,by rw [<-F],.tuple #[],results_none rfl _ _ _,rfl,rfl,rfl⟩
theorem qkF (gp gq:Nat) (c:Int) (G:List PanicEntry) (w:World) (B:Nat) (J:B<=gp/\B<=gq/\gp≠gq) (Z:w.heap[gp]? = some (.cells #[.string ⟨#[]⟩,.string ⟨#[]⟩,.string ⟨#[]⟩,.string ⟨#[]⟩,.string ⟨#[]⟩,.string ⟨#[]⟩] 65 (0,0))) (hq:w.heap[gq]? = some (.cells #[.int .i64 0] 39 (0,0))) :
  CallsD prog 142 #[.pointer (some ⟨gp,0,none⟩),.pointer (some ⟨gq,0,none⟩)] (.panicking ({ v:=.iface 203 (.agg #[.int .i64 c]),recovered:=false } :: G)) w fun e u' w'=>e=.returned (.tuple #[])/\u'=.panicking ({ v:=.iface 203 (.agg #[.int .i64 c]),recovered:=true } :: G) /\
   w'.heap[gp]? = some (.cells #[.string ⟨#[]⟩,.string ⟨#[]⟩,.string ⟨#[]⟩,.string ⟨#[]⟩,.string ⟨#[]⟩,.string ⟨#[]⟩] 65 (0,0))/\w'.heap[gq]? = some (.cells #[.int .i64 c] 39 (0,0))/\Below B w w':=by
 have U:=(qG Z).1;have Y:=(qG hq).1;obtain⟨F,O,H⟩:=nw1 w #[.string ⟨#[]⟩,.string ⟨#[]⟩,.string ⟨#[]⟩,.string ⟨#[]⟩,.string ⟨#[]⟩,.string ⟨#[]⟩] 65;have V:=qH (zkeep H.o.1 _ _ Z);have I:(F.setRow gp #[.string ⟨#[]⟩,.string ⟨#[]⟩,.string ⟨#[]⟩,.string ⟨#[]⟩,.string ⟨#[]⟩,.string ⟨#[]⟩]).heap[gq]? = some (.cells #[.int .i64 0] 39 (0,0)):=(setRow_other _ _ _ _ (fun e=>J.2.2 e.symm)).trans (zkeep H.o.1 _ _ hq);have cq:=qC (F.setRow gp #[.string ⟨#[]⟩,.string ⟨#[]⟩,.string ⟨#[]⟩,.string ⟨#[]⟩,.string ⟨#[]⟩,.string ⟨#[]⟩]) _ 0 _ _ _ I;have fq:=qF (F.setRow gp #[.string ⟨#[]⟩,.string ⟨#[]⟩,.string ⟨#[]⟩,.string ⟨#[]⟩,.string ⟨#[]⟩,.string ⟨#[]⟩]) _ 0 _ _ I;have av:(F.setRow gp #[.string ⟨#[]⟩,.string ⟨#[]⟩,.string ⟨#[]⟩,.string ⟨#[]⟩,.string ⟨#[]⟩,.string ⟨#[]⟩]).heap.size=F.heap.size:=by simp [World.setRow]
 have aa:gp<F.heap.size:=qai U H.o.1.size;have ae:gq<F.heap.size:=qai Y H.o.1.size;have au:¬gq=F.heap.size:=by omega
 have HE:=qH (qiq J (qcR (H.o.1.mono (qaq (qaL J.1 U))) J.1 #[.string ⟨#[]⟩,.string ⟨#[]⟩,.string ⟨#[]⟩,.string ⟨#[]⟩,.string ⟨#[]⟩,.string ⟨#[]⟩]) (qT F gp #[.string ⟨#[]⟩,.string ⟨#[]⟩,.string ⟨#[]⟩,.string ⟨#[]⟩,.string ⟨#[]⟩,.string ⟨#[]⟩] #[.string ⟨#[]⟩,.string ⟨#[]⟩,.string ⟨#[]⟩,.string ⟨#[]⟩,.string ⟨#[]⟩,.string ⟨#[]⟩] 65 _ V.o) I c (.cells #[.int .i64 c] 203));clear Z hq J I;have ax:=assertA;refine callsD_of_wpS func142 rfl fun c₀ cs hu=>?_
 apply wpS_seq;apply wpS_region;simp [wpOpsS,go_sem,recoverD,hu,ntmps142,Exit.thenS,<-qbl,List.replicate];refine wpS_of_wp ?_;go_upto_region 3 with fail;rw [<-O];clear O;have af:=qC F _ 0 _ _ _ H.o.2;have ag:=qC F _ 1 _ _ _ H.o.2;have ah:=qC F _ 2 _ _ _ H.o.2;have ai:=qC F _ 3 _ _ _ H.o.2;have aj:=qC F _ 4 _ _ _ H.o.2;have ak:=qC F _ 5 _ _ _ H.o.2
 go_wp2_with ((with_reducible refine sR_ rfl 65 _ _ rfl (gp) #[.string ⟨#[]⟩,.string ⟨#[]⟩,.string ⟨#[]⟩,.string ⟨#[]⟩,.string ⟨#[]⟩,.string ⟨#[]⟩] V.o 6 ?_))
 refine⟨rfl,.panicking ({ v:=.iface 203 (.agg #[.int .i64 c]),recovered:=true } :: G),rfl,.tuple #[],results_none rfl _ _ _,rfl,rfl,?_⟩;exact HE.o
theorem qij (fc:FuncId) (H:Array Value) (G:World->Value->Prop) (F:Int->Prop) (w:World) (ai:∀W,(callFunc fc H).run prog W=.ok (.enter fc H) W)
  (hG:∀W W' v,G W v->G W' v)
  (hf:∀Z,Below w.heap.size w Z->Calls prog fc H Z fun e w'=>Below Z.heap.size Z w'/\((∃(I J O U V Y:ByteArray),e=.returned (.agg #[.string I,.string J,.string O,.string U,.string V,.string Y])/\G w' (.agg #[.string I,.string J,.string O,.string U,.string V,.string Y]))\/∃c,e=thrown c/\F c)) :
  Calls prog 75 #[.func (.func fc) #[] H] w fun e w'=>Below w.heap.size w w'/\((∃(I J O U V Y:ByteArray),e=.returned (.tuple #[(.agg #[.string I,.string J,.string O,.string U,.string V,.string Y]),.int .i64 0])/\G w' (.agg #[.string I,.string J,.string O,.string U,.string V,.string Y]))\/∃c,e=.returned (.tuple #[(.agg #[.string ⟨#[]⟩,.string ⟨#[]⟩,.string ⟨#[]⟩,.string ⟨#[]⟩,.string ⟨#[]⟩,.string ⟨#[]⟩]),.int .i64 c])/\F c):=by
 have ak:=@hmf_ prog;obtain⟨W2,af,K2⟩:=nw2 w #[.string ⟨#[]⟩,.string ⟨#[]⟩,.string ⟨#[]⟩,.string ⟨#[]⟩,.string ⟨#[]⟩,.string ⟨#[]⟩] 65 #[.int .i64 0] 39;have HF:=qH (hf W2 K2.o.1);clear hf
 go_enter_defers func75,ntmps75
 go_upto_region 1 with fail;rw [<-af];clear af;go_wp2_with fail;refine HF.o.mono ?_;rintro e Z ⟨aa,h⟩;have K3:Kn (fun W=>W.heap[w.heap.size]? = some (.cells #[.string ⟨#[]⟩,.string ⟨#[]⟩,.string ⟨#[]⟩,.string ⟨#[]⟩,.string ⟨#[]⟩,.string ⟨#[]⟩] 65 (0,0))/\W.heap[w.heap.size+1]? = some (.cells #[.int .i64 0] 39 (0,0))/\Below w.heap.size w W) Z :=
  .of ⟨zkeep aa _ _ K2.o.2.1,zkeep aa _ _ K2.o.2.2,K2.o.1.trans (aa.mono K2.o.1.size)⟩
 clear K2;rcases h with ⟨I,J,O,U,V,Y,rfl,hg⟩ | ⟨c,rfl,hF⟩
 ·have HE:=qH (filled (w:=w) (gp:=w.heap.size) (gq:=w.heap.size+1) (B:=w.heap.size) ⟨qae _,by omega,by omega⟩ K3.o.1 K3.o.2.1 (qT Z _ #[.string ⟨#[]⟩,.string ⟨#[]⟩,.string ⟨#[]⟩,.string ⟨#[]⟩,.string ⟨#[]⟩,.string ⟨#[]⟩] #[.string I,.string J,.string O,.string U,.string V,.string Y] _ _ K3.o.1) (fun k hk=>setRow_other _ _ _ _ hk) (qcR K3.o.2.2 qN _));have ag:=hG _ ((Z.setRow w.heap.size #[.string I,.string J,.string O,.string U,.string V,.string Y]).setCell ⟨w.heap.size+1,0,none⟩ (.int .i64 0)) _  hg;have ae:(Z.setRow w.heap.size #[.string I,.string J,.string O,.string U,.string V,.string Y]).heap[w.heap.size+1]? = some (.cells #[.int .i64 0] 39 (0,0)):=(setRow_other _ _ _ _ (by omega)).trans K3.o.2.1;have cq:=qC (Z.setRow w.heap.size #[.string I,.string J,.string O,.string U,.string V,.string Y]) _ 0 _ _ _ ae;have fq:=qF (Z.setRow w.heap.size #[.string I,.string J,.string O,.string U,.string V,.string Y]) _ 0 _ _ ae;have HG:=qH ag;clear hG hg ag HF aa ai ae;rename_i hK;dsimp only;refine hK _ _ ?_
  go_wp2_with ((with_reducible refine sR_ rfl 65 _ _ rfl (w.heap.size) #[.string I,.string J,.string O,.string U,.string V,.string Y] K3.o.1 6 ?_))
  try simp only [bodyPostD]
  refine leaves_cons (f:=142) (args:=#[.pointer (some ⟨w.heap.size,0,none⟩),.pointer (some ⟨w.heap.size+1,0,none⟩)]) (by simp) (by simp [go_sem]) ?_;refine (qjo _ _ _).mono ?_;rintro e u' aj ⟨rfl,rfl,rfl⟩;refine⟨_,qcK rfl _ _ _ _ _ _ rfl rfl ((fun h=>run_loadVar_row _ _ _ 65 _ (0,0) _ h underlying65 rfl (by kernel_rfl)) HE.o.1) (qcL _ underlying39 rfl HE.o.2.1),HE.o.2.2.1,qal ⟨I,J,O,U,V,Y,rfl,HG.o⟩⟩
 ·have ah:=qH hF;clear hF hG HF;unfold thrown;go_wp2_with fail
  try simp only [bodyPostD]
  refine leaves_cons (f:=142) (args:=#[.pointer (some ⟨w.heap.size,0,none⟩),.pointer (some ⟨w.heap.size+1,0,none⟩)]) (by simp) (by simp [go_sem]) ?_;refine (qkF w.heap.size (w.heap.size+1) c [] _ w.heap.size ⟨qae _,by omega,by omega⟩ K3.o.1 K3.o.2.1).mono ?_;rintro e u' aj ⟨rfl,rfl,hp,hq,hb⟩;refine⟨_,qcK rfl _ _ _ _ _ _ rfl rfl ((fun h=>run_loadVar_row _ _ _ 65 _ (0,0) _ h underlying65 rfl (by kernel_rfl)) hp) (qcL _ underlying39 rfl hq),K3.o.2.2.trans hb,qag ⟨c,rfl,ah.o⟩⟩
theorem assertR (w:World) (c:Int):(Instr.typeAssert (.iface 203 (.agg #[.int .i64 c])) 20 203 true).run prog w=.ok (.tuple #[.agg #[.int .i64 c],.bool true]) w:=by
 simp [Instr.typeAssert,go_sem]
theorem qjs (p q:Addr) (w:World) :
  CallsD prog 139 #[.pointer (some p),.pointer (some q)] .returning w fun e G H=>e=.returned (.tuple #[])/\G=.returning/\H=w:=by
 refine callsD_of_wpS func139 rfl fun I cs F=>?_
 apply wpS_seq;apply wpS_region;simp [wpOpsS,go_sem,recoverD,F,ntmps139,Exit.thenS,<-qbl,List.replicate];refine wpS_of_wp ?_;go_wp2_with fail;exact⟨rfl,.returning,by rw [<-F],.tuple #[],results_none rfl _ _ _,rfl,rfl,rfl⟩
theorem qkJ (gp gq:Nat) (c:Int) (F:List PanicEntry) (w:World) (B:Nat) (O:B<=gp/\B<=gq/\gp≠gq) (Z:w.heap[gp]? = some (.cells #[.slice none 0 0] 62 (0,0))) (hq:w.heap[gq]? = some (.cells #[.int .i64 0] 39 (0,0))) :
  CallsD prog 139 #[.pointer (some ⟨gp,0,none⟩),.pointer (some ⟨gq,0,none⟩)] (.panicking ({ v:=.iface 203 (.agg #[.int .i64 c]),recovered:=false } :: F)) w fun e u' w'=>e=.returned (.tuple #[])/\u'=.panicking ({ v:=.iface 203 (.agg #[.int .i64 c]),recovered:=true } :: F) /\
   w'.heap[gp]? = some (.cells #[.slice none 0 0] 62 (0,0))/\w'.heap[gq]? = some (.cells #[.int .i64 c] 39 (0,0))/\Below B w w':=by
 have U:=(qG Z).1;have Y:=(qG hq).1;obtain⟨G,V,J⟩:∃G,G=w/\Kn (fun W=>Below w.heap.size w W/\True) G:=⟨w,rfl,.of ⟨Below.refl _ _,trivial⟩⟩;subst V;have I:=qH (zkeep J.o.1 _ _ Z);have H:(G.setCell ⟨gp,0,none⟩ (.slice none 0 0)).heap[gq]? = some (.cells #[.int .i64 0] 39 (0,0)):=(qW _ _ _ _ (fun e=>O.2.2 e.symm)).trans (zkeep J.o.1 _ _ hq);have cq:=qC (G.setCell ⟨gp,0,none⟩ (.slice none 0 0)) _ 0 _ _ _ H;have fq:=qF (G.setCell ⟨gp,0,none⟩ (.slice none 0 0)) _ 0 _ _ H;have cp:=qC G _ 0 _ _ _ I.o;have fp:=qF G _ 0 _ _ I.o;have ag:(G.setCell ⟨gp,0,none⟩ (.slice none 0 0)).heap.size=G.heap.size:=by simp [World.setCell]
 have aa:gp<G.heap.size:=qai U J.o.1.size;have ae:gq<G.heap.size:=qai Y J.o.1.size;have af:¬gq=G.heap.size:=by omega
 have HE:=qH (qiq O ((J.o.1.mono (qaq (qaL O.1 U))).setCell O.1 (.slice none 0 0)) (qep I.o (.slice none 0 0)) H c (.cells #[.int .i64 c] 203));clear Z hq O H;have ah:=assertR;refine callsD_of_wpS func139 rfl fun c₀ cs hu=>?_
 apply wpS_seq;apply wpS_region;simp [wpOpsS,go_sem,recoverD,hu,ntmps139,Exit.thenS,<-qbl,List.replicate];refine wpS_of_wp ?_;go_wp2_with fail;refine⟨rfl,.panicking ({ v:=.iface 203 (.agg #[.int .i64 c]),recovered:=true } :: F),rfl,.tuple #[],results_none rfl _ _ _,rfl,rfl,?_⟩;exact HE.o
theorem qim (fc:FuncId) (H:Array Value) (G:World->Value->Prop) (F:Int->Prop) (w:World) (ae:∀W,(callFunc fc H).run prog W=.ok (.enter fc H) W)
  (hG:∀W W' v,(∀a b,W.cell? a=some (.string b)->W'.cell? a=some (.string b))->G W v->G W' v)
  (hf:∀I,Below w.heap.size w I->Calls prog fc H I fun e w'=>Below I.heap.size I w'/\((∃(p:Option Addr) (n c:Nat),e=.returned (.slice p n c)/\G w' (.slice p n c))\/∃c,e=thrown c/\F c)) :
  Calls prog 69 #[.func (.func fc) #[] H] w fun e w'=>Below w.heap.size w w'/\((∃(p:Option Addr) (n c:Nat),e=.returned (.tuple #[(.slice p n c),.int .i64 0])/\G w' (.slice p n c))\/∃c,e=.returned (.tuple #[(.slice none 0 0),.int .i64 c])/\F c):=by
 have ag:=@hmf_ prog;obtain⟨W2,Y,V⟩:=nw2 w #[.slice none 0 0] 62 #[.int .i64 0] 39;have HF:=qH (hf W2 V.o.1);clear hf
 go_enter_defers func69,ntmps69
 go_upto_region 1 with fail;rw [<-Y];clear Y;go_wp2_with fail;refine HF.o.mono ?_;rintro e I ⟨O,h⟩;have J:Kn (fun W=>W.heap[w.heap.size]? = some (.cells #[.slice none 0 0] 62 (0,0))/\W.heap[w.heap.size+1]? = some (.cells #[.int .i64 0] 39 (0,0))/\Below w.heap.size w W) I :=
  .of ⟨zkeep O _ _ V.o.2.1,zkeep O _ _ V.o.2.2,V.o.1.trans (O.mono V.o.1.size)⟩
 clear V;rcases h with ⟨p,n,c,rfl,hg⟩ | ⟨c,rfl,hF⟩
 ·have HE:=qH (filled (w:=w) (gp:=w.heap.size) (gq:=w.heap.size+1) (B:=w.heap.size) ⟨qae _,by omega,by omega⟩ J.o.1 J.o.2.1 (qep J.o.1 (.slice p n c)) (fun k hk=>qW _ _ _ _ hk) (J.o.2.2.setCell (p:=⟨w.heap.size,0,none⟩) qN _));have Z:=hG _ ((I.setCell ⟨w.heap.size,0,none⟩ (.slice p n c)).setCell ⟨w.heap.size+1,0,none⟩ (.int .i64 0)) _ (HE.o.2.2.2 (fun b hb=>by simp at hb)) hg;have U:(I.setCell ⟨w.heap.size,0,none⟩ (.slice p n c)).heap[w.heap.size+1]? = some (.cells #[.int .i64 0] 39 (0,0)):=(qW _ _ _ _ (by simp)).trans J.o.2.1;have cq:=qC (I.setCell ⟨w.heap.size,0,none⟩ (.slice p n c)) _ 0 _ _ _ U;have fq:=qF (I.setCell ⟨w.heap.size,0,none⟩ (.slice p n c)) _ 0 _ _ U;have cp:=qC I _ 0 _ _ _ J.o.1;have fp:=qF I _ 0 _ _ J.o.1;have HG:=qH Z;clear hG hg Z HF O ae U;go_wp2_with fail
  try simp only [bodyPostD]
  refine leaves_cons (f:=139) (args:=#[.pointer (some ⟨w.heap.size,0,none⟩),.pointer (some ⟨w.heap.size+1,0,none⟩)]) (by simp) (by simp [go_sem]) ?_;refine (qjs _ _ _).mono ?_;rintro e u' af ⟨rfl,rfl,rfl⟩;refine⟨_,qcK rfl _ _ _ _ _ _ rfl rfl (qcL _ underlying62 rfl HE.o.1) (qcL _ underlying39 rfl HE.o.2.1),HE.o.2.2.1,qal ⟨p,n,c,rfl,HG.o⟩⟩
 ·have aa:=qH hF;clear hF hG HF;unfold thrown;go_wp2_with fail
  try simp only [bodyPostD]
  refine leaves_cons (f:=139) (args:=#[.pointer (some ⟨w.heap.size,0,none⟩),.pointer (some ⟨w.heap.size+1,0,none⟩)]) (by simp) (by simp [go_sem]) ?_;refine (qkJ w.heap.size (w.heap.size+1) c [] _ w.heap.size ⟨qae _,by omega,by omega⟩ J.o.1 J.o.2.1).mono ?_;rintro e u' af ⟨rfl,rfl,hp,hq,hb⟩;refine⟨_,qcK rfl _ _ _ _ _ _ rfl rfl (qcL _ underlying62 rfl hp) (qcL _ underlying39 rfl hq),J.o.2.2.trans hb,qag ⟨c,rfl,aa.o⟩⟩
theorem assertE (w:World) (c:Int):(Instr.typeAssert (.iface 203 (.agg #[.int .i64 c])) 20 203 true).run prog w=.ok (.tuple #[.agg #[.int .i64 c],.bool true]) w:=by
 simp [Instr.typeAssert,go_sem]
theorem qjp (p q:Addr) (w:World) :
  CallsD prog 156 #[.pointer (some p),.pointer (some q)] .returning w fun e G H=>e=.returned (.tuple #[])/\G=.returning/\H=w:=by
 refine callsD_of_wpS func156 rfl fun I cs F=>?_
 apply wpS_seq;apply wpS_region;simp [wpOpsS,go_sem,recoverD,F,ntmps156,Exit.thenS,<-qbl,List.replicate];refine wpS_of_wp ?_;go_wp2_with fail;exact⟨rfl,.returning,by rw [<-F],.tuple #[],results_none rfl _ _ _,rfl,rfl,rfl⟩
theorem qkG (gp gq:Nat) (c:Int) (H:List PanicEntry) (w:World) (B:Nat) (J:B<=gp/\B<=gq/\gp≠gq) (Z:w.heap[gp]? = some (.cells #[.int .i64 0,.slice none 0 0,.slice none 0 0,.slice none 0 0,.slice none 0 0,.int .i64 0,.slice none 0 0,.slice none 0 0,.int .i64 0,.int .i64 0] 82 (0,0))) (hq:w.heap[gq]? = some (.cells #[.int .i64 0] 39 (0,0))) :
  CallsD prog 156 #[.pointer (some ⟨gp,0,none⟩),.pointer (some ⟨gq,0,none⟩)] (.panicking ({ v:=.iface 203 (.agg #[.int .i64 c]),recovered:=false } :: H)) w fun e u' w'=>e=.returned (.tuple #[])/\u'=.panicking ({ v:=.iface 203 (.agg #[.int .i64 c]),recovered:=true } :: H) /\
   w'.heap[gp]? = some (.cells #[.int .i64 0,.slice none 0 0,.slice none 0 0,.slice none 0 0,.slice none 0 0,.int .i64 0,.slice none 0 0,.slice none 0 0,.int .i64 0,.int .i64 0] 82 (0,0))/\w'.heap[gq]? = some (.cells #[.int .i64 c] 39 (0,0))/\Below B w w':=by
 have U:=(qG Z).1;have Y:=(qG hq).1;obtain⟨F,O,G⟩:=nw1 w #[.int .i64 0,.slice none 0 0,.slice none 0 0,.slice none 0 0,.slice none 0 0,.int .i64 0,.slice none 0 0,.slice none 0 0,.int .i64 0,.int .i64 0] 82;have V:=qH (zkeep G.o.1 _ _ Z);have I:(F.setRow gp #[.int .i64 0,.slice none 0 0,.slice none 0 0,.slice none 0 0,.slice none 0 0,.int .i64 0,.slice none 0 0,.slice none 0 0,.int .i64 0,.int .i64 0]).heap[gq]? = some (.cells #[.int .i64 0] 39 (0,0)):=(setRow_other _ _ _ _ (fun e=>J.2.2 e.symm)).trans (zkeep G.o.1 _ _ hq);have cq:=qC (F.setRow gp #[.int .i64 0,.slice none 0 0,.slice none 0 0,.slice none 0 0,.slice none 0 0,.int .i64 0,.slice none 0 0,.slice none 0 0,.int .i64 0,.int .i64 0]) _ 0 _ _ _ I;have fq:=qF (F.setRow gp #[.int .i64 0,.slice none 0 0,.slice none 0 0,.slice none 0 0,.slice none 0 0,.int .i64 0,.slice none 0 0,.slice none 0 0,.int .i64 0,.int .i64 0]) _ 0 _ _ I;have aA:(F.setRow gp #[.int .i64 0,.slice none 0 0,.slice none 0 0,.slice none 0 0,.slice none 0 0,.int .i64 0,.slice none 0 0,.slice none 0 0,.int .i64 0,.int .i64 0]).heap.size=F.heap.size:=by simp [World.setRow]
 have aa:gp<F.heap.size:=qai U G.o.1.size;have ae:gq<F.heap.size:=qai Y G.o.1.size;have az:¬gq=F.heap.size:=by omega
 have HE:=qH (qiq J (qcR (G.o.1.mono (qaq (qaL J.1 U))) J.1 #[.int .i64 0,.slice none 0 0,.slice none 0 0,.slice none 0 0,.slice none 0 0,.int .i64 0,.slice none 0 0,.slice none 0 0,.int .i64 0,.int .i64 0]) (qT F gp #[.int .i64 0,.slice none 0 0,.slice none 0 0,.slice none 0 0,.slice none 0 0,.int .i64 0,.slice none 0 0,.slice none 0 0,.int .i64 0,.int .i64 0] #[.int .i64 0,.slice none 0 0,.slice none 0 0,.slice none 0 0,.slice none 0 0,.int .i64 0,.slice none 0 0,.slice none 0 0,.int .i64 0,.int .i64 0] 82 _ V.o) I c (.cells #[.int .i64 c] 203));clear Z hq J I;have aB:=assertE;refine callsD_of_wpS func156 rfl fun c₀ cs hu=>?_
 apply wpS_seq;apply wpS_region;simp [wpOpsS,go_sem,recoverD,hu,ntmps156,Exit.thenS,<-qbl,List.replicate];refine wpS_of_wp ?_;go_upto_region 3 with fail;rw [<-O];clear O;have af:=qC F _ 0 _ _ _ G.o.2;have ag:=qC F _ 1 _ _ _ G.o.2;have ah:=qC F _ 2 _ _ _ G.o.2;have ai:=qC F _ 3 _ _ _ G.o.2;have aj:=qC F _ 4 _ _ _ G.o.2;have ak:=qC F _ 5 _ _ _ G.o.2;have au:=qC F _ 6 _ _ _ G.o.2;have av:=qC F _ 7 _ _ _ G.o.2;have ax:=qC F _ 8 _ _ _ G.o.2;have ay:=qC F _ 9 _ _ _ G.o.2
 go_wp2_with ((with_reducible refine sR_ rfl 82 _ _ rfl (gp) #[.int .i64 0,.slice none 0 0,.slice none 0 0,.slice none 0 0,.slice none 0 0,.int .i64 0,.slice none 0 0,.slice none 0 0,.int .i64 0,.int .i64 0] V.o 10 ?_))
 refine⟨rfl,.panicking ({ v:=.iface 203 (.agg #[.int .i64 c]),recovered:=true } :: H),rfl,.tuple #[],results_none rfl _ _ _,rfl,rfl,?_⟩;exact HE.o
theorem qik (fc:FuncId) (I:Array Value) (G:World->Value->Prop) (F:Int->Prop) (w:World) (ah:∀W,(callFunc fc I).run prog W=.ok (.enter fc I) W)
  (hG:∀(W W':World) (v:Value),(∀(g:Nat) (cs:Array Value) (t:TypeId) (fz:Nat×Nat),W.heap[g]? = some (.cells cs t fz)->t≠82->t≠39->W'.heap[g]? = some (.cells cs t fz))->G W v->G W' v)
  (hf:∀Y,Below w.heap.size w Y->Calls prog fc I Y fun e w'=>Below Y.heap.size Y w'/\((∃(O:Option Addr) (H c2:Nat) (U:Option Addr) (J c3:Nat),e=.returned (.agg #[.int .i64 2,.slice none 0 0,.slice O H c2,.slice U J c3,.slice none 0 0,.int .i64 0,.slice none 0 0,.slice none 0 0,.int .i64 0,.int .i64 0])/\G w' (.agg #[.int .i64 2,.slice none 0 0,.slice O H c2,.slice U J c3,.slice none 0 0,.int .i64 0,.slice none 0 0,.slice none 0 0,.int .i64 0,.int .i64 0]))\/∃c,e=thrown c/\F c)) :
  Calls prog 88 #[.func (.func fc) #[] I] w fun e w'=>Below w.heap.size w w'/\((∃(O:Option Addr) (H c2:Nat) (U:Option Addr) (J c3:Nat),e=.returned (.tuple #[(.agg #[.int .i64 2,.slice none 0 0,.slice O H c2,.slice U J c3,.slice none 0 0,.int .i64 0,.slice none 0 0,.slice none 0 0,.int .i64 0,.int .i64 0]),.int .i64 0])/\G w' (.agg #[.int .i64 2,.slice none 0 0,.slice O H c2,.slice U J c3,.slice none 0 0,.int .i64 0,.slice none 0 0,.slice none 0 0,.int .i64 0,.int .i64 0]))\/∃c,e=.returned (.tuple #[(.agg #[.int .i64 0,.slice none 0 0,.slice none 0 0,.slice none 0 0,.slice none 0 0,.int .i64 0,.slice none 0 0,.slice none 0 0,.int .i64 0,.int .i64 0]),.int .i64 c])/\F c):=by
 have aj:=@hmf_ prog;obtain⟨W2,ae,K2⟩:=nw2 w #[.int .i64 0,.slice none 0 0,.slice none 0 0,.slice none 0 0,.slice none 0 0,.int .i64 0,.slice none 0 0,.slice none 0 0,.int .i64 0,.int .i64 0] 82 #[.int .i64 0] 39;have HF:=qH (hf W2 K2.o.1);clear hf
 go_enter_defers func88,ntmps88
 go_upto_region 1 with fail;rw [<-ae];clear ae;go_wp2_with fail;refine HF.o.mono ?_;rintro e Y ⟨Z,h⟩;have V:Kn (fun W=>W.heap[w.heap.size]? = some (.cells #[.int .i64 0,.slice none 0 0,.slice none 0 0,.slice none 0 0,.slice none 0 0,.int .i64 0,.slice none 0 0,.slice none 0 0,.int .i64 0,.int .i64 0] 82 (0,0))/\W.heap[w.heap.size+1]? = some (.cells #[.int .i64 0] 39 (0,0))/\Below w.heap.size w W) Y :=
  .of ⟨zkeep Z _ _ K2.o.2.1,zkeep Z _ _ K2.o.2.2,K2.o.1.trans (Z.mono K2.o.1.size)⟩
 clear K2;rcases h with ⟨O,H,c2,U,J,c3,rfl,hg⟩ | ⟨c,rfl,hF⟩
 ·have HE:=qH (filled (w:=w) (gp:=w.heap.size) (gq:=w.heap.size+1) (B:=w.heap.size) ⟨qae _,by omega,by omega⟩ V.o.1 V.o.2.1 (qT Y _ #[.int .i64 0,.slice none 0 0,.slice none 0 0,.slice none 0 0,.slice none 0 0,.int .i64 0,.slice none 0 0,.slice none 0 0,.int .i64 0,.int .i64 0] #[.int .i64 2,.slice none 0 0,.slice O H c2,.slice U J c3,.slice none 0 0,.int .i64 0,.slice none 0 0,.slice none 0 0,.int .i64 0,.int .i64 0] _ _ V.o.1) (fun k hk=>setRow_other _ _ _ _ hk) (qcR V.o.2.2 qN _));have af:=hG _ ((Y.setRow w.heap.size #[.int .i64 2,.slice none 0 0,.slice O H c2,.slice U J c3,.slice none 0 0,.int .i64 0,.slice none 0 0,.slice none 0 0,.int .i64 0,.int .i64 0]).setCell ⟨w.heap.size+1,0,none⟩ (.int .i64 0)) _ (fun g cs t fz hg h1 h2=>by
   have n1:g≠w.heap.size:=fun e=>h1 (by rw [e] at hg;have:=hg.symm.trans V.o.1;simp at this;exact this.2.1)
   have H:g≠w.heap.size+1:=fun e=>h2 (by rw [e] at hg;have:=hg.symm.trans V.o.2.1;simp at this;exact this.2.1)
   rw [qW _ _ _ _ H,setRow_other _ _ _ _ n1];exact hg) hg
  have aa:(Y.setRow w.heap.size #[.int .i64 2,.slice none 0 0,.slice O H c2,.slice U J c3,.slice none 0 0,.int .i64 0,.slice none 0 0,.slice none 0 0,.int .i64 0,.int .i64 0]).heap[w.heap.size+1]? = some (.cells #[.int .i64 0] 39 (0,0)):=(setRow_other _ _ _ _ (by omega)).trans V.o.2.1;have cq:=qC (Y.setRow w.heap.size #[.int .i64 2,.slice none 0 0,.slice O H c2,.slice U J c3,.slice none 0 0,.int .i64 0,.slice none 0 0,.slice none 0 0,.int .i64 0,.int .i64 0]) _ 0 _ _ _ aa;have fq:=qF (Y.setRow w.heap.size #[.int .i64 2,.slice none 0 0,.slice O H c2,.slice U J c3,.slice none 0 0,.int .i64 0,.slice none 0 0,.slice none 0 0,.int .i64 0,.int .i64 0]) _ 0 _ _ aa;have HG:=qH af;clear hG hg af HF Z ah aa;rename_i hK;dsimp only;refine hK _ _ ?_
  go_wp2_with ((with_reducible refine sR_ rfl 82 _ _ rfl (w.heap.size) #[.int .i64 2,.slice none 0 0,.slice O H c2,.slice U J c3,.slice none 0 0,.int .i64 0,.slice none 0 0,.slice none 0 0,.int .i64 0,.int .i64 0] V.o.1 10 ?_))
  try simp only [bodyPostD]
  refine leaves_cons (f:=156) (args:=#[.pointer (some ⟨w.heap.size,0,none⟩),.pointer (some ⟨w.heap.size+1,0,none⟩)]) (by simp) (by simp [go_sem]) ?_;refine (qjp _ _ _).mono ?_;rintro e u' ai ⟨rfl,rfl,rfl⟩;refine⟨_,qcK rfl _ _ _ _ _ _ rfl rfl ((fun h=>run_loadVar_row _ _ _ 82 _ (0,0) _ h underlying82 rfl (by kernel_rfl)) HE.o.1) (qcL _ underlying39 rfl HE.o.2.1),HE.o.2.2.1,qal ⟨O,H,c2,U,J,c3,rfl,HG.o⟩⟩
 ·have ag:=qH hF;clear hF hG HF;unfold thrown;go_wp2_with fail
  try simp only [bodyPostD]
  refine leaves_cons (f:=156) (args:=#[.pointer (some ⟨w.heap.size,0,none⟩),.pointer (some ⟨w.heap.size+1,0,none⟩)]) (by simp) (by simp [go_sem]) ?_;refine (qkG w.heap.size (w.heap.size+1) c [] _ w.heap.size ⟨qae _,by omega,by omega⟩ V.o.1 V.o.2.1).mono ?_;rintro e u' ai ⟨rfl,rfl,hp,hq,hb⟩;refine⟨_,qcK rfl _ _ _ _ _ _ rfl rfl ((fun h=>run_loadVar_row _ _ _ 82 _ (0,0) _ h underlying82 rfl (by kernel_rfl)) hp) (qcL _ underlying39 rfl hq),V.o.2.2.trans hb,qag ⟨c,rfl,ag.o⟩⟩
