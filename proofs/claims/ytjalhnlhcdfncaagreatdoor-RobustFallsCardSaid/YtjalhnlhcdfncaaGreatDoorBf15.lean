import Derived.Test.YtjalhnlhcdfncaaGreatDoorBf14
set_option maxRecDepth 100000
set_option maxHeartbeats 0
namespace Go.Proofs.YtjalhnlhcdfncaaGreatDoor
theorem qeN:∀{n:Nat} {f:Nat->Rat},(∀i,i<n->0<=f i)->0<=sumQ n f
 | 0,_,_=>by show (0:Rat)<=0;exact Rat.le_refl
 | n+1,f,h=>by
  have F:=qeN (n:=n) (f:=f) fun i H=>h i (by omega)
  have G:=h n (by omega)
  show 0<=sumQ n f+f n
  grind
theorem qd6:∀{n:Nat} {f:Nat->Rat},(∀i,i<n->0<=f i)->sumQ n f=0->∀i,i<n->f i=0
 | 0,_,_,_,i,F=>absurd F (by omega)
 | n+1,f,h,G,i,F=>by
  have H:=qeN (n:=n) (f:=f) fun i F=>h i (by omega)
  have I:=h n (by omega);have J:sumQ n f+f n=0:=G
  by_cases e:i=n
  ·rw [e];grind
  ·exact qd6 (n:=n) (f:=f) (fun i F=>h i (by omega)) (by grind) i (by omega)
theorem qmO (a:Rat):0<=a*a:=by
 rcases Rat.le_total (a:=0) (b:=a) with h | h
 ·exact Rat.mul_nonneg h h
 ·have:=Rat.mul_nonneg (a:=-a) (b:=-a) (by grind) (by grind)
  grind
theorem qkf (n:Nat) (f g:Nat->Rat):sumQ n (fun i=>f i-g i)=sumQ n f-sumQ n g:=by
 have h:=qc8 n f fun i=>(-1)*g i
 rw [qb1] at h;rw [show sumQ n (fun i=>f i-g i)=sumQ n (fun i=>f i+(-1)*g i) from qbQ fun i _=>by grind,h];grind
def resR (n:Nat) (A:Nat->Nat->Rat) (b z:Nat->Rat) (i:Nat):Rat:=sumQ n (fun j=>A i j*z j)-b i
def msR (R n:Nat) (A:Nat->Nat->Rat) (b w z:Nat->Rat):Rat:=sumQ R fun i=>w i*(resR n A b z i*resR n A b z i)
theorem best_law {R n:Nat} (A:Nat->Nat->Rat) (b w x y:Nat->Rat) (hw:∀i,i<R->0<=w i) (hx:∀r,r<n->sumQ n (fun c=>sumQ R (fun i=>w i*(A i r*A i c))*x c)=sumQ R fun i=>w i*(A i r*b i))
  (hs:¬Sing n (fun r c=>sumQ R fun i=>w i*(A i r*A i c))):msR R n A b w x<=msR R n A b w y/\(msR R n A b w x=msR R n A b w y↔∀j,j<n->x j=y j):=by
 have he:∀i,resR n A b y i=resR n A b x i+sumQ n (fun j=>A i j*(y j-x j)):=fun i=>by
  unfold resR;rw [show sumQ n (fun j=>A i j*(y j-x j))=sumQ n (fun j=>A i j*y j)-sumQ n (fun j=>A i j*x j) by
   rw [<-qkf];exact qbQ fun j _=>by grind]
  grind
 obtain⟨e,H⟩:∃e:Nat->Rat,∀i,sumQ n (fun j=>A i j*(y j-x j))=e i:=⟨_,fun _=>rfl⟩;have F:sumQ R (fun i=>w i*(resR n A b x i*e i))=0:=by
  have U:sumQ R (fun i=>w i*(resR n A b x i*e i))=sumQ R fun i=>sumQ n fun j=>(y j-x j)*(w i*(A i j*resR n A b x i)):=qbQ fun i _=>by
   rw [<-H i,show w i*(resR n A b x i*sumQ n fun j=>A i j*(y j-x j))=(w i*resR n A b x i)*sumQ n fun j=>A i j*(y j-x j) by grind,<-qb1];exact qbQ fun j _=>by grind
  rw [U,qcX];refine qcv _ _ fun j J=>?_
  rw [qb1];have h2:sumQ R (fun i=>w i*(A i j*resR n A b x i))=0:=by
   have h3:=hx j J;have h4:sumQ n (fun c=>sumQ R (fun i=>w i*(A i j*A i c))*x c)=sumQ R fun i=>w i*(A i j*sumQ n fun c=>A i c*x c):=by
    have V:sumQ n (fun c=>sumQ R (fun i=>w i*(A i j*A i c))*x c)=sumQ n fun c=>sumQ R fun i=>x c*(w i*(A i j*A i c)):=qbQ fun c _=>by rw [qb1];grind
    rw [V,qcX];refine qbQ fun i _=>?_
    rw [show w i*(A i j*sumQ n fun c=>A i c*x c)=(w i*A i j)*sumQ n fun c=>A i c*x c by grind,<-qb1];exact qbQ fun c _=>by grind
   rw [h4] at h3;rw [show sumQ R (fun i=>w i*(A i j*resR n A b x i))=sumQ R (fun i=>w i*(A i j*sumQ n fun c=>A i c*x c))-sumQ R (fun i=>w i*(A i j*b i)) by
    rw [<-qkf];refine qbQ fun i _=>?_
    unfold resR;grind,h3]
   grind
  rw [h2];grind
 have O:msR R n A b w y=msR R n A b w x+sumQ R (fun i=>w i*(e i*e i)):=by
  have U:msR R n A b w y=sumQ R fun i=>(w i*(resR n A b x i*resR n A b x i)+2*(w i*(resR n A b x i*e i)))+w i*(e i*e i):=qbQ fun i _=>by
   rw [he i,H i];grind
  rw [U,qc8,qc8,qb1,F];unfold msR;grind
 have G:∀i,i<R->0<=w i*(e i*e i):=fun i I=>Rat.mul_nonneg (hw i I) (qmO _)
 have h0:=qeN G;refine⟨by rw [O];grind,fun hE=>?_,fun hE=>?_⟩
 ·have hz:sumQ R (fun i=>w i*(e i*e i))=0:=by grind
  have Z:=qd6 G hz;have Y:∀i,i<R->w i*e i=0:=fun i I=>by
   have:=Z i I;rcases Rat.mul_eq_zero.1 this with h | h
   ·rw [h];grind
   ·rcases Rat.mul_eq_zero.1 h with h | h <;> rw [h] <;> grind
  intro j J;apply Classical.byContradiction;intro hne;refine hs ⟨fun c=>y c-x c,⟨j,J,fun h=>hne (by grind)⟩,fun r hr=>?_⟩;have V:sumQ n (fun c=>sumQ R (fun i=>w i*(A i r*A i c))*(y c-x c))=sumQ n fun c=>sumQ R fun i=>(y c-x c)*(w i*(A i r*A i c)):=qbQ fun c _=>by rw [qb1];grind
  rw [V,qcX];refine qcv _ _ fun i I=>?_
  have h6:sumQ n (fun c=>(y c-x c)*(w i*(A i r*A i c)))=(w i*A i r)*sumQ n fun c=>A i c*(y c-x c):=by
   rw [<-qb1];exact qbQ fun c _=>by grind
  rw [h6,H i];have:=Y i I;rw [show w i*A i r*e i=A i r*(w i*e i) by grind,this];grind
 ·refine qbQ fun i _=>?_
  have:resR n A b x i=resR n A b y i:=by
   unfold resR;rw [show sumQ n (fun j=>A i j*x j)=sumQ n (fun j=>A i j*y j) from qbQ fun j J=>by rw [hE j J]]
  rw [this]
open Go.RowKit Go.Proofs.Tryz
theorem qml (pt pl pr pc gt ct gl cl k j r c g n:Nat) (a1:Option Addr) (n1 c1:Nat) (b1:Bool) (T:Int) (m:Nat->Int) (K J:Nat) (aB:K+J+J<=274877906944) (w:World)
  (h1:w.cell? ⟨pt,0,none⟩=some (.slice (some ⟨gt,0,none⟩) k ct)) (h2:w.cell? ⟨pl,0,none⟩=some (.slice (some ⟨gl,0,none⟩) k cl)) (h3:w.cell? ⟨pr,0,none⟩=some (.int .i64 r)) (h4:w.cell? ⟨pc,0,none⟩=some (.int .i64 c))
  (h5:w.cell? ⟨gt,j*2,none⟩=some (.slice a1 n1 c1)) (h6:w.cell? ⟨gt,j*2+1,none⟩=some (.bool b1)) (h7:IntAt w (.agg #[.slice a1 n1 c1,.bool b1]) T) (h8:w.cell? ⟨gl,j,none⟩=some (rowv g n)) (h9:qca w g n m)
  (hj:j<k) (_hk:k<=1048576) (hr:r<n) (hc:c<n) (_hn:n<=1048576) (hT:Fit T.natAbs K) (hm:∀i,i<n->Fit (m i).natAbs J) :
  Calls prog 239 #[.int .i64 j,.pointer (some ⟨pt,0,none⟩),.pointer (some ⟨pl,0,none⟩),.pointer (some ⟨pr,0,none⟩),.pointer (some ⟨pc,0,none⟩)] w fun e w'=>∃u,e=.returned u/\Below w.heap.size w w'/\IntAt w' u (T*m r*m c):=by
 obtain⟨H,V⟩:=qY (w.alloc (.cells #[.slice none 0 0,.bool false] 217));have G:Below w.heap.size w H:=V▸qbN qB qN;have aj:H.heap[w.heap.size]? = some (.cells #[.slice none 0 0,.bool false] 217 (0,0)):=by rw [V];exact qM _ _ _ rfl
 have ai:qb8 H w.heap.size 0:=⟨_,_,_,_,aj,_,rfl,MagAt.nil _⟩;obtain⟨a2,n2,c2,b2,p0,p1,i2⟩:=h9.pair hr;obtain⟨a3,n3,c3,b3,q0,q1,i3⟩:=h9.pair hc;have F:∀(p:Addr) (v:Value),w.cell? p=some v->∀W,H.grownBy W (some w.heap.size)->W.cell? p=some v:=fun p v h W hg=>by
  have Z:=qac w _ h;exact (qdL hg (qai Z G.size) (Nat.ne_of_lt Z)).trans ((G.cell Z).trans h)
 have C1:=F _ _ h1;have C2:=F _ _ h2;have C3:=F _ _ h3;have C4:=F _ _ h4;have C5:=F _ _ h5;have C6:=F _ _ h6;have C8:=F _ _ h8;have C9:=F _ _ p0;have ay:=F _ _ p1;have az:=F _ _ q0;have aA:=F _ _ q1;have aD:(j:Int)<k:=by omega
 have aF:(r:Int)<n:=by omega
 have aC:(c:Int)<n:=by omega
 have ak:=qH (fun W (h:Below H.heap.size H W)=>qcp T (m r) K J (by omega) _ _ W (h7.below (G.trans (h.mono G.size))) (i2.below (G.trans (h.mono G.size))) hT (hm r hr));have af:Fit (T*m r).natAbs (K+J):=by rw [qaE];exact hT.mul (hm r hr)
 have au:=qH (fun W u (h:Below H.heap.size H W) (hu:IntAt W u (T*m r))=>qcp (T*m r) (m c) (K+J) J (by omega) u _ W hu (i3.below (G.trans (h.mono G.size))) af (hm c hc));have U:=qH (qA G ai);have ax:Below H.heap.size H H:=Below.refl _ _;have O:Below H.heap.size H H.drew:=ax.drew;clear F h1 h2 h3 h4 h5 h6 h7 h8 h9 p0 p1 q0 q1 i2 i3 af hT hm G aj ai;go_enter func239,ntmps239;go_wp2_with fail;rw [<-V];clear V
 go_region_held3 (fun W=>H.grownBy W (some w.heap.size)) (first | with_reducible exact qcA _ _ | with_reducible exact qbX _ O | with_reducible exact qbX _ Y | with_reducible exact qbX _ I | exact qbR (qbR (qbX _ I) (qbP _ _ _ _)) (qbP _ _ _ _)) (first | (go_at_call_of 153 (Value.agg #[.slice a1 n1 c1,.bool b1]);refine (ak.o _ O).mono ?_;rintro e w5 ⟨u5,rfl,ag,aa⟩;have Y:Below H.heap.size H w5:=bjoin O ag;have av:=qH aa;obtain⟨a5,n5,c5,b5,rfl⟩:=qbO aa;clear ag aa) | (go_at_call 153;refine (au.o _ _ Y av.o).mono ?_;rintro e w6 ⟨u6,rfl,ah,ae⟩;have I:Below H.heap.size H w6:=bjoin Y ah;obtain⟨a6,n6,c6,b6,rfl⟩:=qbO ae;obtain⟨_,_,_,_,⟨z0,z1⟩,⟨f0,f1⟩,_⟩:=(U.o.2.below I).cells;have HX:=qH ((U.o.2.below I).row2 ae);clear ah ae))
 all_goals go_wp2_with fail
 all_goals exact qR (v:=.agg #[.slice a6 n6 c6,.bool b6]) (rA_ rfl w.heap.size HX.o.1 underlying217 2) rfl ⟨_,rfl,((U.o.1.trans (I.mono U.o.1.size)).setCell (p:=⟨w.heap.size,0,none⟩) qN _).setCell (p:=⟨w.heap.size,1,none⟩) qN _,HX.o.2⟩
def wnum (wl:List FT) (i:Nat):Nat:=(ival (wl.getD i fd0).1.data.toList).natAbs
def wdn (t:Tbl) (bl wl:List FT) (i:Nat):Nat:=fden (wl.getD i fd0)*flcd (besides t bl i)*flcd (besides t bl i)
def ntop (t:Tbl) (bl wl:List FT) (i:Nat):Nat:=wnum wl i / (wnum wl i).gcd (wdn t bl wl i)
def nden (t:Tbl) (bl wl:List FT) (i:Nat):Nat:=wdn t bl wl i / (wnum wl i).gcd (wdn t bl wl i)
def nkeep (wl:List FT):Nat->List Nat
 | 0=>[]
 | i+1=>if wnum wl i=0 then nkeep wl i else nkeep wl i++[i]
theorem qfc (wl:List FT):∀i,(nkeep wl i).length<=i/\∀x∈nkeep wl i,x<i/\wnum wl x≠0
 | 0=>⟨qaf _,fun x F=>by cases F⟩
 | i+1=>by
  obtain⟨H,G⟩:=qfc wl i
  by_cases e:wnum wl i=0
  ·simp only [nkeep,if_pos e];exact⟨by omega,fun x F=>⟨by have:=(G x F).1;omega,(G x F).2⟩⟩
  ·simp only [nkeep,if_neg e];refine⟨by rw [qae,qaC];omega,fun x F=>?_⟩;rcases qaH.1 F with h | h
   ·exact⟨by have:=(G x h).1;omega,(G x h).2⟩
   ·rw [qao.1 h];exact⟨by omega,e⟩
theorem qlR (wl:List FT) {i:Nat} (h:wnum wl i≠0):∀R,i<R->(nkeep wl R).getD (nkeep wl i).length 0=i/\(nkeep wl i).length<(nkeep wl R).length
 | 0,hi=>absurd hi (by omega)
 | R+1,hi=>by
  by_cases e:i=R
  ·subst e;simp only [nkeep,if_neg h];refine⟨?_,by rw [qae,qaC];omega⟩;rw [qab,qar qN,qaK];rfl
  ·obtain⟨G,H⟩:=qlR wl h R (by omega)
   by_cases F:wnum wl R=0
   ·simp only [nkeep,if_pos F];exact⟨G,H⟩
   ·simp only [nkeep,if_neg F];refine⟨?_,by rw [qae];omega⟩;rw [qab,qav H,<-qab];exact G
theorem qfA {S:List Nat} {x p:Nat} (F:p<S.length):(S++[x]).getD p 0=S.getD p 0:=by
 rw [qab,qav F,<-qab]
theorem qfz {S:List Nat} {x:Nat}:(S++[x]).getD S.length 0=x:=by
 rw [qab,qar qN,qaK];rfl
theorem qcm {S:List Nat} {p:Nat} (F:p<S.length):S.getD p 0∈S:=by
 rw [qab,qad F];exact qbx F
structure NRow (t:Tbl) (bl wl:List FT) (i:Nat):Prop where
 fa:FAll (besides t bl i)
 len:(besides t bl i).length<=11
 wd:0<fden (wl.getD i fd0)/\Fit (fden (wl.getD i fd0)) 67
 wn:Fit (wnum wl i) 67
 nn:0<=ival (wl.getD i fd0).1.data.toList
theorem NRow.below {t:Tbl} {bl wl:List FT} {i:Nat} (h:NRow t bl wl i):0<flcd (besides t bl i)/\Fit (flcd (besides t bl i)) 738:=⟨qjI h.fa,(qeY h.fa h.len).mono (by omega)⟩
theorem NRow.d {t:Tbl} {bl wl:List FT} {i:Nat} (h:NRow t bl wl i):0<wdn t bl wl i/\Fit (wdn t bl wl i) 1543 :=
 ⟨qbM (qbM h.wd.1 h.below.1) h.below.1,((h.wd.2.mul h.below.2).mul h.below.2).mono (by omega)⟩
theorem NRow.g {t:Tbl} {bl wl:List FT} {i:Nat} (h:NRow t bl wl i):0<(wnum wl i).gcd (wdn t bl wl i)/\Fit ((wnum wl i).gcd (wdn t bl wl i)) 1543 :=
 ⟨qa8 _ h.d.1,h.d.2.le (qbG h.d.1 (qaS _ _))⟩
theorem NRow.den {t:Tbl} {bl wl:List FT} {i:Nat} (h:NRow t bl wl i):0<nden t bl wl i/\Fit (nden t bl wl i) 1543 :=
 ⟨Nat.div_pos (qbG h.d.1 (qaS _ _)) h.g.1,h.d.2.le (qaN _ _)⟩
theorem NRow.top {t:Tbl} {bl wl:List FT} {i:Nat} (h:NRow t bl wl i):Fit (ntop t bl wl i) 67:=h.wn.le (qaN _ _)
theorem NRow.val {t:Tbl} {bl wl:List FT} {i:Nat} (h:NRow t bl wl i):(ntop t bl wl i:Rat)*((flcd (besides t bl i):Nat):Rat)*((flcd (besides t bl i):Nat):Rat)=lval wl i*(nden t bl wl i:Rat):=by
 have hg:=h.g.1;obtain⟨a,J⟩:=qbK (wnum wl i) (wdn t bl wl i);obtain⟨b,O⟩:=qaS (wnum wl i) (wdn t bl wl i);have U:ntop t bl wl i=a:=by unfold ntop;(conv=>lhs;lhs;rw [J]);exact qaP _ hg
 have V:nden t bl wl i=b:=by unfold nden;(conv=>lhs;lhs;rw [O]);exact qaP _ hg
 rw [U,V];have hl:lval wl i=(wnum wl i:Rat) / ((fden (wl.getD i fd0):Nat):Rat):=by
  unfold lval;rw [qhw]
  congr 1
  have:(ival (wl.getD i fd0).1.data.toList:Int)=(wnum wl i:Int):=by have:=h.nn;unfold wnum;omega
  rw [this];rfl
 have aa:((fden (wl.getD i fd0):Nat):Rat)≠0:=by have:=qbh h.wd.1;exact_mod_cast this
 have Y:((wdn t bl wl i:Nat):Rat)=(fden (wl.getD i fd0):Rat)*(flcd (besides t bl i):Rat)*(flcd (besides t bl i):Rat):=by unfold wdn;push_cast;rfl
 have I:(wnum wl i:Rat)=((wnum wl i).gcd (wdn t bl wl i):Rat)*a:=by exact_mod_cast J
 have H:((wdn t bl wl i:Nat):Rat)=((wnum wl i).gcd (wdn t bl wl i):Rat)*b:=by exact_mod_cast O
 have Z:(((wnum wl i).gcd (wdn t bl wl i):Nat):Rat)≠0:=by have:=qbh hg;exact_mod_cast this
 rw [hl];generalize (((wnum wl i).gcd (wdn t bl wl i):Nat):Rat)=G at *;generalize ((flcd (besides t bl i):Nat):Rat)=F at *;generalize ((fden (wl.getD i fd0):Nat):Rat)=E at *;rw [Y] at H;rw [I];have:E*F*F=G*b:=H
 grind
def nall (t:Tbl) (bl wl:List FT) (S:List Nat):Nat:=lcms (S.map (nden t bl wl))
def nfac (t:Tbl) (bl wl:List FT) (S:List Nat) (i:Nat):Int:=(ntop t bl wl i:Int)*((nall t bl wl S / nden t bl wl i:Nat):Int)
def nterm (t:Tbl) (bl wl:List FT) (S:List Nat) (r c i:Nat):Int:=nfac t bl wl S i*ftop (besides t bl i) r*ftop (besides t bl i) c
theorem mapD {S:List Nat} {f:Nat->Nat} {p:Nat} (F:p<S.length):(S.map f).getD p 0=f (S.getD p 0):=by
 rw [qab,qaL,qab,qad F];rfl
theorem nall_pos {t:Tbl} {bl wl:List FT} {S:List Nat} (h:∀x∈S,NRow t bl wl x):0<nall t bl wl S:=by
 have:=qe7 (S.map (nden t bl wl)) (fun k F=>by rw [qay] at F;rw [mapD F];exact (h _ (qcm F)).den.1) (S.map (nden t bl wl)).length qN
 rwa [qbd] at this
theorem qhG {t:Tbl} {bl wl:List FT} {S:List Nat} (h:∀x∈S,NRow t bl wl x) (hS:S.length<=40):Fit (nall t bl wl S) 61721:=by
 have:=qe6 (S.map (nden t bl wl)) 1543 (fun k F=>by rw [qay] at F;rw [mapD F];exact (h _ (qcm F)).den) (S.map (nden t bl wl)).length qN;rw [qbd] at this;refine Fit.mono this ?_;rw [qay];omega
theorem nall_dvd {t:Tbl} {bl wl:List FT} {S:List Nat} {p:Nat} (F:p<S.length):nden t bl wl (S.getD p 0)∣nall t bl wl S:=by
 have:=qhA (S.map (nden t bl wl)) (S.map (nden t bl wl)).length p (by rw [qay];exact F) qN;rw [qbd,mapD F] at this;exact this
theorem qj1 {t:Tbl} {bl wl:List FT} {S:List Nat} (h:∀x∈S,NRow t bl wl x) (hS:S.length<=40) {p:Nat} (F:p<S.length):Fit (nfac t bl wl S (S.getD p 0)).natAbs 61788:=by
 unfold nfac;rw [qaE,qaq,qaq];exact ((h _ (qcm F)).top.mul ((qhG h hS).le (qaN _ _))).mono (by omega)
theorem qis {t:Tbl} {bl wl:List FT} {S:List Nat} (h:∀x∈S,NRow t bl wl x) (hS:S.length<=40) {p r c:Nat} (G:p<S.length) (I:r<(besides t bl (S.getD p 0)).length) (H:c<(besides t bl (S.getD p 0)).length):Fit (nterm t bl wl S r c (S.getD p 0)).natAbs 63398:=by
 have F:=h _ (qcm G);unfold nterm;rw [qaE,qaE];exact (((qj1 h hS G).mul (qcS F.fa F.len I)).mul (qcS F.fa F.len H)).mono (by omega)
theorem qmn {t:Tbl} {bl wl:List FT} {S:List Nat} (h:∀x∈S,NRow t bl wl x) {p r c:Nat} (I:p<S.length) (hr:r<(besides t bl (S.getD p 0)).length) (Z:c<(besides t bl (S.getD p 0)).length) :
  ((nterm t bl wl S r c (S.getD p 0):Int):Rat)=(nall t bl wl S:Rat)*(lval wl (S.getD p 0)*(lval (besides t bl (S.getD p 0)) r*lval (besides t bl (S.getD p 0)) c)):=by
 have G:=h _ (qcm I);obtain⟨q,J⟩:=nall_dvd (t:=t) (bl:=bl) (wl:=wl) I;have hd:=G.den.1;have e:nall t bl wl S / nden t bl wl (S.getD p 0)=q:=by rw [J];exact qaP _ hd
 have hv:=G.val;unfold nterm nfac;rw [e];have O:=qeZ G.fa hr;have U:=qeZ G.fa Z
 push_cast
 rw [O,U];have H:(nall t bl wl S:Rat)=(nden t bl wl (S.getD p 0):Rat)*q:=by exact_mod_cast J
 rw [H];generalize ((flcd (besides t bl (S.getD p 0)):Nat):Rat)=F at *;generalize ((nden t bl wl (S.getD p 0):Nat):Rat)=D at *;generalize ((ntop t bl wl (S.getD p 0):Nat):Rat)=T at *;generalize lval wl (S.getD p 0)=L at *;generalize lval (besides t bl (S.getD p 0)) r=X at *;generalize lval (besides t bl (S.getD p 0)) c=Y at *;have V:T*q*(F*X)*(F*Y)=(T*F*F)*q*X*Y:=by grind
 rw [V,hv];grind
def normQ (t:Tbl) (bl wl:List FT) (R:Nat) (r c:Nat):Rat:=sumQ R fun i=>lval wl i*(lval (besides t bl i) r*lval (besides t bl i) c)
theorem qf6 (f:Nat->Int):∀k,((isum f k:Int):Rat)=sumQ k fun p=>((f p:Int):Rat)
 | 0=>rfl
 | k+1=>by
  show ((isum f k+f k:Int):Rat)=sumQ k _+_
  rw [<-qf6 f k];push_cast;rfl
theorem qjT (wl:List FT) (f:Nat->Rat):∀i,(∀x,x<i->wnum wl x=0->f x=0)->sumQ (nkeep wl i).length (fun p=>f ((nkeep wl i).getD p 0))=sumQ i f
 | 0,_=>rfl
 | i+1,h=>by
  have ih:=qjT wl f i fun x G=>h x (by omega)
  show _=sumQ i f+f i
  by_cases e:wnum wl i=0
  ·simp only [nkeep,if_pos e];rw [ih,h i (by omega) e];grind
  ·simp only [nkeep,if_neg e];rw [qae,qaC]
   show sumQ (nkeep wl i).length _+f ((nkeep wl i++[i]).getD (nkeep wl i).length 0)=_
   rw [qfz,<-ih]
   congr 1
   exact qbQ fun p F=>by rw [qfA F]
theorem qif {wl:List FT} {i:Nat} (h:wnum wl i=0):lval wl i=0:=by
 unfold lval;rw [qhw];have:ival (wl.getD i fd0).1.data.toList=0:=by unfold wnum at h;omega
 rw [this,show ((0:Int):Rat)=0 from rfl];grind
theorem norm_sum {t:Tbl} {bl wl:List FT} {R r c:Nat} (h:∀i,i<R->NRow t bl wl i) (I:∀i,i<R->r<(besides t bl i).length/\c<(besides t bl i).length) :
  ((isum (fun p=>nterm t bl wl (nkeep wl R) r c ((nkeep wl R).getD p 0)) (nkeep wl R).length:Int):Rat)=(nall t bl wl (nkeep wl R):Rat)*normQ t bl wl R r c:=by
 have F:=(qfc wl R).2;rw [qf6];have J:sumQ (nkeep wl R).length (fun p=>((nterm t bl wl (nkeep wl R) r c ((nkeep wl R).getD p 0):Int):Rat))=sumQ (nkeep wl R).length (fun p=>(fun i=>(nall t bl wl (nkeep wl R):Rat)*(lval wl i*(lval (besides t bl i) r*lval (besides t bl i) c))) ((nkeep wl R).getD p 0)) :=
  qbQ fun p G=>qmn (fun x H=>h x (F x H).1) G (I _ (F _ (qcm G)).1).1 (I _ (F _ (qcm G)).1).2
 rw [J,qjT wl (fun i=>(nall t bl wl (nkeep wl R):Rat)*(lval wl i*(lval (besides t bl i) r*lval (besides t bl i) c))) R (fun x _ H=>by simp only [qif H];grind),qb1]
 rfl
structure Soft (W W':World) (row:Option Nat):Prop where
 grown:W.grownBy W' row
 nn:∀g,row=some g->∃(cs:Array Value) (t:TypeId) (fz:Nat×Nat),W.heap[g]? = some (.cells cs t fz)/\∀x∈cs.toList,qcr x
theorem Soft.ofBelow {W W':World} (h:Below W.heap.size W W'):Soft W W' none:=⟨⟨h.os,h.tape,h.output,h.size,fun i F _=>h.block i F⟩,fun g e=>by cases e⟩
theorem Soft.ofSet {W:World} {g:Nat} {cs:Array Value} {t:TypeId} {F:Nat×Nat} (h:W.heap[g]? = some (.cells cs t F)) (G:∀x∈cs.toList,qcr x) (j:Nat) (v:Value):Soft W (W.setCell ⟨g,j,none⟩ v) (some g) :=
 ⟨qbP W g j v,fun H e=>by cases e;exact⟨cs,t,F,h,G⟩⟩
theorem Soft.ofRws {W W':World} {base:Nat} {e:TypeId} {F:Nat} {v:Value} {n:Nat} {J:List Value} (h:Rws W base e F v n J) (hg:W.grownBy W' v.ownBlock):Soft W W' v.ownBlock:=by
 refine⟨hg,fun g G=>?_⟩;rcases h.2 with ⟨rfl,_⟩ | ⟨g',cap,cur,rfl,_,H,_,_,_,_,I⟩
 ·cases G
 ·cases G;exact⟨cur,_,_,H,I⟩
section
variable {W W':World} {row:Option Nat}
theorem Soft.mag (s:Soft W W' row) {u:Value} {x:Nat} (F:MagAt W u x):MagAt W' u x:=by
 cases row with
 | none=>exact F.below (qfm s.grown)
 | some g =>
  obtain⟨cs,t,fz,h,G⟩:=s.nn g rfl;exact qcj F s.grown h (qmh G)
theorem Soft.pairs (s:Soft W W' row) {H:List (Value×Bool)} {z:Nat->Int} (G:qcf W H z):qcf W' H z:=fun k F=>⟨(G k F).1,s.mag (G k F).2⟩
theorem Soft.mags (s:Soft W W' row) {G:List Value} {H:List Nat} (F:qdf W G H):qdf W' G H:=⟨F.1,fun k I=>s.mag (F.2 k I)⟩
theorem Soft.introw (s:Soft W W' row) {g m:Nat} {z:Nat->Int} (I:qca W g m z) (hne:row≠some g):qca W' g m z:=by
 obtain⟨ps,G,F,H⟩:=I;exact⟨ps,G,⟨(s.grown.block _ (qG F.1).1 (fun e=>hne e.symm)).trans F.1,F.2⟩,s.pairs H⟩
theorem Soft.blk (s:Soft W W' row) {g:Nat} {o:Obj} (F:W.heap[g]? = some o) (hne:row≠some g):W'.heap[g]? = some o :=
 (s.grown.block _ (qG F).1 (fun e=>hne e.symm)).trans F
theorem Soft.rws (s:Soft W W' row) {base:Nat} {e:TypeId} {F:Nat} {v:Value} {n:Nat} {G:List Value} (h:Rws W base e F v n G) (hne:v.ownBlock=none\/v.ownBlock≠row):Rws W' base e F v n G:=h.kept s.grown hne
theorem Soft.old (s:Soft W W' row) {a:World} {B:Nat} (G:Below B a W) (I:∀k,row=some k->B<=k) (F:B<=W.heap.size):Below B a W' :=
 G.trans ⟨s.grown.os,s.grown.tape,s.grown.output,s.grown.size,fun i H=>s.grown.block i (qai H F) (fun e=>by have:=I i e.symm;omega)⟩
end
theorem Rws.ne_row {w:World} {base:Nat} {e:TypeId} {F:Nat} {v:Value} {n:Nat} {O:List Value} (h:Rws w base e F v n O) {g:Nat} {cs:Array Value} {t:TypeId} {H:Nat×Nat} (J:w.heap[g]? = some (.cells cs t H)) (hne:e≠t):v.ownBlock≠some g:=by
 intro G;rcases h.2 with ⟨rfl,_⟩ | ⟨g',cap,cur,rfl,_,I,_⟩
 ·cases G
 ·cases G;have:=I.symm.trans J;simp at this;exact hne this.2.1
theorem Rws.ne_int {w:World} {base:Nat} {e:TypeId} {F:Nat} {v:Value} {n:Nat} {I:List Value} (h:Rws w base e F v n I) {g m:Nat} {z:Nat->Int} (H:qca w g m z) (hne:e≠217):v.ownBlock≠some g:=by
 obtain⟨ps,_,G,_⟩:=H;exact h.ne_row G.1 hne
theorem Rws.ne_low {w:World} {base:Nat} {e:TypeId} {F:Nat} {v:Value} {n:Nat} {H:List Value} (h:Rws w base e F v n H) {g:Nat} (hg:g<base):v.ownBlock≠some g:=fun G=>by have:=(h.lt g G).1;omega
theorem or_ne {a b:Option Nat} (h:a≠b):a=none\/a≠b:=qak h
theorem qlK (F:List (Value×Bool)):∀(j:Nat) (x:Value×Bool),j<F.length->iflat (F.set j x)=((iflat F).set (j*2) x.1).set (j*2+1) (.bool x.2):=by
 induction F with
 | nil=>intro j x h;exact absurd h (by simp)
 | cons q F ih =>
  intro j x h;cases j with
  | zero=>rfl
  | succ j =>
   have e:∀l,iflat (q :: l)=q.1 :: .bool q.2 :: iflat l:=fun _=>rfl
   rw [List.set_cons_succ,e,e,ih j x (by simpa using h),show (j+1)*2=j*2+1+1 by omega];rfl
structure NSt (W:World) (h0:Nat) (t:Tbl) (bl wl:List FT) (n:Nat) (Sl St Sb:List Nat) (vl vt vb:Value) (gs:Nat->Nat) (ps:List (Value×Bool)) (vs:List Value) (T:Nat->Int):Prop where
 cs:W.heap[h0]? = some (.cells #[zs0] 262 (0,0))
 cl:W.heap[h0+1]? = some (.cells #[vl] 260 (0,0))
 ct:W.heap[h0+1+1]? = some (.cells #[vt] 212 (0,0))
 rl:Rws W (h0+1+1+1) 212 1 vl Sl.length (rowvs Sl.length (n+1) gs)
 rt:Rws W (h0+1+1+1) 217 2 vt St.length (iflat ps)
 rb:Rws W (h0+1+1+1) 213 1 vb Sb.length vs
 rows:∀p,p<Sl.length->qca W (gs p) (n+1) (ftop (besides t bl (Sl.getD p 0)))
 ap:∀p,p<Sl.length->vt.ownBlock≠some (gs p)
 pt:qcf W ps T
 pl:ps.length=St.length
 mb:qdf W vs (Sb.map (nden t bl wl))
section
variable {W:World} {h0:Nat} {t:Tbl} {bl wl:List FT} {n:Nat} {Sl St Sb:List Nat} {vl vt vb:Value} {gs:Nat->Nat} {ps:List (Value×Bool)} {vs:List Value} {T:Nat->Int}
theorem NSt.congrT {T':Nat->Int} (h:NSt W h0 t bl wl n Sl St Sb vl vt vb gs ps vs T) (e:∀p,p<St.length->T p=T' p):NSt W h0 t bl wl n Sl St Sb vl vt vb gs ps vs T' :=
 ⟨h.cs,h.cl,h.ct,h.rl,h.rt,h.rb,h.rows,h.ap,fun k F=>by rw [<-e k (by rw [<-h.pl];exact F)];exact h.pt k F,h.pl,h.mb⟩
theorem NSt.top (h:NSt W h0 t bl wl n Sl St Sb vl vt vb gs ps vs T) {j:Nat} (O:j<St.length):∃(g cap:Nat) (a:Option Addr) (m c:Nat) (b:Bool),vt=.slice (some ⟨g,0,none⟩) St.length cap/\g<W.heap.size/\h0+1+1+1<=g/\W.cell? ⟨g,j*2,none⟩=some (.slice a m c)/\W.cell? ⟨g,j*2+1,none⟩=some (.bool b)/\(∀k,W.frozen? ⟨g,k,none⟩=false)/\IntAt W (.agg #[.slice a m c,.bool b]) (T j):=by
 have J:=h.pl;obtain⟨a,m,c,b,e,I⟩:=qc1 h.pt (k:=j) (by omega);rcases h.rt.2 with ⟨_,e0⟩ | ⟨g,cap,cur,e1,H,hg,_⟩
 ·omega
 ·have G:=h.rt.own.cells (g:=g) (by rw [e1];rfl);obtain⟨d0,d1⟩:=qe2 ps j (.slice a m c,b) (by rw [<-e,qab,qad (by omega)];rfl);have F:=G _ _ d0;have c1:=G _ _ d1;rw [Addr.add_mid,qaM] at F c1;exact⟨g,cap,a,m,c,b,e1,(qG hg).1,H,F,c1,fun k=>qF _ _ _ _ _ hg,I⟩
theorem NSt.below {W':World} (h:NSt W h0 t bl wl n Sl St Sb vl vt vb gs ps vs T) (F:Below W.heap.size W W'):NSt W' h0 t bl wl n Sl St Sb vl vt vb gs ps vs T :=
 have s:=Soft.ofBelow F
 ⟨s.blk h.cs (by simp),s.blk h.cl (by simp),s.blk h.ct (by simp),h.rl.below F,h.rt.below F,h.rb.below F,fun p G=>s.introw (h.rows p G) (by simp),h.ap,s.pairs h.pt,h.pl,s.mags h.mb⟩
theorem qet {v:Value} {base:Nat} {e:TypeId} {F n:Nat} {H:List Value} (h:Rws W base e F v n H):qcr v:=by
 intro k d G;rcases h.2 with ⟨rfl,_⟩ | ⟨g,cap,cur,rfl,_⟩
 ·cases G
 ·cases G
theorem qgj {v:Value} (h:qcr v):∀x∈(#[v]:Array Value).toList,qcr x:=fun x F=>by rw [qao.1 F];exact h
theorem qjo {k n g:Nat} {F:Nat->Nat}:rowvs (k+1) n (fun p=>if p=k then g else F p)=rowvs k n F++[rowv g n]:=by
 unfold rowvs;rw [List.range_succ,qbc]
 congr 1
 ·exact List.map_congr_left fun i G=>by
   have:=qat.1 G;simp only [if_neg (show ¬i=k by omega)]
 ·simp only [List.map_cons,List.map_nil,if_true]
theorem qkU (k n g:Nat) (F:Nat->Nat):rowvs (k+1) n (fun p=>if p=k then g else F p)=rowvs k n F++[rowv g n]:=by
 unfold rowvs;rw [List.range_succ,qbc]
 congr 1
 ·exact List.map_congr_left fun i G=>by
   have:=qat.1 G;simp only [if_neg (show ¬i=k by omega)]
 ·simp only [List.map_cons,List.map_nil,if_true]
theorem NSt.addL (h:NSt W h0 t bl wl n Sl St Sb vl vt vb gs ps vs T) {g i:Nat} (hg:qca W g (n+1) (ftop (besides t bl i))) (hne:vt.ownBlock≠some g) {O:World} {F:Value}
  (hr:Rws O (h0+1+1+1) 212 1 F (Sl.length+1) (rowvs Sl.length (n+1) gs++[rowv g (n+1)])) (Y:W.grownBy O vl.ownBlock) :
  NSt (O.setCell ⟨h0+1,0,none⟩ F) h0 t bl wl n (Sl++[i]) St Sb F vt vb (fun p=>if p=Sl.length then g else gs p) ps vs T:=by
 have H:=Soft.ofRws h.rl Y;have c1:=H.blk h.cl (h.rl.ne_low (by omega));have J:=Soft.ofSet c1 (qgj (qet h.rl)) 0 F;have G:∀{base:Nat} {e:TypeId} {I:Nat} {v:Value} {m:Nat} {xs:List Value},Rws O (h0+1+1+1) e I v m xs->Rws (O.setCell ⟨h0+1,0,none⟩ F) (h0+1+1+1) e I v m xs:=fun r=>J.rws r (or_ne (r.ne_low (by omega)))
 have U:∀{V:Nat} {z:Nat->Int},qca W V (n+1) z->qca (O.setCell ⟨h0+1,0,none⟩ F) V (n+1) z:=fun {V z} r=>by
  have r1:=H.introw r (h.rl.ne_int r (by decide));refine J.introw r1 fun e=>?_
  cases e;obtain⟨ps',_,h2,_⟩:=r1;have:=h2.1.symm.trans c1;simp at this
 refine⟨J.blk (H.blk h.cs (h.rl.ne_low (by omega))) (by simp),?_,J.blk (H.blk h.ct (h.rl.ne_low (by omega))) (by simp),?_,G (base:=0) (H.rws h.rt (h.rt.ne h.rl (by decide))),G (base:=0) (H.rws h.rb (h.rb.ne h.rl (by decide))),fun p Z=>?_,fun p Z=>?_,J.pairs (H.pairs h.pt),h.pl,J.mags (H.mags h.mb)⟩
 ·exact heap_setCell_same _ _ 0 _ _ _ c1
 ·rw [qae,qaC,qkU];exact G (base:=0) hr
 ·rw [qae,qaC] at Z
  by_cases e:p=Sl.length
  ·subst e;simp only [if_true];rw [qfz];exact U hg
  ·simp only [if_neg e];rw [qfA (by omega)];exact U (h.rows p (by omega))
 ·rw [qae,qaC] at Z
  by_cases e:p=Sl.length
  ·subst e;simp only [if_true];exact hne
  ·simp only [if_neg e];exact h.ap p (by omega)
theorem nst_cl (h:NSt W h0 t bl wl n Sl St Sb vl vt vb gs ps vs T) {G:World} (F:W.grownBy G vl.ownBlock):G.cell? ⟨h0+1,0,none⟩=some vl/\G.frozen? ⟨h0+1,0,none⟩=false:=by
 have c1:=(Soft.ofRws h.rl F).blk h.cl (h.rl.ne_low (by omega));exact⟨qC _ _ 0 _ _ _ c1,qF _ _ 0 _ _ c1⟩
theorem nst_soft (h:NSt W h0 t bl wl n Sl St Sb vl vt vb gs ps vs T) {H:World} (G:W.grownBy H vl.ownBlock) (u:Value) :
  (∀v x,MagAt W v x->MagAt (H.setCell ⟨h0+1,0,none⟩ u) v x)/\∀(a:World) (B:Nat),Below B a W->B<=h0+1->B<=W.heap.size->Below B a (H.setCell ⟨h0+1,0,none⟩ u):=by
 have F:=Soft.ofRws h.rl G;have c1:=F.blk h.cl (h.rl.ne_low (by omega));have J:=Soft.ofSet c1 (qgj (qet h.rl)) 0 u;exact⟨fun v x U=>J.mag (F.mag U),fun a B O V I=>J.old (F.old O (fun k e=>by have:=(h.rl.lt k e).1;omega) I) (fun k e=>by have:=qag e;omega) (qaj I F.grown.size)⟩
theorem qmk (h:NSt W h0 t bl wl n Sl St Sb vl vt vb gs ps vs T) {H:World} (G:W.grownBy H vt.ownBlock) (u:Value) :
  (∀v x,MagAt W v x->MagAt (H.setCell ⟨h0+1+1,0,none⟩ u) v x)/\∀(a:World) (B:Nat),Below B a W->B<=h0+1->B<=W.heap.size->Below B a (H.setCell ⟨h0+1+1,0,none⟩ u):=by
 have F:=Soft.ofRws h.rt G;have c1:=F.blk h.ct (h.rt.ne_low (by omega));have J:=Soft.ofSet c1 (qgj (qet h.rt)) 0 u;exact⟨fun v x U=>J.mag (F.mag U),fun a B O V I=>J.old (F.old O (fun k e=>by have:=(h.rt.lt k e).1;omega) I) (fun k e=>by have:=qag e;omega) (qaj I F.grown.size)⟩
theorem nst_ct (h:NSt W h0 t bl wl n Sl St Sb vl vt vb gs ps vs T) {G:World} (F:W.grownBy G vt.ownBlock):G.cell? ⟨h0+1+1,0,none⟩=some vt/\G.frozen? ⟨h0+1+1,0,none⟩=false:=by
 have c1:=(Soft.ofRws h.rt F).blk h.ct (h.rt.ne_low (by omega));exact⟨qC _ _ 0 _ _ _ c1,qF _ _ 0 _ _ c1⟩
theorem NSt.addT (h:NSt W h0 t bl wl n Sl St Sb vl vt vb gs ps vs T) {i:Nat} {m:Value} (hm:MagAt W m (T St.length).natAbs) {O:World} {F:Value}
  (hr:Rws O (h0+1+1+1) 217 2 F (St.length+1) (iflat ps++[m,.bool (decide (T St.length<0))])) (Y:W.grownBy O vt.ownBlock) (ho:F.ownBlock=vt.ownBlock\/F.ownBlock=some W.heap.size) :
  NSt (O.setCell ⟨h0+1+1,0,none⟩ F) h0 t bl wl n Sl (St++[i]) Sb vl F vb gs (ps++[(m,decide (T St.length<0))]) vs T:=by
 have H:=Soft.ofRws h.rt Y;have c1:=H.blk h.ct (h.rt.ne_low (by omega));have I:=Soft.ofSet c1 (qgj (qet h.rt)) 0 F;have G:∀{e:TypeId} {size:Nat} {v:Value} {m:Nat} {Z:List Value},Rws O (h0+1+1+1) e size v m Z->Rws (O.setCell ⟨h0+1+1,0,none⟩ F) (h0+1+1+1) e size v m Z:=fun r=>I.rws r (or_ne (r.ne_low (by omega)))
 refine⟨I.blk (H.blk h.cs (h.rt.ne_low (by omega))) (fun e=>by have:=qag e;omega),I.blk (H.blk h.cl (h.rt.ne_low (by omega))) (fun e=>by have:=qag e;omega),?_,G (H.rws h.rl (h.rl.ne h.rt (by decide))),?_,G (H.rws h.rb (h.rb.ne h.rt (by decide))),fun p J=>?_,fun p J=>?_,?_,?_,I.mags (H.mags h.mb)⟩
 ·exact heap_setCell_same _ _ 0 _ _ _ c1
 ·rw [qae,qaC,qe1];exact G hr
 ·have r1:=H.introw (h.rows p J) (h.ap p J);refine I.introw r1 fun e=>?_
  have V:=qag e;obtain⟨ps',_,U,_⟩:=r1;rw [<-V] at U;have:=U.1.symm.trans c1;simp at this
 ·rcases ho with e | e
  ·rw [e];exact h.ap p J
  ·rw [e];intro V;obtain⟨ps',_,U,_⟩:=h.rows p J;have:=(qG U.1).1;have:=qag V;omega
 ·have:=(I.pairs (H.pairs h.pt)).snoc (v:=m) (by rw [h.pl];exact I.mag (H.mag hm));rw [h.pl] at this;exact this
 ·rw [qae,qae,h.pl];rfl
theorem NSt.addT2 (h:NSt W h0 t bl wl n Sl St Sb vl vt vb gs ps vs T) {i:Nat} {a:Option Addr} {m c:Nat} {b:Bool} {z:Int} (O:z=T St.length) (U:IntAt W (.agg #[.slice a m c,.bool b]) z) {H:World} {F:Value}
  (J:Rws H (h0+1+1+1) 217 2 F (St.length+1) (iflat ps++[.slice a m c,.bool b])) (G:W.grownBy H vt.ownBlock) (V:F.ownBlock=vt.ownBlock\/F.ownBlock=some W.heap.size) :
  NSt (H.setCell ⟨h0+1+1,0,none⟩ F) h0 t bl wl n Sl (St++[i]) Sb vl F vb gs (ps++[(.slice a m c,b)]) vs T:=by
 obtain⟨m',e,I⟩:=U;simp only [qa2,qa4,qaW,Value.bool.injEq] at e;obtain⟨e1,e2,_⟩:=e;rw [<-e1,O] at I;rw [O] at e2;rw [e2] at J ⊢;exact h.addT I J G V
theorem NSt.addB (h:NSt W h0 t bl wl n Sl St Sb vl vt vb gs ps vs T) {i:Nat} {m:Value} (O:MagAt W m (nden t bl wl i)) {I:World} {G:Value}
  (U:Rws I (h0+1+1+1) 213 1 G (Sb.length+1) (vs++[m])) (H:W.grownBy I vb.ownBlock) :
  NSt I h0 t bl wl n Sl St (Sb++[i]) vl vt G gs ps (vs++[m]) T:=by
 have F:=Soft.ofRws h.rb H;refine⟨F.blk h.cs (h.rb.ne_low (by omega)),F.blk h.cl (h.rb.ne_low (by omega)),F.blk h.ct (h.rb.ne_low (by omega)),F.rws h.rl (h.rl.ne h.rb (by decide)),F.rws h.rt (h.rt.ne h.rb (by decide)),?_,fun p J=>F.introw (h.rows p J) (h.rb.ne_int (h.rows p J) (by decide)),h.ap,F.pairs h.pt,h.pl,?_⟩
 ·rw [qae,qaC];exact U
 ·rw [qbc];exact (F.mags h.mb).snoc (F.mag O)
theorem NSt.setSoft {g m cap:Nat} (h:NSt W h0 t bl wl n Sl St Sb vl (.slice (some ⟨g,0,none⟩) m cap) vb gs ps vs T) (j U:Nat) (u V:Value):Soft W ((W.setCell ⟨g,j,none⟩ u).setCell ⟨g,U,none⟩ V) (some g):=by
 rcases h.rt.2 with ⟨e,_⟩ | ⟨G,cap',cur,e,Y,hg,J,H,I,O,F⟩
 ·cases e
 simp only [qbF,Option.some.injEq,Addr.mk.injEq] at e;obtain⟨⟨rfl,_⟩,_,rfl⟩:=e;exact⟨qbR (qbP _ _ _ _) (qbP _ _ _ _),fun G e=>by cases e;exact⟨_,_,_,hg,F⟩⟩
theorem NSt.setT {g cap:Nat} (h:NSt W h0 t bl wl n Sl St Sb vl (.slice (some ⟨g,0,none⟩) St.length cap) vb gs ps vs T) {j:Nat} (hj:j<St.length) {a:Option Addr} {m c:Nat} {b:Bool} {z:Int} (hi:IntAt W (.agg #[.slice a m c,.bool b]) z) :
  NSt ((W.setCell ⟨g,j*2,none⟩ (.slice a m c)).setCell ⟨g,j*2+1,none⟩ (.bool b)) h0 t bl wl n Sl St Sb vl (.slice (some ⟨g,0,none⟩) St.length cap) vb gs (ps.set j (.slice a m c,b)) vs (fun p=>if p=j then z else T p):=by
 obtain⟨hl,Z⟩:=h.rt;rcases Z with ⟨e,_⟩ | ⟨g',cap',cur,e,hB,hg,Y,O,U,aa,I⟩
 ·cases e
 simp only [qbF,Option.some.injEq,Addr.mk.injEq] at e;obtain⟨⟨rfl,_⟩,_,rfl⟩:=e;have V:=heap_setCell_same _ g (j*2+1) _ _ (.bool b) (heap_setCell_same _ g (j*2) _ _ (.slice a m c) hg);have F:Soft W ((W.setCell ⟨g,j*2,none⟩ (.slice a m c)).setCell ⟨g,j*2+1,none⟩ (.bool b)) (some g):=⟨qbR (qbP _ _ _ _) (qbP _ _ _ _),fun g' e=>by cases e;exact⟨_,_,_,hg,I⟩⟩;have ne:∀{x:Nat},x<h0+1+1+1->(some g:Option Nat)≠some x:=fun G e=>by have:=qag e;omega
 have J:=h.pl;refine⟨F.blk h.cs (ne (by omega)),F.blk h.cl (ne (by omega)),F.blk h.ct (ne (by omega)),F.rws h.rl (h.rl.ne h.rt (by decide)),⟨by rw [qdJ,qbb,J],qak ⟨g,cap,_,rfl,hB,V,Y,O,by rw [Array.size_setIfInBounds,Array.size_setIfInBounds];exact U,?_,?_⟩⟩,F.rws h.rb (h.rb.ne h.rt (by decide)),fun p hp=>F.introw (h.rows p hp) (h.ap p hp),h.ap,?_,by rw [qbb];exact J,F.mags h.mb⟩
 ·rw [Array.toList_setIfInBounds,Array.toList_setIfInBounds,List.take_set,List.take_set,aa];exact (qlK ps j (.slice a m c,b) (by omega)).symm
 ·intro x G;rw [Array.toList_setIfInBounds,Array.toList_setIfInBounds] at G;rcases List.mem_or_eq_of_mem_set G with G | rfl
  ·rcases List.mem_or_eq_of_mem_set G with G | rfl
   ·exact I x G
   ·exact fun k d e=>by cases e
  ·exact fun k d e=>by cases e
 ·intro k hk;rw [qbb] at hk
  by_cases e:k=j
  ·subst e;simp only [if_true];rw [qab,List.getElem?_set_self (by omega)];obtain⟨m',e,hm⟩:=hi;simp only [qa2,qa4,qaW,Value.bool.injEq] at e;have H:=F.mag hm;rw [<-e.1] at H;exact⟨e.2.1,H⟩
  ·simp only [if_neg e];rw [qab,List.getElem?_set_ne (fun h=>e h.symm),<-qab];exact F.pairs h.pt k hk
theorem NSt.soft {W':World} {row:Option Nat} (h:NSt W h0 t bl wl n Sl St Sb vl vt vb gs ps vs T) (s:Soft W W' row) (O:∀g,row=some g->h0+1+1+1<=g/\vl.ownBlock≠some g/\vt.ownBlock≠some g/\vb.ownBlock≠some g/\∀p,p<Sl.length->gs p≠g):NSt W' h0 t bl wl n Sl St Sb vl vt vb gs ps vs T:=by
 cases row with
 | none=>exact h.below (qfm s.grown)
 | some g =>
  obtain⟨U,G,H,I,J⟩:=O g rfl;have ne:∀{x:Nat},x<h0+1+1+1->(some g:Option Nat)≠some x:=fun V e=>by have:=qag e;omega
  exact⟨s.blk h.cs (ne (by omega)),s.blk h.cl (ne (by omega)),s.blk h.ct (ne (by omega)),s.rws h.rl (or_ne G),s.rws h.rt (or_ne H),s.rws h.rb (or_ne I),fun p F=>s.introw (h.rows p F) (fun e=>J p F (qag e).symm),h.ap,s.pairs h.pt,h.pl,s.mags h.mb⟩
theorem NSt.lt (h:NSt W h0 t bl wl n Sl St Sb vl vt vb gs ps vs T) {g:Nat} (hg:W.heap.size<=g):h0+1+1+1<=g/\vl.ownBlock≠some g/\vt.ownBlock≠some g/\vb.ownBlock≠some g/\∀p,p<Sl.length->gs p≠g:=by
 have H:=(qG h.ct).1;refine⟨by omega,fun e=>?_,fun e=>?_,fun e=>?_,fun p G e=>?_⟩
 ·have:=(h.rl.lt g e).2;omega
 ·have:=(h.rt.lt g e).2;omega
 ·have:=(h.rb.lt g e).2;omega
 ·obtain⟨ps',_,F,_⟩:=h.rows p G;have:=(qG F.1).1;omega
theorem qmm {k:Nat} {al J:Option Addr} {cl ct:Nat} (hk:Sl.length=k) (h:NSt W h0 t bl wl n Sl Sl Sl (.slice al k cl) (.slice J k ct) vb gs ps vs (fun p=>nfac t bl wl Sl (Sl.getD p 0))) (hS:∀x∈Sl,NRow t bl wl x/\(besides t bl x).length=n+1) (ag:k<=40) {r c p Z U:Nat} (hp:p<k) (aa:r<n+1) (V:c<n+1) (hn:n<=10)
  (cr:W.cell? ⟨Z,0,none⟩=some (.int .i64 r)) (cc:W.cell? ⟨U,0,none⟩=some (.int .i64 c)) :
  Calls prog 239 #[.int .i64 p,.pointer (some ⟨h0+1+1,0,none⟩),.pointer (some ⟨h0+1,0,none⟩),.pointer (some ⟨Z,0,none⟩),.pointer (some ⟨U,0,none⟩)] W fun e w'=>∃u,e=.returned u/\Below W.heap.size W w'/\IntAt w' u (nterm t bl wl Sl r c (Sl.getD p 0)):=by
 have F:p<Sl.length:=by omega
 have H:=hS _ (qcm F);obtain⟨gt,af,a2,m2,d2,b2,et,_,_,t0,t1,_,Y⟩:=h.top F;rw [hk] at et;simp only [qbF,true_and] at et;obtain⟨rfl,rfl⟩:=et;obtain⟨ao,gl,ae,el,I,_⟩:=h.rl.vcells;rw [hk] at el;simp only [qbF,true_and] at el;obtain⟨rfl,rfl⟩:=el;have O:=I.addr (by rw [qcu];omega);subst O;have G:=I.cell p (by rw [qcu];exact F);rw [qaM,qab,qdQ F] at G;exact qml (h0+1+1) (h0+1) Z U gt ct gl cl k p r c (gs p) (n+1) a2 m2 d2 b2 _ _ 61788 4356 (by omega) W (qC _ _ 0 _ _ _ h.ct) (qC _ _ 0 _ _ _ h.cl) cr cc t0 t1 Y G (h.rows p F) hp (by omega) aa V (by omega) (qj1 (fun x hx=>(hS x hx).1) (by omega) F) (fun i hi=>(qcS H.1.fa (m:=63) (by omega) (by omega)).mono (by omega))
end
theorem qix {W:World} {F R k n g:Nat} {G:Nat->Nat} (h:W.heap[F]? = some (.cells (rowvs k n G++List.replicate (R-k) zs0).toArray 212 (0,0))) (I:k<R) :
  (W.setCell ⟨F,k,none⟩ (rowv g n)).heap[F]? = some (.cells (rowvs (k+1) n (fun j=>if j=k then g else G j)++List.replicate (R-(k+1)) zs0).toArray 212 (0,0)):=by
 rw [heap_setCell_same _ F k _ _ _ h]
 congr 3
 obtain⟨m,H⟩:∃m,R-k=m+1:=⟨R-k-1,by omega⟩;rw [qaI,H,qbp,qa6 _ _ (by rw [qcu];exact qaf _),qcu,qaK,qbi,show R-(k+1)=m by omega];rw [qjo,qaB];rfl
theorem qiw {W:World} {H R k n:Nat} {F:Nat->Nat} (h:W.heap[H]? = some (.cells (rowvs k n F++List.replicate (R-k) zs0).toArray 212 (0,0))) {j:Nat} (G:j<k):W.cell? ⟨H,j,none⟩=some (rowv (F j) n):=by
 refine (qC _ _ _ _ _ _ h).trans ?_;rw [qaA,qav (by rw [qcu];exact G),qdQ G]
