import Derived.Test.YtjalhnlhcdfncaaGreatDoorBo29
set_option maxRecDepth 100000
set_option maxHeartbeats 0
namespace Go.Proofs.YtjalhnlhcdfncaaGreatDoor.p4
open Go.RowKit Go.Proofs.Tryz
theorem qmq (x y:Int) (K:Nat) (hK:K<=17592186030000) (v u:Value) (w:World) (hv:qca w v x) (hu:qca w u y) (hx:Fit x.natAbs K) (hy:Fit y.natAbs K) :
  Calls prog 207 #[v,u] w fun e w'=>∃p,e=.returned p/\Below w.heap.size w w'/\qca w' p (x-y):=by
 have H1:=qH fun (W:World) (h:Below w.heap.size w W)=>turn_any y K (by omega) _ W (hu.below h) hy
 have H2:=qH fun (W:World) (z:Value) (h:Below w.heap.size w W) (E:qca W z (-y))=>plus_any x (-y) K hK _ z W (hv.below h) E hx (by rw [qbv];exact hy)
 obtain⟨b,am,nm,cm,rfl⟩:=hv.shape;obtain⟨b',Y,aa,Z,rfl⟩:=hu.shape;clear hv hu hx hy;obtain⟨W1,O,F⟩:=kn3 w #[.bool b,.slice am nm cm] 105 #[.bool b',.slice Y aa Z] 105 #[.bool false,.slice none 0 0] 105;have c0:=rowG (g0:=w.heap.size+1+1) F.o.2.1 0;have c1:=rowG (g0:=w.heap.size+1+1) F.o.2.1 1;have d0:=rowG (g0:=w.heap.size+1+1) F.o.2.2.1 0;have d1:=rowG (g0:=w.heap.size+1+1) F.o.2.2.1 1;go_enter func207,ntmps207;go_wp2_with fail;rw [<-O];clear O;refine wp_region_held_drew (S:=fun W=>W1.grownBy W (some (w.heap.size+1+1))) (by kernel_rfl) (qcl (qcw _ _) qB.drew) (fun hS0=>?_);refine hT 0 (h:=hT 1 (h:=?_));refine hC 2 (H1.o _ F.o.1.drew) (h:=?_);rintro e w2 ⟨z,rfl,U,E⟩;obtain⟨bx,ax,nx,cx,rfl⟩:=E.shape;have V:=F.ond (q:=fun W=>qca W _ _) U E;have I:=qcl hS0 U;refine⟨_,rfl,I,hN (h:=?_)⟩;refine hC 3 (H2.o _ _ V.o.1.1 V.o.2) (h:=?_);rintro e w5 ⟨z,rfl,U,E⟩;obtain⟨bz,az,nz,cz,rfl⟩:=E.shape;rw [<-Int.sub_eq_add_neg] at E;have H:=V.on (q:=fun W=>qca W _ _) U E;have J:=qcl I U;refine⟨_,rfl,J,hN (h:=?_)⟩;refine hSt 4 2 H.o.1.1.2.2.2 (h:=⟨qb5 J (qcn _ _ _),?_⟩);go_wp2_with fail;exact qR (v:=.agg #[.bool bz,.slice az nz cz]) (rA_ rfl (w.heap.size+1+1) (qT _ _ _ _ _ _ H.o.1.1.2.2.2) underlying105 2) rfl ⟨_,rfl,qS H.o.1.1.1 (by omega) _,qcd H.o.2 H.o.1.1.2.2.2 (nd2 _ _ _ _)⟩
def qm5 (w:World) (p:Prop) (e:Ending) (w':World):Prop:=∃k:Int,e=.returned (.int .i64 k)/\(k<0↔p)/\Below w.heap.size w w'
theorem qfi (x y:Int) (K:Nat) (hK:K<=17592186030000) (v u:Value) (w:World) (hv:qca w v x) (hu:qca w u y) (hx:Fit x.natAbs K) (hy:Fit y.natAbs K) :
  Calls prog 140 #[v,u] w fun e w'=>qm5 w (x<y) e w':=by
 have H1:=qH fun (W:World) (h:Below w.heap.size w W)=>qmq x y K hK _ _ W (hv.below h) (hu.below h) hx hy
 obtain⟨b,am,nm,cm,rfl⟩:=hv.shape;obtain⟨b',O,aa,U,rfl⟩:=hu.shape;clear hv hu hx hy;obtain⟨W1,E,N1⟩:=nw2 w #[.bool b,.slice am nm cm] 105 #[.bool b',.slice O aa U] 105;have c0:=qC _ _ 0 _ _ _ N1.o.2.1;have c1:=qC _ _ 1 _ _ _ N1.o.2.1;have d0:=qC _ _ 0 _ _ _ N1.o.2.2;have d1:=qC _ _ 1 _ _ _ N1.o.2.2;go_enter func140,ntmps140;go_upto_region 1 with fail;rw [<-E];clear E;go_wp2_with fail;refine (H1.o W1 N1.o.1).mono ?_;rintro e w2 ⟨z,rfl,hb,hz⟩;have I:Hu ((x-y<0↔x<y)):=qH (by omega);obtain⟨m,rfl,hm⟩:=hz;obtain⟨az,bz,oz,cz,nz,M,rfl,Im,V⟩:=hm;obtain⟨t,Z⟩:=qX (decide (x-y<0));rw [Z];obtain⟨W3,F,N3⟩:=nw1 w2 #[.bool t,.slice az nz cz] 105;have H:=qH ((N1.below hb).below N3.o.1).o.1;have r0:=qC _ _ 0 _ _ _ N3.o.2;have r1:=qC _ _ 1 _ _ _ N3.o.2;have J:=qH Z;clear hb Z Im V c0 c1 d0 d1 N3 N1 H1
 go_upto_region 2 with (first | ((with_reducible refine qcC rfl 105 _ _ rfl #[.bool false,.slice none 0 0] #[.bool t,.slice az nz cz] ?_ ?_ 2 ?_ ?_ ?_ ?_ ?_);(next=>rfl);(next=>rfl);(next=>kernel_rfl);(next=>rfl);(next=>rfl);(next=>rfl)) | fail)
 rw [<-F];clear F;cases t with
 | true =>
  go_wp2;go_ret;exact⟨-1,rfl,⟨fun _=>I.o.1 (of_decide_eq_true J.o),fun _=>by decide⟩,H.o⟩
 | false =>
  by_cases hn:0<nz
  ·have Y:(nz:Int) > 0:=by omega
   go_wp2;go_ret;exact⟨1,rfl,⟨fun h=>absurd h (by decide),fun h=>absurd (I.o.2 h) (of_decide_eq_false J.o)⟩,H.o⟩
  ·have Y:¬(nz:Int) > 0:=by omega
   go_wp2;go_ret;exact⟨0,rfl,⟨fun h=>absurd h (by decide),fun h=>absurd (I.o.2 h) (of_decide_eq_false J.o)⟩,H.o⟩
theorem qgx (p q:Rat) (K J:Nat) (hK:K+J<=17592186000000) (v u:Value) (w:World) (hv:qcv w v p) (hu:qcv w u q) (O:RFit p K) (U:RFit q J) :
  Calls prog 83 #[v,u] w fun e w'=>qm5 w (p<q) e w':=by
 obtain⟨b,am,nm,cm,ao,no,co,rfl,Y,Z⟩:=hv.parts;obtain⟨b',af,ak,ah,ag,no',ai,rfl,aa,ae⟩:=hu.parts;have H1:=qH fun (W:World) (h:Below w.heap.size w W)=>qj6 p.num q.den K J (by omega) _ _ W (Y.below h) (ae.below h) O.1 (by simpa using U.2)
 have H2:=qH fun (W:World) (h:Below w.heap.size w W)=>qj6 q.num p.den J K (by omega) _ _ W (aa.below h) (Z.below h) U.1 (by simpa using O.2)
 have f1:=(O.over U).1;have f2:Fit (q.num*p.den).natAbs (K+J):=by have:=(U.over O).1;rwa [Nat.add_comm] at this
 have H0:=qH fun (W:World) (x y:Value) (hx:qca W x (p.num*q.den)) (hy:qca W y (q.num*p.den))=>qfi _ _ (K+J) (by omega) x y W hx hy f1 f2
 have HL:=qH (Rat.lt_iff p q);clear hv hu O U Y Z aa ae f1 f2;obtain⟨F,V,E⟩:=nw2 w #[.bool b,.slice am nm cm,.bool false,.slice ao no co] 107 #[.bool b',.slice af ak ah,.bool false,.slice ag no' ai] 107;have l0:=(qG E.o.2.1).1;have l1:=(qG E.o.2.2).1;have c0:=rowC (B:=F.heap.size) E.o.2.1 0;have c1:=rowC (B:=F.heap.size) E.o.2.1 1;have c2:=rowC (B:=F.heap.size) E.o.2.1 2;have c3:=rowC (B:=F.heap.size) E.o.2.1 3;have d0:=rowC (B:=F.heap.size) E.o.2.2 0;have d1:=rowC (B:=F.heap.size) E.o.2.2 1;have d2:=rowC (B:=F.heap.size) E.o.2.2 2;have d3:=rowC (B:=F.heap.size) E.o.2.2 3;go_enter func83,ntmps83;go_wp2_with fail;rw [<-V];clear V;refine wp_region_held_drew (S:=fun W=>Below F.heap.size F W) (by kernel_rfl) qB.drew (fun hS0=>?_);refine hT 0 (h:=hT 1 (h:=hT 2 (h:=hT 3 (h:=hT 5 (h:=hT 6 (h:=hT 7 (h:=hT 8 (h:=?_))))))));refine gr [(4,9),(9,14)] [] [0,1,2,3,5,6,7,8] [4,9] [] 10 12 (fl2 [(4,fun x W=>qca W x (p.num*q.den)),(9,fun x W=>qca W x (q.num*p.den))]) _ 2
  (hS:=fun w' h=>qcm h) (hstep:=⟨⟨_,rfl,fun v w2 I hF K hK=>?_⟩,⟨_,rfl,fun v w2 I hF K hK=>?_⟩,trivial⟩) (hend:=fun v w2 I hF _ f=>?_)
 ·exact gC hK (H1.o _ (E.below (qcm I)).o.1) (h:=fun e w3 ⟨u,e1,h1,h2⟩=>⟨u,e1,h2,h1⟩)
 ·exact gC hK (H2.o _ (E.below (qcm I)).o.1) (h:=fun e w3 ⟨u,e1,h1,h2⟩=>⟨u,e1,h2,h1⟩)
 have h4:qca w2 (v 4) _:=hF 4 (by decide) (by decide);have h9:qca w2 (v 9) _:=hF 9 (by decide) (by decide);refine hC 10 (H0.o _ _ _ h4 h9) (h:=?_);rintro e w5 ⟨k,rfl,hk,aj⟩;have H:=(qcm I).trans (aj.mono I.size);refine⟨_,rfl,H,hN (h:=?_)⟩;refine hT 11 (hS:=H) (h:=?_);refine wpAnyH_done (by kernel_rfl) ?_ _;go_wp2;go_ret;exact⟨k,rfl,hk.trans HL.o.symm,E.o.1.trans (H.mono E.o.1.size)⟩
instance stays_ints {B:Nat} {v:Value} {l:List Int}:Stays fun W=>IOwn W B v l:=⟨fun h E=>h.below E⟩
theorem qjL {W:World} {B gt:Nat} {v:Value} {l:List Int} {cs:Array Value} {E:Nat×Nat} (h:IOwn W B v l) (hg:W.heap[gt]? = some (.cells cs 4 E)):v.ownBlock=none\/v.ownBlock≠some gt:=by
 rcases h.2 with ⟨rfl,_⟩ | ⟨g,cap,cur,rfl,_,F,_⟩
 ·exact .inl rfl
 ·refine .inr fun e=>?_
  have e:g=gt:=qag e;subst e;rw [F] at hg;injection qag hg with _ e2;exact absurd e2 (by decide)
theorem own_old {w w':World} {B:Nat} {v I:Value} {l:List Int} (h:IOwn w B v l) (E:I.ownBlock=v.ownBlock/\w.grownBy w' v.ownBlock\/I.ownBlock=some w.heap.size/\w.grownBy w' none) (hB:B<=w.heap.size):Below B w w':=by
 rcases E with ⟨_,E⟩ | ⟨_,E⟩
 ·refine⟨E.os,E.tape,E.output,E.size,fun i H=>E.block i (qai H hB) fun e=>?_⟩;rcases h.2 with ⟨rfl,_⟩ | ⟨g,cap,cur,rfl,hg,_⟩
  ·cases e
  ·first
   | (have F:some i=some g:=e;have:=qag F;omega)
   | (have F:some g=some i:=e;have:=qag F;omega)
 ·exact⟨E.os,E.tape,E.output,E.size,fun i H=>E.block i (qai H hB) fun e=>by cases e⟩
theorem qhU {V:Array Oper} {rest:List Oper} {o:Oper} {a:Act} {w:World} {Q:Exit->Act->World->Prop} (aa:o.guard=none) (s x:Operand)
  (ho:o.op=.call { callee:=.builtin .append,args:=#[s,x],argTypes:=#[30,30] }) {B:Nat} {v:Value} {l:List Int} {z:Int}
  (U:IOwn w B v l) (hB:B<=w.heap.size) (hs:a.eval s=v) {g:Nat} (hx:a.eval x=.slice (some ⟨g,0,none⟩) 1 1) (ae:g=w.heap.size) (hn:l.length<1000000)
  (h:∀Y w',IOwn w' B Y (l++[z])->(∀(gt:Nat) (cs:Array Value) (Z:Nat×Nat),w.heap[gt]? = some (.cells cs 4 Z)->w'.heap[gt]? = some (.cells cs 4 Z))->Below B w w'->wpList prog V Q rest (a.put o.dst Y) w') :
  wpList prog V Q (o :: rest) a (w.alloc (.cells #[.int .i64 z] 3)):=by
 subst ae;have E:Below w.heap.size w (w.alloc (.cells #[.int .i64 z] 3)):=qb4 qB qN;have hF:NCells (w.alloc (.cells #[.int .i64 z] 3)) (some ⟨w.heap.size,0,none⟩) w.heap.size 0 [z]:=⟨fun _=>rfl,fun k J=>by
  obtain rfl:k=0:=by simpa using J
  exact qC _ _ 0 _ _ _ (heap_alloc_new w (.cells #[.int .i64 z] 3))⟩
 have H:=U.below E;have I:B<=(w.alloc (.cells #[.int .i64 z] 3)).heap.size:=qak hB E.size;obtain⟨Y,w',hr,h1,h2⟩:=run_ints (c:=1) (m:=1) o.type H I hF rfl (by decide) (by omega);refine qdn aa s x ho hs hx hr (h Y w' h1 (fun gt cs Z hg=>?_) ((E.mono hB).trans (own_old H h2 I)));have F:=(E.block gt (qG hg).1).trans hg;have O:=(qG F).1;rcases h2 with ⟨_,J⟩ | ⟨_,J⟩
 ·refine (J.block gt O fun e=>?_).trans F;rcases qjL H F with e2 | e2
  ·rw [e2] at e;cases e
  ·first | exact e2 e | exact e2 e.symm
 ·exact (J.block gt O fun e=>by cases e).trans F
theorem QList.sl {W:World} {B:Nat} {v:Value} {n:Nat} {f:Nat->Rat} (h:QList W B v n f):∃E cap,v=.slice E n cap/\(0<n->∃g,E=some ⟨g,0,none⟩/\QRow W g n f):=by
 rcases qaN n with h0 | h0
 ·obtain⟨L,_,F,_⟩:=h;rcases F.2 with ⟨rfl,H⟩ | ⟨g,cap,cur,rfl,_⟩
  ·exact⟨none,0,by rw [h0],fun h=>by omega⟩
  ·exact⟨_,cap,rfl,fun h=>by omega⟩
 ·obtain⟨g,cap,rfl,_,_,hr⟩:=h.row h0;exact⟨_,cap,rfl,fun _=>⟨g,rfl,hr⟩⟩
def slLen:Value->Nat
 | .slice _ n _=>n
 | _=>0
theorem qjE (d:List Nat) (x:Nat):natI (d++[x])=natI d++[(x:Int)]:=by unfold natI;rw [qbh];rfl
theorem qmw {f:Nat->Rat} {n t:Nat} (h:t<n):(qce f n).take (t+1)=(qce f n).take t++[orF f n t]:=by
 rw [qbw,qhx h];rfl
theorem qkN (n:Nat) (f:Nat->Rat) (K B:Nat) (v:Value) (w:World) (hn:n<=1000) (hK:K+K<=17592186000000) (hQ:QList w B v n f) (hf:∀i,i<n->RFit (f i) K) :
  Calls prog 42 #[v] w fun e w'=>∃v',e=.returned v'/\IOwn w' w.heap.size v' (natI (qce f n))/\Below w.heap.size w w':=by
 obtain⟨ao,cap,rfl,ag⟩:=hQ.sl;have aH:=fun W=>make_bs n hn W
 obtain⟨W1,ax,N1⟩:=nw1 w (madeCells #[.bool false] n) 4;have H1:Hu (Below w.heap.size w W1/\W1.heap[w.heap.size]? = some (.cells (seenL f n 0).toArray 4 (0,0))):=qH ⟨N1.o.1,by rw [<-qoT];exact N1.o.2⟩;have HR:=qH ag;have HF:=qH hf;clear hQ ag hf N1;go_enter func42,ntmps42;go_upto_region 2 with fail;rw [<-ax];clear ax aH;go_wp2_with fail
 go_loopw [4,5,6] (fun x4 x5 x6 W=>∃(t:Nat) (a4:Option Addr) (c4:Nat),x4=.slice a4 t c4/\t<=n/\Kn (fun W=>Below w.heap.size w W/\IOwn W w.heap.size (.slice a4 t c4) (natI ((qce f n).take t))) W/\Hu (W.heap[w.heap.size]? = some (.cells (seenL f n t).toArray 4 (0,0)))) (fun x4 _ _ _=>n-slLen x4)
 case atStart=>exact⟨0,none,0,rfl,qaj _,.of ⟨H1.o.1,by show IOwn W1 _ _ [];exact⟨by simp,qaw ⟨rfl,rfl⟩⟩⟩,qH H1.o.2⟩
 case round =>
  obtain⟨t,a4,c4,rfl,ht,K1,av⟩:=hrel
  by_cases O:t<n
  case neg =>
   obtain rfl:t=n:=by omega
   have aA:¬(t:Int)<(t:Int):=by omega
   have HE:=qH K1.o;rw [qah (by rw [qcr];exact qad _)] at HE;go_wp2;go_ret;exact⟨_,rfl,HE.o.2,HE.o.1⟩
  have aK:(t:Int)<(n:Int):=by omega
  obtain⟨wo,aI⟩:=qY wr;subst aI;obtain⟨g,aF,aC⟩:=HR.o (by omega);subst aF;have aD:=qH (aC.below K1.o.1);clear aC;go_wp2_with fail
  go_loopw [5,6] (fun x5 x6 W=>∃(i:Nat) (k:Int),x5=.int .i64 k/\x6=.int .i64 (i:Int)/\i<=n/\Hu (qdz f n t i k)/\Kn (fun W=>Below wo.heap.size wo W) W) (fun _ x6 _=>n-(intOf x6).toNat)
  case atStart=>exact⟨0,-1,rfl,rfl,qaj _,qH (qdz.start _ _ _),.of qB⟩
  case round =>
   obtain⟨i,k,rfl,rfl,hi,HS,K2⟩:=hrel;have V:=qH ((K2.o.block _ (qG av.o).1).trans av.o)
   by_cases J:i<n
   case neg =>
    obtain rfl:n=i:=by omega
    have aA:¬(n:Int)<(n:Int):=by omega
    obtain rfl:=HS.o.done O;obtain⟨x,hx⟩:=qX (orF f n t);have aM:x<n:=by rw [<-hx];exact qim O
    have aL:(x:Int)<(n:Int):=by omega
    have c2:=(qC _ _ x _ _ _ V.o).trans (show (seenL f n t).toArray[x]? = some (.bool false) by rw [qaz,<-hx];exact seenL_at O);have f2:=qF _ _ x _ _ V.o;obtain⟨W6,ah⟩:∃W,W=wr.setCell ⟨w.heap.size,x,none⟩ (.bool true):=⟨_,rfl⟩;have K3:=K1.below K2.o;have HW:Hu (Below w.heap.size w W6/\IOwn W6 w.heap.size (.slice a4 t c4) (natI ((qce f n).take t))/\W6.heap[w.heap.size]? = some (.cells (seenL f n (t+1)).toArray 4 (0,0))):=qH (by
     have hk:=qb7 wr w.heap.size x (.bool true);rw [ah];refine⟨qc7 K3.o.1 hk qN,?_,?_⟩
     ·have h:=K3.o.2;have h2:=qjL h V.o;unfold IOwn at h ⊢;exact h.kept hk h2
     ·have h:=heap_setCell_same wr w.heap.size x _ _ (.bool true) V.o;have e:(seenL f n t).set x (.bool true)=seenL f n (t+1):=by rw [<-hx];exact qoS O
      rw [qaQ,e] at h;exact h)
    have af:(natI ((qce f n).take t)).length<1000000:=by rw [qcB,qao];omega
    have HL:=qH af;have U:=qH hx;rw [hx];clear hx af HS;go_upto_region 11 with fail;rw [<-ah];clear ah c2 f2
    go_wp2_with (first | (at_builtin;refine qhU rfl _ _ rfl HW.o.2.1 HW.o.1.size rfl rfl rfl HL.o ?_;intro v' w' h1 h2 h3;have HV:=qH (qA h1 (qA h2 h3));clear h1 h2 h3) | fail)
    have HN:Hu ((∃a5 c5,v'=.slice a5 (t+1) c5)/\IOwn w' w.heap.size v' (natI ((qce f n).take (t+1)))):=qH (by
     have h:=HV.o.1;rw [<-qjE,<-U.o,<-qmw O] at h;refine⟨?_,h⟩;unfold IOwn at h;obtain⟨a5,c5,e⟩:=qhB h;exact⟨a5,c5,by rw [e,qcB,qao,qcr,qaS O]⟩)
    obtain⟨a5,c5,rfl⟩:=HN.o.1;go_roundw
    case rel=>exact⟨t+1,a5,c5,rfl,O,.of ⟨HW.o.1.trans HV.o.2.2,HN.o.2⟩,qH (HV.o.2.1 _ _ _ HW.o.2.2)⟩
    case measure=>show n-(t+1)<n-t;omega
   have aA:(i:Int)<(n:Int):=by omega
   have aa:=(qG V.o).1;have E:=fun (W:World) (I:Below wr.heap.size wr W)=>(qC _ _ i _ _ _ ((I.block _ aa).trans V.o)).trans (show (seenL f n t).toArray[i]? = some (.bool (decide (i∈(qce f n).take t))) by rw [qaz];exact qeZ J)
   by_cases F:i∈(qce f n).take t
   ·rw [qV F] at E;have U:=qH (qA (HS.o.skip F) K2.o.drew);clear F aa;go_wp2_with fail;refine wp_region_held_drew (S:=fun W=>Below wr.heap.size wr W) (by kernel_rfl) qB.drew (fun hS0=>?_);refine hT 0 (h:=hT 1 (h:=hT 2 (h:=hT 3 (h:=hT 4 (h:=hT 5 (h:=hU 6 (h:=hU 7 (h:=hU 8 (h:=hU 9 (h:=hU 10 (h:=hU 11 (h:=hU 12 (h:=hU 13 (h:=hU 14 (h:=hU 15 (h:=hU 16 (h:=hU 17 (h:=hU 18 (h:=hU 19 (h:=hT 20 (h:=?_)))))))))))))))))))));refine wpAnyH_done (by kernel_rfl) ?_ _;clear E hS0;go_wp2;go_roundw
    case rel=>exact⟨i+1,k,rfl,by go_num,J,qH U.o.1,.of U.o.2⟩
    case measure=>simp [intOf];omega
   rw [qU F] at E
   by_cases hk:k<0
   ·obtain rfl:k = -1:=by
     rcases HS.o with ⟨h,_⟩ | ⟨c,h,_⟩
     ·exact h
     ·omega
    have U:=qH (qA (HS.o.first F) K2.o.drew);clear F hk aa;go_wp2_with fail;refine wp_region_held_drew (S:=fun W=>Below wr.heap.size wr W) (by kernel_rfl) qB.drew (fun hS0=>?_);refine hT 0 (h:=hT 1 (h:=hT 2 (h:=hT 3 (h:=hT 4 (h:=hT 5 (h:=hT 6 (h:=hT 7 (h:=hT 8 (h:=hU 9 (h:=hU 10 (h:=hU 11 (h:=hU 12 (h:=hU 13 (h:=hU 14 (h:=hU 15 (h:=hU 16 (h:=hU 17 (h:=hU 18 (h:=hT 19 (h:=hT 20 (h:=?_)))))))))))))))))))));refine wpAnyH_done (by kernel_rfl) ?_ _;clear E hS0;go_wp2;go_roundw
    case rel=>exact⟨i+1,(i:Int),rfl,by go_num,J,qH U.o.1,.of U.o.2⟩
    case measure=>simp [intOf];omega
   obtain⟨c,rfl,aG⟩:∃c:Nat,k=(c:Int)/\c<i:=by
    rcases HS.o with ⟨h,_⟩ | ⟨c,h,h2,_⟩
    ·omega
    ·exact⟨c,h,h2⟩
   have ay:c<n:=by omega
   have aJ:(c:Int)<(n:Int):=by omega
   obtain⟨cur,q,az,_,hq⟩:=aD.o.below K2.o;obtain⟨Z,ak⟩:=hq i J;obtain⟨Y,aj⟩:=hq c ay;obtain⟨u,hu⟩:=qX (q i);obtain⟨y,hy⟩:=qX (q c);rw [hu] at Z ak;rw [hy] at Y aj;have ar:=fun (j:Nat) (W:World) (I:Below wr.heap.size wr W)=>qC _ _ j _ _ _ (zkeep I _ _ az)
   have p0:=fun (W:World) (I:Below wr.heap.size wr W)=>(ar (i*4) W I).trans (show cur[i*4]? = some (.bool u.1) from Z 0 (by decide))
   have p1:=fun (W:World) (I:Below wr.heap.size wr W)=>(ar (i*4+1) W I).trans (show cur[i*4+1]? = some (.slice u.2.1.1 u.2.1.2.1 u.2.1.2.2) from Z 1 (by decide))
   have p2:=fun (W:World) (I:Below wr.heap.size wr W)=>(ar (i*4+2) W I).trans (show cur[i*4+2]? = some (.bool false) from Z 2 (by decide))
   have p3:=fun (W:World) (I:Below wr.heap.size wr W)=>(ar (i*4+3) W I).trans (show cur[i*4+3]? = some (.slice u.2.2.1 u.2.2.2.1 u.2.2.2.2) from Z 3 (by decide))
   have q0:=fun (W:World) (I:Below wr.heap.size wr W)=>(ar (c*4) W I).trans (show cur[c*4]? = some (.bool y.1) from Y 0 (by decide))
   have q1:=fun (W:World) (I:Below wr.heap.size wr W)=>(ar (c*4+1) W I).trans (show cur[c*4+1]? = some (.slice y.2.1.1 y.2.1.2.1 y.2.1.2.2) from Y 1 (by decide))
   have q2:=fun (W:World) (I:Below wr.heap.size wr W)=>(ar (c*4+2) W I).trans (show cur[c*4+2]? = some (.bool false) from Y 2 (by decide))
   have q3:=fun (W:World) (I:Below wr.heap.size wr W)=>(ar (c*4+3) W I).trans (show cur[c*4+3]? = some (.slice y.2.2.1 y.2.2.2.1 y.2.2.2.2) from Y 3 (by decide))
   have HO:=qH (qgx (f i) (f c) K K hK (qagg u) (qagg y) wr.drew (ak.below qB.drew) (aj.below qB.drew) (HF.o i J) (HF.o c ay));have HM:=qH F;clear ar Z Y ak aj hu hy hq az F aa aG;go_wp2_with fail;refine wp_region_held_drew (S:=fun W=>Below wr.heap.size wr W) (by kernel_rfl) qB.drew (fun hS0=>?_);refine hT 0 (h:=hT 1 (h:=hT 2 (h:=hT 3 (h:=hT 4 (h:=hT 5 (h:=hT 6 (h:=hT 7 (h:=hT 8 (h:=hT 9 (h:=hT 10 (h:=hT 11 (h:=hT 12 (h:=hT 13 (h:=hT 14 (h:=hT 15 (h:=hT 16 (h:=?_)))))))))))))))));refine hC 17 HO.o (h:=?_);rintro e w7 ⟨k,rfl,aB,ai⟩;have H:=qcm ai;refine⟨_,rfl,H,hN (h:=?_)⟩;have au:=qH aB;clear aB HO
   by_cases ae:k<0
   ·have U:=qH (qA (HS.o.less HM.o (au.o.1 ae)) (K2.o.trans (H.mono K2.o.size)));refine hT 18 (hS:=H) (h:=hT 19 (hS:=H) (h:=hT 20 (hS:=H) (h:=?_)));refine wpAnyH_done (by kernel_rfl) ?_ _;clear E hS0 H ai p0 p1 p2 p3 q0 q1 q2 q3 ae;go_wp2;go_roundw
    case rel=>exact⟨i+1,(i:Int),rfl,by go_num,J,qH U.o.1,.of U.o.2⟩
    case measure=>simp [intOf];omega
   ·have U:=qH (qA (HS.o.more (fun h=>ae (au.o.2 h))) (K2.o.trans (H.mono K2.o.size)));refine hT 18 (hS:=H) (h:=hT 19 (hS:=H) (h:=hT 20 (hS:=H) (h:=?_)));refine wpAnyH_done (by kernel_rfl) ?_ _;clear E hS0 H ai p0 p1 p2 p3 q0 q1 q2 q3 ae;go_wp2;go_roundw
    case rel=>exact⟨i+1,(c:Int),rfl,by go_num,J,qH U.o.1,.of U.o.2⟩
    case measure=>simp [intOf];omega
theorem qmG (n m:Nat) (f:Nat->Rat) (ao:Option Addr) (b off c:Nat) (w:World) (hn:n<=1000) (hm:m<=n) (hN:NCells w ao b off (natI (qce f n))) :
  Calls prog 45 #[.slice ao n c,.int .i64 (m:Int)] w fun e w'=>∃Y,e=.returned Y/\IOwn w' w.heap.size Y (natI (bestL f n m))/\Below w.heap.size w w':=by
 have HN:=qH hN;clear hN;go_enter func45,ntmps45;go_wp2_with fail
 go_loopw [5,6,7] (fun x5 x6 x7 W=>∃i:Nat,x6=.int .i64 (i:Int)/\i<=n/\Kn (fun W=>Below w.heap.size w W/\IOwn W w.heap.size x5 (natI (riseL f n m i))) W) (fun _ x6 _ _=>n-(intOf x6).toNat)
 case atStart=>exact⟨0,rfl,qaj _,.of ⟨Below.refl _ _,by show IOwn w _ _ [];exact⟨by simp,qaw ⟨rfl,rfl⟩⟩⟩⟩
 case round =>
  obtain⟨i,rfl,hi,Z⟩:=hrel
  by_cases af:i<n
  case neg =>
   obtain rfl:n=i:=by omega
   have ae:¬(n:Int)<(n:Int):=by omega
   have J:=qH Z.o;rw [qmD] at J;go_wp2;go_ret;exact⟨_,rfl,J.o.2,J.o.1⟩
  have ae:(i:Int)<(n:Int):=by omega
  have K2:Kn (fun W=>Below w.heap.size w W/\IOwn W w.heap.size u5 (natI (riseL f n m i++if i∈(qce f n).take 0 then [i] else []))) wr:=.of ⟨Z.o.1,by
   have h:=Z.o.2;have e:riseL f n m i++(if i∈(qce f n).take 0 then [i] else [])=riseL f n m i:=by simp
   rw [e];exact h⟩
  obtain⟨wo,ah⟩:=qY wr;subst ah;go_wp2_with fail
  go_loopw [5,7] (fun x5 x7 W=>∃j:Nat,x7=.int .i64 (j:Int)/\j<=m/\Kn (fun W=>Below w.heap.size w W/\IOwn W w.heap.size x5 (natI (riseL f n m i++if i∈(qce f n).take j then [i] else []))) W) (fun _ x7 _=>m-(intOf x7).toNat)
  case atStart=>exact⟨0,rfl,qaj _,K2⟩
  case round =>
   obtain⟨j,rfl,hj,O⟩:=hrel
   by_cases U:j<m
   case neg =>
    obtain rfl:m=j:=by omega
    have ag:¬(m:Int)<(m:Int):=by omega
    have J:=qH O.o;rw [<-qmF] at J;go_wp2;go_roundw
    case rel=>exact⟨i+1,by go_num,af,.of J.o⟩
    case measure=>simp [intOf];omega
   have ag:(j:Int)<(m:Int):=by omega
   have I:j<n:=by omega
   have ai:(j:Int)<(n:Int):=by omega
   have aa:=HN.o.addr (by rw [qcB,qcr];omega);subst aa;have hc:=(HN.o.below O.o.1).cell j (by rw [qcB,qcr];exact I);rw [qiO (qhx I)] at hc;obtain⟨x,hx⟩:=qX (orF f n j);rw [hx] at hc;have E:=qmE (s:=f) (n:=n) (i:=i) I;rw [hx] at E
   by_cases F:x=i
   ·rw [if_pos F] at E;have hb:((x:Int) == (i:Int))=true:=by rw [beq_iff_eq];omega
    have H:(natI (riseL f n m i++if i∈(qce f n).take j then [i] else [])).length<1000000:=by
     rw [qcB,qaf];have h1:(riseL f n m i).length<=i:=by
      unfold riseL;have:=List.length_filter_le (fun k=>decide (k∈(qce f n).take m)) (List.range i)
      rwa [qbo] at this
     split <;> simp <;> omega
    have HL:=qH H;have HS:=qH E;clear H E hx F
    go_wp2_with (first | (at_builtin;refine qhU rfl _ _ rfl O.o.2 O.o.1.size rfl rfl rfl HL.o ?_;intro Y w' h1 h2 h3;have HV:=qH (qA h1 h3);clear h1 h2 h3) | fail)
    have V:Hu (IOwn w' w.heap.size Y (natI (riseL f n m i++if i∈(qce f n).take (j+1) then [i] else []))):=qH (by
     have h:=HV.o.1;rw [<-qjE,qaG,<-HS.o] at h;exact h)
    go_roundw
    case rel=>exact⟨j+1,by go_num,U,.of ⟨O.o.1.trans HV.o.2,V.o⟩⟩
    case measure=>simp [intOf];omega
   ·rw [if_neg F,qbj] at E;have hb:((x:Int) == (i:Int))=false:=beq_false_of_ne (by omega);have V:=qH O.o;rw [<-E] at V;clear E hx F;go_wp2;go_roundw
    case rel=>exact⟨j+1,by go_num,U,.of V.o⟩
    case measure=>simp [intOf];omega
theorem qov {W:World} {B E:Nat} {v:Value} {l:List Int} (h:IOwn W B v l) (hB:E<=B):IOwn W E v l:=by
 unfold IOwn at h ⊢;exact⟨h.1,h.2.imp id fun⟨g',cap,cur,e,F,r⟩=>⟨g',cap,cur,e,qak hB F,r⟩⟩
theorem qhC {W:World} {B:Nat} {v:Value} {l:List Int} (h:IOwn W B v l):∃(E:Option Addr) (b off c:Nat),v=.slice E l.length c/\NCells W E b off l:=by
 rcases qaN l.length with h0 | h0
 ·have F:=h;unfold IOwn at F;obtain⟨E,c,e⟩:=qhB F;exact⟨E,0,0,c,e,⟨fun h=>by omega,fun k H=>by omega⟩⟩
 ·obtain⟨g,c,e,hN⟩:=h.cells h0;exact⟨_,g,0,c,e,hN⟩
theorem fall_fit {l:List FT} (h:FAll l) {k:Nat} (H:k<l.length):RFit (lval l k) 150:=by
 have E:=h k H;have F:=E.val;exact⟨by show Fit (fval _ _).num.natAbs 150;rw [F.1];exact qeN E.vn,by show Fit (fval _ _).den 150;rw [F.2];exact qeN E.vd⟩
def qm7 (w:World) (l:List FT) (e:Ending) (w':World):Prop:=Below w.heap.size w w' /\
  ((∃z,z≠0/\ExIs l z/\e=.returned (.tuple #[.slice none 0 0,.int .i64 z])) \/
   (ExIs l 0/\∃v,e=.returned (.tuple #[v,.int .i64 0])/\IOwn w' w.heap.size v (natI (qce (lval l) l.length))))
theorem qhz (R b off c:Nat) (J:Option Addr) (l:List FT) (w:World) (I:l.length=R) (hR:R<=4611686018427387904) (hs:∀k,k<R->(l.getD k fd0).1.size<=140737488355328/\(l.getD k fd0).2.size<=140737488355328) (O:FCells w J b off l) :
  Calls prog 14 #[.slice J R c] w fun e w'=>qm7 w l e w':=by
 by_cases Y:40<R
 ·have Z:(R:Int) > 40:=by omega
  have HL:=qH I;clear O I hs;go_enter func14,ntmps14;go_wp2_with fail
  go_ret2
  exact⟨Below.refl _ _,.inl ⟨3,by decide,.inl ⟨by rw [HL.o];exact Y,rfl⟩,rfl⟩⟩
 have Z:¬(R:Int) > 40:=by omega
 have HC:=qH (qoF J b off R c l w I (by omega) hs O);have H:=qH (qA O I);clear O I hs;go_enter func14,ntmps14;go_wp2_with fail;refine HC.o.mono ?_;rintro e w2 ⟨r,rfl,hr,E⟩;have HR:=qH hr;have V:Kn (fun W=>Below w.heap.size w W) w2:=.of E;clear hr E HC;cases r with
 | false =>
  go_wp2_with fail
  go_ret2
  exact⟨V.o,.inl ⟨20,by decide,.inr (.inl ⟨by rw [H.o.2];omega,fun h=>absurd (HR.o.2 h) (by decide),rfl⟩),rfl⟩⟩
 | true =>
  have U:Hu (FAll l):=qH (HR.o.1 rfl);have HV:=qH (qmZ J b off R c l w2 H.o.2 (by omega) U.o (H.o.1.below V.o));go_wp2_with fail;refine HV.o.mono ?_;rintro e w3 ⟨v,rfl,hQ,E⟩;have K3:=V.below E;have HO:=qH (qkN R (lval l) 150 _ v w3 (by omega) (by decide) hQ (fun i Z=>fall_fit U.o (by rw [H.o.2];exact Z)));clear E hQ HV;go_wp2_with fail;refine HO.o.mono ?_;rintro e w4 ⟨v4,rfl,F,E⟩;have HE:=qH (qA (K3.below E).o (qov F K3.o.size));clear E F HO;go_wp2_with fail
  go_ret2
  refine⟨HE.o.1,.inr ⟨.inr (.inr ⟨by rw [H.o.2];omega,U.o,rfl⟩),v4,rfl,?_⟩⟩;rw [H.o.2];exact HE.o.2
def qki (w:World) (l:List FT) (m:Int) (e:Ending) (w':World):Prop:=Below w.heap.size w w' /\
  ((∃z,z≠0/\ExIs l z/\e=.returned (.tuple #[.slice none 0 0,.int .i64 z])) \/
   (ExIs l 0/\¬(0<=m/\m<=l.length)/\e=.returned (.tuple #[.slice none 0 0,.int .i64 2])) \/
   (ExIs l 0/\∃(v:Value) (k:Nat),m=(k:Int)/\k<=l.length/\e=.returned (.tuple #[v,.int .i64 0])/\IOwn w' w.heap.size v (natI (bestL (lval l) l.length k))))
theorem qdO {l:List FT} (h:ExIs l 0):l.length<=40:=by
 rcases h with ⟨_,h⟩ | ⟨_,_,h⟩ | ⟨h,_,_⟩
 ·cases h
 ·cases h
 ·exact h
theorem qlS (R b off c:Nat) (m:Int) (ao:Option Addr) (l:List FT) (w:World) (hl:l.length=R) (hR:R<=4611686018427387904) (hs:∀k,k<R->(l.getD k fd0).1.size<=140737488355328/\(l.getD k fd0).2.size<=140737488355328) (hF:FCells w ao b off l) :
  Calls prog 17 #[.slice ao R c,.int .i64 m] w fun e w'=>qki w l m e w':=by
 have Y:=qH (qhz R b off c ao l w hl hR hs hF);have U:=qH hl;clear hF hl hs;go_enter func17,ntmps17;go_wp2_with fail;refine Y.o.mono ?_;rintro e w2 ⟨H,⟨z,I,J,rfl⟩ | ⟨J,v,rfl,E⟩⟩
 ·have ae:(z == (0:Int))=false:=beq_false_of_ne I;have af:(z != (0:Int))=true:=by rw [bne,ae];rfl
  have V:=qH (qA I (qA J H));clear I J H Y;go_wp2_with fail
  go_ret2
  exact⟨V.o.2.2,.inl ⟨z,V.o.1,V.o.2.1,rfl⟩⟩
 have aa:=qdO J;rw [U.o] at aa E;obtain⟨a3,b3,o3,c3,rfl,hN⟩:=qhC E;rw [qcB,qcr];have F:=qH (qA J (qA H hN));clear J H hN E Y
 by_cases h0:m<0
 ·have Z:Hu (¬(0<=m/\m<=(l.length:Int))):=qH fun h=>by have:=h.1;omega
  go_wp2_with fail
  go_ret2
  exact⟨F.o.2.1,.inr (.inl ⟨F.o.1,Z.o,rfl⟩)⟩
 by_cases h1:m > (R:Int)
 ·have Z:Hu (¬(0<=m/\m<=(l.length:Int))):=qH fun h=>by have:=h.2;rw [U.o] at this;omega
  go_wp2_with fail
  go_ret2
  exact⟨F.o.2.1,.inr (.inl ⟨F.o.1,Z.o,rfl⟩)⟩
 obtain⟨k,rfl⟩:∃k:Nat,m=(k:Int):=⟨m.toNat,by omega⟩;have O:k<=R:=by omega
 have HS:=qH (qmG R k (lval l) a3 b3 o3 c3 w2 (by omega) O F.o.2.2);go_wp2_with fail;refine HS.o.mono ?_;rintro e w5 ⟨v5,rfl,E,H⟩;have HE:=qH (qA (F.o.2.1.trans (H.mono F.o.2.1.size)) (qov E F.o.2.1.size));clear H E HS;go_wp2_with fail
 go_ret2
 refine⟨HE.o.1,.inr (.inr ⟨F.o.1,v5,k,rfl,by rw [U.o];exact O,rfl,?_⟩)⟩;rw [U.o];exact HE.o.2
end Go.Proofs.YtjalhnlhcdfncaaGreatDoor.p4
namespace Go.Proofs.YtjalhnlhcdfncaaGreatDoor
open Go.RowKit Go.Proofs.Tryz
def cutA (x:ByteArray):ByteArray:=x.extract 0 (min x.size 30)
def cutF (x:FT):FT:=(cutA x.1,cutA x.2)
def cutsL (k:Nat) (l:List FT):List FT:=(l.take k).map cutF
theorem qje (x:ByteArray):(cutA x).size<=30:=by
 unfold cutA;rw [ByteArray.size_extract];omega
theorem qjf {k:Nat} {l:List FT} (h:k<=l.length):(cutsL k l).length=k:=by
 unfold cutsL;rw [qaD,qao];omega
theorem qlW {k:Nat} {l:List FT} (h:k<l.length):cutsL (k+1) l=cutsL k l++[cutF (l.getD k fd0)]:=by
 unfold cutsL;rw [qbw,qbh,qaa,qac h]
 rfl
def SzOk (l:List FT):Prop:=∀k,k<l.length->(l.getD k fd0).1.size<=140737488355328/\(l.getD k fd0).2.size<=140737488355328
theorem SzOk.of {l:List FT} (h:∀x∈l,x.1.size<=601/\x.2.size<=601):SzOk l:=fun k F=>by
 have E:=h (l.getD k fd0) (by rw [qaa,qac F];exact qbz F);exact⟨qak E.1 (by decide),qak E.2 (by decide)⟩
theorem cutsL_sz (k:Nat) (l:List FT):SzOk (cutsL k l):=.of fun x hx=>by
 obtain⟨y,_,rfl⟩:=qbb.1 hx;exact⟨qak (qje _) (by decide),qak (qje _) (by decide)⟩
theorem ftxt_sz {q:Rat} (h:Short q):(ftxt q).1.size<=601/\(ftxt q).2.size<=601:=by
 refine⟨?_,qak h.2 (by decide)⟩;have E:=h.1
 show (qcj q.num).size<=_
 by_cases h:q.num<0
 ·rw [p4.qgk h];omega
 ·rw [p4.qgl h];omega
theorem told_sz {n:Nat} {x:Nat->Rat} (h:qb9 n x):SzOk (told n x):=.of fun y hy=>by
 obtain⟨i,E,rfl⟩:=qbb.1 hy;exact ftxt_sz (h i (qaq.1 E))
def OrdV (l:List FT) (E:List Int) (z:Int):Prop:=(z≠0/\ExIs l z/\E=[])\/(ExIs l 0/\z=0/\E=natI (qce (lval l) l.length))
theorem ExIs.uniq {l:List FT} {z H:Int} (h:ExIs l z) (I:ExIs l H):z=H:=by
 rcases h with ⟨F,E⟩ | ⟨F,E,J⟩ | ⟨F,E,J⟩ <;> rcases I with ⟨k1,k2⟩ | ⟨k1,k2,k3⟩ | ⟨k1,k2,k3⟩ <;> first | omega | exact absurd k2 E | exact absurd E k2
theorem OrdV.uniq {l:List FT} {J E:List Int} {z O:Int} (h:OrdV l J z) (U:OrdV l E O):J=E/\z=O:=by
 rcases h with ⟨H,F,I⟩ | ⟨H,F,I⟩ <;> rcases U with ⟨k1,k2,k3⟩ | ⟨k1,k2,k3⟩
 ·exact⟨I.trans k3.symm,F.uniq k2⟩
 ·exact absurd (F.uniq k1) H
 ·exact absurd (k2.uniq H) k1
 ·exact⟨I.trans k3.symm,F.trans k2.symm⟩
def AnsV (w:World) (p:List Int->Int->Prop) (e:Ending) (w':World):Prop:=Below w.heap.size w w'/\∃(a:Option Addr) (b o n c:Nat) (E:List Int) (z:Int),e=.returned (.tuple #[.slice a n c,.int .i64 z])/\E.length=n/\n<=40/\p E z/\NCells w' a b o E
theorem qd2 (w:World) (a:Option Addr) (b o:Nat):NCells w a b o []:=⟨fun h=>absurd h (by decide),fun k h=>absurd h (by simp)⟩
theorem OrdAs.val {w w':World} {l:List FT} {e:Ending} (h:OrdAs w l e w'):AnsV w (OrdV l) e w':=by
 obtain⟨H,⟨z,F,E,rfl⟩ | ⟨E,g,rfl,hN⟩⟩:=h
 ·exact⟨H,none,0,0,0,0,[],z,rfl,rfl,by decide,.inl ⟨F,E,rfl⟩,qd2 _ _ _ _⟩
 ·exact⟨H,_,g,0,_,_,_,0,rfl,by rw [qcB,qcr],p4.qdO E,.inr ⟨E,rfl,rfl⟩,hN.all⟩
theorem p4.qm7.val {w w':World} {l:List FT} {e:Ending} (h:p4.qm7 w l e w'):AnsV w (OrdV l) e w':=by
 obtain⟨H,⟨z,F,E,rfl⟩ | ⟨E,v,rfl,hN⟩⟩:=h
 ·exact⟨H,none,0,0,0,0,[],z,rfl,rfl,by decide,.inl ⟨F,E,rfl⟩,qd2 _ _ _ _⟩
 ·obtain⟨a,b,o,c,rfl,hC⟩:=p4.qhC hN;exact⟨H,a,b,o,_,c,_,0,rfl,rfl,by rw [qcB,qcr];exact p4.qdO E,.inr ⟨E,rfl,rfl⟩,hC⟩
def BestV (l:List FT) (m:Int) (E:List Int) (z:Int):Prop:=(z≠0/\ExIs l z/\E=[])\/(ExIs l 0/\¬(0<=m/\m<=l.length)/\z=2/\E=[])\/(ExIs l 0/\(0<=m/\m<=l.length)/\z=0/\E=natI (bestL (lval l) l.length m.toNat))
theorem BestV.uniq {l:List FT} {m:Int} {O I:List Int} {z U:Int} (h:BestV l m O z) (V:BestV l m I U):O=I/\z=U:=by
 rcases h with ⟨F,E,H⟩ | ⟨F,E,H,J⟩ | ⟨F,E,H,J⟩ <;> rcases V with ⟨k1,k2,k3⟩ | ⟨k1,k2,k3,k4⟩ | ⟨k1,k2,k3,k4⟩
 ·exact⟨H.trans k3.symm,E.uniq k2⟩
 ·exact absurd (E.uniq k1) F
 ·exact absurd (E.uniq k1) F
 ·exact absurd (k2.uniq F) k1
 ·exact⟨J.trans k4.symm,H.trans k3.symm⟩
 ·exact absurd k2 E
 ·exact absurd (k2.uniq F) k1
 ·exact absurd E k2
 ·exact⟨J.trans k4.symm,H.trans k3.symm⟩
theorem qfH.val {w w':World} {l:List FT} {m:Int} {e:Ending} (h:qfH w l m e w'):AnsV w (BestV l m) e w':=by
 obtain⟨F,⟨z,H,E,rfl⟩ | ⟨E,J,rfl⟩ | ⟨E,g,k,rfl,I,rfl,hN⟩⟩:=h
 ·exact⟨F,none,0,0,0,0,[],z,rfl,rfl,by decide,.inl ⟨H,E,rfl⟩,qd2 _ _ _ _⟩
 ·exact⟨F,none,0,0,0,0,[],2,rfl,rfl,by decide,.inr (.inl ⟨E,J,rfl,rfl⟩),qd2 _ _ _ _⟩
 ·have:=p4.qdO E;exact⟨F,_,g,0,_,_,_,0,rfl,by rw [qcB,qbO,qg7 I],by omega,.inr (.inr ⟨E,⟨by omega,by omega⟩,rfl,rfl⟩),hN.all⟩
theorem p4.qki.val {w w':World} {l:List FT} {m:Int} {e:Ending} (h:p4.qki w l m e w'):AnsV w (BestV l m) e w':=by
 obtain⟨F,⟨z,H,E,rfl⟩ | ⟨E,J,rfl⟩ | ⟨E,v,k,rfl,I,rfl,hN⟩⟩:=h
 ·exact⟨F,none,0,0,0,0,[],z,rfl,rfl,by decide,.inl ⟨H,E,rfl⟩,qd2 _ _ _ _⟩
 ·exact⟨F,none,0,0,0,0,[],2,rfl,rfl,by decide,.inr (.inl ⟨E,J,rfl,rfl⟩),qd2 _ _ _ _⟩
 ·have:=p4.qdO E;obtain⟨a,b,o,c,rfl,hC⟩:=p4.qhC hN;exact⟨F,a,b,o,_,c,_,0,rfl,by rw [qbO],by rw [qcB,qg7 I];omega,.inr (.inr ⟨E,⟨by omega,by omega⟩,rfl,rfl⟩),hC⟩
theorem qnt (F a2:Option Addr) (H V c1 I Y c2 n:Nat) (E:List Int) (w:World) (U:E.length=n) (aa:n<=40) (J:NCells w F H V E) (O:NCells w a2 I Y E) :
  Calls prog 15 #[.slice F n c1,.slice a2 n c2] w fun e w'=>e=.returned (.bool true)/\Below w.heap.size w w':=by
 rcases qaN n with h0 | h0
 ·subst h0;refine (Tryz.slices_Equal_int_empty F a2 c1 0 c2 w (by decide)).mono ?_;rintro e w' ⟨rfl,rfl⟩;exact⟨rfl,Below.refl _ _⟩
 ·have Z:=J.addr (by omega);have e2:=O.addr (by omega);subst Z e2;refine (qiA H V c1 I Y c2 E E n n w U U (by omega) (by omega) J O).mono ?_;rintro e w' ⟨rfl,hb⟩;exact⟨by rw [beq_self_eq_true],hb⟩
theorem qoO {w:World} {B:Nat} {v:Value} {n:Nat} {l:List FT} {x1 x2:ByteArray} {g:Nat} (O:TypeId) (E:Rws w B 27 2 v n (fflat l)) (hB:B<=w.heap.size) (hg:w.heap[g]? = some (.cells #[.string x1,.string x2] 27 (0,0))) (hn:n<1000000) :
  ∃F w',(Builtin.append_ #[22,22] O #[v,.slice (some ⟨g,0,none⟩) 1 1]).run prog w=.ok F w'/\Rws w' B 27 2 F (n+1) (fflat (l++[(x1,x2)]))/\w.grownBy w' v.ownBlock:=by
 obtain⟨i0,Y,H,I,J⟩:=info_parts infoF;obtain⟨F,w',hr,U,V,_⟩:=qdL (P:=prog) w B 22 O 27 i0 _ 2 32 underlying22 Y H I J rfl (by decide) qlg v n (fflat l) E ⟨g,0,none⟩ 1 1 (fflat [(x1,x2)]) rfl (fun j z Z=>by
  rw [Addr.add_mid,qaT];exact (qC _ _ j _ _ _ hg).trans ((qaz ..).trans Z)) (qhb _) (qjj _) (by decide) (by unfold maxLen;omega) (by omega) hB
 exact⟨F,w',hr,by rw [qd5];exact U,V⟩
theorem qgM (ao:Option Addr) (b off c R0:Nat) (E:List FT) (ad:Option Addr) (bd od cd s:Nat) (L:List Dr) (m:Int) (F:World) (aK:E.length=R0) (aW:R0<=9223372036854775807) (aF:R0<=c) (aC:FCells F ao b off E) (hL:L.length<=9223372036854775807) (hc:L.length<=cd) (hs:s<256) (h:DrCells F ad bd od L) (hm:-9223372036854775808<=m/\m<=9223372036854775807) (hT:HasT F) :
  Calls prog 3 #[.slice ao R0 c,.slice ad L.length cd,.int .u8 (s:Int),.int .i64 m] F fun e w'=>e=.returned (.bool true)/\Below F.heap.size F w':=by
 obtain⟨M,hM⟩:=qX (min R0 42);have aV:min (R0:Int) 42=(M:Int):=by omega
 have aU:(M:Int)<=(c:Int):=by omega
 have aD:M<=42:=by omega
 have H0:=qH (qA h (qA hT (qA hL hc)));have HC:=qH (qA aC (show M<=E.length by omega));have HM:=qH hm;clear h hT hL hc aC aK hM aF hm;go_enter func3,ntmps3;go_wp2_with fail;refine (qm1 F H0.o.2.1).mono ?_;rintro e w2 ⟨rfl,H⟩;have K2:Kn (fun W=>Below F.heap.size F W) w2:=.of H;clear H;go_wp2_with fail
 go_loopw [9,11,32] (fun x9 _ x32 W=>∃k:Nat,x32=.int .i64 k/\k<=M/\Kn (fun W=>Below F.heap.size F W/\Rws W F.heap.size 27 2 x9 k (fflat (cutsL k E))) W) (fun _ _ x32 _=>M-(intOf x32).toNat)
 case atStart=>exact⟨0,rfl,qaj _,.of ⟨K2.o,Rws.nil _ _ _ _⟩⟩
 case round =>
  obtain⟨k,rfl,hk,J⟩:=hrel
  by_cases aR:k<M
  ·have aY:(k:Int)<M:=by omega
   have aO:=HC.o.1.addr (by have:=HC.o.2;omega);subst aO;obtain⟨d0,d1⟩:=(HC.o.1.below J.o.1).cell k (by have:=HC.o.2;omega);have av:=qlW (l:=E) (k:=k) (by have:=HC.o.2;omega);obtain⟨N,hN⟩:=qX ((E.getD k fd0).1);obtain⟨D,hD⟩:=qX ((E.getD k fd0).2);rw [show cutF (E.getD k fd0)=(cutA N,cutA D) by unfold cutF;rw [hN,hD]] at av;rw [hN] at d0;rw [hD] at d1;have HX:=qH av;clear hN hD av;obtain⟨W1,aH,N1⟩:=nw1 wr #[.string N,.string D] 27;obtain⟨g7,aj⟩:∃g,g=wr.heap.size:=⟨_,rfl⟩;have K2:Kn (fun W=>(Below F.heap.size F W/\Rws W F.heap.size 27 2 u9 k (fflat (cutsL k E)))/\W.heap[g7]? = some (.cells #[.string N,.string D] 27 (0,0))) W1:=by
    rw [aj];exact (J.below N1.o.1).also (q:=fun W=>W.heap[wr.heap.size]? = some (.cells #[.string N,.string D] 27 (0,0))) N1.o.2
   have hne:some g7≠u9.ownBlock:=fun e=>by
    have:=(J.o.2.lt _ e.symm).2;omega
   go_upto_region 7 with fail;rw [<-aH,<-aj];obtain⟨n1,au⟩:=qX (min N.size 30:Nat);obtain⟨n2,Z⟩:=qX (min D.size 30:Nat);have e1:min (N.size:Int) 30=(n1:Int):=by omega
   have e2:min (D.size:Int) 30=(n2:Int):=by omega
   have f1:(0:Int)<=n1:=by omega
   have f2:(0:Int)<=n2:=by omega
   have f3:(n1:Int)<=N.size:=by omega
   have f4:(n2:Int)<=D.size:=by omega
   have q0:∀W,W1.grownBy W u9.ownBlock->W.cell? ⟨g7,0,none⟩=some (.string N):=fun W h=>h.cell (qC _ _ 0 _ _ _ K2.o.2) hne
   have q1:∀W,W1.grownBy W u9.ownBlock->W.cell? ⟨g7,1,none⟩=some (.string D):=fun W h=>h.cell (qC _ _ 1 _ _ _ K2.o.2) hne
   have HX:Hu (cutsL (k+1) E=cutsL k E++[(N.extract 0 n1,D.extract 0 n2)]):=qH (by rw [HX.o];unfold cutA;rw [au,Z]);clear aH aj hne au Z J d0 d1 N1;refine wp_region_held_drew (S:=fun W=>W1.grownBy W u9.ownBlock) (by kernel_rfl) (qcl (qcw _ _) qB.drew) (fun hS0=>?_);refine hT 0 (h:=hT 1 (h:=hT 2 (h:=hT 3 (h:=hT 4 (h:=hT 5 (h:=hT 6 (h:=hT 7 (h:=hT 8 (h:=hT 9 (h:=hT 10 (h:=hT 11 (h:=hT 12 (h:=hT 13 (h:=hT 14 (h:=hT 15 (h:=?_))))))))))))))));obtain⟨V,hV⟩:=qY W1.drew;have aI:Below W1.heap.size W1 V:=hV▸qB.drew;rw [<-hV] at hS0 ⊢;clear hV;have K3:=K2.below aI;obtain⟨g8,ak⟩:∃g,g=V.heap.size:=⟨_,rfl⟩;obtain⟨W2,ah⟩:=qY (V.alloc (.cells #[.string (N.extract 0 n1),.string (D.extract 0 n2)] 27));have ai:Below V.heap.size V W2:=ah▸qb4 qB qN;have ax:W2.heap[g8]? = some (.cells #[.string (N.extract 0 n1),.string (D.extract 0 n2)] 27 (0,0)):=by rw [ah,ak];exact heap_alloc_new V _
   have Y:=K3.below ai;refine hE 16 (w':=W2) (v:=.slice (some ⟨g8,0,none⟩) 1 1) (he:=by rw [ah,ak];go_simp) (h:=⟨qcl hS0 ai,hN (h:=?_)⟩);obtain⟨v',w',hr,h1,h2⟩:=qoO 22 Y.o.1.2 Y.o.1.1.size ax (by omega);have aG:=qb5 (qcl hS0 ai) h2;refine hE 17 (he:=by exact qkV rfl rfl rfl rfl hr) (h:=⟨aG,hN (h:=?_)⟩);refine hT 18 (h:=?_);refine wpAnyH_done (by kernel_rfl) ?_ _;have K5:Kn (fun W=>Below F.heap.size F W/\Rws W F.heap.size 27 2 v' (k+1) (fflat (cutsL (k+1) E))) w':=.of ⟨Y.o.1.2.old h2 Y.o.1.1 qN Y.o.1.1.size,by rw [HX.o];exact h1⟩;clear hr h1 h2 aG ax ai ah ak aI hS0 q0 q1 K2 K3 Y;go_wp2;go_roundw
   case rel=>exact⟨k+1,by go_num,aR,K5⟩
   case measure=>simp [intOf];omega
  obtain rfl:M=k:=by omega
  have aX:¬(M:Int)<(M:Int):=by omega
  obtain⟨a9,g9,c9,rfl,aB,_⟩:=qdD J.o.2 (qjf HC.o.2);have HS:=qH (qmN ad bd od cd s L wr H0.o.2.2.1 H0.o.2.2.2 hs (H0.o.1.below J.o.1));have K3:=J.also (q:=fun W=>FCells W a9 g9 0 (cutsL M E)) aB;clear aB;go_wp2_with fail;refine HS.o.mono ?_;rintro e w3 ⟨a2,g2,c2,rfl,_,O,H⟩;obtain⟨n2,Z⟩:∃N,min L.length 42=N:=⟨_,rfl⟩;rw [Z] at O ⊢;have aJ:n2<=42:=by omega
  have Y:=(K3.below H).also (q:=fun W=>FCells W a2 g2 0 (told n2 (shq L s))) O;clear O H Z HS;have KF:Kn (fun W=>(Below F.heap.size F W/\FCells W a9 g9 0 (cutsL M E))/\FCells W a2 g2 0 (told n2 (shq L s))) w3:=.of ⟨⟨Y.o.1.1.1,Y.o.1.2⟩,Y.o.2⟩;clear Y K3 J;go_wp2_with fail
  go_loopw [13,14,15,16,17,19,20,21,22,23,60] (fun _ _ _ _ _ _ _ _ _ _ x60 W=>∃t:Nat,x60=.int .i64 (t:Int)/\t<=2/\Kn (fun W=>(Below F.heap.size F W/\FCells W a9 g9 0 (cutsL M E))/\FCells W a2 g2 0 (told n2 (shq L s))) W) (fun _ _ _ _ _ _ _ _ _ _ x60 _=>2-(intOf x60).toNat)
  case atStart=>exact⟨0,rfl,qaj _,KF⟩
  case round =>
   obtain⟨t,rfl,ht,J⟩:=hrel
   by_cases aZ:t<2
   case neg =>
    have aT:¬(t:Int)<2:=by omega
    go_wp2;go_ret;exact⟨rfl,J.o.1.1⟩
   have aT:(t:Int)<2:=by omega
   obtain⟨a,g,o,n,cc,l,aP,O,hl,hn,ay⟩:∃(a:Option Addr) (g o n cc:Nat) (l:List FT),(∀W,(Instr.index 29 (.agg #[.slice a9 M c9,.slice a2 n2 c2]) (.int .i64 (t:Int))).run prog W=.ok (.slice a n cc) W)/\FCells wr a g o l/\l.length=n/\n<=42/\SzOk l:=by
    rcases (show t=0\/t=1 by omega) with rfl | rfl
    ·exact⟨a9,g9,0,M,c9,_,fun W=>by kernel_rfl,J.o.1.2,qjf HC.o.2,aD,cutsL_sz _ _⟩
    ·exact⟨a2,g2,0,n2,c2,_,fun W=>by kernel_rfl,J.o.2,qcb _ _,aJ,told_sz fun i _=>Dr.short _⟩
   have K5:=J.also (q:=fun W=>FCells W a g o l) O;have HO:=qH ((qhA n g o cc a l wr hl (by omega) K5.o.2).mono fun e w' h=>h.val);have aA:=qH (fun (W:World) O=>(p4.qhz n g o cc a l W hl (by omega) (fun k hk=>ay k (by omega)) O).mono fun e w' h=>h.val);have HB:=qH (fun (W:World) (y:Int) O=>(qlT n g o cc y a l W hl (by omega) O).mono fun e w' h=>h.val);have aN:=qH (fun (W:World) (y:Int) O=>(p4.qlS n g o cc y a l W hl (by omega) (fun k hk=>ay k (by omega)) O).mono fun e w' h=>h.val);clear O hl ay J;go_wp2_with fail;refine HO.o.mono ?_;rintro e w5 ⟨H,x1,b1,o1,n1,c1,xs,z,rfl,aa,aL,ae,hN⟩;have K6:=(K5.below H).also (q:=fun W=>NCells W x1 b1 o1 xs) hN;have U:=qH (aA.o w5 K6.o.1.2);have HV:=qH (qA aa ae);clear H hN HO aA aa ae K5 aP;go_wp2_with fail;refine U.o.mono ?_;rintro e w6 ⟨H,x2,b2,o2,n3,c3,ys,z2,rfl,af,I,ag,hN⟩;obtain⟨rfl,rfl⟩:=HV.o.2.uniq ag;obtain rfl:n1=n3:=by have:=HV.o.1;omega
   have K7:=K6.below H;have HE:=qH (qnt x1 x2 b1 o1 c1 b2 o2 c3 n1 xs w6 af I K7.o.2 hN);clear H hN af ag I U K6;go_wp2_with fail;refine HE.o.mono ?_;rintro e w7 ⟨rfl,H⟩;have K8:Kn (fun W=>((Below F.heap.size F W/\FCells W a9 g9 0 (cutsL M E))/\FCells W a2 g2 0 (told n2 (shq L s)))/\FCells W a g o l) w7:=.of (K7.below H).o.1;clear H HE K7 HV;have au:(0:Int)<=n:=by omega
   go_upto_region 17 with fail;generalize wrap64 ((IntKind.u64.wrap m).tmod ((n:Int)+2))=Q;go_wp2_with fail
   go_loopw [19,20,21,22,23,92] (fun _ _ _ _ _ x92 W=>∃r:Nat,x92=.int .i64 (r:Int)/\r<=2/\Kn (fun W=>((Below F.heap.size F W/\FCells W a9 g9 0 (cutsL M E))/\FCells W a2 g2 0 (told n2 (shq L s)))/\FCells W a g o l) W) (fun _ _ _ _ _ x92 _=>2-(intOf x92).toNat)
   case atStart=>exact⟨0,rfl,qaj _,K8⟩
   case round =>
    obtain⟨r,rfl,hr,K9⟩:=hrel
    by_cases ax:r<2
    case neg =>
     have aS:¬(r:Int)<2:=by omega
     go_wp2;go_roundw
     case rel=>exact⟨t+1,by go_num,by omega,.of K9.o.1⟩
     case measure=>simp [intOf];omega
    have aS:(r:Int)<2:=by omega
    obtain⟨y,aQ⟩:∃y:Int,∀W,(Instr.index 36 (.agg #[.int .i64 m,.int .i64 Q]) (.int .i64 (r:Int))).run prog W=.ok (.int .i64 y) W:=by
     rcases (show r=0\/r=1 by omega) with rfl | rfl
     ·exact⟨m,fun W=>by kernel_rfl⟩
     ·exact⟨Q,fun W=>by kernel_rfl⟩
    have az:=qH (HB.o wr y K9.o.2);go_wp2_with fail;refine az.o.mono ?_;rintro e w5 ⟨H,x1,b1,o1,n1,c1,xs,z,rfl,aa,aL,ae,hN⟩;have K6:=(K9.below H).also (q:=fun W=>NCells W x1 b1 o1 xs) hN;have U:=qH (aN.o w5 y K6.o.1.2);have HV:=qH (qA aa ae);clear H hN az aa ae aQ;go_wp2_with fail;refine U.o.mono ?_;rintro e w6 ⟨H,x2,b2,o2,n3,c3,ys,z2,rfl,af,I,ag,hN⟩;obtain⟨rfl,rfl⟩:=HV.o.2.uniq ag;obtain rfl:n1=n3:=by have:=HV.o.1;omega
    have K7:=K6.below H;have HE:=qH (qnt x1 x2 b1 o1 c1 b2 o2 c3 n1 xs w6 af I K7.o.2 hN);clear H hN af ag I U K6;go_wp2_with fail;refine HE.o.mono ?_;rintro e w7 ⟨rfl,H⟩;have KE:=qH (K7.below H).o.1;clear H HE K7 HV;go_wp2;go_roundw
    case rel=>exact⟨r+1,by go_num,by omega,.of KE.o⟩
    case measure=>simp [intOf];omega
end Go.Proofs.YtjalhnlhcdfncaaGreatDoor
section
namespace Go.Proofs.YtjalhnlhcdfncaaGreatDoor
open Go.ChangeShapes Go.WideShapes Go.ChangeAt Go.RowKit Go.Proofs.Tryz
open Go.ChangeMaps (open_string shut_string)
namespace LrobustOrders
theorem lifted (os:Os) (I:os.Started) (H:Type) (enc:TypeId×Value->H) :
  ReturnsInHanded {} Tryz.checked os 3 .any (fun w args=>(Rows.robustOrdersSpec.pre enc prog Tryz.f3 [] false w args/\laidMetH prog laidK w)/\sizedMet enc prog Tryz.f3 (OpenSpec.ofChange Rows.robustOrdersSpec) false w args)
   (Rows.robustOrdersSpec.post enc prog Tryz.f3 false true false false):=by
 refine returnsInHanded_of_change_and (C:=Tryz.checked) (X:=fun w _=>laidMetH prog laidK w) (fun _ _ _ hh h=>h.of_heap hh) Tryz.own I (by kernel_rfl) func3
  (ChangeSpec.witness_shaped (enc:=enc) (C:=Tryz.checked) (os:=os) (X:=fun w _=>laidMetH prog laidK w) false (World.laidAll prog os laidK) #[.slice none 0 0,.slice none 0 0,.int .u8 0,.int .i64 0] 8 (World.laidAll_os _ _ _) (World.shaped_of_ZipB (by kernel_rfl) (by kernel_rfl)) (by kernel_rfl) (by kernel_rfl) (by kernel_rfl) (by rw [MakeChecks.laidMetH_plain _ _ _ (by kernel_rfl)];exact laidMet_laidAll _ (by kernel_rfl) (by kernel_rfl))) ?_
 intro W base args ds gs V F hW _ ay hL _;have E:∀(j:Nat) t v,Tryz.f3.params[j]? = some t->args[j]? = some v->Value.okWide prog W .any base t v:=F;have O:=hW;obtain⟨p,q,J,hV,rfl,aB,aC⟩:=hW;have hA:DataW.TrodAll enc prog W 0 (fun _=>true) true Tryz.f3.params.toList args.toList ds p:=J;rw [Tryz.params3] at hA E;obtain⟨v0,v1,v2,v3,d0,d1,d2,d3,p0,p1,p2,p3,rfl,rfl,rfl,h0,h1,h2,h3⟩:=trodAll_four hA;obtain⟨rfl,rfl⟩:=trodVars_none hV;have k0:=h0;have az:∀x∈p0,x.block<W.heap.size:=by obtain⟨m,hm⟩:=k0;exact DataW.trod_lt m _ _ _ hm
 obtain⟨fa0,ah,au,ai,F0,rfl,ak,aj,ax⟩:=open_fs (E 0 22 v0 rfl rfl) h0;have k1:=h1;have aA:∀x∈p1,x.block<W.heap.size:=by obtain⟨m,hm⟩:=k1;exact DataW.trod_lt m _ _ _ hm
 obtain⟨Y,Z,ag,aa,D1,rfl,af,ae,av⟩:=open_ds (E 1 23 v1 rfl rfl) h1;obtain⟨z2,rfl,rfl,rfl,w2⟩:=open_int underlying5 (E 2 5 v2 rfl rfl) h2;obtain⟨t,rfl,kt⟩:=wf_u8 w2;obtain⟨z3,rfl,rfl,rfl,w3⟩:=open_int underlying3 (E 3 3 v3 rfl rfl) h3;clear J F ay;simp only [qbj] at O;refine (qgM fa0 ah au ai F0.length F0 Y Z ag aa t D1 z3 W rfl ak aj ax af ae kt av (wf_i64 w3) (of_laid hL)).mono fun e W' ⟨he,hb⟩=>?_
 subst he;exact⟨_,rfl,qiS (pa:=p0++p1) (pv:=[]) O (fun _ _ _=>trodAll_mk1 (shut_bool underlying4 _)) (fun sp U=>(by have h:=trodAll_mk4 (show DataW.Trod enc prog _ 0 sp true 22 _ d0 p0 from (WideElems.Trod_stays Tryz.laidOut (by kernel_rfl) (of_decide_eq_true (by kernel_rfl)) k0 (fun x hx=>hb.same (az x hx)) (fun x hx=>U x (by simp [hx])))) (show DataW.Trod enc prog _ 0 sp true 23 _ d1 p1 from (WideElems.Trod_stays Tryz.laidOut (by kernel_rfl) (of_decide_eq_true (by kernel_rfl)) k1 (fun x hx=>hb.same (aA x hx)) (fun x hx=>U x (by simp [hx])))) (shut_int underlying5 w2) (shut_int underlying3 w3);simp only [qbj] at h;exact h)) (fun _ _=>rfl) (by simp) hb (ok_one (by kernel_rfl) rfl (okWide_bool_mk underlying4 _))⟩
theorem j1:(Rows.robustOrdersRow.inPlace == Tryz.prog.inPlace 3)=true:=by kernel_rfl
theorem j2:(Rows.robustOrdersRow.unfollowed == Tryz.prog.unfollowed 3)=true:=by kernel_rfl
theorem j3:(Rows.robustOrdersRow.recurses == Tryz.prog.recurses 3)=true:=by kernel_rfl
theorem j4:(Rows.robustOrdersRow.named == Tryz.prog.varsNamed 3)=true:=by kernel_rfl
theorem j5:Rows.robustOrdersRow.wf (OpenSpec.ofChange Rows.robustOrdersSpec)=true:=by kernel_rfl
theorem j6:(Rows.robustOrdersRow.lifted == Tryz.prog.liftsFinal)=true:=jf6
theorem j7:(Tryz.prog.make == some Rows.robustOrdersRow.make)=true:=jf7
theorem facts:joinedFacts prog 3 Tryz.f3 Rows.robustOrdersSpec Rows.robustOrdersRow=true:=by
 simp only [joinedFacts,jf1,jf2,jf3,jf4,jf5,j1,j2,j3,j4,j5,j6,j7,Bool.and_true,Bool.true_and]
 kernel_rfl
theorem holds:Rows.RobustOrdersSaid :=
 OpenClaim.holds_of_wide 3 Tryz.f3 rfl rfl rfl rfl rfl rfl rfl ⟨rfl,rfl,rfl,rfl,rfl⟩ rfl rfl rfl rfl rfl (by kernel_rfl) func3 facts
  (of_decide_eq_true (by kernel_rfl)) (by unfold Func.isWrapper;first | (rw [if_pos (by decide +kernel)];kernel_rfl) | (rw [if_neg (by decide +kernel)];exact⟨rfl,rfl⟩))
  (fun os E H enc _=>lifted os E H enc)
end LrobustOrders
theorem robustOrders_card:Rows.RobustOrdersCardSaid :=
 Claim7.holds_tied_plain_at .later [] [.data,.data,.data] true (true, "252e0a21811d6cb709456a3fcf7983f263497123ef99f17ea89c4d3ca69a01d1") true
  LrobustOrders.holds (fun _ h=>by cases h) (by as_aux_lemma=>kernel_rfl) (fun _ h=>by cases h) robustOrders_row_tie rfl ⟨rfl,rfl⟩ (by as_aux_lemma=>kernel_rfl) rfl
  (fun f I J F=>by
   obtain rfl:f=3:=qag ((show Tryz.prog.funcNamed "verdigris/verdigrislaw33.RobustOrders" = some 3 by as_aux_lemma=>kernel_rfl).symm.trans J) |>.symm
   obtain rfl:I=Tryz.f3:=(qag (Tryz.func3.symm.trans F)).symm;exact⟨by as_aux_lemma=>kernel_rfl,fun j t H=>by
    rw [Tryz.params3] at H;have O:t∈([22,23,5,3]:List Nat):=by simpa using Array.mem_of_getElem? H
    have E:(([22,23,5,3]:List Nat).all fun u=>!Tryz.prog.wantsStandIn u)=true:=by as_aux_lemma=>kernel_rfl
    exact (show Tryz.prog.wantsStandIn t=false by simpa using qaC.1 E t O)⟩)
  (by as_aux_lemma=>kernel_rfl)
#print axioms robustOrders_card
