import Derived.Deep.DrawnRows
import Derived.Deep.RegionWith
import Derived.Test.YtjalhnlhcdfncaaGreatDoorBk11
set_option maxRecDepth 100000
set_option maxHeartbeats 0
namespace Go.Proofs.YtjalhnlhcdfncaaGreatDoor
open Go.RowKit Go.Proofs.Tryz
abbrev FT:=ByteArray×ByteArray
def fd0:FT:=(⟨#[]⟩,⟨#[]⟩)
structure FCells (W:World) (ao:Option Addr) (b off:Nat) (l:List FT):Prop where
 addr:0<l.length->ao=some ⟨b,off,none⟩
 cell:∀k,k<l.length->W.cell? ⟨b,off+k*2,none⟩=some (.string (l.getD k fd0).1)/\W.cell? ⟨b,off+k*2+1,none⟩=some (.string (l.getD k fd0).2)
theorem FCells.below {W W':World} {H:Option Addr} {b F:Nat} {l:List FT} (h:FCells W H b F l) (I:Below W.heap.size W W'):FCells W' H b F l :=
 ⟨h.addr,fun k G=>⟨(I.cell (qac W _ (h.cell k G).1)).trans (h.cell k G).1,(I.cell (qac W _ (h.cell k G).2)).trans (h.cell k G).2⟩⟩
def FAll (l:List FT):Prop:=∀k,k<l.length->FOk (l.getD k fd0).1.data.toList (l.getD k fd0).2.data.toList
def fden (x:FT):Nat:=(ival x.2.data.toList).natAbs
theorem infoM:(Tryz.prog.info? 213).map (fun i=>(i.zero,i.size,i.bytes))=some (some (.slice none 0 0),1,24):=by kernel_rfl
theorem qdK {l:List FT} (h:FAll l) {k:Nat} (F:k<l.length):0<fden (l.getD k fd0)/\Fit (fden (l.getD k fd0)) 67:=⟨(h k F).dpos,(h k F).vd.fit⟩
theorem qlk (l:List FT) (k:Nat) (F:k<l.length):(l.take (k+1)).map fden=(l.take k).map fden++[fden (l.getD k fd0)]:=by
 rw [List.take_add_one,qad F,qbj,qab,qad F];rfl
def flcd (l:List FT):Nat:=lcms (l.map fden)
def ftop (l:List FT) (k:Nat):Int:=ival (l.getD k fd0).1.data.toList*((flcd l / fden (l.getD k fd0):Nat):Int)
def qcd (W:World) (F:List (Value×Bool)) (z:Nat->Int):Prop:=∀k,k<F.length->(F.getD k (zs0,false)).2=decide (z k<0)/\MagAt W (F.getD k (zs0,false)).1 (z k).natAbs
theorem qcd.below {W W':World} {G:List (Value×Bool)} {z:Nat->Int} (h:qcd W G z) (H:Below W.heap.size W W'):qcd W' G z:=fun k F=>⟨(h k F).1,(h k F).2.below H⟩
theorem qcd.keep {W W':World} {g:Nat} {cs:Array Value} {t:TypeId} {H:Nat×Nat} {G:List (Value×Bool)} {z:Nat->Int} (h:qcd W G z) (I:W.grownBy W' (some g)) (hg:W.heap[g]? = some (.cells cs t H)) (hne:∀x∈cs.toList,∀d,x≠.int .u32 d):qcd W' G z :=
 fun k F=>⟨(h k F).1,qch (h k F).2 I hg hne⟩
theorem qcd.snoc {W:World} {F:List (Value×Bool)} {z:Nat->Int} {v:Value} (h:qcd W F z) (I:MagAt W v (z F.length).natAbs):qcd W (F++[(v,decide (z F.length<0))]) z:=by
 intro k H;rw [qaf,qaB] at H
 by_cases G:k<F.length
 ·rw [qab,qax G,<-qab];exact h k G
 ·obtain rfl:k=F.length:=by omega
  rw [qab,qar qN,qaK];exact⟨rfl,I⟩
theorem qkP {P:Program} {U:Func} {p u:Tmp} {H:TypeId} (h:U.results=#[.tmp u,.cell p H]) (F:Array Value) (w:World) (g:Nat) (d:TypeDesc) (hu:P.underlying H=some d) (hd:(match d with | .struct _ | .array _ _=>true | _=>false)=false)
  (hp:F.getD p undef=.pointer (some ⟨g,0,none⟩)) (O v:Value) (V:F.getD u undef=O) (Y:w.cell? ⟨g,0,none⟩=some v) :
  (results U F).run P w=.ok (.tuple #[O,v]) w:=by
 have G:(isAgg H).run P w=.ok false w:=by
  unfold isAgg;rw [Sem.run_bind,run_underlying hu w];cases d <;> simp_all
 have Z:(loadVar H ⟨g,0,none⟩).run P w=.ok v w:=by
  simp [loadVar,Sem.run_bind,G,Y]
 have J:F[p]?.getD undef=.pointer (some ⟨g,0,none⟩):=by simpa using hp
 have I:F[u]?.getD undef=O:=by simpa using V
 simp [results,h,J,I,asAddr,Z,Result.andThen]
theorem qh9 (ao:Option Addr) (b bE n c:Nat) (l:List FT) (w:World) (hl:l.length=n) (hn:n<=64) (aa:FCells w ao b bE l) (hf:FAll l) :
  Calls prog 147 #[.slice ao n c] w fun e w'=>∃g v ps,e=.returned (.tuple #[.slice (some ⟨g,0,none⟩) n n,v])/\w.heap.size<=g/\Below w.heap.size w w'/\MagAt w' v (flcd l)/\ps.length=n/\IRow w' g n ps/\qcd w' ps (ftop l):=by
 have bC:=run_make_row' (P:=prog) 286 213 (.slice none 0 0) 24 underlying286 infoM rfl .i64 .i64 n (by omega) (by omega);have HC:=qH (qA aa (qA hf hl));have bI:=qeZ;clear aa hf hl;go_enter func147,ntmps147;go_wp2
 go_loopw [15] (fun x15 W=>∃(k:Nat) (vs:List Value),k<=n/\x15=.int .i64 k/\Hu (vs.length=k/\PRow W (w.heap.size+1) n vs/\qdg W vs ((l.take k).map fden)/\W.heap[w.heap.size]? = some (.cells #[zs0] 213 (0,0)))/\Hu (Below w.heap.size w W)) (fun x15 _=>n-(intOf x15).toNat)
 case atStart =>
  have h1:=PRow.made (w.alloc (.cells #[zs0] 213)) n;rw [qaa] at h1;exact⟨0,[],qan _,rfl,qH ⟨rfl,h1,⟨by simp,fun k hk=>absurd hk (by simp)⟩,(qL _ _ _ (by simp only [qaa];omega)).trans (qM _ _ _ rfl)⟩,qH (qbM (qbM qB qN) qN)⟩
 case round =>
  clear bC;obtain⟨k,vs,hk,rfl,U,hB⟩:=hrel
  by_cases bB:k<n
  ·have bK:(k:Int)<n:=by omega
   have aK:k<l.length:=by have:=HC.o.2.2;omega
   have aA:=HC.o.1.addr (by omega);subst aA;have hc:=(HC.o.1.below hB.o).cell k aK;have Y:=HC.o.2.1 k aK;have ax:=qlk l k aK;have aX:fden (l.getD k fd0)=(ival (l.getD k fd0).2.data.toList).natAbs:=rfl;rw [aX] at ax;obtain⟨N,hN⟩:=qX ((l.getD k fd0).1);obtain⟨D,hD⟩:=qX ((l.getD k fd0).2);rw [hN,hD] at hc;rw [hD] at ax Y;obtain⟨aD,aF⟩:=hc;have HN:=qH (fun W=>(qb7 .l) D Y.vd W);have HD:=qH ax;clear Y ax aX hN hD;go_wp2_with fail;refine (HN.o _).mono ?_;rintro e H ⟨v2,rfl,ae,ay⟩;obtain⟨m2,rfl,aI⟩:=ay;have J:Below wr.heap.size wr H:=(qB.alloc qN _).trans (ae.mono (by simp only [qaa];omega));have aj:=U.o.2.1.below J;have ai:=aj.at (by have:=U.o.1;omega);rw [U.o.1] at ai;obtain⟨aR,aS⟩:=ai;have G:=aj.set (by have:=U.o.1;omega) m2 (qjd aI);rw [U.o.1] at G;have aO:=(((U.o.2.2.1.below J).snoc aI).keep (qbO H (w.heap.size+1) k m2) aj.1 aj.nope);rw [<-HD.o] at aO;have ah:=(qW H ⟨w.heap.size+1,k,none⟩ m2 w.heap.size (by show w.heap.size≠w.heap.size+1;omega)).trans ((J.block _ (qG U.o.2.2.2).1).trans U.o.2.2.2);have aV:=(hB.o.trans (J.mono hB.o.size)).setCell (p:=⟨w.heap.size+1,k,none⟩) (by show w.heap.size<=w.heap.size+1;omega) m2;have H3:=qH (qA G (qA aO (qA ah aV)));obtain⟨s2,_,_,u2,t2,_,rfl,_,_⟩:=aI;clear ae J aj G aO ah aV aD aF;go_wp2;go_roundw
   case rel=>exact⟨k+1,_,bB,by go_num,qH ⟨by rw [qaf,U.o.1];rfl,H3.o.1,H3.o.2.1,H3.o.2.2.1⟩,qH H3.o.2.2.2⟩
   case measure=>simp [intOf];omega
  ·obtain rfl:k=n:=by omega
   have bg:=HC.o.2.2;have aN:=U.o.2.2.1;rw [qal (by omega)] at aN;have bz:∀j,j<k->0<(l.map fden).getD j 0/\Fit ((l.map fden).getD j 0) 67:=by
    intro j hj;have e:(l.map fden).getD j 0=fden (l.getD j fd0):=by
     rw [qab,qaS,qab,qad (by omega)];rfl
    rw [e];exact qdK HC.o.2.1 (by omega)
   have aW:=qgW (some ⟨w.heap.size+1,0,none⟩) (w.heap.size+1) 0 k k vs (l.map fden) 67 wr (by rw [qaF];exact bg) (U.o.2.1.cells U.o.1) aN bz (by omega) (by decide) (by omega);have aQ:=qH aW;clear aW bz aN bg;go_wp2_with fail;refine aQ.o.mono ?_;rintro e H ⟨v2,rfl,ae,ay⟩;obtain⟨W3,av⟩:=qY (H.setCell ⟨w.heap.size,0,none⟩ v2);have ag:=(ae.block _ (qG U.o.2.2.2).1).trans U.o.2.2.2;have bF:=qC _ _ 0 _ _ _ ag;have bG:=qF _ _ 0 _ _ ag;have aL:=qch ay (qbO H w.heap.size 0 v2) ag (by intro x hx d;rw [qao.1 hx];intro e;cases e);have ah:(H.setCell ⟨w.heap.size,0,none⟩ v2).heap[w.heap.size]? = some (.cells #[v2] 213 (0,0)):=heap_setCell_same H w.heap.size 0 _ _ v2 ag;have aB:=(hB.o.trans (ae.mono hB.o.size)).setCell (p:=⟨w.heap.size,0,none⟩) qN v2;rw [<-av] at aL ah aB;have az:Fit (flcd l) 4289:=by
    have:=qfa (l.map fden) 67 (by
     intro j hj;have aZ:j<l.length:=by rw [qaF] at hj;exact hj
     have e:(l.map fden).getD j 0=fden (l.getD j fd0):=by
      rw [qab,qaS,qab,qad aZ];rfl
     rw [e];exact qdK HC.o.2.1 aZ) k (by rw [qaF];have:=HC.o.2.2;omega)
    rw [qal (by rw [qaF];have:=HC.o.2.2;omega)] at this;exact this.mono (by omega)
   have bu:=(qG ag).1;have H3:=qH (qA aL (qA ah (qA aB az)));have HS:=qH bu;obtain⟨s2,_,_,u2,t2,_,bD,_,_⟩:=ay;subst bD;have aM:=qgn k (by omega) W3;clear ae ag aL ah aB U hB aQ az bu;go_wp2_with fail;rw [<-av];have bv:W3.heap.size=H.heap.size:=by rw [av];exact qbt ..
   rw [bv] at aM;rw [aM];clear av;go_wp2_with fail
   go_loopw [36] (fun x36 W=>∃(j:Nat) (ps:List (Value×Bool)),j<=k/\x36=.int .i64 j/\Hu (ps.length=j/\IRow W H.heap.size k ps/\qcd W ps (ftop l)/\W.heap[w.heap.size]? = some (.cells #[.slice s2 t2 u2] 213 (0,0))/\MagAt W (.slice s2 t2 u2) (flcd l))/\Hu (Below w.heap.size w W)) (fun x36 _=>k-(intOf x36).toNat)
   case atStart =>
    have h0:=IRow.made W3 k;rw [bv] at h0;have aC:Below W3.heap.size W3 (W3.alloc (.cells (madeCells #[zs0,.bool false] (k*2)) 217)):=qbM qB qN;exact⟨0,[],qan _,rfl,qH ⟨rfl,h0,(fun i hi=>absurd hi (by simp)),(aC.block _ (qG H3.o.2.1).1).trans H3.o.2.1,H3.o.1.below aC⟩,qH (H3.o.2.2.1.trans (aC.mono H3.o.2.2.1.size))⟩
   case round =>
    clear aM;obtain⟨j,ps,hj,rfl,F,au⟩:=hrel
    by_cases bA:j<k
    ·have bJ:(j:Int)<k:=by omega
     have bf:j<l.length:=by have:=HC.o.2.2;omega
     have aA:=HC.o.1.addr (by omega);subst aA;have hc:=(HC.o.1.below au.o).cell j bf;have Y:=HC.o.2.1 j bf;have aG:ftop l j=ival (l.getD j fd0).1.data.toList*((flcd l / (ival (l.getD j fd0).2.data.toList).natAbs:Nat):Int):=rfl;obtain⟨N,hN⟩:=qX ((l.getD j fd0).1);obtain⟨D,hD⟩:=qX ((l.getD j fd0).2);rw [hN,hD] at hc Y aG;obtain⟨aD,aF⟩:=hc;have HW:=qH (qA Y aG);clear Y aG hN hD;go_wp2_with fail;have O:Below wr.heap.size wr (wr.alloc (.cells #[.string N,.string D] 27)):=qbM qB qN;refine (qmU N D HW.o.1 w.heap.size s2 t2 u2 (flcd l) 4289 (by omega) (by omega) _ ((O.block _ (qG F.o.2.2.2.1).1).trans F.o.2.2.2.1) (F.o.2.2.2.2.below O) H3.o.2.2.2).mono ?_;rintro e w5 ⟨v5,rfl,aT,aY⟩;rw [<-HW.o.2] at aY;have I:Below wr.heap.size wr w5:=O.trans (aT.mono O.size);have Z:=F.o.2.1.below I;have af:=F.o.1;obtain⟨v6,rfl,aJ⟩:=aY;have ai:=Z.at (by omega);rw [af] at ai;obtain⟨⟨aR,aS⟩,aH⟩:=ai;have bL:=aH (j*2);have bM:=aH (j*2+1);have G:=Z.set (by omega) v6 (decide (ftop l j<0)) (qjd aJ);rw [af] at G;have V:=qbR (qbO w5 H.heap.size (j*2) v6) (qbO _ H.heap.size (j*2+1) (.bool (decide (ftop l j<0))));have ak:=((F.o.2.2.1.below I).snoc (by rw [af];exact aJ)).keep V Z.1 Z.nope;rw [af] at ak;have hne:w.heap.size≠H.heap.size:=Nat.ne_of_lt HS.o;have bn:=(qW (w5.setCell ⟨H.heap.size,j*2,none⟩ v6) ⟨H.heap.size,j*2+1,none⟩ (.bool (decide (ftop l j<0))) w.heap.size hne).trans ((qW w5 ⟨H.heap.size,j*2,none⟩ v6 w.heap.size hne).trans ((I.block _ (qG F.o.2.2.2.1).1).trans F.o.2.2.2.1));have bi:=qch (F.o.2.2.2.2.below I) V Z.1 Z.nope;have aU:=((au.o.trans (I.mono au.o.size)).setCell (p:=⟨H.heap.size,j*2,none⟩) (qap HS.o) v6).setCell (p:=⟨H.heap.size,j*2+1,none⟩) (qap HS.o) (.bool (decide (ftop l j<0)));have H6:=qH (qA G (qA ak (qA bn (qA bi aU))));have HP:=qH af;obtain⟨s6,_,_,u6,t6,_,rfl,_,_⟩:=aJ;clear G ak bn bi aU V Z I aT O af aH aD aF;go_wp2;go_roundw
     case rel=>exact⟨j+1,_,bA,by go_num,qH ⟨by rw [qaf,HP.o];rfl,H6.o.1,H6.o.2.1,H6.o.2.2.1,H6.o.2.2.2.1⟩,qH H6.o.2.2.2.2⟩
     case measure=>simp [intOf];omega
    ·obtain rfl:j=k:=by omega
     have hne:H.heap.size≠w.heap.size:=qbf HS.o;have bq:=heap_setCell_same wr w.heap.size 0 _ _ (.slice s2 t2 u2) F.o.2.2.2.1;have V:=qbO wr w.heap.size 0 (.slice s2 t2 u2);have aP:∀x∈(#[.slice s2 t2 u2]:Array Value).toList,∀d,x≠.int .u32 d:=by intro x hx d;rw [qao.1 hx];intro e;cases e
     have HE:Hu (((wr.setCell ⟨w.heap.size,0,none⟩ (.slice s2 t2 u2)).drew).heap[w.heap.size]? = some (.cells #[.slice s2 t2 u2] 213 (0,0))/\qcd (wr.setCell ⟨w.heap.size,0,none⟩ (.slice s2 t2 u2)).drew ps (ftop l)/\MagAt (wr.setCell ⟨w.heap.size,0,none⟩ (.slice s2 t2 u2)).drew (.slice s2 t2 u2) (flcd l)/\Below w.heap.size w (wr.setCell ⟨w.heap.size,0,none⟩ (.slice s2 t2 u2)).drew/\ps.length=j/\IRow (wr.setCell ⟨w.heap.size,0,none⟩ (.slice s2 t2 u2)).drew H.heap.size j ps):=qH ⟨bq,(F.o.2.2.1.keep V F.o.2.2.2.1 aP).below qB.drew,(qch F.o.2.2.2.2 V F.o.2.2.2.1 aP).below qB.drew,(au.o.setCell (p:=⟨w.heap.size,0,none⟩) qN _).drew,F.o.1,⟨(qW wr ⟨w.heap.size,0,none⟩ (.slice s2 t2 u2) H.heap.size hne).trans F.o.2.1.1,F.o.2.1.2⟩⟩;clear bq V aP hne;have bN:=qC _ _ 0 _ _ _ F.o.2.2.2.1;have bH:=qF _ _ 0 _ _ F.o.2.2.2.1;go_wp2_with fail
     go_region
     all_goals go_wp2_with fail
     all_goals refine qR (v:=.tuple #[.slice (some ⟨H.heap.size,0,none⟩) j j,.slice s2 t2 u2]) (qkP rfl _ _ w.heap.size _ underlying213 rfl rfl _ _ rfl (qC _ _ 0 _ _ _ HE.o.1)) rfl ⟨H.heap.size,_,ps,rfl,qap HS.o,HE.o.2.2.2.1,HE.o.2.2.1,HE.o.2.2.2.2.1,HE.o.2.2.2.2.2,HE.o.2.1⟩
theorem qh2 {P:Program} (w:World) (Z sT ty G:TypeId) (m g F I:Nat) (a:Addr) (H U:Nat) (cur:Array Value) (t:TypeId) (cs:List Value)
  (hu:P.underlying Z=some (.slice G)) (hs:(P.info? G).map (·.size)=some m)
  (hg:w.heap[g]? = some (.cells cur t (0,0))) (hn:cs.length=Nat.min H F*m)
  (O:∀j v,cs[j]? = some v->w.cell? (a.add j)=some v) (J:0+cs.length<=cur.size) (h1:∀v∈cs,v.oneCell'=true) :
  (Builtin.copy_ #[Z,sT] ty #[.slice (some ⟨g,0,none⟩) F I,.slice (some a) H U]).run P w =
   .ok (goInt (Nat.min H F:Nat)) (w.setRow g (cur.toList.take 0++cs++cur.toList.drop (0+cs.length)).toArray):=by
 have hl:=run_loadCells_list (P:=P) w a cs O;have Y:=run_storeCells_at P g 0 t cs 0 cur w hg (by simpa using J) h1;cases V:P.info? G with
 | none=>simp [V] at hs
 | some i =>
  have hi:i.size=m:=by simpa [V] using hs
  rw [hn] at hl;simp [Builtin.copy_,run_underlying hu,Builtin.lenOf,Builtin.firstCells,sizeOf,typeInfo,V,hi,hl,Y]
def fflat (l:List FT):List Value:=l.flatMap fun x=>[.string x.1,.string x.2]
theorem qce (l:List FT):(fflat l).length=l.length*2:=by
 induction l with
 | nil=>rfl
 | cons p l ih=>rw [fflat,List.flatMap_cons,qaf,<-fflat,ih,qbH];simp;omega
theorem qdJ (a b:List FT):fflat (a++b)=fflat a++fflat b:=by unfold fflat;rw [List.flatMap_append]
theorem qeY (l:List FT):∀(k:Nat) (x:FT),l[k]? = some x->(fflat l)[k*2]? = some (.string x.1)/\(fflat l)[k*2+1]? = some (.string x.2):=by
 induction l with
 | nil=>intro k p h;cases h
 | cons q l ih =>
  intro k p h;have e:fflat (q :: l)=.string q.1 :: .string q.2 :: fflat l:=rfl;rw [e];cases k with
  | zero =>
   have:q=p:=qag h;subst this;exact⟨rfl,rfl⟩
  | succ k =>
   have F:=ih k p h;rw [show (k+1)*2=k*2+1+1 by omega];exact F
theorem qh7 (l:List FT):∀v∈fflat l,v.oneCell'=true:=by
 intro v G;obtain⟨x,_,F⟩:=List.mem_flatMap.1 G;rcases qay.1 F with rfl | F
 ·rfl
 ·rw [qao.1 F];rfl
theorem getD_some {l:List FT} {k:Nat} (F:k<l.length):l[k]? = some (l.getD k fd0):=by rw [qab,qad F];rfl
theorem FCells.src {W:World} {O:Option Addr} {b F:Nat} {l:List FT} (h:FCells W O b F l):∀j v,(fflat l)[j]? = some v->W.cell? ((⟨b,F,none⟩:Addr).add j)=some v:=by
 intro j v G;have U:j<(fflat l).length:=(List.getElem?_eq_some_iff.1 G).1;rw [qce] at U;have J:j / 2<l.length:=by omega
 obtain⟨H,I⟩:=qeY l (j / 2) _ (getD_some J);obtain⟨c1,c2⟩:=h.cell (j / 2) J;rw [Addr.add_mid]
 by_cases e:j % 2=0
 ·rw [show j / 2*2=j by omega] at H c1;rw [H] at G;rw [c1];exact G
 ·rw [show j / 2*2+1=j by omega] at I;rw [show F+j / 2*2+1=F+j by omega] at c2;rw [I] at G;rw [c2];exact G
theorem FCells.ofRow {W:World} {g:Nat} {l:List FT} {t:TypeId} {F:Nat×Nat} (h:W.heap[g]? = some (.cells (fflat l).toArray t F)):FCells W (some ⟨g,0,none⟩) g 0 l:=by
 refine⟨fun _=>rfl,fun k I=>?_⟩;obtain⟨G,H⟩:=qeY l k _ (getD_some I);rw [qaL];exact⟨(qC _ _ _ _ _ _ h).trans ((qaz ..).trans G),(qC _ _ _ _ _ _ h).trans ((qaz ..).trans H)⟩
theorem infoF:(Tryz.prog.info? 27).map (fun i=>(i.zero,i.size,i.bytes))=some (some (.agg #[.string ⟨#[]⟩,.string ⟨#[]⟩]),2,32):=by kernel_rfl
theorem qkG (n:Nat) (J:n<=1048576) (w:World):(Instr.makeSlice 22 (.int .i64 ((n:Int)+1)) (.int .i64 ((n:Int)+1))).run prog w=.ok (.slice (some ⟨w.heap.size,0,none⟩) (n+1) (n+1)) (w.alloc (.cells (madeCells #[.string ⟨#[]⟩,.string ⟨#[]⟩] ((n+1)*2)) 27)):=by
 obtain⟨i,I,F,G,H⟩:=info_parts infoF;have h:=run_make (P:=prog) w 22 27 i _ underlying22 I F .i64 .i64 ((n+1:Nat):Int) ((n+1:Nat):Int) (by omega) (Int.le_refl _) (by rw [H];omega) (by omega);rw [G,Int.toNat_natCast] at h;exact h
theorem qmz (l:List FT) (x:FT) (r:List Value) (hr:r.length=2):(((fflat l++r).toArray.setIfInBounds (l.length*2) (.string x.1)).setIfInBounds (l.length*2+1) (.string x.2))=(fflat (l++[x])).toArray:=by
 obtain⟨a,b,rfl⟩:∃a b,r=[a,b]:=by
  match r,hr with
  | [a,b],_=>exact⟨a,b,rfl⟩
 rw [qdJ,qaH,qaH,qa4 _ _ (by rw [qce];exact qae _),qce,qaK,qbh,qa4 _ _ (by rw [qce];omega),qce,show l.length*2+1-l.length*2=1 by omega]
 rfl
theorem qgV (ao:Option Addr) (b ax n c:Nat) (l:List FT) (x:FT) (w:World) (hl:l.length=n) (aD:0<n) (hn:n<=63) (F:FCells w ao b ax l) :
  Calls prog 150 #[.slice ao n c,.agg #[.string x.1,.string x.2]] w fun e w'=>∃g,e=.returned (.slice (some ⟨g,0,none⟩) ((n+1:Nat)) (n+1))/\Below w.heap.size w w'/\FCells w' (some ⟨g,0,none⟩) g 0 (l++[x]):=by
 obtain⟨s1,s2⟩:=x;have ay:=F.addr (by omega);subst ay;obtain⟨V,G⟩:=qY (w.alloc (.cells #[.string s1,.string s2] 27));have au:=qkG n (by omega) V;obtain⟨W2,H⟩:=qY (V.alloc (.cells (madeCells #[.string ⟨#[]⟩,.string ⟨#[]⟩] ((n+1)*2)) 27));have av:V.heap.size=w.heap.size+1:=by rw [G,qaa]
 rw [<-H,av] at au;have af:W2.heap[w.heap.size+1]? = some (.cells (madeCells #[.string ⟨#[]⟩,.string ⟨#[]⟩] ((n+1)*2)) 27 (0,0)):=by rw [H];exact qM _ _ _ av
 have ag:Below w.heap.size w V:=G▸qbM qB qN;have Z:Below w.heap.size w W2:=H▸qbM ag qN;have aj:=qh2 (P:=prog) W2 22 22 3 27 2 (w.heap.size+1) (n+1) (n+1) ⟨b,ax,none⟩ n c _ 27 (fflat l) underlying22 (by kernel_rfl) af (by rw [qce,hl];show n*2=(min n (n+1))*2;rw [qaY (by omega)]) (F.below Z).src (by rw [qce,hl,size_madeCells];omega) (qh7 l);obtain⟨R,hR⟩:=qY (((madeCells #[.string ⟨#[]⟩,.string ⟨#[]⟩] ((n+1)*2):Array Value)).toList.drop (0+(fflat l).length));have Y:R.length=2:=by rw [hR,qbp,Array.length_toList,size_madeCells,qce];omega
 rw [<-hR,List.take_zero,qbw] at aj;obtain⟨W3,J⟩:=qY (W2.setRow (w.heap.size+1) (fflat l++R).toArray);rw [<-J] at aj;have I:W3.heap[w.heap.size+1]? = some (.cells (fflat l++R).toArray 27 (0,0)):=by rw [J];exact qT _ _ _ _ _ _ af
 have ah:Below w.heap.size w W3:=J▸qS Z (by omega) _;have ae:V.heap[w.heap.size]? = some (.cells #[.string s1,.string s2] 27 (0,0)):=by rw [G];exact qM _ _ _ rfl
 have U:Below V.heap.size V W3:=J▸qS (H▸qbM qB qN) (by omega) _;have aa:=(U.block _ (qG ae).1).trans ae;have aF:=qC _ _ 0 _ _ _ aa;have aG:=qC _ _ 1 _ _ _ aa;have ak:(fflat l++R).length=n*2+2:=by rw [qaf,qce,Y,hl]
 obtain⟨d0,az⟩:∃d0,W3.cell? ⟨w.heap.size+1,n*2,none⟩=some d0:=⟨_,(qC _ _ _ _ _ _ I).trans ((qaz ..).trans (qad (by omega)))⟩;obtain⟨d1,aA⟩:∃d1,W3.cell? ⟨w.heap.size+1,n*2+1,none⟩=some d1:=⟨_,(qC _ _ _ _ _ _ I).trans ((qaz ..).trans (qad (by omega)))⟩;have aB:=qF _ _ (n*2) _ _ I;have aC:=qF _ _ (n*2+1) _ _ I;have O:=heap_setCell_same _ _ (n*2+1) _ _ (.string s2) (heap_setCell_same _ _ (n*2) _ _ (.string s1) I);rw [<-hl,qmz l (s1,s2) R Y,hl] at O;have ai:=(ah.setCell (p:=⟨w.heap.size+1,n*2,none⟩) (by show w.heap.size<=w.heap.size+1;omega) (.string s1)).setCell (p:=⟨w.heap.size+1,n*2+1,none⟩) (by show w.heap.size<=w.heap.size+1;omega) (.string s2);have HE:=qH (qA ai (FCells.ofRow O));have HN:=qH (qA H G);clear F af ag Z hR Y J I ah ae U aa ak O ai H;go_enter func150,ntmps150;go_wp2_with fail;rw [<-G];clear G;rw [au];go_wp2;go_ret;exact⟨_,rfl,HE.o.1,HE.o.2⟩
theorem qfX {W:World} {g:Nat} {t:TypeId} (h:W.heap[g]? = some (.cells #[.slice none 0 0,.bool false] t (0,0))) (a:Option Addr) (n c:Nat) (b:Bool) :
  ((W.setCell ⟨g,0,none⟩ (.slice a n c)).setCell ⟨g,1,none⟩ (.bool b)).heap[g]? = some (.cells #[.slice a n c,.bool b] t (0,0)) /\
  (∀k,k≠g->((W.setCell ⟨g,0,none⟩ (.slice a n c)).setCell ⟨g,1,none⟩ (.bool b)).heap[k]? = W.heap[k]?) /\
  (∀m F z,IntAt W (.agg #[m,.bool F]) z->IntAt ((W.setCell ⟨g,0,none⟩ (.slice a n c)).setCell ⟨g,1,none⟩ (.bool b)) (.agg #[m,.bool F]) z) :=
 ⟨qcP h a n c b,fun _k G=>(qW _ _ _ _ G).trans (qW _ _ _ _ G),fun _ _ _ H=>qcO H h a n c b⟩
def LTwo (F W:World) (G H:Nat) (v3:Option Addr×Nat×Nat×Bool) (v4:Option Addr×Nat×Nat×Bool) (z3 z4:Int):Prop :=
 W.heap[G]? = some (.cells #[.slice v3.1 v3.2.1 v3.2.2.1,.bool v3.2.2.2] 217 (0,0))/\W.heap[H]? = some (.cells #[.slice v4.1 v4.2.1 v4.2.2.1,.bool v4.2.2.2] 217 (0,0)) /\
  IntAt W (.agg #[.slice v3.1 v3.2.1 v3.2.2.1,.bool v3.2.2.2]) z3/\IntAt W (.agg #[.slice v4.1 v4.2.1 v4.2.2.1,.bool v4.2.2.2]) z4/\Below F.heap.size F W/\F.heap.size<=G/\F.heap.size<=H
section
variable {W2 W:World} {a3:Option Addr} {n3 c3:Nat} {b3:Bool} {a4:Option Addr} {n4 c4:Nat} {b4:Bool} {z3 z4:Int}
theorem ltwo_aa (h:IntAt W (.agg #[.slice a3 n3 c3,.bool b3]) z3/\IntAt W (.agg #[.slice a4 n4 c4,.bool b4]) z4) (F:Below W2.heap.size W2 W) :
  LTwo W2 ((W.alloc (.cells #[.slice a3 n3 c3,.bool b3] 217)).alloc (.cells #[.slice a4 n4 c4,.bool b4] 217)) W.heap.size (W.heap.size+1) (a3,n3,c3,b3) (a4,n4,c4,b4) z3 z4 :=
 have k:=qbM (qbM (Below.refl W.heap.size W) qN) qN
 ⟨(qL _ _ _ (by simp only [qaa];omega)).trans (qM _ _ _ rfl),qM _ _ _ (by simp only [qaa]),h.1.below k,h.2.below k,qbM (qbM F qN) qN,F.size,qam F.size⟩
theorem ltwo_bb (h:IntAt W (.agg #[.slice a3 n3 c3,.bool b3]) z3/\IntAt W (.agg #[.slice a4 n4 c4,.bool b4]) z4) (F:Below W2.heap.size W2 W) :
  LTwo W2 ((W.alloc (.cells #[.slice a4 n4 c4,.bool b4] 217)).alloc (.cells #[.slice a3 n3 c3,.bool b3] 217)) (W.heap.size+1) W.heap.size (a3,n3,c3,b3) (a4,n4,c4,b4) z3 z4 :=
 have k:=qbM (qbM (Below.refl W.heap.size W) qN) qN
 ⟨qM _ _ _ (by simp only [qaa]),(qL _ _ _ (by simp only [qaa];omega)).trans (qM _ _ _ rfl),h.1.below k,h.2.below k,qbM (qbM F qN) qN,qam F.size,F.size⟩
theorem ltwo_pa {g:Nat} (h:IntAt W (.agg #[.slice a3 n3 c3,.bool b3]) z3/\IntAt W (.agg #[.slice a4 n4 c4,.bool b4]) z4) (F:Below W2.heap.size W2 W) (hg:W2.heap.size<=g) (G:W.heap[g]? = some (.cells #[.slice none 0 0,.bool false] 217 (0,0))) :
  LTwo W2 (((W.setCell ⟨g,0,none⟩ (.slice a3 n3 c3)).setCell ⟨g,1,none⟩ (.bool b3)).alloc (.cells #[.slice a4 n4 c4,.bool b4] 217)) g W.heap.size (a3,n3,c3,b3) (a4,n4,c4,b4) z3 z4:=by
 obtain⟨p1,p2,p3⟩:=qfX G a3 n3 c3 b3;have lt:=(qG G).1;have k:∀V:World,Below V.heap.size V (V.alloc (.cells #[.slice a4 n4 c4,.bool b4] 217)):=fun V=>qbM qB qN
 exact⟨(qL _ _ _ (by simp only [qbt];exact lt)).trans p1,qM _ _ _ (by simp only [qbt]),(p3 _ _ _ h.1).below (k _),(p3 _ _ _ h.2).below (k _),qbM ((F.setCell (by exact hg) _).setCell (by exact hg) _) qN,hg,F.size⟩
theorem ltwo_pb {g:Nat} (h:IntAt W (.agg #[.slice a3 n3 c3,.bool b3]) z3/\IntAt W (.agg #[.slice a4 n4 c4,.bool b4]) z4) (F:Below W2.heap.size W2 W) (hg:W2.heap.size<=g) (G:W.heap[g]? = some (.cells #[.slice none 0 0,.bool false] 217 (0,0))) :
  LTwo W2 (((W.setCell ⟨g,0,none⟩ (.slice a4 n4 c4)).setCell ⟨g,1,none⟩ (.bool b4)).alloc (.cells #[.slice a3 n3 c3,.bool b3] 217)) W.heap.size g (a3,n3,c3,b3) (a4,n4,c4,b4) z3 z4:=by
 obtain⟨p1,p2,p3⟩:=qfX G a4 n4 c4 b4;have lt:=(qG G).1;have k:∀V:World,Below V.heap.size V (V.alloc (.cells #[.slice a3 n3 c3,.bool b3] 217)):=fun V=>qbM qB qN
 exact⟨qM _ _ _ (by simp only [qbt]),(qL _ _ _ (by simp only [qbt];exact lt)).trans p1,(p3 _ _ _ h.1).below (k _),(p3 _ _ _ h.2).below (k _),qbM ((F.setCell (by exact hg) _).setCell (by exact hg) _) qN,F.size,hg⟩
theorem ltwo_pp {g F:Nat} (h:IntAt W (.agg #[.slice a3 n3 c3,.bool b3]) z3/\IntAt W (.agg #[.slice a4 n4 c4,.bool b4]) z4) (I:Below W2.heap.size W2 W) (hg:W2.heap.size<=g) (G:W2.heap.size<=F) (hne:g≠F) (J:W.heap[g]? = some (.cells #[.slice none 0 0,.bool false] 217 (0,0))) (H:W.heap[F]? = some (.cells #[.slice none 0 0,.bool false] 217 (0,0))) :
  LTwo W2 ((((W.setCell ⟨g,0,none⟩ (.slice a3 n3 c3)).setCell ⟨g,1,none⟩ (.bool b3)).setCell ⟨F,0,none⟩ (.slice a4 n4 c4)).setCell ⟨F,1,none⟩ (.bool b4)) g F (a3,n3,c3,b3) (a4,n4,c4,b4) z3 z4:=by
 obtain⟨p1,p2,p3⟩:=qfX J a3 n3 c3 b3;obtain⟨q1,q2,q3⟩:=qfX ((p2 F (Ne.symm hne)).trans H) a4 n4 c4 b4;exact⟨(q2 g hne).trans p1,q1,q3 _ _ _ (p3 _ _ _ h.1),q3 _ _ _ (p3 _ _ _ h.2),(((I.setCell (by exact hg) _).setCell (by exact hg) _).setCell (by exact G) _).setCell (by exact G) _,hg,G⟩
end
theorem qcZ {W:World} {F:List (Value×Bool)} {G:Nat->Int} (h:qcd W F G) {k:Nat} (J:k<F.length):∃(a:Option Addr) (n c:Nat) (b:Bool),F.getD k (zs0,false)=(.slice a n c,b)/\IntAt W (.agg #[.slice a n c,.bool b]) (G k):=by
 obtain⟨I,H⟩:=h k J;have hg:=H;obtain⟨a,_,_,c,n,_,e,_,_⟩:=H;refine⟨a,n,c,decide (G k<0),Prod.ext e I,_,rfl,e▸hg⟩
theorem qcH {a b:World} {g k:Nat} {cs:Array Value} {t:TypeId} (h:a.grownBy b (some g)) (hg:a.heap[k]? = some (.cells cs t (0,0))) (hne:k≠g) (i:Nat):b.cell? ⟨k,i,none⟩=cs[i]? :=
 qC _ _ i _ _ _ ((h.block _ (qG hg).1 (fun e=>hne (qag e))).trans hg)
theorem qbW {a b:World} (g:Nat) (h:Below a.heap.size a b):a.grownBy b (some g):=qca (qcy a _) h
def qgU (W:World) (b n:Nat) (F:List (Value×Bool)):Prop:=∀k,k<n->W.cell? ⟨b,k*2,none⟩=some (F.getD k (zs0,false)).1/\W.cell? ⟨b,k*2+1,none⟩=some (.bool (F.getD k (zs0,false)).2)
theorem qgU.below {W W':World} {b n:Nat} {H:List (Value×Bool)} (h:qgU W b n H) (G:Below W.heap.size W W'):qgU W' b n H :=
 fun k F=>⟨(G.cell (qac W _ (h k F).1)).trans (h k F).1,(G.cell (qac W _ (h k F).2)).trans (h k F).2⟩
theorem qj9 {W:World} {g n j:Nat} {F:List (Value×Bool)} {z:Nat->Int} {a:Option Addr} {m c:Nat} {b:Bool} (H:IRow W g n F) (U:qcd W F z) (Y:F.length=j) (I:j<n) (V:IntAt W (.agg #[.slice a m c,.bool b]) (z j)) :
  IRow ((W.setCell ⟨g,j*2,none⟩ (.slice a m c)).setCell ⟨g,j*2+1,none⟩ (.bool b)) g n (F++[(.slice a m c,b)])/\qcd ((W.setCell ⟨g,j*2,none⟩ (.slice a m c)).setCell ⟨g,j*2+1,none⟩ (.bool b)) (F++[(.slice a m c,b)]) z:=by
 subst Y;obtain⟨v,G,hg⟩:=V;have J:v=.slice a m c:=by simp only [qa1,qa2,qaU] at G;exact G.1.symm
 have O:b=decide (z F.length<0):=by simp only [qa1,qa2,qaU,Value.bool.injEq] at G;exact G.2.1
 subst J;refine⟨H.set I _ b (qjd hg),?_⟩;rw [O];exact (U.snoc hg).keep (qbR (qbO W g (F.length*2) _) (qbO _ g (F.length*2+1) _)) H.1 H.nope
theorem qh1 (br bp n cr cp I:Nat) (ps qs:List (Value×Bool)) (U O:Nat->Int) (K:Nat) (hK:K<=34359738368) (v0:Value) (z0:Int) (w:World) (hn:n<=64) (hc:I<n) (bM:ps.length=n) (bN:qs.length=n) (bg:qgU w br n ps) (bf:qgU w bp n qs) (hz:qcd w ps U) (hy:qcd w qs O) (bu:∀k,k<n->Fit (U k).natAbs K) (bq:∀k,k<n->Fit (O k).natAbs K) (h0:IntAt w v0 z0) (bi:Fit z0.natAbs K) (bO:z0≠0) :
  Calls prog 256 #[.slice (some ⟨br,0,none⟩) n cr,.slice (some ⟨bp,0,none⟩) n cp,.int .i64 I,v0] w fun e w'=>∃g rs,e=.returned (.slice (some ⟨g,0,none⟩) n n)/\w.heap.size<=g/\Below w.heap.size w w'/\rs.length=n/\IRow w' g n rs/\qcd w' rs (fun j=>(O I*U j-U I*O j).tdiv z0):=by
 obtain⟨a0,n0,c0,b0,rfl⟩:=qbN h0;obtain⟨W1,aj⟩:=qY (w.alloc (.cells #[.slice a0 n0 c0,.bool b0] 217));have bD:W1.heap.size=w.heap.size+1:=by rw [aj,qaa]
 have aL:=qgn n (by omega) W1;rw [bD] at aL;have aV:Below w.heap.size w W1:=aj▸qbM qB qN;have aW:=qbM (o:=.cells (madeCells #[zs0,.bool false] (n*2)) 217) aV qN;have aI:=IRow.made W1 n;rw [bD] at aI;have bB:W1.heap[w.heap.size]? = some (.cells #[.slice a0 n0 c0,.bool b0] 217 (0,0)):=by rw [aj];exact qM _ _ _ rfl
 have bC:(W1.alloc (.cells (madeCells #[zs0,.bool false] (n*2)) 217)).heap[w.heap.size]? = some (.cells #[.slice a0 n0 c0,.bool b0] 217 (0,0)):=(qL _ _ _ (by omega)).trans bB;have bV:(I:Int)<n:=by omega
 have H2:=qH (qA aW (qA aI bC));have J:=qH (qA bg (qA bf (qA hz (qA hy (qA bu (qA bq (qA h0 (qA bi (qA bM bN)))))))));have bW:=qeZ;clear bg bf hz hy bu bq h0 bi aV aW aI bB bC;go_enter func256,ntmps256;go_wp2_with fail;rw [<-aj];rw [aL];clear aj aL;go_wp2_with fail
 go_loopw [18] (fun x18 W=>∃(j:Nat) (rs:List (Value×Bool)),j<=n/\x18=.int .i64 j/\Hu (rs.length=j/\IRow W (w.heap.size+1) n rs/\qcd W rs (fun j=>(O I*U j-U I*O j).tdiv z0)/\W.heap[w.heap.size]? = some (.cells #[.slice a0 n0 c0,.bool b0] 217 (0,0)))/\Hu (Below w.heap.size w W)) (fun x18 _=>n-(intOf x18).toNat)
 case atStart=>exact⟨0,[],qan _,rfl,qH ⟨rfl,H2.o.2.1,(fun i hi=>absurd hi (by simp)),H2.o.2.2⟩,qH H2.o.1⟩
 case round =>
  obtain⟨j,rs,hj,rfl,hI,hB⟩:=hrel
  by_cases V:j<n
  ·have bX:(j:Int)<n:=by omega
   obtain⟨a1,n1,c1,b1,e1,i1⟩:=qcZ (J.o.2.2.2.1.below hB.o) (k:=I) (by have:=J.o.2.2.2.2.2.2.2.2.2;omega);obtain⟨a2,n2,c2,b2,e2,i2⟩:=qcZ (J.o.2.2.1.below hB.o) (k:=j) (by have:=J.o.2.2.2.2.2.2.2.2.1;omega);obtain⟨a5,n5,c5,b5,e5,i5⟩:=qcZ (J.o.2.2.1.below hB.o) (k:=I) (by have:=J.o.2.2.2.2.2.2.2.2.1;omega);obtain⟨a6,n6,c6,b6,e6,i6⟩:=qcZ (J.o.2.2.2.1.below hB.o) (k:=j) (by have:=J.o.2.2.2.2.2.2.2.2.2;omega);have k1:=(J.o.2.1.below hB.o) I hc;have k2:=(J.o.1.below hB.o) j V;have k5:=(J.o.1.below hB.o) I hc;have k6:=(J.o.2.1.below hB.o) j V;rw [e1] at k1;rw [e2] at k2;rw [e5] at k5;rw [e6] at k6;have bE:∀W,Below wr.heap.size wr W->W.cell? ⟨bp,I*2,none⟩=some (.slice a1 n1 c1):=fun W h=>(h.cell (qac wr _ k1.1)).trans k1.1
   have bF:∀W,Below wr.heap.size wr W->W.cell? ⟨bp,I*2+1,none⟩=some (.bool b1):=fun W h=>(h.cell (qac wr _ k1.2)).trans k1.2
   have bG:∀W,Below wr.heap.size wr W->W.cell? ⟨br,j*2,none⟩=some (.slice a2 n2 c2):=fun W h=>(h.cell (qac wr _ k2.1)).trans k2.1
   have bH:∀W,Below wr.heap.size wr W->W.cell? ⟨br,j*2+1,none⟩=some (.bool b2):=fun W h=>(h.cell (qac wr _ k2.2)).trans k2.2
   have bI:∀W,Below wr.heap.size wr W->W.cell? ⟨br,I*2,none⟩=some (.slice a5 n5 c5):=fun W h=>(h.cell (qac wr _ k5.1)).trans k5.1
   have bJ:∀W,Below wr.heap.size wr W->W.cell? ⟨br,I*2+1,none⟩=some (.bool b5):=fun W h=>(h.cell (qac wr _ k5.2)).trans k5.2
   have bK:∀W,Below wr.heap.size wr W->W.cell? ⟨bp,j*2,none⟩=some (.slice a6 n6 c6):=fun W h=>(h.cell (qac wr _ k6.1)).trans k6.1
   have bL:∀W,Below wr.heap.size wr W->W.cell? ⟨bp,j*2+1,none⟩=some (.bool b6):=fun W h=>(h.cell (qac wr _ k6.2)).trans k6.2
   have aR:=qH (fun W (h:Below wr.heap.size wr W)=>qcp (O I) (U j) K K (by omega) _ _ W (i1.below h) (i2.below h) (J.o.2.2.2.2.2.1 I hc) (J.o.2.2.2.2.1 j V));have aS:=qH (fun W (h:Below wr.heap.size wr W)=>qcp (U I) (O j) K K (by omega) _ _ W (i5.below h) (i6.below h) (J.o.2.2.2.2.1 I hc) (J.o.2.2.2.2.2.1 j V));clear k1 k2 k5 k6 e1 e2 e5 e6 i1 i2 i5 i6;have ah:Below wr.heap.size wr wr:=Below.refl _ _;have aC:Below wr.heap.size wr wr.drew:=ah.drew;have aB:wr.drew.heap.size=wr.heap.size:=rfl;have F:∀W:World,W.drew.heap.size=W.heap.size:=fun _=>rfl
   go_wp2_with fail
   go_cut [11,12] (fun x11 x12 W=>∃(g3 g4:Nat) (a3:Option Addr) (n3 c3:Nat) (b3:Bool) (a4:Option Addr) (n4 c4:Nat) (b4:Bool),x11=.pointer (some ⟨g3,0,none⟩)/\x12=.pointer (some ⟨g4,0,none⟩)/\LTwo wr W g3 g4 (a3,n3,c3,b3) (a4,n4,c4,b4) (O I*U j) (U I*O j))
   case first =>
    go_region_held3 (fun W=>Below wr.heap.size wr W) (first | with_reducible exact ah | with_reducible exact aC | with_reducible exact H | with_reducible exact G | ((repeat (first | refine Below.setCell ?_ (by first | exact qae _ | exact G.size | exact H.size | exact qam qN | exact qam G.size | exact qam H.size) _ | refine qbM ?_ qN | refine Below.drew ?_));first | exact H | exact G | exact ah)) (first | (go_at_call_of 153 (Value.agg #[.slice a1 n1 c1,.bool b1]);refine (aR.o _ (by ((repeat (first | refine Below.setCell ?_ (by first | exact qae _ | exact G.size | exact H.size | exact qam qN | exact qam G.size | exact qam H.size) _ | refine qbM ?_ qN | refine Below.drew ?_));first | exact ah))).mono ?_;rintro e w3 ⟨p3,rfl,ak,aM⟩;have G:Below wr.heap.size wr w3:=bjoin (by ((repeat (first | refine Below.setCell ?_ (by first | exact qae _ | exact G.size | exact H.size | exact qam qN | exact qam G.size | exact qam H.size) _ | refine qbM ?_ qN | refine Below.drew ?_));first | exact ah)) ak;obtain⟨a3,n3,c3,b3,rfl⟩:=qbN aM;have aD:=qH aM;obtain⟨k3,bY⟩:=bcell ak;have Z3:=qH (zkeep ak);have s3:_<=_:=ak.size;(try simp only [qaa,aB,F] at s3);(try have q3:wr.heap.size<w3.heap.size:=by omega);(try have r3:wr.heap.size+1<w3.heap.size:=by omega);clear ak aM) | (go_at_call_of 153 (Value.agg #[.slice a5 n5 c5,.bool b5]);refine (aS.o _ (by ((repeat (first | refine Below.setCell ?_ (by first | exact qae _ | exact G.size | exact H.size | exact qam qN | exact qam G.size | exact qam H.size) _ | refine qbM ?_ qN | refine Below.drew ?_));first | exact G))).mono ?_;rintro e w4 ⟨p4,rfl,Z,aN⟩;have H:Below wr.heap.size wr w4:=bjoin (by ((repeat (first | refine Below.setCell ?_ (by first | exact qae _ | exact G.size | exact H.size | exact qam qN | exact qam G.size | exact qam H.size) _ | refine qbM ?_ qN | refine Below.drew ?_));first | exact G)) Z;obtain⟨a4,n4,c4,b4,rfl⟩:=qbN aN;have ai:=qH (qA (show IntAt w4 _ _ from (by first | exact aD.o.below Z | exact (aD.o.below (qbM qB qN)).below Z | exact (aD.o.below (qbM (qbM qB qN) qN)).below Z)) aN);obtain⟨k4,bZ⟩:=bcell Z;have Z4:=qH (zkeep Z);have s4:_<=_:=Z.size;(try simp only [qaa] at s4);(try have q4:wr.heap.size<w4.heap.size:=by omega);(try have r4:wr.heap.size+1<w4.heap.size:=by omega);(try have t4:w3.heap.size<w4.heap.size:=by omega);(try have u4:w3.heap.size+1<w4.heap.size:=by omega);clear Z aN))
    all_goals go_wp2_with fail
    all_goals go_meet
    all_goals refine⟨_,_,a3,n3,c3,b3,a4,n4,c4,b4,rfl,rfl,?_⟩
    all_goals first
     | with_reducible exact ltwo_aa ai.o H
     | with_reducible exact ltwo_bb ai.o H
     | (with_reducible refine ltwo_pa ai.o H ?_ ?_;(first | exact qae _ | exact G.size | exact H.size | exact qa6 _ | exact qam G.size);(refine Z4.o _ _ ?_;((try with_reducible refine zdrew ?_);first | (refine qM _ _ _ ?_;((try simp only) <;> omega)) | (refine Z3.o _ _ ?_;((try with_reducible refine zdrew ?_);first | (refine qM _ _ _ ?_;((try simp only) <;> omega)) | (refine (qL _ _ _ ?_).trans ?_;((try simp only [qaa,F]);omega);(refine qM _ _ _ ?_;((try simp only [qaa,F]) <;> omega))))) | (refine (qL _ _ _ ?_).trans ?_;((try simp only [qaa,F]);omega);(first | (refine qM _ _ _ ?_;((try simp only [qaa,F]) <;> omega)) | (refine Z3.o _ _ ?_;((try with_reducible refine zdrew ?_);first | (refine qM _ _ _ ?_;((try simp only [qaa,F]) <;> omega)) | (refine (qL _ _ _ ?_).trans ?_;((try simp only [qaa,F]);omega);(refine qM _ _ _ ?_;((try simp only [qaa,F]) <;> omega))))))) | (refine (qL _ _ _ ?_).trans ?_;((try simp only [qaa,F]);omega);refine (qL _ _ _ ?_).trans ?_;((try simp only [qaa,F]);omega);(refine Z3.o _ _ ?_;((try with_reducible refine zdrew ?_);first | (refine qM _ _ _ ?_;((try simp only [qaa,F]) <;> omega)) | (refine (qL _ _ _ ?_).trans ?_;((try simp only [qaa,F]);omega);(refine qM _ _ _ ?_;((try simp only [qaa,F]) <;> omega)))))))))
     | (with_reducible refine ltwo_pb ai.o H ?_ ?_;(first | exact qae _ | exact G.size | exact H.size | exact qa6 _ | exact qam G.size);(refine Z4.o _ _ ?_;((try with_reducible refine zdrew ?_);first | (refine qM _ _ _ ?_;((try simp only) <;> omega)) | (refine Z3.o _ _ ?_;((try with_reducible refine zdrew ?_);first | (refine qM _ _ _ ?_;((try simp only) <;> omega)) | (refine (qL _ _ _ ?_).trans ?_;((try simp only [qaa,F]);omega);(refine qM _ _ _ ?_;((try simp only [qaa,F]) <;> omega))))) | (refine (qL _ _ _ ?_).trans ?_;((try simp only [qaa,F]);omega);(first | (refine qM _ _ _ ?_;((try simp only [qaa,F]) <;> omega)) | (refine Z3.o _ _ ?_;((try with_reducible refine zdrew ?_);first | (refine qM _ _ _ ?_;((try simp only [qaa,F]) <;> omega)) | (refine (qL _ _ _ ?_).trans ?_;((try simp only [qaa,F]);omega);(refine qM _ _ _ ?_;((try simp only [qaa,F]) <;> omega))))))) | (refine (qL _ _ _ ?_).trans ?_;((try simp only [qaa,F]);omega);refine (qL _ _ _ ?_).trans ?_;((try simp only [qaa,F]);omega);(refine Z3.o _ _ ?_;((try with_reducible refine zdrew ?_);first | (refine qM _ _ _ ?_;((try simp only [qaa,F]) <;> omega)) | (refine (qL _ _ _ ?_).trans ?_;((try simp only [qaa,F]);omega);(refine qM _ _ _ ?_;((try simp only [qaa,F]) <;> omega)))))))))
     | (with_reducible refine ltwo_pp ai.o H ?_ ?_ ?_ ?_ ?_;(first | exact qae _ | exact G.size | exact H.size | exact qa6 _ | exact qam G.size);(first | exact qae _ | exact G.size | exact H.size | exact qa6 _ | exact qam G.size);omega;(refine Z4.o _ _ ?_;((try with_reducible refine zdrew ?_);first | (refine qM _ _ _ ?_;((try simp only [qaa]) <;> omega)) | (refine Z3.o _ _ ?_;((try with_reducible refine zdrew ?_);first | (refine qM _ _ _ ?_;((try simp only [qaa]) <;> omega)) | (refine (qL _ _ _ ?_).trans ?_;((try simp only [qaa]);omega);(refine qM _ _ _ ?_;((try simp only) <;> omega))))) | (refine (qL _ _ _ ?_).trans ?_;((try simp only [qaa]);omega);(first | (refine qM _ _ _ ?_;((try simp only) <;> omega)) | (refine Z3.o _ _ ?_;((try with_reducible refine zdrew ?_);first | (refine qM _ _ _ ?_;((try simp only) <;> omega)) | (refine (qL _ _ _ ?_).trans ?_;((try simp only [qaa,F]);omega);(refine qM _ _ _ ?_;((try simp only [qaa,F]) <;> omega))))))) | (refine (qL _ _ _ ?_).trans ?_;((try simp only [qaa,F]);omega);refine (qL _ _ _ ?_).trans ?_;((try simp only [qaa,F]);omega);(refine Z3.o _ _ ?_;((try with_reducible refine zdrew ?_);first | (refine qM _ _ _ ?_;((try simp only [qaa,F]) <;> omega)) | (refine (qL _ _ _ ?_).trans ?_;((try simp only [qaa,F]);omega);(refine qM _ _ _ ?_;((try simp only [qaa,F]) <;> omega))))))));(refine Z4.o _ _ ?_;((try with_reducible refine zdrew ?_);first | (refine qM _ _ _ ?_;((try simp only [qaa]) <;> omega)) | (refine Z3.o _ _ ?_;((try with_reducible refine zdrew ?_);first | (refine qM _ _ _ ?_;((try simp only [qaa]) <;> omega)) | (refine (qL _ _ _ ?_).trans ?_;((try simp only [qaa]);omega);(refine qM _ _ _ ?_;((try simp only) <;> omega))))) | (refine (qL _ _ _ ?_).trans ?_;((try simp only [qaa]);omega);(first | (refine qM _ _ _ ?_;((try simp only) <;> omega)) | (refine Z3.o _ _ ?_;((try with_reducible refine zdrew ?_);first | (refine qM _ _ _ ?_;((try simp only) <;> omega)) | (refine (qL _ _ _ ?_).trans ?_;((try simp only [qaa,F]);omega);(refine qM _ _ _ ?_;((try simp only [qaa,F]) <;> omega))))))) | (refine (qL _ _ _ ?_).trans ?_;((try simp only [qaa,F]);omega);refine (qL _ _ _ ?_).trans ?_;((try simp only [qaa,F]);omega);(refine Z3.o _ _ ?_;((try with_reducible refine zdrew ?_);first | (refine qM _ _ _ ?_;((try simp only [qaa,F]) <;> omega)) | (refine (qL _ _ _ ?_).trans ?_;((try simp only [qaa,F]);omega);(refine qM _ _ _ ?_;((try simp only [qaa,F]) <;> omega)))))))))
   case rest =>
    obtain⟨g3,g4,a3,n3,c3,b3,a4,n4,c4,b4,rfl,rfl,h3,h4,aJ,aK,hb,l3,l4⟩:=hcut;dsimp only at h3 h4 aJ aK;have lr:=(qG hI.o.2.1.1).1;have bz:g3≠w.heap.size+1:=by omega
    have bA:g4≠w.heap.size+1:=by omega
    have ay:w.heap.size≠w.heap.size+1:=by omega
    have aA:=(hb.block _ (qG hI.o.2.2.2).1).trans hI.o.2.2.2;have bR:∀W,wc.grownBy W (some (w.heap.size+1))->W.cell? ⟨g3,0,none⟩=some (.slice a3 n3 c3):=fun W h=>qcH h h3 bz 0
    have bS:∀W,wc.grownBy W (some (w.heap.size+1))->W.cell? ⟨g3,1,none⟩=some (.bool b3):=fun W h=>qcH h h3 bz 1
    have bT:∀W,wc.grownBy W (some (w.heap.size+1))->W.cell? ⟨g4,0,none⟩=some (.slice a4 n4 c4):=fun W h=>qcH h h4 bA 0
    have bU:∀W,wc.grownBy W (some (w.heap.size+1))->W.cell? ⟨g4,1,none⟩=some (.bool b4):=fun W h=>qcH h h4 bA 1
    have bP:∀W,wc.grownBy W (some (w.heap.size+1))->W.cell? ⟨w.heap.size,0,none⟩=some (.slice a0 n0 c0):=fun W h=>qcH h aA ay 0
    have bQ:∀W,wc.grownBy W (some (w.heap.size+1))->W.cell? ⟨w.heap.size,1,none⟩=some (.bool b0):=fun W h=>qcH h aA ay 1
    have aF:=hB.o.trans (hb.mono hB.o.size);have bv:=J.o.2.2.2.2.2.2.1.below (W':=wc) (aF.mono (by omega));have hP:=J.o.2.2.2.2.1 j V;have ax:=(J.o.2.2.2.2.2.1 I hc).mul (J.o.2.2.2.2.1 j V);have aH:=(J.o.2.2.2.2.1 I hc).mul (J.o.2.2.2.2.2.1 j V);rw [<-qaD] at ax aH;have aG:Fit (-(U I*O j)).natAbs (K+K):=by rw [qbu];exact aH
    have bn:Fit (O I*U j + -(U I*O j)).natAbs (K+K+1):=(ax.add aG).le (Int.natAbs_add_le _ _);have HA:=qH (fun W (h:Below wc.heap.size wc W)=>(qdy .l) (U I*O j) _ W (aK.below h));have HS:=qH (fun W (u:Value) (h:Below wc.heap.size wc W) (hu:IntAt W u (-(U I*O j)))=>(qc6 .l) (O I*U j) (-(U I*O j)) (K+K) (by omega) _ u W (aJ.below h) hu ax aG);have HQ:=qH (fun W (u:Value) (h:Below wc.heap.size wc W) (hu:IntAt W u (O I*U j + -(U I*O j)))=>qgo (O I*U j + -(U I*O j)) z0 (K+K+1) (by omega) u _ W hu (bv.below h) bn (J.o.2.2.2.2.2.2.2.1.mono (by omega)) bO);have ag:=qH (qA (hI.o.2.1.below hb) (qA (hI.o.2.2.1.below hb) (qA aA aF)));have au:Below wc.heap.size wc wc:=Below.refl _ _;have aa:Below wc.heap.size wc wc.drew:=au.drew;clear h3 h4 aJ aK hb aA aF bv hP ax aH aG bn ah aC aB bE bF bG bH bI bJ bK bL aR aS;go_wp2_with fail
    go_region_held3 (fun W=>wc.grownBy W (some (w.heap.size+1))) (first | with_reducible exact qcy _ _ | with_reducible exact qbW _ aa | with_reducible exact qbW _ Y | with_reducible exact qbW _ af | with_reducible exact qbW _ ae | with_reducible exact qbW _ Y.drew | with_reducible exact qbW _ af.drew | with_reducible exact qbW _ ae.drew | exact qbR (qbR (qbW _ Y) (qbO _ _ _ _)) (qbO _ _ _ _) | exact qbR (qbR (qbW _ Y.drew) (qbO _ _ _ _)) (qbO _ _ _ _)) (first | (go_at_call 156;refine (HA.o _ (by first | with_reducible exact au | with_reducible exact aa)).mono ?_;rintro e w5 ⟨p5,rfl,aX,aO⟩;have ae:Below wc.heap.size wc w5:=bjoin (by first | with_reducible exact au | with_reducible exact aa) aX;obtain⟨a7,n7,c7,b7,rfl⟩:=qbN aO;have G5:=qH aO;clear aX aO) | (go_at_call 154;refine (HS.o _ _ (by first | with_reducible exact ae | with_reducible exact ae.drew) (by first | exact G5.o | exact G5.o.below qB.drew)).mono ?_;rintro e w6 ⟨p6,rfl,aY,aP⟩;have af:Below wc.heap.size wc w6:=bjoin (by first | with_reducible exact ae | with_reducible exact ae.drew) aY;obtain⟨a8,n8,c8,b8,rfl⟩:=qbN aP;have G6:=qH aP;clear aY aP) | (go_at_call 266;refine (HQ.o _ _ (by first | with_reducible exact af | with_reducible exact af.drew) (by first | exact G6.o | exact G6.o.below qB.drew)).mono ?_;rintro e w7 ⟨p7,rfl,aZ,az⟩;have Y:Below wc.heap.size wc w7:=bjoin (by first | with_reducible exact af | with_reducible exact af.drew) aZ;obtain⟨a9,n9,c9,b9,rfl⟩:=qbN az;have G7:=qH az;have R7:=ag.o.1.below Y;have aT:=hI.o.1;have aU:=R7.at (by omega);rw [aT] at aU;obtain⟨⟨cu,cz⟩,aQ⟩:=aU;have cB:=aQ (j*2);have cK:=aQ (j*2+1);have av:=qH (qA (qj9 R7 (ag.o.2.1.below Y) hI.o.1 V (a:=a9) (m:=n9) (c:=c9) (b:=b9) (by rw [Int.sub_eq_add_neg];exact az)) (qA ((qW (w7.setCell ⟨w.heap.size+1,j*2,none⟩ (.slice a9 n9 c9)) ⟨w.heap.size+1,j*2+1,none⟩ (.bool b9) w.heap.size ay).trans ((qW w7 ⟨w.heap.size+1,j*2,none⟩ (.slice a9 n9 c9) w.heap.size ay).trans ((Y.block _ (qG ag.o.2.2.1).1).trans ag.o.2.2.1))) (((ag.o.2.2.2.trans (Y.mono ag.o.2.2.2.size)).setCell (p:=⟨w.heap.size+1,j*2,none⟩) (by show w.heap.size<=w.heap.size+1;omega) (.slice a9 n9 c9)).setCell (p:=⟨w.heap.size+1,j*2+1,none⟩) (by show w.heap.size<=w.heap.size+1;omega) (.bool b9))));clear aZ az R7 aT aQ))
    all_goals go_wp2_with fail
    all_goals go_roundw
    case rel=>exact⟨j+1,_,V,by go_num,qH ⟨by rw [qaf,hI.o.1];rfl,av.o.1.1,av.o.1.2,av.o.2.1⟩,qH av.o.2.2⟩
    case measure=>simp [intOf];omega
  ·obtain rfl:j=n:=by omega
   go_wp2;go_ret;exact⟨_,rs,rfl,qa6 _,hB.o,hI.o.1,hI.o.2.1,hI.o.2.2.1⟩
abbrev zi0:Value:=.agg #[.slice none 0 0,.bool false]
def isum (t:Nat->Int):Nat->Int
 | 0=>0
 | n+1=>isum t n+t n
theorem qe9 (t:Nat->Int) (K:Nat):∀k,(∀j,j<k->Fit (t j).natAbs K)->Fit (isum t k).natAbs (K+k+1)
 | 0,_=>Nat.pow_pos (by decide)
 | k+1,h=>by
  have F:=qe9 t K k (fun j H=>h j (by omega));have G:=(h k (by omega)).mono (show K<=K+k+1 by omega);exact (F.add G).le (Int.natAbs_add_le _ _)
theorem qiL {w wr F:World} {V a9:Option Addr} {n1 c1 I H:Nat} {Y G:Bool} {z:Int} {o:Obj} (J:IntAt F (.agg #[.slice a9 I H,.bool G]) z) (z3:F.heap[w.heap.size+1+1]? = some (.cells #[.slice V n1 c1,.bool Y] 217 (0,0))) (U:Below (w.heap.size+1+1) wr F) (Z:wr.heap[w.heap.size+1]? = some o) (hB:Below w.heap.size w wr) :
  ((F.setCell ⟨w.heap.size+1+1,0,none⟩ (.slice a9 I H)).setCell ⟨w.heap.size+1+1,1,none⟩ (.bool G)).heap[w.heap.size+1+1]? = some (.cells #[.slice a9 I H,.bool G] 217 (0,0)) /\
   IntAt ((F.setCell ⟨w.heap.size+1+1,0,none⟩ (.slice a9 I H)).setCell ⟨w.heap.size+1+1,1,none⟩ (.bool G)) (.agg #[.slice a9 I H,.bool G]) z /\
   ((F.setCell ⟨w.heap.size+1+1,0,none⟩ (.slice a9 I H)).setCell ⟨w.heap.size+1+1,1,none⟩ (.bool G)).heap[w.heap.size+1]? = some o /\
   Below w.heap.size w ((F.setCell ⟨w.heap.size+1+1,0,none⟩ (.slice a9 I H)).setCell ⟨w.heap.size+1+1,1,none⟩ (.bool G)):=by
 have hne:w.heap.size+1≠w.heap.size+1+1:=by omega
 refine⟨heap_setCell_same _ _ 1 _ _ _ (heap_setCell_same _ _ 0 _ _ _ z3),?_,(qW _ ⟨_,1,none⟩ _ _ hne).trans ((qW _ ⟨_,0,none⟩ _ _ hne).trans ((U.block _ (by omega)).trans Z)),((hB.trans (U.mono (by omega))).setCell (p:=⟨_,0,none⟩) (by show w.heap.size<=w.heap.size+1+1;omega) _).setCell (p:=⟨_,1,none⟩) (by show w.heap.size<=w.heap.size+1+1;omega) _⟩;obtain⟨m,e,hg⟩:=J;refine⟨m,e,qch hg (qbR (qbO F _ 0 _) (qbO _ _ 1 _)) z3 ?_⟩;intro x O d;rcases qay.1 O with rfl | O
 ·intro h;cases h
 ·rw [qao.1 O];intro h;cases h
theorem qkW (n:Nat) (p1 p2:Value) (t:Nat->Int) (K:Nat) (hK:K<=34359738368) (w:World) (hn:n<=64)
  (H:∀W (j:Nat),j<n->Below w.heap.size w W->Calls prog 152 #[.int .i64 j,p1,p2] W fun e W'=>∃u,e=.returned u/\Below W.heap.size W W'/\IntAt W' u (t j)) (V:∀j,j<n->Fit (t j).natAbs K) :
  Calls prog 151 #[.int .i64 n,zi0,.func (.func 152) #[] #[p1,p2],.func (.func 154) #[] #[]] w fun e w'=>∃u,e=.returned u/\Below w.heap.size w w'/\IntAt w' u (isum t n):=by
 have HT:=qH H;have HF:=qH V;have au:=qeZ;clear H V;go_enter func151,ntmps151;go_wp2_with fail
 go_loopw [13] (fun x13 W=>∃(k:Nat) (a:Option Addr) (m c:Nat) (b:Bool),k<=n/\x13=.int .i64 k/\Hu (W.heap[w.heap.size+1+1]? = some (.cells #[.slice a m c,.bool b] 217 (0,0))/\IntAt W (.agg #[.slice a m c,.bool b]) (isum t k)/\W.heap[w.heap.size+1]? = some (.cells #[.slice none 0 0,.bool false] 217 (0,0)))/\Hu (Below w.heap.size w W)) (fun x13 _=>n-(intOf x13).toNat)
 case atStart =>
  refine⟨0,none,0,0,false,qan _,rfl,qH ⟨qM _ _ _ (by simp),?_,(qL _ _ _ (by simp)).trans (qM _ _ _ (by simp))⟩,qH (qbM (qbM (qbM qB qN) qN) qN)⟩;exact⟨_,rfl,MagAt.nil _⟩
 case round =>
  obtain⟨k,a1,n1,c1,b1,hk,rfl,I,hB⟩:=hrel
  by_cases ae:k<n
  ·have av:(k:Int)<n:=by omega
   have e0:=qC wr _ 0 _ _ _ I.o.1;have e1:=qC wr _ 1 _ _ _ I.o.1;have ak:Below (w.heap.size+1+1) wr wr:=Below.refl _ _;have Y:Below (w.heap.size+1+1) wr wr.drew:=ak.drew;have ai:=(qG I.o.1).1;have O:=qH ai;clear ai;have ah:=qH (qA (qe9 t K k (fun j hj=>HF.o j (by omega))) ((HF.o k ae).mono (show K<=K+k+1 by omega)));go_wp2_with fail
   go_region_with (first | (go_at_call 154;refine ((qc6 .l) (isum t k) (t k) (K+k+1) (by omega) _ _ _ (by first | exact F.o.1 | exact F.o.1.below qB.drew) (by first | exact F.o.2.1 | exact F.o.2.1.below qB.drew) ah.o.1 ah.o.2).mono ?_;rintro e w3 ⟨p3,rfl,aa,af⟩;have aj:Below (w.heap.size+1+1) wr w3:=Z.trans (aa.mono (qak (qap O.o) Z.size));obtain⟨a9,n9,c9,b9,rfl⟩:=qbN af;have z3:=(aa.block _ (qai O.o Z.size)).trans F.o.2.2;have q0:=qC w3 _ 0 _ _ _ z3;have q1:=qC w3 _ 1 _ _ _ z3;have f0:=qF w3 _ 0 _ _ z3;have f1:=qF w3 _ 1 _ _ z3;have J:=qH (qiL af z3 aj I.o.2.2 hB.o);clear aa af z3) | (go_at_call 152;refine (HT.o _ k ae (hB.o.trans (Y.mono (by omega)))).mono ?_;rintro e w2 ⟨u2,rfl,U,ag⟩;have Z:Below (w.heap.size+1+1) wr w2:=Y.trans (U.mono (qap O.o));have z2:w2.heap[w.heap.size+1+1]? = some (.cells #[.slice a1 n1 c1,.bool b1] 217 (0,0)):=(U.block _ O.o).trans I.o.1;have g0:=qC w2 _ 0 _ _ _ z2;have g1:=qC w2 _ 1 _ _ _ z2;obtain⟨a2,n2,c2,b2,rfl⟩:=qbN ag;have F:=qH (qA (I.o.2.1.below (W':=w2) ((Below.refl wr.heap.size wr).drew.trans U)) (qA ag z2));clear U ag z2))
   all_goals go_wp2_with fail
   all_goals go_roundw
   all_goals first
    | exact⟨k+1,a9,n9,c9,b9,ae,by go_num,qH ⟨J.o.1,J.o.2.1,J.o.2.2.1⟩,qH J.o.2.2.2⟩
    | (simp [intOf];omega)
  ·obtain rfl:k=n:=by omega
   have e0:=qC wr _ 0 _ _ _ I.o.1;have e1:=qC wr _ 1 _ _ _ I.o.1;have G:=I.o.2.2;have HR:=qH (qA G (qA (qS hB.o (show w.heap.size<=w.heap.size+1 by omega) #[.slice a1 n1 c1,.bool b1]) (qcU (cs':=#[.slice a1 n1 c1,.bool b1]) I.o.2.1 G qeR)));clear G
   go_wp2_with (with_reducible refine sR_ rfl 217 _ _ rfl (w.heap.size+1) #[.slice a1 n1 c1,.bool b1] HR.o.1 2 ?_)
   exact qR (v:=.agg #[.slice a1 n1 c1,.bool b1]) (rA_ rfl (w.heap.size+1) (qT _ _ _ _ _ _ HR.o.1) underlying217 2) rfl ⟨_,rfl,HR.o.2.1,HR.o.2.2⟩
theorem qhR (n:Nat) (y1 y2 y3 y4:Value) (t:Nat->Int) (K:Nat) (hK:K<=34359738368) (w:World) (hn:n<=64)
  (H:∀W (j:Nat),j<n->Below w.heap.size w W->Calls prog 239 #[.int .i64 j,y1,y2,y3,y4] W fun e W'=>∃u,e=.returned u/\Below W.heap.size W W'/\IntAt W' u (t j)) (V:∀j,j<n->Fit (t j).natAbs K) :
  Calls prog 151 #[.int .i64 n,zi0,.func (.func 239) #[] #[y1,y2,y3,y4],.func (.func 154) #[] #[]] w fun e w'=>∃u,e=.returned u/\Below w.heap.size w w'/\IntAt w' u (isum t n):=by
 have HT:=qH H;have HF:=qH V;have au:=qeZ;clear H V;go_enter func151,ntmps151;go_wp2_with fail
 go_loopw [13] (fun x13 W=>∃(k:Nat) (a:Option Addr) (m c:Nat) (b:Bool),k<=n/\x13=.int .i64 k/\Hu (W.heap[w.heap.size+1+1]? = some (.cells #[.slice a m c,.bool b] 217 (0,0))/\IntAt W (.agg #[.slice a m c,.bool b]) (isum t k)/\W.heap[w.heap.size+1]? = some (.cells #[.slice none 0 0,.bool false] 217 (0,0)))/\Hu (Below w.heap.size w W)) (fun x13 _=>n-(intOf x13).toNat)
 case atStart =>
  refine⟨0,none,0,0,false,qan _,rfl,qH ⟨qM _ _ _ (by simp),?_,(qL _ _ _ (by simp)).trans (qM _ _ _ (by simp))⟩,qH (qbM (qbM (qbM qB qN) qN) qN)⟩;exact⟨_,rfl,MagAt.nil _⟩
 case round =>
  obtain⟨k,a1,n1,c1,b1,hk,rfl,I,hB⟩:=hrel
  by_cases ae:k<n
  ·have av:(k:Int)<n:=by omega
   have e0:=qC wr _ 0 _ _ _ I.o.1;have e1:=qC wr _ 1 _ _ _ I.o.1;have ak:Below (w.heap.size+1+1) wr wr:=Below.refl _ _;have Y:Below (w.heap.size+1+1) wr wr.drew:=ak.drew;have ai:=(qG I.o.1).1;have O:=qH ai;clear ai;have ah:=qH (qA (qe9 t K k (fun j hj=>HF.o j (by omega))) ((HF.o k ae).mono (show K<=K+k+1 by omega)));go_wp2_with fail
   go_region_with (first | (go_at_call 154;refine ((qc6 .l) (isum t k) (t k) (K+k+1) (by omega) _ _ _ (by first | exact F.o.1 | exact F.o.1.below qB.drew) (by first | exact F.o.2.1 | exact F.o.2.1.below qB.drew) ah.o.1 ah.o.2).mono ?_;rintro e w3 ⟨p3,rfl,aa,af⟩;have aj:Below (w.heap.size+1+1) wr w3:=Z.trans (aa.mono (qak (qap O.o) Z.size));obtain⟨a9,n9,c9,b9,rfl⟩:=qbN af;have z3:=(aa.block _ (qai O.o Z.size)).trans F.o.2.2;have q0:=qC w3 _ 0 _ _ _ z3;have q1:=qC w3 _ 1 _ _ _ z3;have f0:=qF w3 _ 0 _ _ z3;have f1:=qF w3 _ 1 _ _ z3;have J:=qH (qiL af z3 aj I.o.2.2 hB.o);clear aa af z3) | (go_at_call 239;refine (HT.o _ k ae (hB.o.trans (Y.mono (by omega)))).mono ?_;rintro e w2 ⟨u2,rfl,U,ag⟩;have Z:Below (w.heap.size+1+1) wr w2:=Y.trans (U.mono (qap O.o));have z2:w2.heap[w.heap.size+1+1]? = some (.cells #[.slice a1 n1 c1,.bool b1] 217 (0,0)):=(U.block _ O.o).trans I.o.1;have g0:=qC w2 _ 0 _ _ _ z2;have g1:=qC w2 _ 1 _ _ _ z2;obtain⟨a2,n2,c2,b2,rfl⟩:=qbN ag;have F:=qH (qA (I.o.2.1.below (W':=w2) ((Below.refl wr.heap.size wr).drew.trans U)) (qA ag z2));clear U ag z2))
   all_goals go_wp2_with fail
   all_goals go_roundw
   all_goals first
    | exact⟨k+1,a9,n9,c9,b9,ae,by go_num,qH ⟨J.o.1,J.o.2.1,J.o.2.2.1⟩,qH J.o.2.2.2⟩
    | (simp [intOf];omega)
  ·obtain rfl:k=n:=by omega
   have e0:=qC wr _ 0 _ _ _ I.o.1;have e1:=qC wr _ 1 _ _ _ I.o.1;have G:=I.o.2.2;have HR:=qH (qA G (qA (qS hB.o (show w.heap.size<=w.heap.size+1 by omega) #[.slice a1 n1 c1,.bool b1]) (qcU (cs':=#[.slice a1 n1 c1,.bool b1]) I.o.2.1 G qeR)));clear G
   go_wp2_with (with_reducible refine sR_ rfl 217 _ _ rfl (w.heap.size+1) #[.slice a1 n1 c1,.bool b1] HR.o.1 2 ?_)
   exact qR (v:=.agg #[.slice a1 n1 c1,.bool b1]) (rA_ rfl (w.heap.size+1) (qT _ _ _ _ _ _ HR.o.1) underlying217 2) rfl ⟨_,rfl,HR.o.2.1,HR.o.2.2⟩
abbrev rowv (g n:Nat):Value:=.slice (some ⟨g,0,none⟩) n n
def rowvs (R n:Nat) (F:Nat->Nat):List Value:=(List.range R).map fun i=>rowv (F i) n
theorem qcu (R n:Nat) (F:Nat->Nat):(rowvs R n F).length=R:=by rw [rowvs,qaF,qbC]
theorem qdW {R n i:Nat} {F:Nat->Nat} (G:i<R):(rowvs R n F)[i]? = some (rowv (F i) n):=by
 rw [rowvs,qaS,List.getElem?_range G];rfl
theorem qmw {R n i:Nat} {G:Nat->Nat} (g:Nat):(rowvs R n G).set i (rowv g n)=rowvs R n (fun j=>if j=i then g else G j):=by
 apply List.ext_getElem?;intro j
 by_cases F:j<R
 ·rw [qdW F,List.getElem?_set]
  by_cases e:i=j
  ·subst e;rw [if_pos rfl,if_pos (by rw [qcu];exact F),if_pos rfl]
  ·rw [if_neg e,qdW F,if_neg (fun h=>e h.symm)]
 ·rw [qa8 (by rw [qa9,qcu];omega),qa8 (by rw [qcu];omega)]
def qb8 (W:World) (g n:Nat) (m:Nat->Int):Prop:=∃F:List (Value×Bool),F.length=n/\IRow W g n F/\qcd W F m
theorem qb8.below {W W':World} {g n:Nat} {m:Nat->Int} (h:qb8 W g n m) (F:Below W.heap.size W W'):qb8 W' g n m:=by
 obtain⟨ps,G,H,I⟩:=h;exact⟨ps,G,H.below F,I.below F⟩
theorem qb8.cells {W:World} {g n:Nat} {F:List (Value×Bool)} (I:F.length=n) (G:IRow W g n F):qgU W g n F:=by
 intro k J;have H:(F++List.replicate (n-F.length) (zs0,false))[k]? = some (F.getD k (zs0,false)):=by
  rw [qax (by omega),qab,qad (by omega)];rfl
 obtain⟨e1,e2⟩:=qe7 _ _ _ H;exact⟨(qC _ _ _ _ _ _ G.1).trans ((qaz ..).trans e1),(qC _ _ _ _ _ _ G.1).trans ((qaz ..).trans e2)⟩
structure MatAt (W:World) (tb R n:Nat) (gs:Nat->Nat) (M:Nat->Nat->Int):Prop where
 row:W.heap[tb]? = some (.cells (rowvs R n gs).toArray 212 (0,0))
 rows:∀i,i<R->qb8 W (gs i) n (M i)
theorem MatAt.below {W W':World} {H R n:Nat} {F:Nat->Nat} {M:Nat->Nat->Int} (h:MatAt W H R n F M) (G:Below W.heap.size W W'):MatAt W' H R n F M :=
 ⟨(G.block _ (qG h.row).1).trans h.row,fun i I=>(h.rows i I).below G⟩
theorem MatAt.cell {W:World} {F R n:Nat} {G:Nat->Nat} {M:Nat->Nat->Int} (h:MatAt W F R n G M) {i:Nat} (H:i<R):W.cell? ⟨F,i,none⟩=some (rowv (G i) n)/\W.frozen? ⟨F,i,none⟩=false :=
 ⟨(qC _ _ _ _ _ _ h.row).trans ((qaz ..).trans (qdW H)),qF _ _ _ _ _ h.row⟩
theorem qgA {R n:Nat} {F:Nat->Nat}:∀x∈(rowvs R n F).toArray.toList,∀d,x≠.int .u32 d:=by
 intro x G d e;obtain⟨i,_,h⟩:=qbl.1 (show x∈rowvs R n F from G);rw [e] at h;cases h
theorem qb8.keep {W W':World} {G R n g J:Nat} {O:Nat->Nat} {m:Nat->Int} (h:qb8 W g J m) (H:W.grownBy W' (some G)) (I:W.heap[G]? = some (.cells (rowvs R n O).toArray 212 (0,0))):qb8 W' g J m:=by
 obtain⟨ps,U,F,V⟩:=h;have hne:g≠G:=by
  intro e;subst e;have:=F.1.symm.trans I;simp at this
 exact⟨ps,U,⟨(H.block _ (qG F.1).1 (fun e=>hne (qag e))).trans F.1,F.2⟩,V.keep H I qgA⟩
theorem MatAt.set {W:World} {F R n:Nat} {G:Nat->Nat} {M:Nat->Nat->Int} (h:MatAt W F R n G M) (i g:Nat) (m:Nat->Int) (hg:qb8 W g n m) :
  MatAt (W.setCell ⟨F,i,none⟩ (rowv g n)) F R n (fun j=>if j=i then g else G j) (fun j=>if j=i then m else M j):=by
 have H:=qbO W F i (rowv g n);refine⟨?_,fun j I=>?_⟩
 ·rw [heap_setCell_same _ F i _ _ _ h.row,qaH,qmw]
 ·by_cases e:j=i
  ·simp only [if_pos e];exact hg.keep H h.row
  ·simp only [if_neg e];exact (h.rows j I).keep H h.row
theorem MatAt.congr {W:World} {J R n:Nat} {I F:Nat->Nat} {M H:Nat->Nat->Int} (h:MatAt W J R n I M) (hg:∀i,i<R->I i=F i) (O:∀i,i<R->M i=H i):MatAt W J R n F H:=by
 refine⟨?_,fun i G=>by rw [<-hg i G,<-O i G];exact h.rows i G⟩;rw [h.row]
 congr 3
 exact List.map_congr_left fun i G=>by rw [hg i (qau.1 G)]
def PivAs (w:World) (G R n k c:Nat) (F:Nat->Nat) (M:Nat->Nat->Int) (e:Ending) (w':World):Prop :=
 (e=.returned (.bool false)/\w'=w/\∀i,k<=i->i<R->M i c=0) \/
 (e=.returned (.bool true)/\w.grownBy w' (some G)/\∃a,k<=a/\a<R/\M a c≠0/\MatAt w' G R n (fun j=>if j=k then F a else if j=a then F k else F j) (fun j=>if j=k then M a else if j=a then M k else M j))
theorem qmq (tb R n k c:Nat) (H:Nat->Nat) (M:Nat->Nat->Int) (w:World) (hR:R<=1024) (Z:k<R) (hc:c<n) (_hn:n<=1024) (hM:MatAt w tb R n H M) :
  Calls prog 255 #[.slice (some ⟨tb,0,none⟩) R R,.int .i64 k,.int .i64 c] w fun e w'=>PivAs w tb R n k c H M e w':=by
 have G:=qH hM;have ai:(k:Int)<R:=by omega
 have af:(c:Int)<n:=by omega
 clear hM;go_enter func255,ntmps255;go_wp2
 go_step3
 go_wp2
 go_step3
 go_wp2
 go_loopw [7,8] (fun x7 x8 W=>∃i:Nat,k<=i/\i<=R/\x7=.int .i64 (-1)/\x8=.int .i64 i/\W=w/\Hu (∀j,k<=j->j<i->M j c=0)) (fun _ x8 _=>R-(intOf x8).toNat)
 case atStart=>exact⟨k,qae _,qap Z,rfl,rfl,rfl,qH (fun j I Y=>absurd I (by omega))⟩
 case round =>
  obtain⟨i,aa,ag,rfl,rfl,rfl,hI⟩:=hrel
  by_cases J:i<R
  ·have ah:(i:Int)<R:=by omega
   obtain⟨ps,U,F,O⟩:=G.o.rows i J;obtain⟨c0,f0⟩:=G.o.cell J;obtain⟨d0,d1⟩:=qb8.cells U F c hc;obtain⟨I,Y⟩:=O c (by omega);have hz:=(qcq .l) (M i c).natAbs _ wr Y;have HZ:=qH hz;obtain⟨a,_,_,cc,m,_,e,_,_⟩:=Y;rw [e] at d0;rw [e] at HZ;clear hz e d1 I U F O;go_wp2_with fail;refine HZ.o.mono ?_;rintro e w2 ⟨rfl,ae⟩;subst ae
   by_cases V:(M i c).natAbs=0
   ·rw [qV V];go_wp2;go_roundw
    case rel =>
     refine⟨i+1,by omega,J,rfl,by go_num,trivial,qH (fun j I Y=>?_)⟩
     by_cases e:j=i
     ·subst e;omega
     ·exact hI.o j I (by omega)
    case measure=>simp [intOf];omega
   ·rw [qU V];obtain⟨c1,f1⟩:=G.o.cell Z;have m1:=G.o.set i (H k) (M k) (G.o.rows k Z);have m2:=m1.set k (H i) (M i) ((G.o.rows i J).keep (qbO w2 tb i (rowv (H k) n)) G.o.row);obtain⟨c2,f2⟩:=m1.cell Z;have H2:=qH m2;have H0:=qH V;clear m1 m2 V hR;go_wp2_with fail
    go_region
    all_goals go_wp2_with fail
    all_goals rw [Exit.noGoto_ret]
    all_goals go_ret
    all_goals exact qaj ⟨rfl,qca (qbR (qbO _ _ _ _) (qbO _ _ _ _)) qB.drew,i,aa,J,fun h=>H0.o (by rw [h];rfl),H2.o.below qB.drew⟩
  ·obtain rfl:i=R:=by omega
   go_wp2_with fail;rw [Exit.noGoto_ret];go_ret;exact qav ⟨rfl,rfl,hI.o⟩
def KK (K k:Nat):Nat:=(K+1)*2 ^ k-1
theorem qk4 (K:Nat):KK K 0=K:=by unfold KK;rw [Nat.pow_zero,qbK];omega
theorem qk3 (K k:Nat):KK K (k+1)=KK K k+KK K k+1:=by
 unfold KK;have h:0<(K+1)*2 ^ k:=qbL (by omega) (Nat.pow_pos (by decide));rw [qaQ,<-qaI];omega
theorem KK_le {K k:Nat} (J:K<=33554430) (I:k<=10):KK K k<=34359738368:=by
 unfold KK;have F:2 ^ k<=2 ^ 10:=qaZ (by decide) I;have G:(K+1)*2 ^ k<=(K+1)*2 ^ 10:=qaJ _ F;have H:(2:Nat) ^ 10=1024:=by decide
 rw [H] at G;omega
theorem fit_step {a b c d z:Int} {K:Nat} (H:Fit a.natAbs K) (I:Fit b.natAbs K) (J:Fit c.natAbs K) (O:Fit d.natAbs K):Fit ((a*b-c*d).tdiv z).natAbs (K+K+1):=by
 have F:=H.mul I;have G:=J.mul O;rw [<-qaD] at F G;refine ((F.add G).le ?_);refine qak ?_ (show (a*b-c*d).natAbs<=_ by omega);rw [Int.natAbs_tdiv];exact qaM _ _
theorem swap_fit {M:Nat->Nat->Int} {k a R n K:Nat} (I:k<R) (G:a<R) (h:∀i,i<R->∀j,j<n->Fit (M i j).natAbs K):∀i,i<R->∀j,j<n->Fit (qb1 M k a i j).natAbs K:=by
 intro i H j F;unfold qb1;split
 ·exact h a G j F
 ·split
  ·exact h k I j F
  ·exact h i H j F
def qb6 (W:World) (g:Nat) (z:Int):Prop:=∃(a:Option Addr) (m c:Nat) (b:Bool),W.heap[g]? = some (.cells #[.slice a m c,.bool b] 217 (0,0))/\IntAt W (.agg #[.slice a m c,.bool b]) z
theorem qb6.below {W W':World} {g:Nat} {z:Int} (h:qb6 W g z) (G:Below W.heap.size W W'):qb6 W' g z:=by
 obtain⟨a,m,c,b,F,H⟩:=h;exact⟨a,m,c,b,(G.block _ (qG F).1).trans F,H.below G⟩
theorem qb6.keep {W W':World} {g G R n:Nat} {J:Nat->Nat} {z:Int} (h:qb6 W g z) (H:W.grownBy W' (some G)) (I:W.heap[G]? = some (.cells (rowvs R n J).toArray 212 (0,0))):qb6 W' g z:=by
 obtain⟨a,m,c,b,F,x,e,O⟩:=h;have hne:g≠G:=by
  intro e;subst e;have:=F.symm.trans I;simp at this
 exact⟨a,m,c,b,(H.block _ (qG F).1 (fun e=>hne (qag e))).trans F,x,e,qch O H I qgA⟩
theorem qjN {a:Option Addr} {m c:Nat} {b:Bool}:∀x∈(#[.slice a m c,.bool b]:Array Value).toList,∀d,x≠.int .u32 d:=by
 intro x F d e;rcases qay.1 F with h | h
 ·rw [h] at e;cases e
 ·rw [qao.1 h] at e;cases e
theorem qdX (W:World) (g:Nat) (u v:Value):W.grownBy ((W.setCell ⟨g,0,none⟩ u).setCell ⟨g,1,none⟩ v) (some g):=qbR (qbO W g 0 u) (qbO _ g 1 v)
theorem qb6.put {W:World} {g:Nat} {z0 z:Int} {a:Option Addr} {m c:Nat} {b:Bool} (h:qb6 W g z0) (G:IntAt W (.agg #[.slice a m c,.bool b]) z):qb6 ((W.setCell ⟨g,0,none⟩ (.slice a m c)).setCell ⟨g,1,none⟩ (.bool b)) g z:=by
 obtain⟨a0,m0,c0,b0,F,_⟩:=h;obtain⟨x,e,H⟩:=G;exact⟨a,m,c,b,heap_setCell_same _ g 1 _ _ _ (heap_setCell_same _ g 0 _ _ _ F),x,e,qch H (qdX W g _ _) F qjN⟩
theorem qb8.put {W W':World} {g F n:Nat} {z0:Int} {m:Nat->Int} (h:qb8 W F n m) (I:qb6 W g z0) (G:W.grownBy W' (some g)) (hne:F≠g):qb8 W' F n m:=by
 obtain⟨a0,m0,c0,b0,H,_⟩:=I;obtain⟨ps,p1,p2,p3⟩:=h;exact⟨ps,p1,⟨(G.block _ (qG p2.1).1 (fun e=>hne (qag e))).trans p2.1,p2.2⟩,p3.keep G H qjN⟩
theorem MatAt.put {W W':World} {G R n g:Nat} {F:Nat->Nat} {M:Nat->Nat->Int} {z0:Int} (h:MatAt W G R n F M) (H:qb6 W g z0) (J:W.grownBy W' (some g)) (hne:∀i,i<R->F i≠g):MatAt W' G R n F M:=by
 refine⟨?_,fun i I=>(h.rows i I).put H J (hne i I)⟩;have:G≠g:=by
  intro e;subst e;obtain⟨_,_,_,_,O,_⟩:=H;have:=h.row.symm.trans O;simp at this
 exact (J.block _ (qG h.row).1 (fun e=>this (qag e))).trans h.row
theorem qb6.cells {W:World} {g:Nat} {z:Int} (h:qb6 W g z):∃(a:Option Addr) (m c:Nat) (b:Bool),(W.cell? ⟨g,0,none⟩=some (.slice a m c)/\W.cell? ⟨g,1,none⟩=some (.bool b))/\(W.frozen? ⟨g,0,none⟩=false/\W.frozen? ⟨g,1,none⟩=false)/\IntAt W (.agg #[.slice a m c,.bool b]) z:=by
 obtain⟨a,m,c,b,F,G⟩:=h;exact⟨a,m,c,b,⟨qC _ _ 0 _ _ _ F,qC _ _ 1 _ _ _ F⟩,⟨qF _ _ 0 _ _ F,qF _ _ 1 _ _ F⟩,G⟩
theorem qb8.pair {W:World} {g n:Nat} {m:Nat->Int} (h:qb8 W g n m) {c:Nat} (I:c<n):∃(a:Option Addr) (l k:Nat) (b:Bool),W.cell? ⟨g,c*2,none⟩=some (.slice a l k)/\W.cell? ⟨g,c*2+1,none⟩=some (.bool b)/\IntAt W (.agg #[.slice a l k,.bool b]) (m c):=by
 obtain⟨ps,F,G,H⟩:=h;obtain⟨d0,d1⟩:=qb8.cells F G c I;obtain⟨a,l,k,b,e,J⟩:=qcZ H (k:=c) (by omega);rw [e] at d0 d1;exact⟨a,l,k,b,d0,d1,J⟩
theorem qb6.lt {W:World} {g:Nat} {z:Int} (h:qb6 W g z):g<W.heap.size:=by
 obtain⟨_,_,_,_,F,_⟩:=h;exact (qG F).1
theorem qer {a b:World} {row:Option Nat} (h:a.grownBy b row) {p:Addr} (G:a.heap.size<=p.block) (v:Value):a.grownBy (b.setCell p v) row :=
 ⟨h.os,h.tape,h.output,by simpa [World.setCell] using h.size,fun i F hne=>(qW b p v i (by omega)).trans (h.block i F hne)⟩
theorem gs_set {R i g x:Nat} {F:Nat->Nat} (h:∀j,j<R->F j≠x) (hg:g≠x):∀j,j<R->(fun j=>if j=i then g else F j) j≠x:=by
 intro j G
 by_cases e:j=i
 ·simp only [if_pos e];exact hg
 ·simp only [if_neg e];exact h j G
theorem qlC {R k a x:Nat} {F:Nat->Nat} (J:k<R) (H:a<R) (h:∀i,i<R->F i≠x):∀i,i<R->(fun j=>if j=k then F a else if j=a then F k else F j) i≠x:=by
 intro i I
 by_cases e:i=k
 ·simp only [if_pos e];exact h a H
 ·by_cases G:i=a
  ·simp only [if_neg e,if_pos G];exact h k J
  ·simp only [if_neg e,if_neg G];exact h i I
theorem qhv {W:World} {I J n c K:Nat} {G H:Nat->Int} {v0:Value} {z0:Int} (hK:K<=34359738368) (hn:n<=64) (hc:c<n) (hi:qb8 W I n G) (hk:qb8 W J n H) (U:∀j,j<n->Fit (G j).natAbs K) (V:∀j,j<n->Fit (H j).natAbs K) (h0:IntAt W v0 z0) (O:Fit z0.natAbs K) (aa:z0≠0) :
  Calls prog 256 #[rowv I n,rowv J n,.int .i64 c,v0] W fun e W'=>∃g,e=.returned (rowv g n)/\W.heap.size<=g/\Below W.heap.size W W'/\qb8 W' g n (fun j=>(H c*G j-G c*H j).tdiv z0):=by
 obtain⟨ps,p1,p2,p3⟩:=hi;obtain⟨qs,q1,q2,q3⟩:=hk;refine (qh1 I J n n n c ps qs G H K hK v0 z0 W hn hc p1 q1 (qb8.cells p1 p2) (qb8.cells q1 q2) p3 q3 U V h0 O aa).mono ?_;rintro e W' ⟨g,rs,rfl,hg,hb,Z,F,Y⟩;exact⟨g,rfl,hg,hb,rs,Z,F,Y⟩
def epart (M:Nat->Nat->Int) (k:Nat) (D:Int) (i:Nat):Nat->Nat->Int:=qbZ (fun j=>decide (j<i)) M k k D
theorem qi4 (M:Nat->Nat->Int) (k:Nat) (D:Int):epart M k D 0=M:=by
 funext j
 unfold epart qbZ;rw [if_neg];intro h;have:=of_decide_eq_true h.1;omega
theorem qeX (M:Nat->Nat->Int) (k:Nat) (D:Int) (i:Nat):epart M k D i i=M i/\epart M k D i k=M k:=by
 unfold epart qbZ
 constructor
 ·rw [if_neg];intro h;have:=of_decide_eq_true h.1;omega
 ·rw [if_neg];intro h;exact h.2 rfl
theorem qkm (M:Nat->Nat->Int) (k:Nat) (D:Int) (i:Nat) (F:i≠k):(fun j=>if j=i then (fun x=>(M k k*M i x-M i k*M k x).tdiv D) else epart M k D i j)=epart M k D (i+1):=by
 funext j
 by_cases e:j=i
 ·subst e;rw [if_pos rfl];unfold epart qbZ;rw [if_pos ⟨qV (by omega),F⟩]
 ·rw [if_neg e];unfold epart qbZ;have h:decide (j<i)=decide (j<i+1):=decide_eq_decide.2 (by omega);simp only [h]
theorem qkn (M:Nat->Nat->Int) (k:Nat) (D:Int):epart M k D k=epart M k D (k+1):=by
 funext j
 unfold epart qbZ
 by_cases e:j=k
 ·rw [if_neg (fun h=>h.2 e),if_neg (fun h=>h.2 e)]
 ·have h:decide (j<k)=decide (j<k+1):=decide_eq_decide.2 (by omega);simp only [h]
theorem qln (M:Nat->Nat->Int) (k:Nat) (D:Int) (R:Nat):∀j,j<R->epart M k D R j=qbZ (fun _=>true) M k k D j:=by
 intro j F;unfold epart qbZ;simp only [qV F]
theorem qlo {M:Nat->Nat->Int} {k:Nat} {D:Int} {R n K:Nat} (I:k<R) (H:k<n) (h:∀i,i<R->∀j,j<n->Fit (M i j).natAbs K):∀i,i<R->∀j,j<n->Fit (qbZ (fun _=>true) M k k D i j).natAbs (K+K+1):=by
 intro i F j G;unfold qbZ;split
 ·exact fit_step (h k I k H) (h i F j G) (h i F k H) (h k I j G)
 ·exact (h i F j G).mono (by omega)
theorem qlp {W:World} {F R n k i g:Nat} {D:Int} {G:Nat->Nat} {M:Nat->Nat->Int} (h:MatAt W F R n G (epart M k D i)) (H:i≠k) (hg:qb8 W g n (fun j=>(epart M k D i k k*epart M k D i i j-epart M k D i i k*epart M k D i k j).tdiv D)) :
  MatAt (W.setCell ⟨F,i,none⟩ (rowv g n)) F R n (fun j=>if j=i then g else G j) (epart M k D (i+1)):=by
 rw [(qeX M k D i).1,(qeX M k D i).2] at hg;have:=h.set i g _ hg;rw [qkm M k D i H] at this;exact this
theorem qb6.other {W:World} {g F:Nat} {z z0:Int} {u v:Value} (h:qb6 W g z) (I:qb6 W F z0) (hne:g≠F):qb6 ((W.setCell ⟨F,0,none⟩ u).setCell ⟨F,1,none⟩ v) g z:=by
 obtain⟨a,m,c,b,G,x,e,J⟩:=h;obtain⟨_,_,_,_,k1,_⟩:=I;have H:=qdX W F u v;exact⟨a,m,c,b,(H.block _ (qG G).1 (fun e=>hne (qag e))).trans G,x,e,qch J H k1 qjN⟩
theorem qb6.row2 {W:World} {g:Nat} {z0 z:Int} {a:Option Addr} {m c:Nat} {b:Bool} (h:qb6 W g z0) (G:IntAt W (.agg #[.slice a m c,.bool b]) z):((W.setCell ⟨g,0,none⟩ (.slice a m c)).setCell ⟨g,1,none⟩ (.bool b)).heap[g]? = some (.cells #[.slice a m c,.bool b] 217 (0,0))/\IntAt ((W.setCell ⟨g,0,none⟩ (.slice a m c)).setCell ⟨g,1,none⟩ (.bool b)) (.agg #[.slice a m c,.bool b]) z:=by
 obtain⟨a0,m0,c0,b0,F,_⟩:=h;obtain⟨x,e,H⟩:=G;exact⟨heap_setCell_same _ g 1 _ _ _ (heap_setCell_same _ g 0 _ _ _ F),x,e,qch H (qdX W g _ _) F qjN⟩
theorem qb6.zero {W:World} {g:Nat} {z0:Int} (h:qb6 W g z0):((W.setCell ⟨g,0,none⟩ (.slice none 0 0)).setCell ⟨g,1,none⟩ (.bool false)).heap[g]? = some (.cells #[.slice none 0 0,.bool false] 217 (0,0)) :=
 (h.row2 (z:=0) ⟨_,rfl,MagAt.nil _⟩).1
def ElmAs (w:World) (F R n K:Nat) (A:Nat->Nat->Int) (e:Ending) (w':World):Prop :=
  ∃(v:Value) (z:Int),e=.returned v/\IntAt w' v z/\w.grownBy w' (some F) /\
    ((z=0/\∃(k:Nat) (D:Int) (M:Nat->Nat->Int),k<R/\ElimSt R n k D M A/\∀i,k<=i->i<R->M i k=0) \/
     (Fit z.natAbs (KK K R)/\∃(G:Nat->Nat) (M:Nat->Nat->Int),MatAt w' F R n G M/\ElimSt R n R z M A/\∀i,i<R->∀j,j<n->Fit (M i j).natAbs (KK K R)))
theorem elim_any (tb R n K:Nat) (gs:Nat->Nat) (A:Nat->Nat->Int) (w:World) (aT:0<R) (hR:R<=10) (aU:R<=n) (hn:n<=11) (hK:K<=33554430) (aO:0<K) (hM:MatAt w tb R n gs A) (aG:∀i,i<R->gs i<w.heap.size) (hF:∀i,i<R->∀j,j<n->Fit (A i j).natAbs K) :
  Calls prog 240 #[.slice (some ⟨tb,0,none⟩) R R] w fun e w'=>ElmAs w tb R n K A e w':=by
 have HM:=qH (qA hM (qA aG hF));have aX:tb<w.heap.size:=(qG hM.row).1;have aR:(0:Int)<R:=by omega
 clear hM hF aG;go_enter func240,ntmps240;go_wp2_with fail
 go_loopw [10] (fun x10 W=>∃(k:Nat) (D:Int) (gs:Nat->Nat) (M:Nat->Nat->Int),k<=R/\x10=.int .i64 k/\Hu (ElimSt R n k D M A)/\Hu (MatAt W tb R n gs M/\(∀i,i<R->gs i≠w.heap.size+1+1)/\∀i,i<R->gs i≠w.heap.size)/\Hu (qb6 W (w.heap.size+1+1) D/\qb6 W w.heap.size 0)/\Hu (w.grownBy W (some tb))/\Hu (Fit D.natAbs (KK K k)/\∀i,i<R->∀j,j<n->Fit (M i j).natAbs (KK K k))) (fun x10 _=>R-(intOf x10).toNat)
 case atStart =>
  have hb:Below w.heap.size w (((w.alloc (.cells #[.slice none 0 0,.bool false] 217)).alloc (.cells #[.int .u32 1] 201)).alloc (.cells #[.slice (some ⟨w.heap.size+1,0,none⟩) 1 1,.bool false] 217)):=qbM (qbM (qbM qB qN) qN) qN;refine⟨0,1,gs,A,qan _,rfl,qH (ElimSt.start _ _ _),qH ⟨HM.o.1.below hb,fun i Z=>by have:=HM.o.2.1 i Z;omega,fun i Z=>by have:=HM.o.2.1 i Z;omega⟩,qH ⟨⟨_,_,_,_,qM _ _ _ (by simp),_,rfl,?_⟩,⟨_,_,_,_,(qL _ _ _ (by simp only [qaa];omega)).trans ((qL _ _ _ (by simp only [qaa];omega)).trans (qM _ _ _ rfl)),_,rfl,MagAt.nil _⟩⟩,qH (qbW _ hb),qH ⟨?_,fun i Z j hj=>by rw [qk4];exact HM.o.2.2 i Z j hj⟩⟩
  ·have:=(qfu (w.alloc (.cells #[.slice none 0 0,.bool false] 217)) 201 (s:=1) (by decide) (by decide)).below (qbM (o:=.cells #[.slice (some ⟨w.heap.size+1,0,none⟩) 1 1,.bool false] 217) qB qN);rw [qaa] at this;exact this
  ·rw [qk4];exact Fit.mono (show Fit 1 1 by show 1<1000000000 ^ 1;decide) aO
 case round =>
  obtain⟨k,D,gs1,M,hk,rfl,hS,O,hI,hG,aa⟩:=hrel
  by_cases G:k<R
  ·have aS:(k:Int)<R:=by omega
   have Y:k<n:=by omega
   go_wp2_with fail;refine (qmq tb R n k k gs1 M _ (by omega) G Y (by omega) O.o.1).mono ?_;rintro e w2 (⟨rfl,hw,h0⟩ | ⟨rfl,aj,a,aQ,ai,hne,az⟩)
   ·subst hw;have H0:=qH h0;obtain⟨a,m,d,b,⟨e0,e1⟩,⟨z0,z1⟩,_⟩:=hI.o.2.cells;have U:=hI.o.2.zero;have ah:=qer (qer hG.o qN (p:=⟨w.heap.size,0,none⟩) (.slice none 0 0)) qN (p:=⟨w.heap.size,1,none⟩) (.bool false);have I:=qH (qA U ah);clear h0 U ah;go_wp2_with fail;exact qR (v:=.agg #[.slice none 0 0,.bool false]) (rA_ rfl w.heap.size I.o.1 underlying217 2) rfl ⟨_,0,rfl,⟨_,rfl,MagAt.nil _⟩,I.o.2,qav ⟨rfl,k,D,M,G,hS.o,H0.o⟩⟩
   ·have ax:=qH (hS.o.swap aQ ai);have aL:=qH (qA (hI.o.1.keep aj O.o.1.row) (hI.o.2.keep aj O.o.1.row));have aK:=qH (qbR hG.o aj);have V:=qH (qA aa.o.1 (swap_fit G ai aa.o.2));have aC:=qH (show qb1 M k a k k≠0 by unfold qb1;rw [if_pos rfl];exact hne);obtain⟨gs2,au⟩:=qY (fun j=>if j=k then gs1 a else if j=a then gs1 k else gs1 j);have aA:=qlC G ai O.o.2.1;have af:=qlC G ai O.o.2.2;rw [<-au] at az aA af;have ae:MatAt w2 tb R n gs2 (qb1 M k a):=az;obtain⟨M2,ak⟩:=qY (qb1 M k a);rw [<-ak] at ae ax V aC;have aB:=qH (qA ae (qA aA af));clear az ae au ak hne aj aA af hS O hI hG aa;go_wp2_with fail
    go_loopw [21] (fun x21 W=>∃(i:Nat) (gs:Nat->Nat),i<=R/\x21=.int .i64 i/\Hu (MatAt W tb R n gs (epart M2 k D i)/\(∀i,i<R->gs i≠w.heap.size+1+1)/\∀i,i<R->gs i≠w.heap.size)/\Hu (qb6 W (w.heap.size+1+1) D/\qb6 W w.heap.size 0)/\Hu (w.grownBy W (some tb))) (fun x21 _=>R-(intOf x21).toNat)
    case atStart=>exact⟨0,gs2,qan _,rfl,qH ⟨by rw [qi4];exact aB.o.1,aB.o.2⟩,aL,aK⟩
    case round =>
     obtain⟨i,aD,aV,rfl,F,H,ay⟩:=hrel
     by_cases Z:i<R
     ·have aW:(i:Int)<R:=by omega
      by_cases ag:i=k
      ·have aH:((i:Int) != (k:Int))=false:=by simp [ag]
       have aN:=qH (show epart M2 k D i=epart M2 k D (i+1) by rw [ag];exact qkn M2 k D);clear ag;go_wp2;go_roundw
       case rel=>exact⟨i+1,aD,Z,by go_num,qH ⟨by rw [<-aN.o];exact F.o.1,F.o.2⟩,H,ay⟩
       case measure=>simp [intOf];omega
      ·have aH:((i:Int) != (k:Int))=true:=by rw [bne_iff_ne];omega
       have aM:=qH ag;clear ag;obtain⟨ci,fi⟩:=F.o.1.cell Z;obtain⟨ck,fk⟩:=F.o.1.cell G;obtain⟨a,m,d,b,⟨e0,e1⟩,_,J⟩:=H.o.1.cells;have HC:=qH (fun W (h:Below wr.heap.size wr W)=>qhv (KK_le hK (show k<=10 by omega)) (show n<=64 by omega) Y ((F.o.1.below h).rows i Z) ((F.o.1.below h).rows k G) (by rw [(qeX M2 k D i).1];exact V.o.2 i Z) (by rw [(qeX M2 k D i).2];exact V.o.2 k G) (J.below h) V.o.1 ax.o.nz);have av:Below wr.heap.size wr wr.drew:=qB.drew;clear J;go_wp2_with fail
       go_region_with (first | (go_at_call 256;refine (HC.o _ av).mono ?_;rintro e w4 ⟨g,rfl,aP,aF,aJ⟩;have hb:=av.trans aF;obtain⟨q0,q1⟩:=(F.o.1.below hb).cell Z;have I:=qH (qA (F.o.1.below hb) (qA (qA (H.o.1.below hb) (H.o.2.below hb)) (qA aP (qA aJ (qca ay.o hb)))));clear aF aJ hb))
       all_goals go_wp2_with fail
       all_goals go_roundw
       all_goals first
        | exact⟨i+1,_,Z,by go_num,qH ⟨qlp I.o.1 aM.o I.o.2.2.2.1,gs_set F.o.2.1 (qbf (qai H.o.1.lt I.o.2.2.1)),gs_set F.o.2.2 (qbf (qai H.o.2.lt I.o.2.2.1))⟩,qH ⟨I.o.2.1.1.keep (qbO _ _ _ _) I.o.1.row,I.o.2.1.2.keep (qbO _ _ _ _) I.o.1.row⟩,qH (qbR I.o.2.2.2.2 (qbO _ _ _ _))⟩
        | (simp [intOf];omega)
     ·obtain rfl:i=R:=by omega
      obtain⟨ck,fk⟩:=F.o.1.cell G;obtain⟨a,m,d,b,⟨e0,e1⟩,⟨z0,z1⟩,_⟩:=H.o.1.cells;obtain⟨a2,m2,d2,b2,p0,p1,J⟩:=(F.o.1.rows k G).pair Y;rw [(qeX M2 k D i).2] at J;have I:=qH J;clear J;go_wp2;go_roundw
      case rel =>
       refine⟨k+1,M2 k k,aD,qbZ (fun _=>true) M2 k k D,by omega,by go_num,qH (ax.o.next G Y aC.o),qH ⟨(F.o.1.put H.o.1 (qdX _ _ _ _) F.o.2.1).congr (fun _ _=>rfl) (qln M2 k D i),F.o.2⟩,qH ⟨H.o.1.put I.o,H.o.2.other H.o.1 (by omega)⟩,qH ?_,qH ⟨?_,?_⟩⟩
       ·exact qer (qer ay.o (qam (qa6 _)) _) (qam (qa6 _)) _
       ·rw [qk3];exact (V.o.2 k G k Y).mono (by omega)
       ·rw [qk3];exact qlo G Y V.o.2
      case measure=>simp [intOf];omega
  ·obtain rfl:k=R:=by omega
   obtain⟨a,m,d,b,⟨e0,e1⟩,_,J⟩:=hI.o.1.cells;obtain⟨a2,m2,d2,b2,⟨p0,p1⟩,⟨z0,z1⟩,_⟩:=hI.o.2.cells;have U:=hI.o.2.row2 J;have ah:=qer (qer hG.o qN (p:=⟨w.heap.size,0,none⟩) (.slice a m d)) qN (p:=⟨w.heap.size,1,none⟩) (.bool b);have aI:=O.o.1.put hI.o.2 (qdX _ _ (.slice a m d) (.bool b)) O.o.2.2;have I:=qH (qA U (qA ah aI));clear J U ah aI;go_wp2_with fail;exact qR (v:=.agg #[.slice a m d,.bool b]) (rA_ rfl w.heap.size I.o.1.1 underlying217 2) rfl ⟨_,D,rfl,I.o.1.2,I.o.2.1,qaj ⟨aa.o.1,gs1,M,I.o.2.2,hS.o,aa.o.2⟩⟩
def ftxt (q:Rat):FT:=(qcb q.num,num q.den)
theorem qfS (q:Rat):fstr q=.agg #[.string (ftxt q).1,.string (ftxt q).2]:=rfl
def FRow (W:World) (g n:Nat) (l:List FT):Prop:=W.heap[g]? = some (.cells (fflat (l++List.replicate (n-l.length) fd0)).toArray 27 (0,0))/\l.length<=n
theorem FRow.below {W W':World} {g n:Nat} {l:List FT} (h:FRow W g n l) (F:Below W.heap.size W W'):FRow W' g n l :=
 ⟨(F.block _ (qG h.1).1).trans h.1,h.2⟩
theorem FRow.at {W:World} {g n:Nat} {l:List FT} (h:FRow W g n l) (I:l.length<n):(W.cell? ⟨g,l.length*2,none⟩=some (.string ⟨#[]⟩)/\W.cell? ⟨g,l.length*2+1,none⟩=some (.string ⟨#[]⟩))/\∀j,W.frozen? ⟨g,j,none⟩=false:=by
 have F:(l++List.replicate (n-l.length) fd0)[l.length]? = some fd0:=by
  rw [qar qN,qaK,qbq,if_pos (by omega)]
 obtain⟨G,H⟩:=qeY _ _ _ F;exact⟨⟨(qC _ _ _ _ _ _ h.1).trans ((qaz ..).trans G),(qC _ _ _ _ _ _ h.1).trans ((qaz ..).trans H)⟩,fun j=>qF _ _ _ _ _ h.1⟩
theorem FRow.set {W:World} {g n:Nat} {l:List FT} (h:FRow W g n l) (I:l.length<n) (x:FT) :
  FRow ((W.setCell ⟨g,l.length*2,none⟩ (.string x.1)).setCell ⟨g,l.length*2+1,none⟩ (.string x.2)) g n (l++[x]):=by
 refine⟨?_,by rw [qaf,qaB];omega⟩;rw [heap_setCell_same _ g (l.length*2+1) _ _ _ (heap_setCell_same _ g (l.length*2) _ _ _ h.1)]
 congr 3
 obtain⟨m,H⟩:∃m,n-l.length=m+1:=⟨n-l.length-1,by omega⟩;have F:fflat (l++List.replicate (m+1) fd0)=fflat l++(.string fd0.1 :: .string fd0.2 :: fflat (List.replicate m fd0)):=by
  rw [qdJ,qbn];rfl
 have G:fflat (l++[x]++List.replicate m fd0)=fflat l++(.string x.1 :: .string x.2 :: fflat (List.replicate m fd0)):=by
  rw [qdJ,qdJ,qaA];rfl
 rw [qaH,qaH,H,qaf,qaB,show n-(l.length+1)=m by omega,F,G];rw [qa4 _ _ (by rw [qce];exact qae _),qce,qaK,qbh,qa4 _ _ (by rw [qce];omega),qce,show l.length*2+1-l.length*2=1 by omega]
 rfl
theorem qls (n:Nat):fflat (List.replicate n fd0)=List.replicate (n*2) (.string ⟨#[]⟩):=by
 induction n with
 | zero=>rfl
 | succ n ih =>
  rw [qbn,show (n+1)*2=n*2+1+1 by omega,qbn,qbn,<-ih];rfl
theorem qhc (n:Nat):madeCells #[.string ⟨#[]⟩,.string ⟨#[]⟩] (n*2)=(fflat (List.replicate n fd0)).toArray:=by
 rw [qls];apply Array.ext';apply List.ext_getElem?;intro i;rw [Array.getElem?_toList]
 show _=(List.replicate (n*2) (Value.string ⟨#[]⟩))[i]?
 by_cases F:i<n*2
 ·rw [qbq,if_pos F];have G:(madeCells #[.string ⟨#[]⟩,.string ⟨#[]⟩] (n*2))[i]? = some ((#[.string ⟨#[]⟩,.string ⟨#[]⟩]:Array Value)[i % 2]!):=by simp [madeCells,F]
  rw [G]
  congr 1
  rcases (show i % 2=0\/i % 2=1 by omega) with e | e <;> rw [e] <;> rfl
 ·rw [Array.getElem?_eq_none (by rw [size_madeCells];omega),qa8 (by rw [qbm];omega)]
theorem FRow.made (W:World) (n:Nat):FRow (W.alloc (.cells (madeCells #[.string ⟨#[]⟩,.string ⟨#[]⟩] (n*2)) 27)) W.heap.size n []:=by
 refine⟨?_,qan _⟩;rw [qM _ _ _ rfl,qbw,List.length_nil,Nat.sub_zero,qhc]
theorem qeu (n:Nat) (J:n<=1048576) (w:World):(Instr.makeSlice 22 (.int .i64 (n:Int)) (.int .i64 (n:Int))).run prog w=.ok (.slice (some ⟨w.heap.size,0,none⟩) n n) (w.alloc (.cells (madeCells #[.string ⟨#[]⟩,.string ⟨#[]⟩] (n*2)) 27)):=by
 obtain⟨i,I,F,G,H⟩:=info_parts infoF;have h:=run_make (P:=prog) w 22 27 i _ underlying22 I F .i64 .i64 (n:Int) (n:Int) (by omega) (Int.le_refl _) (by rw [H];omega) (by omega);rw [G,Int.toNat_natCast] at h;exact h
theorem FRow.cells {W:World} {g n:Nat} {l:List FT} (h:FRow W g n l) (G:l.length=n):FCells W (some ⟨g,0,none⟩) g 0 l:=by
 have F:=h.1;rw [G,qaK,List.replicate_zero,qbE] at F;exact FCells.ofRow F
theorem HasT.keepRow {W W':World} {H R n:Nat} {I:Nat->Nat} (h:HasT W) (U:W.grownBy W' (some H)) (V:W.heap[H]? = some (.cells (rowvs R n I).toArray 212 (0,0))):HasT W':=by
 unfold HasT Lib.TabIs World.var? at *;cases hg:(prog).globalNamed "internal/strconv.uint64pow10" with
 | none=>simp [hg] at h
 | some g =>
  simp only [hg,Option.bind_some] at h ⊢;have G:g<W.heap.size:=by
   rcases qaV g W.heap.size with h' | h'
   ·exact h'
   ·rw [Array.getElem?_eq_none h'] at h;simp at h
  have hne:g≠H:=by
   intro e;subst e;rw [V] at h;simp only [Option.some.injEq] at h;have F:=congrArg (fun a:Array Value=>a[0]?) h;have J:((Lib.pow10Tab.map fun z=>Value.int .u64 z).toArray)[0]? = some (.int .u64 1):=rfl;have F:(rowvs R n I).toArray[0]? = (Lib.pow10Tab.map fun z=>Value.int .u64 z).toArray[0]?:=F;rw [J,qaz] at F
   by_cases O:0<R
   ·rw [qdW O] at F;simp at F
   ·rw [qa8 (by rw [qcu];omega)] at F;simp at F
  rw [U.block g G (fun e=>hne (qag e))];exact h
def told (n:Nat) (x:Nat->Rat):List FT:=(List.range n).map fun i=>ftxt (x i)
def qbP (n:Nat) (x:Nat->Rat):Prop:=∀i,i<n->Short (x i)
theorem qbP.snoc {n:Nat} {x:Nat->Rat} (h:qbP n x) (F:Short (x n)):qbP (n+1) x:=fun j G=>by
 by_cases e:j=n
 ·rw [e];exact F
 ·exact h j (by omega)
theorem qfo (n:Nat) (x:Nat->Rat):told (n+1) x=told n x++[ftxt (x n)]:=by
 unfold told;rw [List.range_succ,qbj];rfl
theorem qbQ (n:Nat) (x:Nat->Rat):(told n x).length=n:=by unfold told;rw [qaF,qbC]
def FOne (F W:World) (g:Nat) (x:FT):Prop:=W.heap[g]? = some (.cells #[.string x.1,.string x.2] 27 (0,0))/\Below F.heap.size F W/\F.heap.size<=g
theorem fone_a {F W:World} {x1 x2:ByteArray} (G:Below F.heap.size F W):FOne F (W.alloc (.cells #[.string x1,.string x2] 27)) W.heap.size (x1,x2) :=
 ⟨qM _ _ _ rfl,qbM G qN,G.size⟩
theorem fone_p {F W:World} {g:Nat} {x1 x2:ByteArray} {G c1:Value} (H:Below F.heap.size F W) (hg:F.heap.size<=g) (I:W.heap[g]? = some (.cells #[G,c1] 27 (0,0))) :
  FOne F ((W.setCell ⟨g,0,none⟩ (.string x1)).setCell ⟨g,1,none⟩ (.string x2)) g (x1,x2) :=
 ⟨heap_setCell_same _ g 1 _ _ _ (heap_setCell_same _ g 0 _ _ _ I),(H.setCell (p:=⟨g,0,none⟩) hg _).setCell (p:=⟨g,1,none⟩) hg _,hg⟩
theorem qfG {w w':World} {q:Rat} {e:Ending} (h:qhr w q e w'):∃(x1 x2:ByteArray) (c:Int),e=.returned (.tuple #[.agg #[.string x1,.string x2],.int .i64 c])/\(Short q/\(x1,x2)=ftxt q/\c=0\/¬Short q/\(x1,x2)=fd0/\c=6)/\Below w.heap.size w w':=by
 obtain⟨h | h,F⟩:=h
 ·exact⟨(ftxt q).1,(ftxt q).2,0,h.2,qav ⟨h.1,rfl,rfl⟩,F⟩
 ·exact⟨_,_,6,h.2,qaj ⟨h.1,rfl,rfl⟩,F⟩
def Tells (n:Nat) (x:Nat->Rat) (e:Ending) (w':World):Prop :=
 (qbP n x/\∃g,e=.returned (.tuple #[.slice (some ⟨g,0,none⟩) n n,.int .i64 0])/\FCells w' (some ⟨g,0,none⟩) g 0 (told n x)) \/
 (¬qbP n x/\e=.returned (.tuple #[.slice none 0 0,.int .i64 6]))
def SolvesAs (w:World) (F R:Nat) (A:Nat->Nat->Int) (e:Ending) (w':World):Prop :=
 w.grownBy w' (some F)/\((Sing R (castM A)/\e=.returned (.tuple #[.slice none 0 0,.int .i64 7])) \/
  (¬Sing R (castM A)/\∃x,qcv R (castM A) (fun i=>castM A i R) x/\Tells R x e w'))
theorem fit_pos {z:Int} {K:Nat} (h:Fit z.natAbs K) (F:z≠0):0<K:=by
 rcases qaW K with e | e
 ·subst e;have:z.natAbs<1:=h;omega
 ·exact e
theorem qf7 (a b:Int):Rat.divInt a b=(a:Rat) / b:=Rat.divInt_eq_div a b
theorem qmC (tb R K:Nat) (gs:Nat->Nat) (A:Nat->Nat->Int) (w:World) (bC:0<R) (hR:R<=10) (hK:K<=33554430) (bB:0<K) (hM:MatAt w tb R (R+1) gs A) (aD:∀i,i<R->gs i<w.heap.size) (hF:∀i,i<R->∀j,j<R+1->Fit (A i j).natAbs K) (hT:HasT w) :
  Calls prog 190 #[.agg #[.slice (some ⟨tb,0,none⟩) R R]] w fun e w'=>SolvesAs w tb R A e w':=by
 have HM:=qH (qA hM (qA aD hF));have HT:=qH hT;have bF:tb<w.heap.size:=(qG hM.row).1;have bG:(0:Int)<R:=by omega
 have aj:Below w.heap.size w (w.alloc (.cells #[.slice (some ⟨tb,0,none⟩) R R] 262)):=qbM qB qN;have HE:=qH (elim_any tb R (R+1) K gs A (w.alloc (.cells #[.slice (some ⟨tb,0,none⟩) R R] 262)) bC hR (by omega) (by omega) hK bB (hM.below aj) (fun i U=>qai (aD i U) aj.size) hF);have av:=qH aj;have bJ:=qeZ;clear hM hF aD hT aj;go_enter func190,ntmps190;go_wp2_with fail;refine HE.o.mono ?_;rintro e H ⟨v,z,rfl,hv,O,hz⟩;obtain⟨a,m,d,b,rfl⟩:=qbN hv;have aY:=(HM.o.1.below av.o);have aL:=(HT.o.below av.o).keepRow O aY.row;have hg:=qbR (qbW tb av.o) O;have bi:=(qcq .l) z.natAbs (.slice a m d);have Hv:=qH hv;have HX:=qH (qA aL (qA hg O));have aW:MagAt H (.slice a m d) z.natAbs:=by
  obtain⟨_,e,h⟩:=hv;simp only [qa1,qa2,qaU] at e;rw [e.1];exact h
 have az:Below H.heap.size H (H.alloc (.cells #[.slice a m d,.bool b] 217)):=qbM qB qN;have HZ:=qH (bi _ (aW.below az));have J:=qH az;have bD:(H.alloc (.cells #[.slice a m d,.bool b] 217)).heap.size=H.heap.size+1:=by rw [qaa]
 have bE:w.heap.size<H.heap.size:=by have:=O.size;rw [qaa] at this;omega
 have Y:H.heap[w.heap.size]? = some (.cells #[.slice (some ⟨tb,0,none⟩) R R] 262 (0,0)):=(O.block _ (by rw [qaa];omega) (fun e=>Nat.lt_irrefl _ (qag e▸bF))).trans (qM _ _ _ rfl);have bn:=qH Y;have bv:=qC _ _ 0 _ _ _ Y;clear hv O aY aL hg bi aW az bD Y;go_wp2_with fail;obtain⟨W3,V⟩:=qY (H.alloc (.cells #[.slice a m d,.bool b] 217));rw [<-V] at HZ J ⊢;have aC:Hu (w.grownBy W3 (some tb)):=qH (qca HX.o.2.1 J.o);rcases hz with ⟨au,k,D,M,hk,hS,h0⟩ | ⟨aU,gs',M,aK,hS,aQ⟩
 ·refine HZ.o.mono ?_;rintro e w4 ⟨rfl,hw⟩;rw [qV (show z.natAbs=0 by omega)];have HS:=qH (qh5 hS (by omega) hk h0);subst hw;clear hS h0 au V;go_wp2_with fail
  go_ret2
  exact⟨aC.o,qav ⟨HS.o,rfl⟩⟩
 ·refine HZ.o.mono ?_;rintro e w4 ⟨rfl,hw⟩;have au:=hS.nz;rw [qU (show ¬z.natAbs=0 by omega)];have aX:=qeu R (by omega) W3;obtain⟨W5,ai⟩:=qY (W3.alloc (.cells (madeCells #[.string ⟨#[]⟩,.string ⟨#[]⟩] (R*2)) 27));rw [<-ai] at aX;have aT:FRow W5 W3.heap.size R []:=ai▸FRow.made W3 R;have aA:Below W3.heap.size W3 W5:=ai▸qbM qB qN;clear ai;have aZ:W3.heap[H.heap.size]? = some (.cells #[.slice a m d,.bool b] 217 (0,0)):=by rw [V];exact qM _ _ _ rfl
  have I:=(J.o.block _ (by exact bE)).trans bn.o;have Z:=(aA.block _ (qG I).1).trans I;have bA:=qC _ _ 0 _ _ _ Z;have H5:=qH (qA aT (qA aA Z));have HS:=qH (qA aU (qA (aK.below J.o) (qA hS aQ)));have H3:=qH (qA aZ (qA I (qA (Hv.o.below J.o) (HX.o.1.below J.o))));have aI:=qH au;have bf:W3.heap.size=H.heap.size+1:=by rw [V,qaa]
  have bH:=qH bf;subst hw;clear hS au V aK aQ aU aZ I bv bf aT aA Z;have bz:=qC _ _ 0 _ _ _ H3.o.2.1;go_wp2_with fail
  go_loopw [26] (fun x26 W=>∃(i:Nat),i<=R/\x26=.int .i64 i/\Hu (qbP i (fun i=>(M i R:Rat) / z))/\Hu (FRow W w4.heap.size R (told i (fun i=>(M i R:Rat) / z)))/\Hu (Below w4.heap.size w4 W)) (fun x26 _=>R-(intOf x26).toNat)
  case atStart=>exact⟨0,qan _,rfl,qH (fun i U=>absurd U (by omega)),qH H5.o.1,qH H5.o.2.1⟩
  case round =>
   obtain⟨i,bK,rfl,hA,hF,hB⟩:=hrel
   by_cases U:i<R
   ·have bL:(i:Int)<R:=by omega
    have bI:(R:Int)<R+1:=by omega
    have ay:=HS.o.2.1.below hB.o;obtain⟨ci,fi⟩:=ay.cell U;obtain⟨a2,m2,d2,b2,p0,p1,aV⟩:=(ay.rows i U).pair (show R<R+1 by omega);have hr:=(hB.o.block _ (qG H3.o.1).1).trans H3.o.1;have aB:=(hB.o.block _ (qG H3.o.2.1).1).trans H3.o.2.1;have C0:∀W,Below wr.heap.size wr W->W.cell? ⟨w.heap.size,0,none⟩=some (.slice (some ⟨tb,0,none⟩) R R):=fun W h=>(h.cell (p:=⟨w.heap.size,0,none⟩) (qG aB).1).trans (qC _ _ 0 _ _ _ aB)
    have C1:∀W,Below wr.heap.size wr W->W.cell? ⟨gs' i,R*2,none⟩=some (.slice a2 m2 d2):=fun W h=>(h.cell (qac wr _ p0)).trans p0
    have C2:∀W,Below wr.heap.size wr W->W.cell? ⟨gs' i,R*2+1,none⟩=some (.bool b2):=fun W h=>(h.cell (qac wr _ p1)).trans p1
    have C3:∀W,Below wr.heap.size wr W->W.cell? ⟨H.heap.size,0,none⟩=some (.slice a m d):=fun W h=>(h.cell (p:=⟨H.heap.size,0,none⟩) (qG hr).1).trans (qC _ _ 0 _ _ _ hr)
    have C4:∀W,Below wr.heap.size wr W->W.cell? ⟨H.heap.size,1,none⟩=some (.bool b):=fun W h=>(h.cell (p:=⟨H.heap.size,1,none⟩) (qG hr).1).trans (qC _ _ 1 _ _ _ hr)
    have bg:=H3.o.2.2.1.below hB.o;have aM:=H3.o.2.2.2.below hB.o;have aR:=HS.o.2.2.2 i U R (by omega);have HW:=qH (fun W (h:Below wr.heap.size wr W)=>qhb (M i R) z aI.o (KK K R) (fit_pos HS.o.1 aI.o) (KK_le hK hR) _ _ W (aV.below h) (bg.below h) aR HS.o.1 (aM.below h));have aH:Below wr.heap.size wr wr:=Below.refl _ _;have af:Below wr.heap.size wr wr.drew:=aH.drew;have ae:Below wr.heap.size wr (wr.alloc (.cells #[.string ⟨#[]⟩,.string ⟨#[]⟩] 27)).drew:=(qbM aH qN).drew;have aJ:=hF.o.at (by rw [qbQ];exact U);have HF:=qH aJ;clear ay aV p0 p1 hr aB bg aM aR aJ bz bA aX;go_wp2_with fail
    go_cut [9,10] (fun x9 x10 W=>∃(g9:Nat) (x1 x2:ByteArray) (c:Int),x9=.pointer (some ⟨g9,0,none⟩)/\x10=.int .i64 c/\Hu (Short (Rat.divInt (M i R) z)/\(x1,x2)=ftxt (Rat.divInt (M i R) z)/\c=0\/¬Short (Rat.divInt (M i R) z)/\(x1,x2)=fd0/\c=6)/\FOne wr W g9 (x1,x2))
    case first =>
     go_region_held3 (fun W=>Below wr.heap.size wr W) (first | with_reducible exact aH | with_reducible exact af | with_reducible exact ae | with_reducible exact F | exact qbM F qN | exact (F.setCell qN _).setCell qN _ | exact (F.setCell F.size _).setCell F.size _) (first | (go_at_call 160;refine (HW.o _ (by first | with_reducible exact af | with_reducible exact ae)).mono ?_;rintro e w6 hx;obtain⟨x1,x2,c6,rfl,hx,ak⟩:=qfG hx;have F:Below wr.heap.size wr w6:=bjoin (by first | with_reducible exact af | with_reducible exact ae) ak;have bu:=qH hx;obtain⟨k6,bN⟩:=bcell ak;have Z6:=qH (zkeep ak);clear hx ak))
     all_goals go_wp2_with fail
     all_goals go_meet
     all_goals refine⟨_,x1,x2,c6,rfl,rfl,bu,?_⟩
     all_goals first
      | with_reducible exact fone_a F
      | exact fone_p F qN (Z6.o _ _ (qM _ _ _ rfl))
    case rest =>
     obtain⟨g9,x1,x2,c,rfl,rfl,hx,ho⟩:=hcut;obtain⟨aF,aG,bM⟩:=ho;have o0:=qC _ _ 0 _ _ _ aF;have o1:=qC _ _ 1 _ _ _ aF;have ax:=hF.o.below aG;have aN:=ax.at (by rw [qbQ];exact U);have aa:=ax.set (by rw [qbQ];exact U) (x1,x2);rw [qbQ] at aN aa;obtain⟨⟨q0,q1⟩,qf⟩:=aN;have bO:=qf (i*2);have bP:=qf (i*2+1);have aO:=((hB.o.trans (aG.mono hB.o.size)).setCell (p:=⟨w4.heap.size,i*2,none⟩) qN (.string x1)).setCell (p:=⟨w4.heap.size,i*2+1,none⟩) qN (.string x2);have aP:=hB.o.trans (aG.mono hB.o.size);have HQ:=qH (qA aa (qA aO aP));have HX:=qH hx.o;have hq:=qf7 (M i R) z;clear aa aO aP aF ax qf C0 C1 C2 C3 C4 ci fi;rcases hx.o with ⟨G,ag,rfl⟩ | ⟨G,ag,rfl⟩
     ·rw [hq] at G ag;have ah:=qH (qA G ag);clear G ag hq;go_wp2;go_roundw
      case rel=>exact⟨i+1,U,by go_num,qH (hA.o.snoc ah.o.1),qH (by rw [qfo,<-ah.o.2];exact HQ.o.1),qH HQ.o.2.1⟩
      case measure=>simp [intOf];omega
     ·rw [hq] at G;have ah:=qH G;clear G ag hq;go_wp2_with fail
      go_ret2
      exact⟨qca aC.o HQ.o.2.2,qaj ⟨(qfR HS.o.2.2.1).2,_,(qfR HS.o.2.2.1).1,qaj ⟨fun h=>ah.o (h i U),rfl⟩⟩⟩
   ·obtain rfl:i=R:=by omega
    have aS:=hF.o.cells (qbQ _ _);have bq:=qH aS;clear aS;go_wp2_with fail
    go_ret2
    exact⟨qca aC.o hB.o,qaj ⟨(qfR HS.o.2.2.1).2,_,(qfR HS.o.2.2.1).1,qav ⟨hA.o,_,rfl,bq.o⟩⟩⟩
abbrev Tbl:=List (List FT)
structure TCells (W:World) (ao:Option Addr) (b off:Nat) (t:Tbl):Prop where
 addr:0<t.length->ao=some ⟨b,off,none⟩
 row:∀k,k<t.length->∃(ra:Option Addr) (rb ro rc:Nat),W.cell? ⟨b,off+k,none⟩=some (.slice ra (t.getD k []).length rc)/\FCells W ra rb ro (t.getD k [])
theorem TCells.below {W W':World} {G:Option Addr} {b F:Nat} {t:Tbl} (h:TCells W G b F t) (I:Below W.heap.size W W'):TCells W' G b F t :=
 ⟨h.addr,fun k O=>by
  obtain⟨ra,rb,ro,rc,H,J⟩:=h.row k O;exact⟨ra,rb,ro,rc,(I.cell (qac W _ H)).trans H,J.below I⟩⟩
def wid (t:Tbl):Nat:=(t.getD 0 []).length
structure TOk (t:Tbl):Prop where
 r1:1<=t.length
 r2:t.length<=40
 c1:1<=wid t
 c2:wid t<=10
 rows:∀k,k<t.length->(t.getD k []).length=wid t/\FAll (t.getD k [])
theorem qld (ao:Option Addr) (b au R c:Nat) (t:Tbl) (w:World) (hR:t.length=R) (hl:R<=4611686018427387904) (hw:∀k,k<R->(t.getD k []).length<=4611686018427387904) (Z:TCells w ao b au t) :
  Calls prog 209 #[.slice ao R c] w fun e w'=>qeT w (TOk t) 60 e w':=by
 have H:=qH (qA Z (qA hR hw))
 by_cases h1:1<=R
 case neg =>
  have V:(R:Int)<1:=by omega
  clear Z hR;go_enter func209,ntmps209;go_wp2;go_ret;exact⟨60,rfl,qaj ⟨rfl,fun h=>by have:=h.r1;have:=H.o.2.1;omega⟩,Below.refl _ _⟩
 have aD:¬(R:Int)<1:=by omega
 by_cases h2:R<=40
 case neg =>
  have V:(40:Int)<R:=by omega
  clear Z hR;go_enter func209,ntmps209;go_wp2;go_ret;exact⟨60,rfl,qaj ⟨rfl,fun h=>by have:=h.r2;have:=H.o.2.1;omega⟩,Below.refl _ _⟩
 have aF:¬(40:Int)<R:=by omega
 have aC:(0:Int)<R:=by omega
 have ax:=Z.addr (by omega);subst ax;obtain⟨aL,aM,aO,aN,O,_⟩:=Z.row 0 (by omega);rw [qbA] at O;obtain⟨n,hn⟩:=qX (wid t);have ak:(t.getD 0 []).length=n:=hn;have az:=hw 0 (by omega);rw [ak] at O az;have Y:=qH hn;have aA:b<w.heap.size:=qac w _ O;clear Z hR hn ak hw
 by_cases h3:1<=n
 case neg =>
  have V:(n:Int)<1:=by omega
  go_enter func209,ntmps209;go_wp2;go_ret;exact⟨60,rfl,qaj ⟨rfl,fun h=>by have:=h.c1;have:=Y.o;omega⟩,Below.refl _ _⟩
 have aG:¬(n:Int)<1:=by omega
 by_cases h4:n<=10
 case neg =>
  have V:(10:Int)<n:=by omega
  go_enter func209,ntmps209;go_wp2;go_ret;exact⟨60,rfl,qaj ⟨rfl,fun h=>by have:=h.c2;have:=Y.o;omega⟩,Below.refl _ _⟩
 have aH:¬(10:Int)<n:=by omega
 go_enter func209,ntmps209;go_wp2_with fail
 go_loopw [31] (fun x31 W=>∃k:Nat,k<=R/\x31=.int .i64 k/\Hu (∀i,i<k->(t.getD i []).length=n/\FAll (t.getD i []))/\Hu (Below w.heap.size w W)) (fun x31 _=>R-(intOf x31).toNat)
 case atStart=>exact⟨0,qan _,rfl,qH (fun i hi=>absurd hi (by omega)),qH qB⟩
 case round =>
  obtain⟨k,hk,rfl,hI,hB⟩:=hrel
  by_cases ai:k<R
  ·have aK:(k:Int)<R:=by omega
   have aI:=(hB.o.cell (p:=⟨b,au,none⟩) aA).trans O;obtain⟨ra,rb,ro,rc,af,ag⟩:=(H.o.1.below hB.o).row k (by have:=H.o.2.1;omega);have HF:=qH ag;obtain⟨row,G⟩:=qX (t.getD k []);obtain⟨l,U⟩:=qX row.length;have aj:=H.o.2.2 k ai;rw [G] at af HF aj;rw [U] at af aj;have I:=qH (qA G U);clear G U ag
   by_cases F:l=n
   case neg =>
    have hne:((l:Int) != (n:Int))=true:=by rw [bne_iff_ne];omega
    have HL:=qH F;clear F;go_wp2;go_ret;exact⟨60,rfl,qaj ⟨rfl,fun h=>HL.o (by rw [<-I.o.2,<-I.o.1,<-Y.o];exact (h.rows k (by have:=H.o.2.1;omega)).1)⟩,hB.o⟩
   have hne:((l:Int) != (n:Int))=false:=by simp [F]
   have HL:=qH F;clear F;obtain⟨wo,aB⟩:=qY wr;subst aB;go_wp2_with fail
   go_loopw [44] (fun x44 W=>∃j:Nat,j<=l/\x44=.int .i64 j/\Hu (∀i,i<j->FOk (row.getD i fd0).1.data.toList (row.getD i fd0).2.data.toList)/\Hu (Below wo.heap.size wo W)) (fun x44 _=>l-(intOf x44).toNat)
   case atStart=>exact⟨0,qan _,rfl,qH (fun i hi=>absurd hi (by omega)),qH qB⟩
   case round =>
    obtain⟨j,hj,rfl,hJ,J⟩:=hrel
    by_cases ah:j<l
    ·have aJ:(j:Int)<l:=by omega
     have av:=HF.o.addr (by have:=I.o.2;omega);subst av;obtain⟨d0,d1⟩:=(HF.o.below J.o).cell j (by have:=I.o.2;omega);obtain⟨N,hN⟩:=qX ((row.getD j fd0).1);obtain⟨D,hD⟩:=qX ((row.getD j fd0).2);rw [hN] at d0;rw [hD] at d1;have HX:=qH (qA hN hD);clear hN hD;go_wp2_with fail;refine (qep N D _).mono ?_;rintro e w2 ⟨cc,rfl,ay,ae⟩;have aa:=qH (J.o.trans ((qB.alloc qN _ |>.trans (ae.mono (by simp only [qaa];omega))).mono J.o.size));clear ae;rcases ay with ⟨rfl,hf⟩ | ⟨rfl,hf⟩
     ·have Hf:=qH hf;clear hf;go_wp2;go_roundw
      case rel=>exact⟨j+1,ah,by go_num,qH (fun i hi=>by
       rcases (show i<j\/i=j by omega) with h | h
       ·exact hJ.o i h
       ·rw [h,HX.o.1,HX.o.2];exact Hf.o),aa⟩
      case measure=>simp [intOf];omega
     ·have Hf:=qH hf;clear hf;go_wp2;go_ret;exact⟨60,rfl,qaj ⟨rfl,fun h=>Hf.o (by
       have:=(h.rows k (by have:=H.o.2.1;omega)).2 j (by rw [I.o.1,I.o.2];exact ah);rw [I.o.1,HX.o.1,HX.o.2] at this;exact this)⟩,hB.o.trans (aa.o.mono hB.o.size)⟩
    ·obtain rfl:j=l:=by omega
     go_wp2;go_roundw
     case rel=>exact⟨k+1,ai,by go_num,qH (fun i hi=>by
      rcases (show i<k\/i=k by omega) with h | h
      ·exact hI.o i h
      ·rw [h,I.o.1,I.o.2];exact⟨HL.o,fun x hx=>hJ.o x (by rw [<-I.o.2];exact hx)⟩),qH (hB.o.trans (J.o.mono hB.o.size))⟩
     case measure=>simp [intOf];omega
  ·obtain rfl:k=R:=by omega
   go_wp2;go_ret;exact⟨0,rfl,qav ⟨rfl,⟨by have:=H.o.2.1;omega,by have:=H.o.2.1;omega,by rw [Y.o];exact h3,by rw [Y.o];exact h4,fun i hi=>by rw [Y.o];exact hI.o i (by have:=H.o.2.1;omega)⟩⟩,hB.o⟩
def CLAs (w:World) (t L:Tbl) (e:Ending) (w':World):Prop :=
 ∃c:Int,e=.returned (.int .i64 c)/\(c=60/\¬TOk t\/c=20/\TOk t/\¬(∀k,k<L.length->FAll (L.getD k []))\/c=0/\TOk t/\∀k,k<L.length->FAll (L.getD k []))/\Below w.heap.size w w'
theorem qeD (ao:Option Addr) (b au R c:Nat) (t:Tbl) (Z:Option Addr) (b2 av R2 c2:Nat) (L:Tbl) (w:World) (hR:t.length=R) (hl:R<=4611686018427387904) (hw:∀k,k<R->(t.getD k []).length<=4611686018427387904) (hc:TCells w ao b au t)
  (aa:L.length=R2) (I:R2<=4611686018427387904) (ak:∀k,k<R2->(L.getD k []).length<=4611686018427387904) (ae:TCells w Z b2 av L) :
  Calls prog 145 #[.slice ao R c,.slice Z R2 c2] w fun e w'=>CLAs w t L e w':=by
 have HK:=qH (qld ao b au R c t w hR hl hw hc);have J:=qH (qA ae (qA aa ak));clear hR hw hc aa ak ae;go_enter func145,ntmps145;go_wp2_with fail;refine HK.o.mono ?_;rintro e w2 ⟨cc,rfl,U,F⟩;have HB:=qH F;clear F;rcases U with ⟨rfl,hT⟩ | ⟨rfl,hT⟩
 case inr =>
  have HT:=qH hT;clear hT;go_wp2;go_ret;exact⟨60,rfl,qav ⟨rfl,HT.o⟩,HB.o⟩
 have HT:=qH hT;clear hT;go_wp2_with fail
 go_loopw [17] (fun x17 W=>∃k:Nat,k<=R2/\x17=.int .i64 k/\Hu (∀i,i<k->FAll (L.getD i []))/\Hu (Below w.heap.size w W)) (fun x17 _=>R2-(intOf x17).toNat)
 case atStart=>exact⟨0,qan _,rfl,qH (fun i V=>absurd V (by omega)),HB⟩
 case round =>
  obtain⟨k,hk,rfl,hI,hB⟩:=hrel
  by_cases ai:k<R2
  ·have aB:(k:Int)<R2:=by omega
   have ay:=J.o.1.addr (by have:=J.o.2.1;omega);subst ay;obtain⟨ra,rb,ro,rc,af,ag⟩:=(J.o.1.below hB.o).row k (by have:=J.o.2.1;omega);have HF:=qH ag;obtain⟨row,G⟩:=qX (L.getD k []);obtain⟨l,I⟩:=qX row.length;have aj:=J.o.2.2 k ai;rw [G] at af HF aj;rw [I] at af aj;have O:=qH (qA G I);clear G I ag;obtain⟨wo,az⟩:=qY wr;subst az;go_wp2_with fail
   go_loopw [23] (fun x23 W=>∃j:Nat,j<=l/\x23=.int .i64 j/\Hu (∀i,i<j->FOk (row.getD i fd0).1.data.toList (row.getD i fd0).2.data.toList)/\Hu (Below wo.heap.size wo W)) (fun x23 _=>l-(intOf x23).toNat)
   case atStart=>exact⟨0,qan _,rfl,qH (fun i V=>absurd V (by omega)),qH qB⟩
   case round =>
    obtain⟨j,hj,rfl,hJ,H⟩:=hrel
    by_cases ah:j<l
    ·have aA:(j:Int)<l:=by omega
     have ax:=HF.o.addr (by have:=O.o.2;omega);subst ax;obtain⟨d0,d1⟩:=(HF.o.below H.o).cell j (by have:=O.o.2;omega);obtain⟨N,hN⟩:=qX ((row.getD j fd0).1);obtain⟨D,hD⟩:=qX ((row.getD j fd0).2);rw [hN] at d0;rw [hD] at d1;have HX:=qH (qA hN hD);clear hN hD;go_wp2_with fail;refine (qep N D _).mono ?_;rintro e w2 ⟨cc,rfl,U,F⟩;have Y:=qH (H.o.trans ((qB.alloc qN _ |>.trans (F.mono (by simp only [qaa];omega))).mono H.o.size));clear F;rcases U with ⟨rfl,hf⟩ | ⟨rfl,hf⟩
     ·have Hf:=qH hf;clear hf;go_wp2;go_roundw
      case rel=>exact⟨j+1,ah,by go_num,qH (fun i V=>by
       rcases (show i<j\/i=j by omega) with h | h
       ·exact hJ.o i h
       ·rw [h,HX.o.1,HX.o.2];exact Hf.o),Y⟩
      case measure=>simp [intOf];omega
     ·have Hf:=qH hf;clear hf;go_wp2;go_ret;exact⟨20,rfl,qaj (qav ⟨rfl,HT.o,fun h=>Hf.o (by
       have:=h k (by have:=J.o.2.1;omega) j (by rw [O.o.1,O.o.2];exact ah);rw [O.o.1,HX.o.1,HX.o.2] at this;exact this)⟩),hB.o.trans (Y.o.mono hB.o.size)⟩
    ·obtain rfl:j=l:=by omega
     go_wp2;go_roundw
     case rel=>exact⟨k+1,ai,by go_num,qH (fun i V=>by
      rcases (show i<k\/i=k by omega) with h | h
      ·exact hI.o i h
      ·rw [h,O.o.1];exact fun x hx=>hJ.o x (by rw [<-O.o.2];exact hx)),qH (hB.o.trans (H.o.mono hB.o.size))⟩
     case measure=>simp [intOf];omega
  ·obtain rfl:k=R2:=by omega
   go_wp2;go_ret;exact⟨0,rfl,qaj (qaj ⟨rfl,HT.o,fun i V=>hI.o i (by have:=J.o.2.1;omega)⟩),hB.o⟩
def Neg (l:List FT):Prop:=∃k,k<l.length/\ival (l.getD k fd0).1.data.toList<0
def NegAs (w:World) (l:List FT) (e:Ending) (w':World):Prop:=∃x:Bool,e=.returned (.bool x)/\(x=true↔Neg l)/\Below w.heap.size w w'
theorem qfN (ao:Option Addr) (b af n c:Nat) (l:List FT) (w:World) (hn:l.length=n) (hl:n<=4611686018427387904) (hc:FCells w ao b af l) (hf:FAll l) :
  Calls prog 146 #[.slice ao n c] w fun e w'=>NegAs w l e w':=by
 have G:=qH (qA hc (qA hn hf));have ah:=qeZ;clear hc hn hf;go_enter func146,ntmps146;go_wp2_with fail
 go_loopw [7] (fun x7 W=>∃j:Nat,j<=n/\x7=.int .i64 j/\Hu (∀i,i<j->0<=ival (l.getD i fd0).1.data.toList)/\Hu (Below w.heap.size w W)) (fun x7 _=>n-(intOf x7).toNat)
 case atStart=>exact⟨0,qan _,rfl,qH (fun i hi=>absurd hi (by omega)),qH qB⟩
 case round =>
  obtain⟨j,hj,rfl,hJ,F⟩:=hrel
  by_cases aa:j<n
  ·have ai:(j:Int)<n:=by omega
   have Z:=G.o.1.addr (by have:=G.o.2.1;omega);subst Z;obtain⟨d0,d1⟩:=(G.o.1.below F.o).cell j (by have:=G.o.2.1;omega);have I:=(G.o.2.2 j (by have:=G.o.2.1;omega)).vn;obtain⟨N,hN⟩:=qX ((l.getD j fd0).1);obtain⟨D,hD⟩:=qX ((l.getD j fd0).2);rw [hN] at d0 I;rw [hD] at d1;have V:=qH (qA hN I);clear hN hD I;go_wp2_with fail;refine ((qb7 .l) N V.o.2 _).mono ?_;rintro e w2 ⟨v2,rfl,O,ae⟩;have J:=qH (F.o.trans ((qB.alloc qN _ |>.trans (O.mono (by simp only [qaa];omega))).mono F.o.size));obtain⟨m2,rfl,U⟩:=ae;have ag:∀b W,(Instr.field 217 (.agg #[m2,.bool b]) 1).run prog W=.ok (.bool b) W:=by
    obtain⟨_,_,_,_,_,_,rfl,_,_⟩:=U;intro b W;kernel_rfl
   clear O U
   by_cases H:ival N.data.toList<0
   ·rw [qV H];have Y:=qH H;clear H;go_wp2;go_ret;exact⟨true,rfl,⟨fun _=>⟨j,by have:=G.o.2.1;omega,by rw [V.o.1];exact Y.o⟩,fun _=>rfl⟩,J.o⟩
   ·rw [qU H];have Y:=qH (Int.not_lt.1 H);clear H;go_wp2;go_roundw
    case rel=>exact⟨j+1,aa,by go_num,qH (fun i hi=>by
     rcases (show i<j\/i=j by omega) with h | h
     ·exact hJ.o i h
     ·rw [h,V.o.1];exact Y.o),J⟩
    case measure=>simp [intOf];omega
  ·obtain rfl:j=n:=by omega
   go_wp2;go_ret;exact⟨false,rfl,⟨fun h=>absurd h (by decide),fun⟨k,hk,H⟩=>absurd H (Int.not_lt.2 (hJ.o k (by have:=G.o.2.1;omega)))⟩,F.o⟩
def lval (l:List FT) (k:Nat):Rat:=fval (l.getD k fd0).1.data.toList (l.getD k fd0).2.data.toList
def tval (t:Tbl) (i:Nat):Nat->Rat:=lval (t.getD i [])
theorem qhx (n d:List UInt8):fval n d=(ival n:Rat) / ((ival d).natAbs:Rat):=by
 unfold fval;rw [<-Rat.divInt_ofNat,Rat.divInt_eq_div];rfl
theorem flcd_dvd {l:List FT} {k:Nat} (F:k<l.length):fden (l.getD k fd0)∣flcd l:=by
 have h:=qhC (l.map fden) (l.map fden).length k (by rw [qaF];exact F) qN;rw [qba] at h;have e:(l.map fden).getD k 0=fden (l.getD k fd0):=by
  rw [qab,qaS,qab,qad F];rfl
 rw [e] at h;exact h
theorem qlj {l:List FT} {j:Nat} (G:j<(l.map fden).length):(l.map fden).getD j 0=fden (l.getD j fd0):=by
 have F:j<l.length:=by rw [qaF] at G;exact G
 rw [qab,qaS,qab,qad F];rfl
theorem qjL {l:List FT} (h:FAll l):0<flcd l:=by
 have:=qfb (l.map fden) (fun j F=>by rw [qlj F];exact (qdK h (by rw [qaF] at F;exact F)).1) (l.map fden).length qN;rw [qba] at this;exact this
theorem qe1 {l:List FT} (h:FAll l) {m:Nat} (G:l.length<=m):Fit (flcd l) (m*67+1):=by
 have:=qfa (l.map fden) 67 (fun j F=>by rw [qlj F];exact qdK h (by rw [qaF] at F;exact F)) (l.map fden).length qN;rw [qba,qaF] at this;exact this.mono (by omega)
theorem qe4 {l:List FT} (h:FAll l) {k:Nat} (G:k<l.length):((ftop l k:Int):Rat)=(flcd l:Rat)*lval l k:=by
 obtain⟨q,H⟩:=flcd_dvd G;have F:=(qdK h G).1;have e:flcd l / fden (l.getD k fd0)=q:=by rw [H];exact qaO _ F
 unfold ftop lval;rw [qhx,e,H];have I:((fden (l.getD k fd0):Nat):Rat)≠0:=by
  have:=qbf F
  exact_mod_cast this
 show _=_*((ival _:Rat) / ((fden (l.getD k fd0):Nat):Rat))
 push_cast
 grind
theorem qcT {l:List FT} (h:FAll l) {m:Nat} (G:l.length<=m) {k:Nat} (F:k<l.length):Fit (ftop l k).natAbs (67+(m*67+1)):=by
 unfold ftop;rw [qaD,qaq];exact (h k F).vn.fit.mul ((qe1 h G).le (qaM _ _))
theorem Sing.scale {R:Nat} {A B:Nat->Nat->Rat} (s:Nat->Rat) (O:∀i,i<R->s i≠0) (h:∀i,i<R->∀j,j<R->A i j=s i*B i j):Sing R A↔Sing R B:=by
 have G:∀(y:Nat->Rat) i,i<R->sumQ R (fun j=>A i j*y j)=s i*sumQ R (fun j=>B i j*y j):=fun y i F=>by
  rw [<-qcc];exact qbS fun j J=>by rw [h i F j J];grind
 constructor
 ·rintro ⟨y,I,H⟩;refine⟨y,I,fun i F=>?_⟩;have:=H i F;rw [G y i F] at this;rcases Rat.mul_eq_zero.1 this with e | e
  ·exact absurd e (O i F)
  ·exact e
 ·rintro ⟨y,I,H⟩;exact⟨y,I,fun i F=>by rw [G y i F,H i F];grind⟩
theorem qcv.scale {R:Nat} {A B:Nat->Nat->Rat} {b c x:Nat->Rat} (s:Nat->Rat) (O:∀i,i<R->s i≠0) (h:∀i,i<R->∀j,j<R->A i j=s i*B i j) (I:∀i,i<R->b i=s i*c i) (U:qcv R A b x):qcv R B c x:=fun i F=>by
 have G:=U i F;have H:sumQ R (fun j=>A i j*x j)=s i*sumQ R (fun j=>B i j*x j):=by
  rw [<-qcc];exact qbS fun j J=>by rw [h i F j J];grind
 rw [H,I i F] at G;have:=O i F
 grind
theorem qga {l:List FT} {x:FT} {k:Nat} (F:k<l.length):(l++[x]).getD k fd0=l.getD k fd0:=by
 rw [qab,qax F,<-qab]
theorem qf9 {l:List FT} {x:FT}:(l++[x]).getD l.length fd0=x:=by
 rw [qab,qar qN,qaK];rfl
theorem FAll.snoc {l:List FT} {x:FT} (h:FAll l) (G:FOk x.1.data.toList x.2.data.toList):FAll (l++[x]):=fun k F=>by
 rw [qaf,qaB] at F
 by_cases e:k<l.length
 ·rw [qga e];exact h k e
 ·obtain rfl:k=l.length:=by omega
  rw [qf9];exact G
theorem qgm {l:List FT} {x:FT} {k:Nat} (F:k<l.length):lval (l++[x]) k=lval l k:=by unfold lval;rw [qga F]
theorem qgl {l:List FT} {x:FT}:lval (l++[x]) l.length=fval x.1.data.toList x.2.data.toList:=by unfold lval;rw [qf9]
structure MatPart (W:World) (tb R k n:Nat) (gs:Nat->Nat) (M:Nat->Nat->Int):Prop where
 row:W.heap[tb]? = some (.cells (rowvs k n gs++List.replicate (R-k) zs0).toArray 212 (0,0))
 rows:∀i,i<k->qb8 W (gs i) n (M i)
 le:k<=R
theorem MatPart.below {W W':World} {H R k n:Nat} {F:Nat->Nat} {M:Nat->Nat->Int} (h:MatPart W H R k n F M) (G:Below W.heap.size W W'):MatPart W' H R k n F M :=
 ⟨(G.block _ (qG h.row).1).trans h.row,fun i I=>(h.rows i I).below G,h.le⟩
theorem qhL {R k n:Nat} {F:Nat->Nat}:∀x∈(rowvs k n F++List.replicate (R-k) zs0).toArray.toList,∀d,x≠.int .u32 d:=by
 intro x G d e;rcases qaG.1 (show x∈rowvs k n F++List.replicate (R-k) zs0 from G) with h | h
 ·exact qgA x h d e
 ·rw [(List.mem_replicate.1 h).2] at e;cases e
theorem qb8.keepRows {W W':World} {H g O:Nat} {cs:Array Value} {m:Nat->Int} (h:qb8 W g O m) (I:W.grownBy W' (some H)) (J:W.heap[H]? = some (.cells cs 212 (0,0))) (hne:∀x∈cs.toList,∀d,x≠.int .u32 d):qb8 W' g O m:=by
 obtain⟨ps,U,G,V⟩:=h;have F:g≠H:=by
  intro e;subst e;have:=G.1.symm.trans J;simp at this
 exact⟨ps,U,⟨(I.block _ (qG G.1).1 (fun e=>F (qag e))).trans G.1,G.2⟩,V.keep I J hne⟩
theorem MatPart.at {W:World} {F R k n:Nat} {G:Nat->Nat} {M:Nat->Nat->Int} (h:MatPart W F R k n G M) (H:k<R):W.cell? ⟨F,k,none⟩=some zs0/\W.frozen? ⟨F,k,none⟩=false:=by
 refine⟨(qC _ _ _ _ _ _ h.row).trans ?_,qF _ _ _ _ _ h.row⟩;rw [qaz,qar (by rw [qcu];exact qae _),qcu,qaK,qbq,if_pos (by omega)]
theorem MatPart.done {W:World} {G R n:Nat} {F:Nat->Nat} {M:Nat->Nat->Int} (h:MatPart W G R R n F M):MatAt W G R n F M:=by
 have:=h.row;rw [qaK,List.replicate_zero,qbE] at this;exact⟨this,h.rows⟩
theorem MatPart.made (W:World) (R n:Nat) (F:Nat->Nat) (M:Nat->Nat->Int):MatPart (W.alloc (.cells (madeCells #[zs0] R) 212)) W.heap.size R 0 n F M:=by
 refine⟨?_,fun i G=>absurd G (by omega),qan _⟩;rw [qM _ _ _ rfl,Nat.sub_zero,show rowvs 0 n F=[] from rfl,qbw,<-toList_madeCells_one,Array.toArray_toList]
theorem qjO:(Tryz.prog.info? 212).map (fun i=>(i.zero,i.size,i.bytes))=some (some (.slice none 0 0),1,24):=by kernel_rfl
theorem ql3 (n:Nat) (J:n<=1048576) (w:World):(Instr.makeSlice 260 (.int .i64 (n:Int)) (.int .i64 (n:Int))).run prog w=.ok (.slice (some ⟨w.heap.size,0,none⟩) n n) (w.alloc (.cells (madeCells #[zs0] n) 212)):=by
 obtain⟨i,I,F,G,H⟩:=info_parts qjO;have h:=run_make (P:=prog) w 260 212 i _ underlying260 I F .i64 .i64 (n:Int) (n:Int) (by omega) (Int.le_refl _) (by rw [H];omega) (by omega);rw [G,Int.toNat_natCast,qbK] at h;exact h
theorem qd1 {w a b:World} {g:Nat} (h:Below w.heap.size w a) (k:a.grownBy b (some g)) (hg:w.heap.size<=g:=by omega):Below w.heap.size w b :=
 h.trans ⟨k.os,k.tape,k.output,k.size,fun i F=>k.block i (qai F h.size) (fun e=>by have:=qag e;omega)⟩
theorem qdQ {a b:World} {g:Nat} (h:a.grownBy b (some g)) {p:Addr} (F:p.block<a.heap.size) (hne:p.block≠g):b.cell? p=a.cell? p:=World.cell?_of_block (h.block _ F (fun e=>hne (qag e)))
theorem qef {W:World} {H:Option Addr} {b G n c:Nat} {l:List FT} (U:l.length=n) (Y:n<=64) (F:FCells W H b G l) (O:FAll l) :
  Calls prog 147 #[.slice H n c] W fun e W'=>∃g v,e=.returned (.tuple #[rowv g n,v])/\W.heap.size<=g/\Below W.heap.size W W'/\MagAt W' v (flcd l)/\qb8 W' g n (ftop l):=by
 refine (qh9 H b G n c l W U Y F O).mono ?_;rintro e W' ⟨g,v,ps,rfl,hg,J,V,Z,hr,I⟩;exact⟨g,v,rfl,hg,J,V,ps,Z,hr,I⟩
def besides (t:Tbl) (l:List FT) (i:Nat):List FT:=t.getD i []++[l.getD i fd0]
