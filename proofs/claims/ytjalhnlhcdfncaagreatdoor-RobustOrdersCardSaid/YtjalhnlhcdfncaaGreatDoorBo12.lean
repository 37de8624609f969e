import Derived.Deep.DrawnRows
import Derived.Deep.RegionWith
import Derived.Test.YtjalhnlhcdfncaaGreatDoorBo11
set_option maxRecDepth 100000
set_option maxHeartbeats 0
namespace Go.Proofs.YtjalhnlhcdfncaaGreatDoor
open Go.RowKit Go.Proofs.Tryz
abbrev FT:=ByteArray×ByteArray
def fd0:FT:=(⟨#[]⟩,⟨#[]⟩)
structure FCells (W:World) (ao:Option Addr) (b off:Nat) (l:List FT):Prop where
 addr:0<l.length->ao=some ⟨b,off,none⟩
 cell:∀k,k<l.length->W.cell? ⟨b,off+k*2,none⟩=some (.string (l.getD k fd0).1)/\W.cell? ⟨b,off+k*2+1,none⟩=some (.string (l.getD k fd0).2)
theorem FCells.below {W W':World} {F:Option Addr} {b off:Nat} {l:List FT} (h:FCells W F b off l) (H:Below W.heap.size W W'):FCells W' F b off l :=
 ⟨h.addr,fun k E=>⟨(H.cell (qae W _ (h.cell k E).1)).trans (h.cell k E).1,(H.cell (qae W _ (h.cell k E).2)).trans (h.cell k E).2⟩⟩
def FAll (l:List FT):Prop:=∀k,k<l.length->FOk (l.getD k fd0).1.data.toList (l.getD k fd0).2.data.toList
def fden (x:FT):Nat:=(ival x.2.data.toList).natAbs
theorem infoM:(Tryz.prog.info? 213).map (fun i=>(i.zero,i.size,i.bytes))=some (some (.slice none 0 0),1,24):=by kernel_rfl
theorem qem {l:List FT} (h:FAll l) {k:Nat} (E:k<l.length):0<fden (l.getD k fd0)/\Fit (fden (l.getD k fd0)) 67:=⟨(h k E).dpos,(h k E).vd.fit⟩
theorem qno (l:List FT) (k:Nat) (E:k<l.length):(l.take (k+1)).map fden=(l.take k).map fden++[fden (l.getD k fd0)]:=by
 rw [qbw,qac E,qbh,qaa,qac E];rfl
def flcd (l:List FT):Nat:=lcms (l.map fden)
def ftop (l:List FT) (k:Nat):Int:=ival (l.getD k fd0).1.data.toList*((flcd l / fden (l.getD k fd0):Nat):Int)
def qcJ (W:World) (E:List (Value×Bool)) (z:Nat->Int):Prop:=∀k,k<E.length->(E.getD k (zs0,false)).2=decide (z k<0)/\MagAt W (E.getD k (zs0,false)).1 (z k).natAbs
theorem qcJ.below {W W':World} {F:List (Value×Bool)} {z:Nat->Int} (h:qcJ W F z) (H:Below W.heap.size W W'):qcJ W' F z:=fun k E=>⟨(h k E).1,(h k E).2.below H⟩
theorem qcJ.keep {W W':World} {g:Nat} {cs:Array Value} {t:TypeId} {H:Nat×Nat} {F:List (Value×Bool)} {z:Nat->Int} (h:qcJ W F z) (I:W.grownBy W' (some g)) (hg:W.heap[g]? = some (.cells cs t H)) (hne:∀x∈cs.toList,∀d,x≠.int .u32 d):qcJ W' F z :=
 fun k E=>⟨(h k E).1,qcA (h k E).2 I hg hne⟩
theorem qcJ.snoc {W:World} {E:List (Value×Bool)} {z:Nat->Int} {v:Value} (h:qcJ W E z) (I:MagAt W v (z E.length).natAbs):qcJ W (E++[(v,decide (z E.length<0))]) z:=by
 intro k H;rw [qaf,qaH] at H
 by_cases F:k<E.length
 ·rw [qaa,qax F,<-qaa];exact h k F
 ·obtain rfl:k=E.length:=by omega
  rw [qaa,qau qN,qaJ];exact⟨rfl,I⟩
theorem qmC {P:Program} {U:Func} {p u:Tmp} {H:TypeId} (h:U.results=#[.tmp u,.cell p H]) (E:Array Value) (w:World) (g:Nat) (d:TypeDesc) (hu:P.underlying H=some d) (hd:(match d with | .struct _ | .array _ _=>true | _=>false)=false)
  (hp:E.getD p undef=.pointer (some ⟨g,0,none⟩)) (O v:Value) (V:E.getD u undef=O) (Y:w.cell? ⟨g,0,none⟩=some v) :
  (results U E).run P w=.ok (.tuple #[O,v]) w:=by
 have F:(isAgg H).run P w=.ok false w:=by
  unfold isAgg;rw [Sem.run_bind,run_underlying hu w];cases d <;> simp_all
 have Z:(loadVar H ⟨g,0,none⟩).run P w=.ok v w:=by
  simp [loadVar,Sem.run_bind,F,Y]
 have J:E[p]?.getD undef=.pointer (some ⟨g,0,none⟩):=by simpa using hp
 have I:E[u]?.getD undef=O:=by simpa using V
 simp [results,h,J,I,asAddr,Z,Result.andThen]
theorem qjm (ao:Option Addr) (b off n c:Nat) (l:List FT) (w:World) (hl:l.length=n) (hn:n<=64) (aa:FCells w ao b off l) (hf:FAll l) :
  Calls prog 147 #[.slice ao n c] w fun e w'=>∃g v ps,e=.returned (.tuple #[.slice (some ⟨g,0,none⟩) n n,v])/\w.heap.size<=g/\Below w.heap.size w w'/\MagAt w' v (flcd l)/\ps.length=n/\IRow w' g n ps/\qcJ w' ps (ftop l):=by
 have bC:=run_make_row' (P:=prog) 286 213 (.slice none 0 0) 24 underlying286 infoM rfl .i64 .i64 n (by omega) (by omega);have HC:=qH (qA aa (qA hf hl));have bH:=qfR;clear aa hf hl;go_enter func147,ntmps147;go_wp2
 go_loopw [15] (fun x15 W=>∃(k:Nat) (vs:List Value),k<=n/\x15=.int .i64 k/\Hu (vs.length=k/\PRow W (w.heap.size+1) n vs/\qdU W vs ((l.take k).map fden)/\W.heap[w.heap.size]? = some (.cells #[zs0] 213 (0,0)))/\Hu (Below w.heap.size w W)) (fun x15 _=>n-(intOf x15).toNat)
 case atStart =>
  have h1:=PRow.made (w.alloc (.cells #[zs0] 213)) n;rw [qab] at h1;exact⟨0,[],qaj _,rfl,qH ⟨rfl,h1,⟨by simp,fun k hk=>absurd hk (by simp)⟩,(qL _ _ _ (by simp only [qab];omega)).trans (qM _ _ _ rfl)⟩,qH (qb4 (qb4 qB qN) qN)⟩
 case round =>
  clear bC;obtain⟨k,vs,hk,rfl,U,hB⟩:=hrel
  by_cases bB:k<n
  ·have bJ:(k:Int)<n:=by omega
   have aK:k<l.length:=by have:=HC.o.2.2;omega
   have aA:=HC.o.1.addr (by omega);subst aA;have hc:=(HC.o.1.below hB.o).cell k aK;have Y:=HC.o.2.1 k aK;have ax:=qno l k aK;have aX:fden (l.getD k fd0)=(ival (l.getD k fd0).2.data.toList).natAbs:=rfl;rw [aX] at ax;obtain⟨N,hN⟩:=qX ((l.getD k fd0).1);obtain⟨D,hD⟩:=qX ((l.getD k fd0).2);rw [hN,hD] at hc;rw [hD] at ax Y;obtain⟨aD,aF⟩:=hc;have HN:=qH (fun W=>(qcx .l) D Y.vd W);have HD:=qH ax;clear Y ax aX hN hD;go_wp2_with fail;refine (HN.o _).mono ?_;rintro e H ⟨v2,rfl,ae,ay⟩;obtain⟨m2,rfl,aI⟩:=ay;have J:Below wr.heap.size wr H:=(qB.alloc qN _).trans (ae.mono (by simp only [qab];omega));have aj:=U.o.2.1.below J;have ai:=aj.at (by have:=U.o.1;omega);rw [U.o.1] at ai;obtain⟨aR,aS⟩:=ai;have F:=aj.set (by have:=U.o.1;omega) m2 (qkH aI);rw [U.o.1] at F;have aO:=(((U.o.2.2.1.below J).snoc aI).keep (qb7 H (w.heap.size+1) k m2) aj.1 aj.nope);rw [<-HD.o] at aO;have ah:=(qW H ⟨w.heap.size+1,k,none⟩ m2 w.heap.size (by show w.heap.size≠w.heap.size+1;omega)).trans ((J.block _ (qG U.o.2.2.2).1).trans U.o.2.2.2);have aV:=(hB.o.trans (J.mono hB.o.size)).setCell (p:=⟨w.heap.size+1,k,none⟩) (by show w.heap.size<=w.heap.size+1;omega) m2;have H3:=qH (qA F (qA aO (qA ah aV)));obtain⟨s2,_,_,u2,t2,_,rfl,_,_⟩:=aI;clear ae J aj F aO ah aV aD aF;go_wp2;go_roundw
   case rel=>exact⟨k+1,_,bB,by go_num,qH ⟨by rw [qaf,U.o.1];rfl,H3.o.1,H3.o.2.1,H3.o.2.2.1⟩,qH H3.o.2.2.2⟩
   case measure=>simp [intOf];omega
  ·obtain rfl:k=n:=by omega
   have bg:=HC.o.2.2;have aN:=U.o.2.2.1;rw [qah (by omega)] at aN;have bz:∀j,j<k->0<(l.map fden).getD j 0/\Fit ((l.map fden).getD j 0) 67:=by
    intro j hj;have e:(l.map fden).getD j 0=fden (l.getD j fd0):=by
     rw [qaa,qaP,qaa,qac (by omega)];rfl
    rw [e];exact qem HC.o.2.1 (by omega)
   have aW:=qh3 (some ⟨w.heap.size+1,0,none⟩) (w.heap.size+1) 0 k k vs (l.map fden) 67 wr (by rw [qaD];exact bg) (U.o.2.1.cells U.o.1) aN bz (by omega) (by decide) (by omega);have aQ:=qH aW;clear aW bz aN bg;go_wp2_with fail;refine aQ.o.mono ?_;rintro e H ⟨v2,rfl,ae,ay⟩;obtain⟨W3,av⟩:=qY (H.setCell ⟨w.heap.size,0,none⟩ v2);have ag:=(ae.block _ (qG U.o.2.2.2).1).trans U.o.2.2.2;have bE:=qC _ _ 0 _ _ _ ag;have bF:=qF _ _ 0 _ _ ag;have aL:=qcA ay (qb7 H w.heap.size 0 v2) ag (by intro x hx d;rw [qap.1 hx];intro e;cases e);have ah:(H.setCell ⟨w.heap.size,0,none⟩ v2).heap[w.heap.size]? = some (.cells #[v2] 213 (0,0)):=heap_setCell_same H w.heap.size 0 _ _ v2 ag;have aB:=(hB.o.trans (ae.mono hB.o.size)).setCell (p:=⟨w.heap.size,0,none⟩) qN v2;rw [<-av] at aL ah aB;have az:Fit (flcd l) 4289:=by
    have:=qf4 (l.map fden) 67 (by
     intro j hj;have aZ:j<l.length:=by rw [qaD] at hj;exact hj
     have e:(l.map fden).getD j 0=fden (l.getD j fd0):=by
      rw [qaa,qaP,qaa,qac aZ];rfl
     rw [e];exact qem HC.o.2.1 aZ) k (by rw [qaD];have:=HC.o.2.2;omega)
    rw [qah (by rw [qaD];have:=HC.o.2.2;omega)] at this;exact this.mono (by omega)
   have bu:=(qG ag).1;have H3:=qH (qA aL (qA ah (qA aB az)));have HS:=qH bu;obtain⟨s2,_,_,u2,t2,_,bD,_,_⟩:=ay;subst bD;have aM:=qhp k (by omega) W3;clear ae ag aL ah aB U hB aQ az bu;go_wp2_with fail;rw [<-av];have bv:W3.heap.size=H.heap.size:=by rw [av];exact qbJ ..
   rw [bv] at aM;rw [aM];clear av;go_wp2_with fail
   go_loopw [36] (fun x36 W=>∃(j:Nat) (ps:List (Value×Bool)),j<=k/\x36=.int .i64 j/\Hu (ps.length=j/\IRow W H.heap.size k ps/\qcJ W ps (ftop l)/\W.heap[w.heap.size]? = some (.cells #[.slice s2 t2 u2] 213 (0,0))/\MagAt W (.slice s2 t2 u2) (flcd l))/\Hu (Below w.heap.size w W)) (fun x36 _=>k-(intOf x36).toNat)
   case atStart =>
    have h0:=IRow.made W3 k;rw [bv] at h0;have aC:Below W3.heap.size W3 (W3.alloc (.cells (madeCells #[zs0,.bool false] (k*2)) 217)):=qb4 qB qN;exact⟨0,[],qaj _,rfl,qH ⟨rfl,h0,(fun i hi=>absurd hi (by simp)),(aC.block _ (qG H3.o.2.1).1).trans H3.o.2.1,H3.o.1.below aC⟩,qH (H3.o.2.2.1.trans (aC.mono H3.o.2.2.1.size))⟩
   case round =>
    clear aM;obtain⟨j,ps,hj,rfl,E,au⟩:=hrel
    by_cases bA:j<k
    ·have bI:(j:Int)<k:=by omega
     have bf:j<l.length:=by have:=HC.o.2.2;omega
     have aA:=HC.o.1.addr (by omega);subst aA;have hc:=(HC.o.1.below au.o).cell j bf;have Y:=HC.o.2.1 j bf;have aG:ftop l j=ival (l.getD j fd0).1.data.toList*((flcd l / (ival (l.getD j fd0).2.data.toList).natAbs:Nat):Int):=rfl;obtain⟨N,hN⟩:=qX ((l.getD j fd0).1);obtain⟨D,hD⟩:=qX ((l.getD j fd0).2);rw [hN,hD] at hc Y aG;obtain⟨aD,aF⟩:=hc;have HW:=qH (qA Y aG);clear Y aG hN hD;go_wp2_with fail;have O:Below wr.heap.size wr (wr.alloc (.cells #[.string N,.string D] 27)):=qb4 qB qN;refine (qpj N D HW.o.1 w.heap.size s2 t2 u2 (flcd l) 4289 (by omega) (by omega) _ ((O.block _ (qG E.o.2.2.2.1).1).trans E.o.2.2.2.1) (E.o.2.2.2.2.below O) H3.o.2.2.2).mono ?_;rintro e w5 ⟨v5,rfl,aT,aY⟩;rw [<-HW.o.2] at aY;have I:Below wr.heap.size wr w5:=O.trans (aT.mono O.size);have Z:=E.o.2.1.below I;have af:=E.o.1;obtain⟨v6,rfl,aJ⟩:=aY;have ai:=Z.at (by omega);rw [af] at ai;obtain⟨⟨aR,aS⟩,aH⟩:=ai;have bK:=aH (j*2);have bL:=aH (j*2+1);have F:=Z.set (by omega) v6 (decide (ftop l j<0)) (qkH aJ);rw [af] at F;have V:=qb5 (qb7 w5 H.heap.size (j*2) v6) (qb7 _ H.heap.size (j*2+1) (.bool (decide (ftop l j<0))));have ak:=((E.o.2.2.1.below I).snoc (by rw [af];exact aJ)).keep V Z.1 Z.nope;rw [af] at ak;have hne:w.heap.size≠H.heap.size:=Nat.ne_of_lt HS.o;have bn:=(qW (w5.setCell ⟨H.heap.size,j*2,none⟩ v6) ⟨H.heap.size,j*2+1,none⟩ (.bool (decide (ftop l j<0))) w.heap.size hne).trans ((qW w5 ⟨H.heap.size,j*2,none⟩ v6 w.heap.size hne).trans ((I.block _ (qG E.o.2.2.2.1).1).trans E.o.2.2.2.1));have bi:=qcA (E.o.2.2.2.2.below I) V Z.1 Z.nope;have aU:=((au.o.trans (I.mono au.o.size)).setCell (p:=⟨H.heap.size,j*2,none⟩) (qan HS.o) v6).setCell (p:=⟨H.heap.size,j*2+1,none⟩) (qan HS.o) (.bool (decide (ftop l j<0)));have H6:=qH (qA F (qA ak (qA bn (qA bi aU))));have HP:=qH af;obtain⟨s6,_,_,u6,t6,_,rfl,_,_⟩:=aJ;clear F ak bn bi aU V Z I aT O af aH aD aF;go_wp2;go_roundw
     case rel=>exact⟨j+1,_,bA,by go_num,qH ⟨by rw [qaf,HP.o];rfl,H6.o.1,H6.o.2.1,H6.o.2.2.1,H6.o.2.2.2.1⟩,qH H6.o.2.2.2.2⟩
     case measure=>simp [intOf];omega
    ·obtain rfl:j=k:=by omega
     have hne:H.heap.size≠w.heap.size:=qbu HS.o;have bq:=heap_setCell_same wr w.heap.size 0 _ _ (.slice s2 t2 u2) E.o.2.2.2.1;have V:=qb7 wr w.heap.size 0 (.slice s2 t2 u2);have aP:∀x∈(#[.slice s2 t2 u2]:Array Value).toList,∀d,x≠.int .u32 d:=by intro x hx d;rw [qap.1 hx];intro e;cases e
     have HE:Hu (((wr.setCell ⟨w.heap.size,0,none⟩ (.slice s2 t2 u2)).drew).heap[w.heap.size]? = some (.cells #[.slice s2 t2 u2] 213 (0,0))/\qcJ (wr.setCell ⟨w.heap.size,0,none⟩ (.slice s2 t2 u2)).drew ps (ftop l)/\MagAt (wr.setCell ⟨w.heap.size,0,none⟩ (.slice s2 t2 u2)).drew (.slice s2 t2 u2) (flcd l)/\Below w.heap.size w (wr.setCell ⟨w.heap.size,0,none⟩ (.slice s2 t2 u2)).drew/\ps.length=j/\IRow (wr.setCell ⟨w.heap.size,0,none⟩ (.slice s2 t2 u2)).drew H.heap.size j ps):=qH ⟨bq,(E.o.2.2.1.keep V E.o.2.2.2.1 aP).below qB.drew,(qcA E.o.2.2.2.2 V E.o.2.2.2.1 aP).below qB.drew,(au.o.setCell (p:=⟨w.heap.size,0,none⟩) qN _).drew,E.o.1,⟨(qW wr ⟨w.heap.size,0,none⟩ (.slice s2 t2 u2) H.heap.size hne).trans E.o.2.1.1,E.o.2.1.2⟩⟩;clear bq V aP hne;have bM:=qC _ _ 0 _ _ _ E.o.2.2.2.1;have bG:=qF _ _ 0 _ _ E.o.2.2.2.1;go_wp2_with fail
     go_region
     all_goals go_wp2_with fail
     all_goals refine qR (v:=.tuple #[.slice (some ⟨H.heap.size,0,none⟩) j j,.slice s2 t2 u2]) (qmC rfl _ _ w.heap.size _ underlying213 rfl rfl _ _ rfl (qC _ _ 0 _ _ _ HE.o.1)) rfl ⟨H.heap.size,_,ps,rfl,qan HS.o,HE.o.2.2.2.1,HE.o.2.2.1,HE.o.2.2.2.2.1,HE.o.2.2.2.2.2,HE.o.2.1⟩
theorem qjc {P:Program} (w:World) (Z sT ty F:TypeId) (m g E I:Nat) (a:Addr) (H U:Nat) (cur:Array Value) (t:TypeId) (cs:List Value)
  (hu:P.underlying Z=some (.slice F)) (hs:(P.info? F).map (·.size)=some m)
  (hg:w.heap[g]? = some (.cells cur t (0,0))) (hn:cs.length=Nat.min H E*m)
  (O:∀j v,cs[j]? = some v->w.cell? (a.add j)=some v) (J:0+cs.length<=cur.size) (h1:∀v∈cs,v.oneCell'=true) :
  (Builtin.copy_ #[Z,sT] ty #[.slice (some ⟨g,0,none⟩) E I,.slice (some a) H U]).run P w =
   .ok (goInt (Nat.min H E:Nat)) (w.setRow g (cur.toList.take 0++cs++cur.toList.drop (0+cs.length)).toArray):=by
 have hl:=run_loadCells_list (P:=P) w a cs O;have Y:=run_storeCells_at P g 0 t cs 0 cur w hg (by simpa using J) h1;cases V:P.info? F with
 | none=>simp [V] at hs
 | some i =>
  have hi:i.size=m:=by simpa [V] using hs
  rw [hn] at hl;simp [Builtin.copy_,run_underlying hu,Builtin.lenOf,Builtin.firstCells,sizeOf,typeInfo,V,hi,hl,Y]
def fflat (l:List FT):List Value:=l.flatMap fun x=>[.string x.1,.string x.2]
theorem qcK (l:List FT):(fflat l).length=l.length*2:=by
 induction l with
 | nil=>rfl
 | cons p l ih=>rw [fflat,List.flatMap_cons,qaf,<-fflat,ih,qbH];simp;omega
theorem qd5 (a b:List FT):fflat (a++b)=fflat a++fflat b:=by unfold fflat;rw [List.flatMap_append]
theorem qfQ (l:List FT):∀(k:Nat) (x:FT),l[k]? = some x->(fflat l)[k*2]? = some (.string x.1)/\(fflat l)[k*2+1]? = some (.string x.2):=by
 induction l with
 | nil=>intro k p h;cases h
 | cons q l ih =>
  intro k p h;have e:fflat (q :: l)=.string q.1 :: .string q.2 :: fflat l:=rfl;rw [e];cases k with
  | zero =>
   have:q=p:=qag h;subst this;exact⟨rfl,rfl⟩
  | succ k =>
   have E:=ih k p h;rw [show (k+1)*2=k*2+1+1 by omega];exact E
theorem qhb (l:List FT):∀v∈fflat l,v.oneCell'=true:=by
 intro v E;obtain⟨x,_,hx⟩:=List.mem_flatMap.1 E;rcases qat.1 hx with rfl | hx
 ·rfl
 ·rw [qap.1 hx];rfl
theorem getD_some {l:List FT} {k:Nat} (E:k<l.length):l[k]? = some (l.getD k fd0):=by rw [qaa,qac E];rfl
theorem FCells.src {W:World} {J:Option Addr} {b off:Nat} {l:List FT} (h:FCells W J b off l):∀j v,(fflat l)[j]? = some v->W.cell? ((⟨b,off,none⟩:Addr).add j)=some v:=by
 intro j v E;have O:j<(fflat l).length:=(qbI.1 E).1;rw [qcK] at O;have I:j / 2<l.length:=by omega
 obtain⟨F,H⟩:=qfQ l (j / 2) _ (getD_some I);obtain⟨c1,c2⟩:=h.cell (j / 2) I;rw [Addr.add_mid]
 by_cases e:j % 2=0
 ·rw [show j / 2*2=j by omega] at F c1;rw [F] at E;rw [c1];exact E
 ·rw [show j / 2*2+1=j by omega] at H;rw [show off+j / 2*2+1=off+j by omega] at c2;rw [H] at E;rw [c2];exact E
theorem FCells.ofRow {W:World} {g:Nat} {l:List FT} {t:TypeId} {E:Nat×Nat} (h:W.heap[g]? = some (.cells (fflat l).toArray t E)):FCells W (some ⟨g,0,none⟩) g 0 l:=by
 refine⟨fun _=>rfl,fun k I=>?_⟩;obtain⟨F,H⟩:=qfQ l k _ (getD_some I);rw [qaT];exact⟨(qC _ _ _ _ _ _ h).trans ((qaz ..).trans F),(qC _ _ _ _ _ _ h).trans ((qaz ..).trans H)⟩
theorem infoF:(Tryz.prog.info? 27).map (fun i=>(i.zero,i.size,i.bytes))=some (some (.agg #[.string ⟨#[]⟩,.string ⟨#[]⟩]),2,32):=by kernel_rfl
theorem qml (n:Nat) (J:n<=1048576) (w:World):(Instr.makeSlice 22 (.int .i64 ((n:Int)+1)) (.int .i64 ((n:Int)+1))).run prog w=.ok (.slice (some ⟨w.heap.size,0,none⟩) (n+1) (n+1)) (w.alloc (.cells (madeCells #[.string ⟨#[]⟩,.string ⟨#[]⟩] ((n+1)*2)) 27)):=by
 obtain⟨i,I,E,F,H⟩:=info_parts infoF;have h:=run_make (P:=prog) w 22 27 i _ underlying22 I E .i64 .i64 ((n+1:Nat):Int) ((n+1:Nat):Int) (by omega) (Int.le_refl _) (by rw [H];omega) (by omega);rw [F,qbO] at h;exact h
theorem qoU (l:List FT) (x:FT) (r:List Value) (hr:r.length=2):(((fflat l++r).toArray.setIfInBounds (l.length*2) (.string x.1)).setIfInBounds (l.length*2+1) (.string x.2))=(fflat (l++[x])).toArray:=by
 obtain⟨a,b,rfl⟩:∃a b,r=[a,b]:=by
  match r,hr with
  | [a,b],_=>exact⟨a,b,rfl⟩
 rw [qd5,qaQ,qaQ,qbi _ _ (by rw [qcK];exact qad _),qcK,qaJ,qbx,qbi _ _ (by rw [qcK];omega),qcK,show l.length*2+1-l.length*2=1 by omega]
 rfl
theorem qh2 (ao:Option Addr) (b off n c:Nat) (l:List FT) (x:FT) (w:World) (hl:l.length=n) (aC:0<n) (hn:n<=63) (E:FCells w ao b off l) :
  Calls prog 150 #[.slice ao n c,.agg #[.string x.1,.string x.2]] w fun e w'=>∃g,e=.returned (.slice (some ⟨g,0,none⟩) ((n+1:Nat)) (n+1))/\Below w.heap.size w w'/\FCells w' (some ⟨g,0,none⟩) g 0 (l++[x]):=by
 obtain⟨s1,s2⟩:=x;have ax:=E.addr (by omega);subst ax;obtain⟨V,F⟩:=qY (w.alloc (.cells #[.string s1,.string s2] 27));have au:=qml n (by omega) V;obtain⟨W2,H⟩:=qY (V.alloc (.cells (madeCells #[.string ⟨#[]⟩,.string ⟨#[]⟩] ((n+1)*2)) 27));have av:V.heap.size=w.heap.size+1:=by rw [F,qab]
 rw [<-H,av] at au;have af:W2.heap[w.heap.size+1]? = some (.cells (madeCells #[.string ⟨#[]⟩,.string ⟨#[]⟩] ((n+1)*2)) 27 (0,0)):=by rw [H];exact qM _ _ _ av
 have ag:Below w.heap.size w V:=F▸qb4 qB qN;have Z:Below w.heap.size w W2:=H▸qb4 ag qN;have aj:=qjc (P:=prog) W2 22 22 3 27 2 (w.heap.size+1) (n+1) (n+1) ⟨b,off,none⟩ n c _ 27 (fflat l) underlying22 (by kernel_rfl) af (by rw [qcK,hl];show n*2=(min n (n+1))*2;rw [qaS (by omega)]) (E.below Z).src (by rw [qcK,hl,size_madeCells];omega) (qhb l);obtain⟨R,hR⟩:=qY (((madeCells #[.string ⟨#[]⟩,.string ⟨#[]⟩] ((n+1)*2):Array Value)).toList.drop (0+(fflat l).length));have Y:R.length=2:=by rw [hR,qaY,qa9,size_madeCells,qcK];omega
 rw [<-hR,List.take_zero,qbp] at aj;obtain⟨W3,J⟩:=qY (W2.setRow (w.heap.size+1) (fflat l++R).toArray);rw [<-J] at aj;have I:W3.heap[w.heap.size+1]? = some (.cells (fflat l++R).toArray 27 (0,0)):=by rw [J];exact qT _ _ _ _ _ _ af
 have ah:Below w.heap.size w W3:=J▸qS Z (by omega) _;have ae:V.heap[w.heap.size]? = some (.cells #[.string s1,.string s2] 27 (0,0)):=by rw [F];exact qM _ _ _ rfl
 have U:Below V.heap.size V W3:=J▸qS (H▸qb4 qB qN) (by omega) _;have aa:=(U.block _ (qG ae).1).trans ae;have aD:=qC _ _ 0 _ _ _ aa;have aF:=qC _ _ 1 _ _ _ aa;have ak:(fflat l++R).length=n*2+2:=by rw [qaf,qcK,Y,hl]
 obtain⟨d0,ay⟩:∃d0,W3.cell? ⟨w.heap.size+1,n*2,none⟩=some d0:=⟨_,(qC _ _ _ _ _ _ I).trans ((qaz ..).trans (qac (by omega)))⟩;obtain⟨d1,az⟩:∃d1,W3.cell? ⟨w.heap.size+1,n*2+1,none⟩=some d1:=⟨_,(qC _ _ _ _ _ _ I).trans ((qaz ..).trans (qac (by omega)))⟩;have aA:=qF _ _ (n*2) _ _ I;have aB:=qF _ _ (n*2+1) _ _ I;have O:=heap_setCell_same _ _ (n*2+1) _ _ (.string s2) (heap_setCell_same _ _ (n*2) _ _ (.string s1) I);rw [<-hl,qoU l (s1,s2) R Y,hl] at O;have ai:=(ah.setCell (p:=⟨w.heap.size+1,n*2,none⟩) (by show w.heap.size<=w.heap.size+1;omega) (.string s1)).setCell (p:=⟨w.heap.size+1,n*2+1,none⟩) (by show w.heap.size<=w.heap.size+1;omega) (.string s2);have HE:=qH (qA ai (FCells.ofRow O));have HN:=qH (qA H F);clear E af ag Z hR Y J I ah ae U aa ak O ai H;go_enter func150,ntmps150;go_wp2_with fail;rw [<-F];clear F;rw [au];go_wp2;go_ret;exact⟨_,rfl,HE.o.1,HE.o.2⟩
theorem qgU {W:World} {g:Nat} {t:TypeId} (h:W.heap[g]? = some (.cells #[.slice none 0 0,.bool false] t (0,0))) (a:Option Addr) (n c:Nat) (b:Bool) :
  ((W.setCell ⟨g,0,none⟩ (.slice a n c)).setCell ⟨g,1,none⟩ (.bool b)).heap[g]? = some (.cells #[.slice a n c,.bool b] t (0,0)) /\
  (∀k,k≠g->((W.setCell ⟨g,0,none⟩ (.slice a n c)).setCell ⟨g,1,none⟩ (.bool b)).heap[k]? = W.heap[k]?) /\
  (∀m E z,IntAt W (.agg #[m,.bool E]) z->IntAt ((W.setCell ⟨g,0,none⟩ (.slice a n c)).setCell ⟨g,1,none⟩ (.bool b)) (.agg #[m,.bool E]) z) :=
 ⟨qdl h a n c b,fun _k F=>(qW _ _ _ _ F).trans (qW _ _ _ _ F),fun _ _ _ H=>qdk H h a n c b⟩
def LTwo (E W:World) (F H:Nat) (v3:Option Addr×Nat×Nat×Bool) (v4:Option Addr×Nat×Nat×Bool) (z3 z4:Int):Prop :=
 W.heap[F]? = some (.cells #[.slice v3.1 v3.2.1 v3.2.2.1,.bool v3.2.2.2] 217 (0,0))/\W.heap[H]? = some (.cells #[.slice v4.1 v4.2.1 v4.2.2.1,.bool v4.2.2.2] 217 (0,0)) /\
  IntAt W (.agg #[.slice v3.1 v3.2.1 v3.2.2.1,.bool v3.2.2.2]) z3/\IntAt W (.agg #[.slice v4.1 v4.2.1 v4.2.2.1,.bool v4.2.2.2]) z4/\Below E.heap.size E W/\E.heap.size<=F/\E.heap.size<=H
section
variable {W2 W:World} {a3:Option Addr} {n3 c3:Nat} {b3:Bool} {a4:Option Addr} {n4 c4:Nat} {b4:Bool} {z3 z4:Int}
theorem ltwo_aa (h:IntAt W (.agg #[.slice a3 n3 c3,.bool b3]) z3/\IntAt W (.agg #[.slice a4 n4 c4,.bool b4]) z4) (E:Below W2.heap.size W2 W) :
  LTwo W2 ((W.alloc (.cells #[.slice a3 n3 c3,.bool b3] 217)).alloc (.cells #[.slice a4 n4 c4,.bool b4] 217)) W.heap.size (W.heap.size+1) (a3,n3,c3,b3) (a4,n4,c4,b4) z3 z4 :=
 have k:=qb4 (qb4 (Below.refl W.heap.size W) qN) qN
 ⟨(qL _ _ _ (by simp only [qab];omega)).trans (qM _ _ _ rfl),qM _ _ _ (by simp only [qab]),h.1.below k,h.2.below k,qb4 (qb4 E qN) qN,E.size,qar E.size⟩
theorem ltwo_bb (h:IntAt W (.agg #[.slice a3 n3 c3,.bool b3]) z3/\IntAt W (.agg #[.slice a4 n4 c4,.bool b4]) z4) (E:Below W2.heap.size W2 W) :
  LTwo W2 ((W.alloc (.cells #[.slice a4 n4 c4,.bool b4] 217)).alloc (.cells #[.slice a3 n3 c3,.bool b3] 217)) (W.heap.size+1) W.heap.size (a3,n3,c3,b3) (a4,n4,c4,b4) z3 z4 :=
 have k:=qb4 (qb4 (Below.refl W.heap.size W) qN) qN
 ⟨qM _ _ _ (by simp only [qab]),(qL _ _ _ (by simp only [qab];omega)).trans (qM _ _ _ rfl),h.1.below k,h.2.below k,qb4 (qb4 E qN) qN,qar E.size,E.size⟩
theorem ltwo_pa {g:Nat} (h:IntAt W (.agg #[.slice a3 n3 c3,.bool b3]) z3/\IntAt W (.agg #[.slice a4 n4 c4,.bool b4]) z4) (E:Below W2.heap.size W2 W) (hg:W2.heap.size<=g) (F:W.heap[g]? = some (.cells #[.slice none 0 0,.bool false] 217 (0,0))) :
  LTwo W2 (((W.setCell ⟨g,0,none⟩ (.slice a3 n3 c3)).setCell ⟨g,1,none⟩ (.bool b3)).alloc (.cells #[.slice a4 n4 c4,.bool b4] 217)) g W.heap.size (a3,n3,c3,b3) (a4,n4,c4,b4) z3 z4:=by
 obtain⟨p1,p2,p3⟩:=qgU F a3 n3 c3 b3;have lt:=(qG F).1;have k:∀V:World,Below V.heap.size V (V.alloc (.cells #[.slice a4 n4 c4,.bool b4] 217)):=fun V=>qb4 qB qN
 exact⟨(qL _ _ _ (by simp only [qbJ];exact lt)).trans p1,qM _ _ _ (by simp only [qbJ]),(p3 _ _ _ h.1).below (k _),(p3 _ _ _ h.2).below (k _),qb4 ((E.setCell (by exact hg) _).setCell (by exact hg) _) qN,hg,E.size⟩
theorem ltwo_pb {g:Nat} (h:IntAt W (.agg #[.slice a3 n3 c3,.bool b3]) z3/\IntAt W (.agg #[.slice a4 n4 c4,.bool b4]) z4) (E:Below W2.heap.size W2 W) (hg:W2.heap.size<=g) (F:W.heap[g]? = some (.cells #[.slice none 0 0,.bool false] 217 (0,0))) :
  LTwo W2 (((W.setCell ⟨g,0,none⟩ (.slice a4 n4 c4)).setCell ⟨g,1,none⟩ (.bool b4)).alloc (.cells #[.slice a3 n3 c3,.bool b3] 217)) W.heap.size g (a3,n3,c3,b3) (a4,n4,c4,b4) z3 z4:=by
 obtain⟨p1,p2,p3⟩:=qgU F a4 n4 c4 b4;have lt:=(qG F).1;have k:∀V:World,Below V.heap.size V (V.alloc (.cells #[.slice a3 n3 c3,.bool b3] 217)):=fun V=>qb4 qB qN
 exact⟨qM _ _ _ (by simp only [qbJ]),(qL _ _ _ (by simp only [qbJ];exact lt)).trans p1,(p3 _ _ _ h.1).below (k _),(p3 _ _ _ h.2).below (k _),qb4 ((E.setCell (by exact hg) _).setCell (by exact hg) _) qN,E.size,hg⟩
theorem ltwo_pp {g E:Nat} (h:IntAt W (.agg #[.slice a3 n3 c3,.bool b3]) z3/\IntAt W (.agg #[.slice a4 n4 c4,.bool b4]) z4) (I:Below W2.heap.size W2 W) (hg:W2.heap.size<=g) (F:W2.heap.size<=E) (hne:g≠E) (J:W.heap[g]? = some (.cells #[.slice none 0 0,.bool false] 217 (0,0))) (H:W.heap[E]? = some (.cells #[.slice none 0 0,.bool false] 217 (0,0))) :
  LTwo W2 ((((W.setCell ⟨g,0,none⟩ (.slice a3 n3 c3)).setCell ⟨g,1,none⟩ (.bool b3)).setCell ⟨E,0,none⟩ (.slice a4 n4 c4)).setCell ⟨E,1,none⟩ (.bool b4)) g E (a3,n3,c3,b3) (a4,n4,c4,b4) z3 z4:=by
 obtain⟨p1,p2,p3⟩:=qgU J a3 n3 c3 b3;obtain⟨q1,q2,q3⟩:=qgU ((p2 E (Ne.symm hne)).trans H) a4 n4 c4 b4;exact⟨(q2 g hne).trans p1,q1,q3 _ _ _ (p3 _ _ _ h.1),q3 _ _ _ (p3 _ _ _ h.2),(((I.setCell (by exact hg) _).setCell (by exact hg) _).setCell (by exact F) _).setCell (by exact F) _,hg,F⟩
end
theorem qdE {W:World} {E:List (Value×Bool)} {F:Nat->Int} (h:qcJ W E F) {k:Nat} (J:k<E.length):∃(a:Option Addr) (n c:Nat) (b:Bool),E.getD k (zs0,false)=(.slice a n c,b)/\IntAt W (.agg #[.slice a n c,.bool b]) (F k):=by
 obtain⟨I,H⟩:=h k J;have hg:=H;obtain⟨a,_,_,c,n,_,e,_,_⟩:=H;refine⟨a,n,c,decide (F k<0),Prod.ext e I,_,rfl,e▸hg⟩
theorem qde {a b:World} {g k:Nat} {cs:Array Value} {t:TypeId} (h:a.grownBy b (some g)) (hg:a.heap[k]? = some (.cells cs t (0,0))) (hne:k≠g) (i:Nat):b.cell? ⟨k,i,none⟩=cs[i]? :=
 qC _ _ i _ _ _ ((h.block _ (qG hg).1 (fun e=>hne (qag e))).trans hg)
theorem qch {a b:World} (g:Nat) (h:Below a.heap.size a b):a.grownBy b (some g):=qcl (qcw a _) h
def qh1 (W:World) (b n:Nat) (E:List (Value×Bool)):Prop:=∀k,k<n->W.cell? ⟨b,k*2,none⟩=some (E.getD k (zs0,false)).1/\W.cell? ⟨b,k*2+1,none⟩=some (.bool (E.getD k (zs0,false)).2)
theorem qh1.below {W W':World} {b n:Nat} {H:List (Value×Bool)} (h:qh1 W b n H) (F:Below W.heap.size W W'):qh1 W' b n H :=
 fun k E=>⟨(F.cell (qae W _ (h k E).1)).trans (h k E).1,(F.cell (qae W _ (h k E).2)).trans (h k E).2⟩
theorem qlI {W:World} {g n j:Nat} {E:List (Value×Bool)} {z:Nat->Int} {a:Option Addr} {m c:Nat} {b:Bool} (H:IRow W g n E) (U:qcJ W E z) (Y:E.length=j) (I:j<n) (V:IntAt W (.agg #[.slice a m c,.bool b]) (z j)) :
  IRow ((W.setCell ⟨g,j*2,none⟩ (.slice a m c)).setCell ⟨g,j*2+1,none⟩ (.bool b)) g n (E++[(.slice a m c,b)])/\qcJ ((W.setCell ⟨g,j*2,none⟩ (.slice a m c)).setCell ⟨g,j*2+1,none⟩ (.bool b)) (E++[(.slice a m c,b)]) z:=by
 subst Y;obtain⟨v,F,hg⟩:=V;have J:v=.slice a m c:=by simp only [qaX,qa1,qaV] at F;exact F.1.symm
 have O:b=decide (z E.length<0):=by simp only [qaX,qa1,qaV,qbA] at F;exact F.2.1
 subst J;refine⟨H.set I _ b (qkH hg),?_⟩;rw [O];exact (U.snoc hg).keep (qb5 (qb7 W g (E.length*2) _) (qb7 _ g (E.length*2+1) _)) H.1 H.nope
theorem qjb (br bp n cr cp I:Nat) (ps qs:List (Value×Bool)) (U O:Nat->Int) (K:Nat) (hK:K<=34359738368) (v0:Value) (z0:Int) (w:World) (hn:n<=64) (hc:I<n) (bM:ps.length=n) (bN:qs.length=n) (bg:qh1 w br n ps) (bf:qh1 w bp n qs) (hz:qcJ w ps U) (hy:qcJ w qs O) (bu:∀k,k<n->Fit (U k).natAbs K) (bq:∀k,k<n->Fit (O k).natAbs K) (h0:IntAt w v0 z0) (bi:Fit z0.natAbs K) (bO:z0≠0) :
  Calls prog 256 #[.slice (some ⟨br,0,none⟩) n cr,.slice (some ⟨bp,0,none⟩) n cp,.int .i64 I,v0] w fun e w'=>∃g rs,e=.returned (.slice (some ⟨g,0,none⟩) n n)/\w.heap.size<=g/\Below w.heap.size w w'/\rs.length=n/\IRow w' g n rs/\qcJ w' rs (fun j=>(O I*U j-U I*O j).tdiv z0):=by
 obtain⟨a0,n0,c0,b0,rfl⟩:=qb6 h0;obtain⟨W1,aj⟩:=qY (w.alloc (.cells #[.slice a0 n0 c0,.bool b0] 217));have bD:W1.heap.size=w.heap.size+1:=by rw [aj,qab]
 have aL:=qhp n (by omega) W1;rw [bD] at aL;have aV:Below w.heap.size w W1:=aj▸qb4 qB qN;have aW:=qb4 (o:=.cells (madeCells #[zs0,.bool false] (n*2)) 217) aV qN;have aI:=IRow.made W1 n;rw [bD] at aI;have bB:W1.heap[w.heap.size]? = some (.cells #[.slice a0 n0 c0,.bool b0] 217 (0,0)):=by rw [aj];exact qM _ _ _ rfl
 have bC:(W1.alloc (.cells (madeCells #[zs0,.bool false] (n*2)) 217)).heap[w.heap.size]? = some (.cells #[.slice a0 n0 c0,.bool b0] 217 (0,0)):=(qL _ _ _ (by omega)).trans bB;have bV:(I:Int)<n:=by omega
 have H2:=qH (qA aW (qA aI bC));have J:=qH (qA bg (qA bf (qA hz (qA hy (qA bu (qA bq (qA h0 (qA bi (qA bM bN)))))))));have bW:=qfR;clear bg bf hz hy bu bq h0 bi aV aW aI bB bC;go_enter func256,ntmps256;go_wp2_with fail;rw [<-aj];rw [aL];clear aj aL;go_wp2_with fail
 go_loopw [18] (fun x18 W=>∃(j:Nat) (rs:List (Value×Bool)),j<=n/\x18=.int .i64 j/\Hu (rs.length=j/\IRow W (w.heap.size+1) n rs/\qcJ W rs (fun j=>(O I*U j-U I*O j).tdiv z0)/\W.heap[w.heap.size]? = some (.cells #[.slice a0 n0 c0,.bool b0] 217 (0,0)))/\Hu (Below w.heap.size w W)) (fun x18 _=>n-(intOf x18).toNat)
 case atStart=>exact⟨0,[],qaj _,rfl,qH ⟨rfl,H2.o.2.1,(fun i hi=>absurd hi (by simp)),H2.o.2.2⟩,qH H2.o.1⟩
 case round =>
  obtain⟨j,rs,hj,rfl,hI,hB⟩:=hrel
  by_cases V:j<n
  ·have bX:(j:Int)<n:=by omega
   obtain⟨a1,n1,c1,b1,e1,i1⟩:=qdE (J.o.2.2.2.1.below hB.o) (k:=I) (by have:=J.o.2.2.2.2.2.2.2.2.2;omega);obtain⟨a2,n2,c2,b2,e2,i2⟩:=qdE (J.o.2.2.1.below hB.o) (k:=j) (by have:=J.o.2.2.2.2.2.2.2.2.1;omega);obtain⟨a5,n5,c5,b5,e5,i5⟩:=qdE (J.o.2.2.1.below hB.o) (k:=I) (by have:=J.o.2.2.2.2.2.2.2.2.1;omega);obtain⟨a6,n6,c6,b6,e6,i6⟩:=qdE (J.o.2.2.2.1.below hB.o) (k:=j) (by have:=J.o.2.2.2.2.2.2.2.2.2;omega);have k1:=(J.o.2.1.below hB.o) I hc;have k2:=(J.o.1.below hB.o) j V;have k5:=(J.o.1.below hB.o) I hc;have k6:=(J.o.2.1.below hB.o) j V;rw [e1] at k1;rw [e2] at k2;rw [e5] at k5;rw [e6] at k6;have bE:∀W,Below wr.heap.size wr W->W.cell? ⟨bp,I*2,none⟩=some (.slice a1 n1 c1):=fun W h=>(h.cell (qae wr _ k1.1)).trans k1.1
   have bF:∀W,Below wr.heap.size wr W->W.cell? ⟨bp,I*2+1,none⟩=some (.bool b1):=fun W h=>(h.cell (qae wr _ k1.2)).trans k1.2
   have bG:∀W,Below wr.heap.size wr W->W.cell? ⟨br,j*2,none⟩=some (.slice a2 n2 c2):=fun W h=>(h.cell (qae wr _ k2.1)).trans k2.1
   have bH:∀W,Below wr.heap.size wr W->W.cell? ⟨br,j*2+1,none⟩=some (.bool b2):=fun W h=>(h.cell (qae wr _ k2.2)).trans k2.2
   have bI:∀W,Below wr.heap.size wr W->W.cell? ⟨br,I*2,none⟩=some (.slice a5 n5 c5):=fun W h=>(h.cell (qae wr _ k5.1)).trans k5.1
   have bJ:∀W,Below wr.heap.size wr W->W.cell? ⟨br,I*2+1,none⟩=some (.bool b5):=fun W h=>(h.cell (qae wr _ k5.2)).trans k5.2
   have bK:∀W,Below wr.heap.size wr W->W.cell? ⟨bp,j*2,none⟩=some (.slice a6 n6 c6):=fun W h=>(h.cell (qae wr _ k6.1)).trans k6.1
   have bL:∀W,Below wr.heap.size wr W->W.cell? ⟨bp,j*2+1,none⟩=some (.bool b6):=fun W h=>(h.cell (qae wr _ k6.2)).trans k6.2
   have aR:=qH (fun W (h:Below wr.heap.size wr W)=>qcU (O I) (U j) K K (by omega) _ _ W (i1.below h) (i2.below h) (J.o.2.2.2.2.2.1 I hc) (J.o.2.2.2.2.1 j V));have aS:=qH (fun W (h:Below wr.heap.size wr W)=>qcU (U I) (O j) K K (by omega) _ _ W (i5.below h) (i6.below h) (J.o.2.2.2.2.1 I hc) (J.o.2.2.2.2.2.1 j V));clear k1 k2 k5 k6 e1 e2 e5 e6 i1 i2 i5 i6;have ah:Below wr.heap.size wr wr:=Below.refl _ _;have aC:Below wr.heap.size wr wr.drew:=ah.drew;have aB:wr.drew.heap.size=wr.heap.size:=rfl;have E:∀W:World,W.drew.heap.size=W.heap.size:=fun _=>rfl
   go_wp2_with fail
   go_cut [11,12] (fun x11 x12 W=>∃(g3 g4:Nat) (a3:Option Addr) (n3 c3:Nat) (b3:Bool) (a4:Option Addr) (n4 c4:Nat) (b4:Bool),x11=.pointer (some ⟨g3,0,none⟩)/\x12=.pointer (some ⟨g4,0,none⟩)/\LTwo wr W g3 g4 (a3,n3,c3,b3) (a4,n4,c4,b4) (O I*U j) (U I*O j))
   case first =>
    go_region_held3 (fun W=>Below wr.heap.size wr W) (first | with_reducible exact ah | with_reducible exact aC | with_reducible exact H | with_reducible exact F | ((repeat (first | refine Below.setCell ?_ (by first | exact qad _ | exact F.size | exact H.size | exact qar qN | exact qar F.size | exact qar H.size) _ | refine qb4 ?_ qN | refine Below.drew ?_));first | exact H | exact F | exact ah)) (first | (go_at_call_of 153 (Value.agg #[.slice a1 n1 c1,.bool b1]);refine (aR.o _ (by ((repeat (first | refine Below.setCell ?_ (by first | exact qad _ | exact F.size | exact H.size | exact qar qN | exact qar F.size | exact qar H.size) _ | refine qb4 ?_ qN | refine Below.drew ?_));first | exact ah))).mono ?_;rintro e w3 ⟨p3,rfl,ak,aM⟩;have F:Below wr.heap.size wr w3:=bjoin (by ((repeat (first | refine Below.setCell ?_ (by first | exact qad _ | exact F.size | exact H.size | exact qar qN | exact qar F.size | exact qar H.size) _ | refine qb4 ?_ qN | refine Below.drew ?_));first | exact ah)) ak;obtain⟨a3,n3,c3,b3,rfl⟩:=qb6 aM;have aD:=qH aM;obtain⟨k3,bY⟩:=bcell ak;have Z3:=qH (zkeep ak);have s3:_<=_:=ak.size;(try simp only [qab,aB,E] at s3);(try have q3:wr.heap.size<w3.heap.size:=by omega);(try have r3:wr.heap.size+1<w3.heap.size:=by omega);clear ak aM) | (go_at_call_of 153 (Value.agg #[.slice a5 n5 c5,.bool b5]);refine (aS.o _ (by ((repeat (first | refine Below.setCell ?_ (by first | exact qad _ | exact F.size | exact H.size | exact qar qN | exact qar F.size | exact qar H.size) _ | refine qb4 ?_ qN | refine Below.drew ?_));first | exact F))).mono ?_;rintro e w4 ⟨p4,rfl,Z,aN⟩;have H:Below wr.heap.size wr w4:=bjoin (by ((repeat (first | refine Below.setCell ?_ (by first | exact qad _ | exact F.size | exact H.size | exact qar qN | exact qar F.size | exact qar H.size) _ | refine qb4 ?_ qN | refine Below.drew ?_));first | exact F)) Z;obtain⟨a4,n4,c4,b4,rfl⟩:=qb6 aN;have ai:=qH (qA (show IntAt w4 _ _ from (by first | exact aD.o.below Z | exact (aD.o.below (qb4 qB qN)).below Z | exact (aD.o.below (qb4 (qb4 qB qN) qN)).below Z)) aN);obtain⟨k4,bZ⟩:=bcell Z;have Z4:=qH (zkeep Z);have s4:_<=_:=Z.size;(try simp only [qab] at s4);(try have q4:wr.heap.size<w4.heap.size:=by omega);(try have r4:wr.heap.size+1<w4.heap.size:=by omega);(try have t4:w3.heap.size<w4.heap.size:=by omega);(try have u4:w3.heap.size+1<w4.heap.size:=by omega);clear Z aN))
    all_goals go_wp2_with fail
    all_goals go_meet
    all_goals refine⟨_,_,a3,n3,c3,b3,a4,n4,c4,b4,rfl,rfl,?_⟩
    all_goals first
     | with_reducible exact ltwo_aa ai.o H
     | with_reducible exact ltwo_bb ai.o H
     | (with_reducible refine ltwo_pa ai.o H ?_ ?_;(first | exact qad _ | exact F.size | exact H.size | exact qbf _ | exact qar F.size);(refine Z4.o _ _ ?_;((try with_reducible refine zdrew ?_);first | (refine qM _ _ _ ?_;((try simp only) <;> omega)) | (refine Z3.o _ _ ?_;((try with_reducible refine zdrew ?_);first | (refine qM _ _ _ ?_;((try simp only) <;> omega)) | (refine (qL _ _ _ ?_).trans ?_;((try simp only [qab,E]);omega);(refine qM _ _ _ ?_;((try simp only [qab,E]) <;> omega))))) | (refine (qL _ _ _ ?_).trans ?_;((try simp only [qab,E]);omega);(first | (refine qM _ _ _ ?_;((try simp only [qab,E]) <;> omega)) | (refine Z3.o _ _ ?_;((try with_reducible refine zdrew ?_);first | (refine qM _ _ _ ?_;((try simp only [qab,E]) <;> omega)) | (refine (qL _ _ _ ?_).trans ?_;((try simp only [qab,E]);omega);(refine qM _ _ _ ?_;((try simp only [qab,E]) <;> omega))))))) | (refine (qL _ _ _ ?_).trans ?_;((try simp only [qab,E]);omega);refine (qL _ _ _ ?_).trans ?_;((try simp only [qab,E]);omega);(refine Z3.o _ _ ?_;((try with_reducible refine zdrew ?_);first | (refine qM _ _ _ ?_;((try simp only [qab,E]) <;> omega)) | (refine (qL _ _ _ ?_).trans ?_;((try simp only [qab,E]);omega);(refine qM _ _ _ ?_;((try simp only [qab,E]) <;> omega)))))))))
     | (with_reducible refine ltwo_pb ai.o H ?_ ?_;(first | exact qad _ | exact F.size | exact H.size | exact qbf _ | exact qar F.size);(refine Z4.o _ _ ?_;((try with_reducible refine zdrew ?_);first | (refine qM _ _ _ ?_;((try simp only) <;> omega)) | (refine Z3.o _ _ ?_;((try with_reducible refine zdrew ?_);first | (refine qM _ _ _ ?_;((try simp only) <;> omega)) | (refine (qL _ _ _ ?_).trans ?_;((try simp only [qab,E]);omega);(refine qM _ _ _ ?_;((try simp only [qab,E]) <;> omega))))) | (refine (qL _ _ _ ?_).trans ?_;((try simp only [qab,E]);omega);(first | (refine qM _ _ _ ?_;((try simp only [qab,E]) <;> omega)) | (refine Z3.o _ _ ?_;((try with_reducible refine zdrew ?_);first | (refine qM _ _ _ ?_;((try simp only [qab,E]) <;> omega)) | (refine (qL _ _ _ ?_).trans ?_;((try simp only [qab,E]);omega);(refine qM _ _ _ ?_;((try simp only [qab,E]) <;> omega))))))) | (refine (qL _ _ _ ?_).trans ?_;((try simp only [qab,E]);omega);refine (qL _ _ _ ?_).trans ?_;((try simp only [qab,E]);omega);(refine Z3.o _ _ ?_;((try with_reducible refine zdrew ?_);first | (refine qM _ _ _ ?_;((try simp only [qab,E]) <;> omega)) | (refine (qL _ _ _ ?_).trans ?_;((try simp only [qab,E]);omega);(refine qM _ _ _ ?_;((try simp only [qab,E]) <;> omega)))))))))
     | (with_reducible refine ltwo_pp ai.o H ?_ ?_ ?_ ?_ ?_;(first | exact qad _ | exact F.size | exact H.size | exact qbf _ | exact qar F.size);(first | exact qad _ | exact F.size | exact H.size | exact qbf _ | exact qar F.size);omega;(refine Z4.o _ _ ?_;((try with_reducible refine zdrew ?_);first | (refine qM _ _ _ ?_;((try simp only [qab]) <;> omega)) | (refine Z3.o _ _ ?_;((try with_reducible refine zdrew ?_);first | (refine qM _ _ _ ?_;((try simp only [qab]) <;> omega)) | (refine (qL _ _ _ ?_).trans ?_;((try simp only [qab]);omega);(refine qM _ _ _ ?_;((try simp only) <;> omega))))) | (refine (qL _ _ _ ?_).trans ?_;((try simp only [qab]);omega);(first | (refine qM _ _ _ ?_;((try simp only) <;> omega)) | (refine Z3.o _ _ ?_;((try with_reducible refine zdrew ?_);first | (refine qM _ _ _ ?_;((try simp only) <;> omega)) | (refine (qL _ _ _ ?_).trans ?_;((try simp only [qab,E]);omega);(refine qM _ _ _ ?_;((try simp only [qab,E]) <;> omega))))))) | (refine (qL _ _ _ ?_).trans ?_;((try simp only [qab,E]);omega);refine (qL _ _ _ ?_).trans ?_;((try simp only [qab,E]);omega);(refine Z3.o _ _ ?_;((try with_reducible refine zdrew ?_);first | (refine qM _ _ _ ?_;((try simp only [qab,E]) <;> omega)) | (refine (qL _ _ _ ?_).trans ?_;((try simp only [qab,E]);omega);(refine qM _ _ _ ?_;((try simp only [qab,E]) <;> omega))))))));(refine Z4.o _ _ ?_;((try with_reducible refine zdrew ?_);first | (refine qM _ _ _ ?_;((try simp only [qab]) <;> omega)) | (refine Z3.o _ _ ?_;((try with_reducible refine zdrew ?_);first | (refine qM _ _ _ ?_;((try simp only [qab]) <;> omega)) | (refine (qL _ _ _ ?_).trans ?_;((try simp only [qab]);omega);(refine qM _ _ _ ?_;((try simp only) <;> omega))))) | (refine (qL _ _ _ ?_).trans ?_;((try simp only [qab]);omega);(first | (refine qM _ _ _ ?_;((try simp only) <;> omega)) | (refine Z3.o _ _ ?_;((try with_reducible refine zdrew ?_);first | (refine qM _ _ _ ?_;((try simp only) <;> omega)) | (refine (qL _ _ _ ?_).trans ?_;((try simp only [qab,E]);omega);(refine qM _ _ _ ?_;((try simp only [qab,E]) <;> omega))))))) | (refine (qL _ _ _ ?_).trans ?_;((try simp only [qab,E]);omega);refine (qL _ _ _ ?_).trans ?_;((try simp only [qab,E]);omega);(refine Z3.o _ _ ?_;((try with_reducible refine zdrew ?_);first | (refine qM _ _ _ ?_;((try simp only [qab,E]) <;> omega)) | (refine (qL _ _ _ ?_).trans ?_;((try simp only [qab,E]);omega);(refine qM _ _ _ ?_;((try simp only [qab,E]) <;> omega)))))))))
   case rest =>
    obtain⟨g3,g4,a3,n3,c3,b3,a4,n4,c4,b4,rfl,rfl,h3,h4,aJ,aK,hb,l3,l4⟩:=hcut;dsimp only at h3 h4 aJ aK;have lr:=(qG hI.o.2.1.1).1;have bz:g3≠w.heap.size+1:=by omega
    have bA:g4≠w.heap.size+1:=by omega
    have ay:w.heap.size≠w.heap.size+1:=by omega
    have aA:=(hb.block _ (qG hI.o.2.2.2).1).trans hI.o.2.2.2;have bR:∀W,wc.grownBy W (some (w.heap.size+1))->W.cell? ⟨g3,0,none⟩=some (.slice a3 n3 c3):=fun W h=>qde h h3 bz 0
    have bS:∀W,wc.grownBy W (some (w.heap.size+1))->W.cell? ⟨g3,1,none⟩=some (.bool b3):=fun W h=>qde h h3 bz 1
    have bT:∀W,wc.grownBy W (some (w.heap.size+1))->W.cell? ⟨g4,0,none⟩=some (.slice a4 n4 c4):=fun W h=>qde h h4 bA 0
    have bU:∀W,wc.grownBy W (some (w.heap.size+1))->W.cell? ⟨g4,1,none⟩=some (.bool b4):=fun W h=>qde h h4 bA 1
    have bP:∀W,wc.grownBy W (some (w.heap.size+1))->W.cell? ⟨w.heap.size,0,none⟩=some (.slice a0 n0 c0):=fun W h=>qde h aA ay 0
    have bQ:∀W,wc.grownBy W (some (w.heap.size+1))->W.cell? ⟨w.heap.size,1,none⟩=some (.bool b0):=fun W h=>qde h aA ay 1
    have aF:=hB.o.trans (hb.mono hB.o.size);have bv:=J.o.2.2.2.2.2.2.1.below (W':=wc) (aF.mono (by omega));have hP:=J.o.2.2.2.2.1 j V;have ax:=(J.o.2.2.2.2.2.1 I hc).mul (J.o.2.2.2.2.1 j V);have aH:=(J.o.2.2.2.2.1 I hc).mul (J.o.2.2.2.2.2.1 j V);rw [<-qaE] at ax aH;have aG:Fit (-(U I*O j)).natAbs (K+K):=by rw [qbv];exact aH
    have bn:Fit (O I*U j + -(U I*O j)).natAbs (K+K+1):=(ax.add aG).le (Int.natAbs_add_le _ _);have HA:=qH (fun W (h:Below wc.heap.size wc W)=>(qd9 .l) (U I*O j) _ W (aK.below h));have HS:=qH (fun W (u:Value) (h:Below wc.heap.size wc W) (hu:IntAt W u (-(U I*O j)))=>(qdI .l) (O I*U j) (-(U I*O j)) (K+K) (by omega) _ u W (aJ.below h) hu ax aG);have HQ:=qH (fun W (u:Value) (h:Below wc.heap.size wc W) (hu:IntAt W u (O I*U j + -(U I*O j)))=>qhr (O I*U j + -(U I*O j)) z0 (K+K+1) (by omega) u _ W hu (bv.below h) bn (J.o.2.2.2.2.2.2.2.1.mono (by omega)) bO);have ag:=qH (qA (hI.o.2.1.below hb) (qA (hI.o.2.2.1.below hb) (qA aA aF)));have au:Below wc.heap.size wc wc:=Below.refl _ _;have aa:Below wc.heap.size wc wc.drew:=au.drew;clear h3 h4 aJ aK hb aA aF bv hP ax aH aG bn ah aC aB bE bF bG bH bI bJ bK bL aR aS;go_wp2_with fail
    go_region_held3 (fun W=>wc.grownBy W (some (w.heap.size+1))) (first | with_reducible exact qcw _ _ | with_reducible exact qch _ aa | with_reducible exact qch _ Y | with_reducible exact qch _ af | with_reducible exact qch _ ae | with_reducible exact qch _ Y.drew | with_reducible exact qch _ af.drew | with_reducible exact qch _ ae.drew | exact qb5 (qb5 (qch _ Y) (qb7 _ _ _ _)) (qb7 _ _ _ _) | exact qb5 (qb5 (qch _ Y.drew) (qb7 _ _ _ _)) (qb7 _ _ _ _)) (first | (go_at_call 156;refine (HA.o _ (by first | with_reducible exact au | with_reducible exact aa)).mono ?_;rintro e w5 ⟨p5,rfl,aX,aO⟩;have ae:Below wc.heap.size wc w5:=bjoin (by first | with_reducible exact au | with_reducible exact aa) aX;obtain⟨a7,n7,c7,b7,rfl⟩:=qb6 aO;have G5:=qH aO;clear aX aO) | (go_at_call 154;refine (HS.o _ _ (by first | with_reducible exact ae | with_reducible exact ae.drew) (by first | exact G5.o | exact G5.o.below qB.drew)).mono ?_;rintro e w6 ⟨p6,rfl,aY,aP⟩;have af:Below wc.heap.size wc w6:=bjoin (by first | with_reducible exact ae | with_reducible exact ae.drew) aY;obtain⟨a8,n8,c8,b8,rfl⟩:=qb6 aP;have G6:=qH aP;clear aY aP) | (go_at_call 266;refine (HQ.o _ _ (by first | with_reducible exact af | with_reducible exact af.drew) (by first | exact G6.o | exact G6.o.below qB.drew)).mono ?_;rintro e w7 ⟨p7,rfl,aZ,az⟩;have Y:Below wc.heap.size wc w7:=bjoin (by first | with_reducible exact af | with_reducible exact af.drew) aZ;obtain⟨a9,n9,c9,b9,rfl⟩:=qb6 az;have G7:=qH az;have R7:=ag.o.1.below Y;have aT:=hI.o.1;have aU:=R7.at (by omega);rw [aT] at aU;obtain⟨⟨cu,cz⟩,aQ⟩:=aU;have cB:=aQ (j*2);have cK:=aQ (j*2+1);have av:=qH (qA (qlI R7 (ag.o.2.1.below Y) hI.o.1 V (a:=a9) (m:=n9) (c:=c9) (b:=b9) (by rw [Int.sub_eq_add_neg];exact az)) (qA ((qW (w7.setCell ⟨w.heap.size+1,j*2,none⟩ (.slice a9 n9 c9)) ⟨w.heap.size+1,j*2+1,none⟩ (.bool b9) w.heap.size ay).trans ((qW w7 ⟨w.heap.size+1,j*2,none⟩ (.slice a9 n9 c9) w.heap.size ay).trans ((Y.block _ (qG ag.o.2.2.1).1).trans ag.o.2.2.1))) (((ag.o.2.2.2.trans (Y.mono ag.o.2.2.2.size)).setCell (p:=⟨w.heap.size+1,j*2,none⟩) (by show w.heap.size<=w.heap.size+1;omega) (.slice a9 n9 c9)).setCell (p:=⟨w.heap.size+1,j*2+1,none⟩) (by show w.heap.size<=w.heap.size+1;omega) (.bool b9))));clear aZ az R7 aT aQ))
    all_goals go_wp2_with fail
    all_goals go_roundw
    case rel=>exact⟨j+1,_,V,by go_num,qH ⟨by rw [qaf,hI.o.1];rfl,av.o.1.1,av.o.1.2,av.o.2.1⟩,qH av.o.2.2⟩
    case measure=>simp [intOf];omega
  ·obtain rfl:j=n:=by omega
   go_wp2;go_ret;exact⟨_,rs,rfl,qbf _,hB.o,hI.o.1,hI.o.2.1,hI.o.2.2.1⟩
abbrev zi0:Value:=.agg #[.slice none 0 0,.bool false]
def isum (t:Nat->Int):Nat->Int
 | 0=>0
 | n+1=>isum t n+t n
theorem qf3 (t:Nat->Int) (K:Nat):∀k,(∀j,j<k->Fit (t j).natAbs K)->Fit (isum t k).natAbs (K+k+1)
 | 0,_=>Nat.pow_pos (by decide)
 | k+1,h=>by
  have E:=qf3 t K k (fun j H=>h j (by omega));have F:=(h k (by omega)).mono (show K<=K+k+1 by omega);exact (E.add F).le (Int.natAbs_add_le _ _)
theorem qj4 {w wr E:World} {U a9:Option Addr} {n1 c1 I H:Nat} {V F:Bool} {z:Int} {o:Obj} (J:IntAt E (.agg #[.slice a9 I H,.bool F]) z) (z3:E.heap[w.heap.size+1+1]? = some (.cells #[.slice U n1 c1,.bool V] 217 (0,0))) (O:Below (w.heap.size+1+1) wr E) (Y:wr.heap[w.heap.size+1]? = some o) (hB:Below w.heap.size w wr) :
  ((E.setCell ⟨w.heap.size+1+1,0,none⟩ (.slice a9 I H)).setCell ⟨w.heap.size+1+1,1,none⟩ (.bool F)).heap[w.heap.size+1+1]? = some (.cells #[.slice a9 I H,.bool F] 217 (0,0)) /\
   IntAt ((E.setCell ⟨w.heap.size+1+1,0,none⟩ (.slice a9 I H)).setCell ⟨w.heap.size+1+1,1,none⟩ (.bool F)) (.agg #[.slice a9 I H,.bool F]) z /\
   ((E.setCell ⟨w.heap.size+1+1,0,none⟩ (.slice a9 I H)).setCell ⟨w.heap.size+1+1,1,none⟩ (.bool F)).heap[w.heap.size+1]? = some o /\
   Below w.heap.size w ((E.setCell ⟨w.heap.size+1+1,0,none⟩ (.slice a9 I H)).setCell ⟨w.heap.size+1+1,1,none⟩ (.bool F)):=by
 have hne:w.heap.size+1≠w.heap.size+1+1:=by omega
 refine⟨heap_setCell_same _ _ 1 _ _ _ (heap_setCell_same _ _ 0 _ _ _ z3),?_,(qW _ ⟨_,1,none⟩ _ _ hne).trans ((qW _ ⟨_,0,none⟩ _ _ hne).trans ((O.block _ (by omega)).trans Y)),((hB.trans (O.mono (by omega))).setCell (p:=⟨_,0,none⟩) (by show w.heap.size<=w.heap.size+1+1;omega) _).setCell (p:=⟨_,1,none⟩) (by show w.heap.size<=w.heap.size+1+1;omega) _⟩;obtain⟨m,e,hg⟩:=J;refine⟨m,e,qcA hg (qb5 (qb7 E _ 0 _) (qb7 _ _ 1 _)) z3 ?_⟩;intro x hx d;rcases qat.1 hx with rfl | hx
 ·intro h;cases h
 ·rw [qap.1 hx];intro h;cases h
theorem qmT (n:Nat) (p1 p2:Value) (t:Nat->Int) (K:Nat) (hK:K<=34359738368) (w:World) (hn:n<=64)
  (H:∀W (j:Nat),j<n->Below w.heap.size w W->Calls prog 152 #[.int .i64 j,p1,p2] W fun e W'=>∃u,e=.returned u/\Below W.heap.size W W'/\IntAt W' u (t j)) (V:∀j,j<n->Fit (t j).natAbs K) :
  Calls prog 151 #[.int .i64 n,zi0,.func (.func 152) #[] #[p1,p2],.func (.func 154) #[] #[]] w fun e w'=>∃u,e=.returned u/\Below w.heap.size w w'/\IntAt w' u (isum t n):=by
 have HT:=qH H;have HF:=qH V;have au:=qfR;clear H V;go_enter func151,ntmps151;go_wp2_with fail
 go_loopw [13] (fun x13 W=>∃(k:Nat) (a:Option Addr) (m c:Nat) (b:Bool),k<=n/\x13=.int .i64 k/\Hu (W.heap[w.heap.size+1+1]? = some (.cells #[.slice a m c,.bool b] 217 (0,0))/\IntAt W (.agg #[.slice a m c,.bool b]) (isum t k)/\W.heap[w.heap.size+1]? = some (.cells #[.slice none 0 0,.bool false] 217 (0,0)))/\Hu (Below w.heap.size w W)) (fun x13 _=>n-(intOf x13).toNat)
 case atStart =>
  refine⟨0,none,0,0,false,qaj _,rfl,qH ⟨qM _ _ _ (by simp),?_,(qL _ _ _ (by simp)).trans (qM _ _ _ (by simp))⟩,qH (qb4 (qb4 (qb4 qB qN) qN) qN)⟩;exact⟨_,rfl,MagAt.nil _⟩
 case round =>
  obtain⟨k,a1,n1,c1,b1,hk,rfl,I,hB⟩:=hrel
  by_cases ae:k<n
  ·have av:(k:Int)<n:=by omega
   have e0:=qC wr _ 0 _ _ _ I.o.1;have e1:=qC wr _ 1 _ _ _ I.o.1;have ak:Below (w.heap.size+1+1) wr wr:=Below.refl _ _;have Y:Below (w.heap.size+1+1) wr wr.drew:=ak.drew;have ai:=(qG I.o.1).1;have O:=qH ai;clear ai;have ah:=qH (qA (qf3 t K k (fun j hj=>HF.o j (by omega))) ((HF.o k ae).mono (show K<=K+k+1 by omega)));go_wp2_with fail
   go_region_with (first | (go_at_call 154;refine ((qdI .l) (isum t k) (t k) (K+k+1) (by omega) _ _ _ (by first | exact E.o.1 | exact E.o.1.below qB.drew) (by first | exact E.o.2.1 | exact E.o.2.1.below qB.drew) ah.o.1 ah.o.2).mono ?_;rintro e w3 ⟨p3,rfl,aa,af⟩;have aj:Below (w.heap.size+1+1) wr w3:=Z.trans (aa.mono (qak (qan O.o) Z.size));obtain⟨a9,n9,c9,b9,rfl⟩:=qb6 af;have z3:=(aa.block _ (qai O.o Z.size)).trans E.o.2.2;have q0:=qC w3 _ 0 _ _ _ z3;have q1:=qC w3 _ 1 _ _ _ z3;have f0:=qF w3 _ 0 _ _ z3;have f1:=qF w3 _ 1 _ _ z3;have J:=qH (qj4 af z3 aj I.o.2.2 hB.o);clear aa af z3) | (go_at_call 152;refine (HT.o _ k ae (hB.o.trans (Y.mono (by omega)))).mono ?_;rintro e w2 ⟨u2,rfl,U,ag⟩;have Z:Below (w.heap.size+1+1) wr w2:=Y.trans (U.mono (qan O.o));have z2:w2.heap[w.heap.size+1+1]? = some (.cells #[.slice a1 n1 c1,.bool b1] 217 (0,0)):=(U.block _ O.o).trans I.o.1;have g0:=qC w2 _ 0 _ _ _ z2;have g1:=qC w2 _ 1 _ _ _ z2;obtain⟨a2,n2,c2,b2,rfl⟩:=qb6 ag;have E:=qH (qA (I.o.2.1.below (W':=w2) ((Below.refl wr.heap.size wr).drew.trans U)) (qA ag z2));clear U ag z2))
   all_goals go_wp2_with fail
   all_goals go_roundw
   all_goals first
    | exact⟨k+1,a9,n9,c9,b9,ae,by go_num,qH ⟨J.o.1,J.o.2.1,J.o.2.2.1⟩,qH J.o.2.2.2⟩
    | (simp [intOf];omega)
  ·obtain rfl:k=n:=by omega
   have e0:=qC wr _ 0 _ _ _ I.o.1;have e1:=qC wr _ 1 _ _ _ I.o.1;have F:=I.o.2.2;have HR:=qH (qA F (qA (qS hB.o (show w.heap.size<=w.heap.size+1 by omega) #[.slice a1 n1 c1,.bool b1]) (qds (cs':=#[.slice a1 n1 c1,.bool b1]) I.o.2.1 F qfG)));clear F
   go_wp2_with (with_reducible refine sR_ rfl 217 _ _ rfl (w.heap.size+1) #[.slice a1 n1 c1,.bool b1] HR.o.1 2 ?_)
   exact qR (v:=.agg #[.slice a1 n1 c1,.bool b1]) (rA_ rfl (w.heap.size+1) (qT _ _ _ _ _ _ HR.o.1) underlying217 2) rfl ⟨_,rfl,HR.o.2.1,HR.o.2.2⟩
theorem qiY (n:Nat) (y1 y2 y3 y4:Value) (t:Nat->Int) (K:Nat) (hK:K<=34359738368) (w:World) (hn:n<=64)
  (H:∀W (j:Nat),j<n->Below w.heap.size w W->Calls prog 239 #[.int .i64 j,y1,y2,y3,y4] W fun e W'=>∃u,e=.returned u/\Below W.heap.size W W'/\IntAt W' u (t j)) (V:∀j,j<n->Fit (t j).natAbs K) :
  Calls prog 151 #[.int .i64 n,zi0,.func (.func 239) #[] #[y1,y2,y3,y4],.func (.func 154) #[] #[]] w fun e w'=>∃u,e=.returned u/\Below w.heap.size w w'/\IntAt w' u (isum t n):=by
 have HT:=qH H;have HF:=qH V;have au:=qfR;clear H V;go_enter func151,ntmps151;go_wp2_with fail
 go_loopw [13] (fun x13 W=>∃(k:Nat) (a:Option Addr) (m c:Nat) (b:Bool),k<=n/\x13=.int .i64 k/\Hu (W.heap[w.heap.size+1+1]? = some (.cells #[.slice a m c,.bool b] 217 (0,0))/\IntAt W (.agg #[.slice a m c,.bool b]) (isum t k)/\W.heap[w.heap.size+1]? = some (.cells #[.slice none 0 0,.bool false] 217 (0,0)))/\Hu (Below w.heap.size w W)) (fun x13 _=>n-(intOf x13).toNat)
 case atStart =>
  refine⟨0,none,0,0,false,qaj _,rfl,qH ⟨qM _ _ _ (by simp),?_,(qL _ _ _ (by simp)).trans (qM _ _ _ (by simp))⟩,qH (qb4 (qb4 (qb4 qB qN) qN) qN)⟩;exact⟨_,rfl,MagAt.nil _⟩
 case round =>
  obtain⟨k,a1,n1,c1,b1,hk,rfl,I,hB⟩:=hrel
  by_cases ae:k<n
  ·have av:(k:Int)<n:=by omega
   have e0:=qC wr _ 0 _ _ _ I.o.1;have e1:=qC wr _ 1 _ _ _ I.o.1;have ak:Below (w.heap.size+1+1) wr wr:=Below.refl _ _;have Y:Below (w.heap.size+1+1) wr wr.drew:=ak.drew;have ai:=(qG I.o.1).1;have O:=qH ai;clear ai;have ah:=qH (qA (qf3 t K k (fun j hj=>HF.o j (by omega))) ((HF.o k ae).mono (show K<=K+k+1 by omega)));go_wp2_with fail
   go_region_with (first | (go_at_call 154;refine ((qdI .l) (isum t k) (t k) (K+k+1) (by omega) _ _ _ (by first | exact E.o.1 | exact E.o.1.below qB.drew) (by first | exact E.o.2.1 | exact E.o.2.1.below qB.drew) ah.o.1 ah.o.2).mono ?_;rintro e w3 ⟨p3,rfl,aa,af⟩;have aj:Below (w.heap.size+1+1) wr w3:=Z.trans (aa.mono (qak (qan O.o) Z.size));obtain⟨a9,n9,c9,b9,rfl⟩:=qb6 af;have z3:=(aa.block _ (qai O.o Z.size)).trans E.o.2.2;have q0:=qC w3 _ 0 _ _ _ z3;have q1:=qC w3 _ 1 _ _ _ z3;have f0:=qF w3 _ 0 _ _ z3;have f1:=qF w3 _ 1 _ _ z3;have J:=qH (qj4 af z3 aj I.o.2.2 hB.o);clear aa af z3) | (go_at_call 239;refine (HT.o _ k ae (hB.o.trans (Y.mono (by omega)))).mono ?_;rintro e w2 ⟨u2,rfl,U,ag⟩;have Z:Below (w.heap.size+1+1) wr w2:=Y.trans (U.mono (qan O.o));have z2:w2.heap[w.heap.size+1+1]? = some (.cells #[.slice a1 n1 c1,.bool b1] 217 (0,0)):=(U.block _ O.o).trans I.o.1;have g0:=qC w2 _ 0 _ _ _ z2;have g1:=qC w2 _ 1 _ _ _ z2;obtain⟨a2,n2,c2,b2,rfl⟩:=qb6 ag;have E:=qH (qA (I.o.2.1.below (W':=w2) ((Below.refl wr.heap.size wr).drew.trans U)) (qA ag z2));clear U ag z2))
   all_goals go_wp2_with fail
   all_goals go_roundw
   all_goals first
    | exact⟨k+1,a9,n9,c9,b9,ae,by go_num,qH ⟨J.o.1,J.o.2.1,J.o.2.2.1⟩,qH J.o.2.2.2⟩
    | (simp [intOf];omega)
  ·obtain rfl:k=n:=by omega
   have e0:=qC wr _ 0 _ _ _ I.o.1;have e1:=qC wr _ 1 _ _ _ I.o.1;have F:=I.o.2.2;have HR:=qH (qA F (qA (qS hB.o (show w.heap.size<=w.heap.size+1 by omega) #[.slice a1 n1 c1,.bool b1]) (qds (cs':=#[.slice a1 n1 c1,.bool b1]) I.o.2.1 F qfG)));clear F
   go_wp2_with (with_reducible refine sR_ rfl 217 _ _ rfl (w.heap.size+1) #[.slice a1 n1 c1,.bool b1] HR.o.1 2 ?_)
   exact qR (v:=.agg #[.slice a1 n1 c1,.bool b1]) (rA_ rfl (w.heap.size+1) (qT _ _ _ _ _ _ HR.o.1) underlying217 2) rfl ⟨_,rfl,HR.o.2.1,HR.o.2.2⟩
abbrev rowv (g n:Nat):Value:=.slice (some ⟨g,0,none⟩) n n
def rowvs (R n:Nat) (E:Nat->Nat):List Value:=(List.range R).map fun i=>rowv (E i) n
theorem qcY (R n:Nat) (E:Nat->Nat):(rowvs R n E).length=R:=by rw [rowvs,qaD,qbo]
theorem qev {R n i:Nat} {E:Nat->Nat} (F:i<R):(rowvs R n E)[i]? = some (rowv (E i) n):=by
 rw [rowvs,qaP,qbG F];rfl
theorem qoN {R n i:Nat} {F:Nat->Nat} (g:Nat):(rowvs R n F).set i (rowv g n)=rowvs R n (fun j=>if j=i then g else F j):=by
 apply List.ext_getElem?;intro j
 by_cases E:j<R
 ·rw [qev E,List.getElem?_set]
  by_cases e:i=j
  ·subst e;rw [if_pos rfl,if_pos (by rw [qcY];exact E),if_pos rfl]
  ·rw [if_neg e,qev E,if_neg (fun h=>e h.symm)]
 ·rw [qaR (by rw [qa8,qcY];omega),qaR (by rw [qcY];omega)]
def qcy (W:World) (g n:Nat) (m:Nat->Int):Prop:=∃E:List (Value×Bool),E.length=n/\IRow W g n E/\qcJ W E m
theorem qcy.below {W W':World} {g n:Nat} {m:Nat->Int} (h:qcy W g n m) (E:Below W.heap.size W W'):qcy W' g n m:=by
 obtain⟨ps,F,H,I⟩:=h;exact⟨ps,F,H.below E,I.below E⟩
theorem qcy.cells {W:World} {g n:Nat} {E:List (Value×Bool)} (I:E.length=n) (F:IRow W g n E):qh1 W g n E:=by
 intro k J;have H:(E++List.replicate (n-E.length) (zs0,false))[k]? = some (E.getD k (zs0,false)):=by
  rw [qax (by omega),qaa,qac (by omega)];rfl
 obtain⟨e1,e2⟩:=qfY _ _ _ H;exact⟨(qC _ _ _ _ _ _ F.1).trans ((qaz ..).trans e1),(qC _ _ _ _ _ _ F.1).trans ((qaz ..).trans e2)⟩
structure MatAt (W:World) (tb R n:Nat) (gs:Nat->Nat) (M:Nat->Nat->Int):Prop where
 row:W.heap[tb]? = some (.cells (rowvs R n gs).toArray 212 (0,0))
 rows:∀i,i<R->qcy W (gs i) n (M i)
theorem MatAt.below {W W':World} {H R n:Nat} {E:Nat->Nat} {M:Nat->Nat->Int} (h:MatAt W H R n E M) (F:Below W.heap.size W W'):MatAt W' H R n E M :=
 ⟨(F.block _ (qG h.row).1).trans h.row,fun i I=>(h.rows i I).below F⟩
theorem MatAt.cell {W:World} {E R n:Nat} {F:Nat->Nat} {M:Nat->Nat->Int} (h:MatAt W E R n F M) {i:Nat} (H:i<R):W.cell? ⟨E,i,none⟩=some (rowv (F i) n)/\W.frozen? ⟨E,i,none⟩=false :=
 ⟨(qC _ _ _ _ _ _ h.row).trans ((qaz ..).trans (qev H)),qF _ _ _ _ _ h.row⟩
theorem qhG {R n:Nat} {E:Nat->Nat}:∀x∈(rowvs R n E).toArray.toList,∀d,x≠.int .u32 d:=by
 intro x hx d e;obtain⟨i,_,h⟩:=qbb.1 (show x∈rowvs R n E from hx);rw [e] at h;cases h
theorem qcy.keep {W W':World} {F R n g J:Nat} {O:Nat->Nat} {m:Nat->Int} (h:qcy W g J m) (H:W.grownBy W' (some F)) (I:W.heap[F]? = some (.cells (rowvs R n O).toArray 212 (0,0))):qcy W' g J m:=by
 obtain⟨ps,U,E,V⟩:=h;have hne:g≠F:=by
  intro e;subst e;have:=E.1.symm.trans I;simp at this
 exact⟨ps,U,⟨(H.block _ (qG E.1).1 (fun e=>hne (qag e))).trans E.1,E.2⟩,V.keep H I qhG⟩
theorem MatAt.set {W:World} {E R n:Nat} {F:Nat->Nat} {M:Nat->Nat->Int} (h:MatAt W E R n F M) (i g:Nat) (m:Nat->Int) (hg:qcy W g n m) :
  MatAt (W.setCell ⟨E,i,none⟩ (rowv g n)) E R n (fun j=>if j=i then g else F j) (fun j=>if j=i then m else M j):=by
 have H:=qb7 W E i (rowv g n);refine⟨?_,fun j I=>?_⟩
 ·rw [heap_setCell_same _ E i _ _ _ h.row,qaQ,qoN]
 ·by_cases e:j=i
  ·simp only [if_pos e];exact hg.keep H h.row
  ·simp only [if_neg e];exact (h.rows j I).keep H h.row
theorem MatAt.congr {W:World} {J R n:Nat} {I E:Nat->Nat} {M H:Nat->Nat->Int} (h:MatAt W J R n I M) (hg:∀i,i<R->I i=E i) (O:∀i,i<R->M i=H i):MatAt W J R n E H:=by
 refine⟨?_,fun i F=>by rw [<-hg i F,<-O i F];exact h.rows i F⟩;rw [h.row]
 congr 3
 exact List.map_congr_left fun i F=>by rw [hg i (qaq.1 F)]
def PivAs (w:World) (F R n k c:Nat) (E:Nat->Nat) (M:Nat->Nat->Int) (e:Ending) (w':World):Prop :=
 (e=.returned (.bool false)/\w'=w/\∀i,k<=i->i<R->M i c=0) \/
 (e=.returned (.bool true)/\w.grownBy w' (some F)/\∃a,k<=a/\a<R/\M a c≠0/\MatAt w' F R n (fun j=>if j=k then E a else if j=a then E k else E j) (fun j=>if j=k then M a else if j=a then M k else M j))
theorem qoz (tb R n k c:Nat) (H:Nat->Nat) (M:Nat->Nat->Int) (w:World) (hR:R<=1024) (Z:k<R) (hc:c<n) (_hn:n<=1024) (hM:MatAt w tb R n H M) :
  Calls prog 255 #[.slice (some ⟨tb,0,none⟩) R R,.int .i64 k,.int .i64 c] w fun e w'=>PivAs w tb R n k c H M e w':=by
 have F:=qH hM;have ai:(k:Int)<R:=by omega
 have af:(c:Int)<n:=by omega
 clear hM;go_enter func255,ntmps255;go_wp2
 go_step3
 go_wp2
 go_step3
 go_wp2
 go_loopw [7,8] (fun x7 x8 W=>∃i:Nat,k<=i/\i<=R/\x7=.int .i64 (-1)/\x8=.int .i64 i/\W=w/\Hu (∀j,k<=j->j<i->M j c=0)) (fun _ x8 _=>R-(intOf x8).toNat)
 case atStart=>exact⟨k,qad _,qan Z,rfl,rfl,rfl,qH (fun j I Y=>absurd I (by omega))⟩
 case round =>
  obtain⟨i,aa,ag,rfl,rfl,rfl,hI⟩:=hrel
  by_cases J:i<R
  ·have ah:(i:Int)<R:=by omega
   obtain⟨ps,U,E,O⟩:=F.o.rows i J;obtain⟨c0,f0⟩:=F.o.cell J;obtain⟨d0,d1⟩:=qcy.cells U E c hc;obtain⟨I,Y⟩:=O c (by omega);have hz:=(qcV .l) (M i c).natAbs _ wr Y;have HZ:=qH hz;obtain⟨a,_,_,cc,m,_,e,_,_⟩:=Y;rw [e] at d0;rw [e] at HZ;clear hz e d1 I U E O;go_wp2_with fail;refine HZ.o.mono ?_;rintro e w2 ⟨rfl,ae⟩;subst ae
   by_cases V:(M i c).natAbs=0
   ·rw [qV V];go_wp2;go_roundw
    case rel =>
     refine⟨i+1,by omega,J,rfl,by go_num,trivial,qH (fun j I Y=>?_)⟩
     by_cases e:j=i
     ·subst e;omega
     ·exact hI.o j I (by omega)
    case measure=>simp [intOf];omega
   ·rw [qU V];obtain⟨c1,f1⟩:=F.o.cell Z;have m1:=F.o.set i (H k) (M k) (F.o.rows k Z);have m2:=m1.set k (H i) (M i) ((F.o.rows i J).keep (qb7 w2 tb i (rowv (H k) n)) F.o.row);obtain⟨c2,f2⟩:=m1.cell Z;have H2:=qH m2;have H0:=qH V;clear m1 m2 V hR;go_wp2_with fail
    go_region
    all_goals go_wp2_with fail
    all_goals rw [Exit.noGoto_ret]
    all_goals go_ret
    all_goals exact qam ⟨rfl,qcl (qb5 (qb7 _ _ _ _) (qb7 _ _ _ _)) qB.drew,i,aa,J,fun h=>H0.o (by rw [h];rfl),H2.o.below qB.drew⟩
  ·obtain rfl:i=R:=by omega
   go_wp2_with fail;rw [Exit.noGoto_ret];go_ret;exact qaw ⟨rfl,rfl,hI.o⟩
def sumQ:Nat->(Nat->Rat)->Rat
 | 0,_=>0
 | n+1,f=>sumQ n f+f n
theorem qcc:∀{n:Nat} {f g:Nat->Rat},(∀i,i<n->f i=g i)->sumQ n f=sumQ n g
 | 0,_,_,_=>rfl
 | n+1,f,g,h=>by
  show sumQ n f+f n=sumQ n g+g n
  rw [qcc fun i E=>h i (by omega),h n (by omega)]
theorem qdi:∀(n:Nat) (f:Nat->Rat),(∀i,i<n->f i=0)->sumQ n f=0
 | 0,_,_=>rfl
 | n+1,f,h=>by
  show sumQ n f+f n=0
  rw [qdi n f fun i E=>h i (by omega),h n (by omega)];grind
theorem qfl:∀(n:Nat) (f g:Nat->Rat),sumQ n (fun i=>f i+g i)=sumQ n f+sumQ n g
 | 0,_,_=>by simp [sumQ];try grind
 | n+1,f,g=>by
  show sumQ n (fun i=>f i+g i)+(f n+g n)=sumQ n f+f n+(sumQ n g+g n)
  rw [qfl n f g];grind
theorem qcD:∀(n:Nat) (a:Rat) (f:Nat->Rat),sumQ n (fun i=>a*f i)=a*sumQ n f
 | 0,a,_=>by simp [sumQ]
 | n+1,a,f=>by
  show sumQ n (fun i=>a*f i)+a*f n=a*(sumQ n f+f n)
  rw [qcD n a f];grind
theorem qe1:∀(n m:Nat) (f:Nat->Nat->Rat),sumQ n (fun i=>sumQ m fun j=>f i j)=sumQ m fun j=>sumQ n fun i=>f i j
 | 0,m,f=>(qdi m _ fun _ _=>rfl).symm
 | n+1,m,f=>by
  show sumQ n (fun i=>sumQ m fun j=>f i j)+sumQ m (fun j=>f n j)=sumQ m fun j=>(sumQ n (fun i=>f i j)+f n j)
  rw [qe1 n m f,qfl]
theorem qdN:∀(n k:Nat) (f:Nat->Rat),k<n->(∀i,i<n->i≠k->f i=0)->sumQ n f=f k
 | 0,k,_,h,_=>absurd h (by omega)
 | n+1,k,f,h,h0=>by
  show sumQ n f+f n=f k
  by_cases e:k=n
  ·subst e;rw [qdi k f fun i F=>h0 i (by omega) (by omega)];grind
  ·rw [qdN n k f (by omega) fun i F E=>h0 i (by omega) E,h0 n (by omega) (fun h=>e h.symm)];grind
theorem sumQ_two (n k l:Nat) (f:Nat->Rat) (O:k<n) (U:l<n) (H:k≠l) (I:∀i,i<n->i≠k->i≠l->f i=0):sumQ n f=f k+f l:=by
 have e:sumQ n f=sumQ n (fun i=>(if i=k then f i else 0)+(if i=k then 0 else f i)):=qcc fun i _=>by split <;> grind
 rw [e,qfl,qdN n k _ O (fun i _ E=>if_neg E),qdN n l _ U (fun i J F=>by
  by_cases h:i=k
  ·rw [if_pos h]
  ·rw [if_neg h];exact I i J h F),if_pos rfl,if_neg (fun h=>H h.symm)]
theorem qe2:∀(n m:Nat) (f:Nat->Rat),sumQ (n+m) f=sumQ n f+sumQ m fun i=>f (n+i)
 | n,0,f=>by simp [sumQ];try grind
 | n,m+1,f=>by
  show sumQ (n+m) f+f (n+m)=sumQ n f+(sumQ m (fun i=>f (n+i))+f (n+m))
  rw [qe2 n m f];grind
def Span (R n:Nat) (A:Nat->Nat->Rat) (v:Nat->Rat):Prop:=∃c:Nat->Rat,∀j,j<n->v j=sumQ R fun i=>c i*A i j
theorem Span.row {R n:Nat} {A:Nat->Nat->Rat} {i:Nat} (E:i<R):Span R n A (A i) :=
 ⟨fun k=>if k=i then 1 else 0,fun j _=>by
  rw [qdN R i _ E (fun k _ F=>by simp [F])];simp⟩
theorem Span.congr {R n:Nat} {A B:Nat->Nat->Rat} {v u:Nat->Rat} (h:Span R n A v) (F:∀i,i<R->∀j,j<n->A i j=B i j) (J:∀j,j<n->v j=u j):Span R n B u:=by
 obtain⟨c,H⟩:=h;exact⟨c,fun j E=>by rw [<-J j E,H j E];exact qcc fun i I=>by rw [F i I j E]⟩
theorem Span.comb {R n:Nat} {A:Nat->Nat->Rat} {u v:Nat->Rat} (I:Span R n A u) (J:Span R n A v) (a b:Rat):Span R n A (fun j=>a*u j+b*v j):=by
 obtain⟨c,F⟩:=I;obtain⟨d,H⟩:=J;refine⟨fun i=>a*c i+b*d i,fun j E=>?_⟩
 show a*u j+b*v j=_
 rw [F j E,H j E,<-qcD,<-qcD,<-qfl];exact qcc fun i _=>by grind
theorem Span.trans {R S n:Nat} {A B:Nat->Nat->Rat} {v:Nat->Rat} (h:Span R n A v) (I:∀i,i<R->Span S n B (A i)):Span S n B v:=by
 obtain⟨c,J⟩:=h;have:∀i,∃d:Nat->Rat,i<R->∀j,j<n->A i j=sumQ S fun k=>d k*B k j:=fun i=>by
  by_cases E:i<R
  ·obtain⟨d,O⟩:=I i E;exact⟨d,fun _=>O⟩
  ·exact⟨fun _=>0,fun h=>absurd h E⟩
 refine⟨fun k=>sumQ R fun i=>c i*(Classical.choose (this i)) k,fun j F=>?_⟩;rw [J j F];have H:sumQ S (fun k=>sumQ R (fun i=>c i*(Classical.choose (this i)) k)*B k j)=sumQ S fun k=>sumQ R fun i=>c i*((Classical.choose (this i)) k*B k j):=qcc fun k _=>by
  rw [show sumQ R (fun i=>c i*(Classical.choose (this i)) k)*B k j=B k j*sumQ R (fun i=>c i*(Classical.choose (this i)) k) by grind,<-qcD];exact qcc fun i _=>by grind
 rw [H,<-qe1];refine qcc fun i E=>?_
 rw [qcD,Classical.choose_spec (this i) E j F]
def qdA (R S n:Nat) (A B:Nat->Nat->Rat):Prop:=(∀i,i<R->Span S n B (A i))/\∀i,i<S->Span R n A (B i)
theorem qdA.refl (R n:Nat) (A:Nat->Nat->Rat):qdA R R n A A:=⟨fun _ E=>Span.row E,fun _ E=>Span.row E⟩
theorem qdA.symm {R S n:Nat} {A B:Nat->Nat->Rat} (h:qdA R S n A B):qdA S R n B A:=⟨h.2,h.1⟩
theorem qdA.trans {R S T n:Nat} {A B C:Nat->Nat->Rat} (h:qdA R S n A B) (k:qdA S T n B C):qdA R T n A C :=
 ⟨fun i E=>(h.1 i E).trans k.1,fun i E=>(k.2 i E).trans h.2⟩
