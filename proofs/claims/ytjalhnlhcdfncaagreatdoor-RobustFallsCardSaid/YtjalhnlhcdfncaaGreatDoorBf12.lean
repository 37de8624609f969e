import Derived.Deep.DrawnRows
import Derived.Deep.RegionWith
import Derived.Test.YtjalhnlhcdfncaaGreatDoorBf11
set_option maxRecDepth 100000
set_option maxHeartbeats 0
namespace Go.Proofs.YtjalhnlhcdfncaaGreatDoor
open Go.RowKit Go.Proofs.Tryz
abbrev FT:=ByteArray×ByteArray
def fd0:FT:=(⟨#[]⟩,⟨#[]⟩)
structure FCells (W:World) (ao:Option Addr) (b off:Nat) (l:List FT):Prop where
 addr:0<l.length->ao=some ⟨b,off,none⟩
 cell:∀k,k<l.length->W.cell? ⟨b,off+k*2,none⟩=some (.string (l.getD k fd0).1)/\W.cell? ⟨b,off+k*2+1,none⟩=some (.string (l.getD k fd0).2)
theorem FCells.below {W W':World} {H:Option Addr} {b F:Nat} {l:List FT} (h:FCells W H b F l) (I:Below W.heap.size W W'):FCells W' H b F l :=
 ⟨h.addr,fun k G=>⟨(I.cell (qac W _ (h.cell k G).1)).trans (h.cell k G).1,(I.cell (qac W _ (h.cell k G).2)).trans (h.cell k G).2⟩⟩
def FAll (l:List FT):Prop:=∀k,k<l.length->FOk (l.getD k fd0).1.data.toList (l.getD k fd0).2.data.toList
def fden (x:FT):Nat:=(ival x.2.data.toList).natAbs
theorem infoM:(Tryz.prog.info? 213).map (fun i=>(i.zero,i.size,i.bytes))=some (some (.slice none 0 0),1,24):=by kernel_rfl
theorem qdF {l:List FT} (h:FAll l) {k:Nat} (F:k<l.length):0<fden (l.getD k fd0)/\Fit (fden (l.getD k fd0)) 67:=⟨(h k F).dpos,(h k F).vd.fit⟩
theorem qll (l:List FT) (k:Nat) (F:k<l.length):(l.take (k+1)).map fden=(l.take k).map fden++[fden (l.getD k fd0)]:=by
 rw [List.take_add_one,qad F,qbc,qab,qad F];rfl
def flcd (l:List FT):Nat:=lcms (l.map fden)
def ftop (l:List FT) (k:Nat):Int:=ival (l.getD k fd0).1.data.toList*((flcd l / fden (l.getD k fd0):Nat):Int)
def qcf (W:World) (F:List (Value×Bool)) (z:Nat->Int):Prop:=∀k,k<F.length->(F.getD k (zs0,false)).2=decide (z k<0)/\MagAt W (F.getD k (zs0,false)).1 (z k).natAbs
theorem qcf.below {W W':World} {G:List (Value×Bool)} {z:Nat->Int} (h:qcf W G z) (H:Below W.heap.size W W'):qcf W' G z:=fun k F=>⟨(h k F).1,(h k F).2.below H⟩
theorem qcf.keep {W W':World} {g:Nat} {cs:Array Value} {t:TypeId} {H:Nat×Nat} {G:List (Value×Bool)} {z:Nat->Int} (h:qcf W G z) (I:W.grownBy W' (some g)) (hg:W.heap[g]? = some (.cells cs t H)) (hne:∀x∈cs.toList,∀d,x≠.int .u32 d):qcf W' G z :=
 fun k F=>⟨(h k F).1,qcj (h k F).2 I hg hne⟩
theorem qcf.snoc {W:World} {F:List (Value×Bool)} {z:Nat->Int} {v:Value} (h:qcf W F z) (I:MagAt W v (z F.length).natAbs):qcf W (F++[(v,decide (z F.length<0))]) z:=by
 intro k H;rw [qae,qaC] at H
 by_cases G:k<F.length
 ·rw [qab,qav G,<-qab];exact h k G
 ·obtain rfl:k=F.length:=by omega
  rw [qab,qar qN,qaK];exact⟨rfl,I⟩
theorem qkS {P:Program} {U:Func} {p u:Tmp} {H:TypeId} (h:U.results=#[.tmp u,.cell p H]) (F:Array Value) (w:World) (g:Nat) (d:TypeDesc) (hu:P.underlying H=some d) (hd:(match d with | .struct _ | .array _ _=>true | _=>false)=false)
  (hp:F.getD p undef=.pointer (some ⟨g,0,none⟩)) (O v:Value) (V:F.getD u undef=O) (Y:w.cell? ⟨g,0,none⟩=some v) :
  (results U F).run P w=.ok (.tuple #[O,v]) w:=by
 have G:(isAgg H).run P w=.ok false w:=by
  unfold isAgg;rw [Sem.run_bind,run_underlying hu w];cases d <;> simp_all
 have Z:(loadVar H ⟨g,0,none⟩).run P w=.ok v w:=by
  simp [loadVar,Sem.run_bind,G,Y]
 have J:F[p]?.getD undef=.pointer (some ⟨g,0,none⟩):=by simpa using hp
 have I:F[u]?.getD undef=O:=by simpa using V
 simp [results,h,J,I,asAddr,Z,Result.andThen]
theorem qh6 (ao:Option Addr) (b bE n c:Nat) (l:List FT) (w:World) (hl:l.length=n) (hn:n<=64) (aa:FCells w ao b bE l) (hf:FAll l) :
  Calls prog 147 #[.slice ao n c] w fun e w'=>∃g v ps,e=.returned (.tuple #[.slice (some ⟨g,0,none⟩) n n,v])/\w.heap.size<=g/\Below w.heap.size w w'/\MagAt w' v (flcd l)/\ps.length=n/\IRow w' g n ps/\qcf w' ps (ftop l):=by
 have bC:=run_make_row' (P:=prog) 286 213 (.slice none 0 0) 24 underlying286 infoM rfl .i64 .i64 n (by omega) (by omega);have HC:=qH (qA aa (qA hf hl));have bI:=qeW;clear aa hf hl;go_enter func147,ntmps147;go_wp2
 go_loopw [15] (fun x15 W=>∃(k:Nat) (vs:List Value),k<=n/\x15=.int .i64 k/\Hu (vs.length=k/\PRow W (w.heap.size+1) n vs/\qdf W vs ((l.take k).map fden)/\W.heap[w.heap.size]? = some (.cells #[zs0] 213 (0,0)))/\Hu (Below w.heap.size w W)) (fun x15 _=>n-(intOf x15).toNat)
 case atStart =>
  have h1:=PRow.made (w.alloc (.cells #[zs0] 213)) n;rw [qaa] at h1;exact⟨0,[],qam _,rfl,qH ⟨rfl,h1,⟨by simp,fun k hk=>absurd hk (by simp)⟩,(qL _ _ _ (by simp only [qaa];omega)).trans (qM _ _ _ rfl)⟩,qH (qbN (qbN qB qN) qN)⟩
 case round =>
  clear bC;obtain⟨k,vs,hk,rfl,U,hB⟩:=hrel
  by_cases bB:k<n
  ·have bK:(k:Int)<n:=by omega
   have aK:k<l.length:=by have:=HC.o.2.2;omega
   have aA:=HC.o.1.addr (by omega);subst aA;have hc:=(HC.o.1.below hB.o).cell k aK;have Y:=HC.o.2.1 k aK;have ax:=qll l k aK;have aX:fden (l.getD k fd0)=(ival (l.getD k fd0).2.data.toList).natAbs:=rfl;rw [aX] at ax;obtain⟨N,hN⟩:=qX ((l.getD k fd0).1);obtain⟨D,hD⟩:=qX ((l.getD k fd0).2);rw [hN,hD] at hc;rw [hD] at ax Y;obtain⟨aD,aF⟩:=hc;have HN:=qH (fun W=>(qb9 .l) D Y.vd W);have HD:=qH ax;clear Y ax aX hN hD;go_wp2_with fail;refine (HN.o _).mono ?_;rintro e H ⟨v2,rfl,ae,ay⟩;obtain⟨m2,rfl,aI⟩:=ay;have J:Below wr.heap.size wr H:=(qB.alloc qN _).trans (ae.mono (by simp only [qaa];omega));have aj:=U.o.2.1.below J;have ai:=aj.at (by have:=U.o.1;omega);rw [U.o.1] at ai;obtain⟨aR,aS⟩:=ai;have G:=aj.set (by have:=U.o.1;omega) m2 (qjc aI);rw [U.o.1] at G;have aO:=(((U.o.2.2.1.below J).snoc aI).keep (qbP H (w.heap.size+1) k m2) aj.1 aj.nope);rw [<-HD.o] at aO;have ah:=(qW H ⟨w.heap.size+1,k,none⟩ m2 w.heap.size (by show w.heap.size≠w.heap.size+1;omega)).trans ((J.block _ (qG U.o.2.2.2).1).trans U.o.2.2.2);have aV:=(hB.o.trans (J.mono hB.o.size)).setCell (p:=⟨w.heap.size+1,k,none⟩) (by show w.heap.size<=w.heap.size+1;omega) m2;have H3:=qH (qA G (qA aO (qA ah aV)));obtain⟨s2,_,_,u2,t2,_,rfl,_,_⟩:=aI;clear ae J aj G aO ah aV aD aF;go_wp2;go_roundw
   case rel=>exact⟨k+1,_,bB,by go_num,qH ⟨by rw [qae,U.o.1];rfl,H3.o.1,H3.o.2.1,H3.o.2.2.1⟩,qH H3.o.2.2.2⟩
   case measure=>simp [intOf];omega
  ·obtain rfl:k=n:=by omega
   have bg:=HC.o.2.2;have aN:=U.o.2.2.1;rw [qal (by omega)] at aN;have bz:∀j,j<k->0<(l.map fden).getD j 0/\Fit ((l.map fden).getD j 0) 67:=by
    intro j hj;have e:(l.map fden).getD j 0=fden (l.getD j fd0):=by
     rw [qab,qaL,qab,qad (by omega)];rfl
    rw [e];exact qdF HC.o.2.1 (by omega)
   have aW:=qgP (some ⟨w.heap.size+1,0,none⟩) (w.heap.size+1) 0 k k vs (l.map fden) 67 wr (by rw [qay];exact bg) (U.o.2.1.cells U.o.1) aN bz (by omega) (by decide) (by omega);have aQ:=qH aW;clear aW bz aN bg;go_wp2_with fail;refine aQ.o.mono ?_;rintro e H ⟨v2,rfl,ae,ay⟩;obtain⟨W3,av⟩:=qY (H.setCell ⟨w.heap.size,0,none⟩ v2);have ag:=(ae.block _ (qG U.o.2.2.2).1).trans U.o.2.2.2;have bF:=qC _ _ 0 _ _ _ ag;have bG:=qF _ _ 0 _ _ ag;have aL:=qcj ay (qbP H w.heap.size 0 v2) ag (by intro x hx d;rw [qao.1 hx];intro e;cases e);have ah:(H.setCell ⟨w.heap.size,0,none⟩ v2).heap[w.heap.size]? = some (.cells #[v2] 213 (0,0)):=heap_setCell_same H w.heap.size 0 _ _ v2 ag;have aB:=(hB.o.trans (ae.mono hB.o.size)).setCell (p:=⟨w.heap.size,0,none⟩) qN v2;rw [<-av] at aL ah aB;have az:Fit (flcd l) 4289:=by
    have:=qe6 (l.map fden) 67 (by
     intro j hj;have aZ:j<l.length:=by rw [qay] at hj;exact hj
     have e:(l.map fden).getD j 0=fden (l.getD j fd0):=by
      rw [qab,qaL,qab,qad aZ];rfl
     rw [e];exact qdF HC.o.2.1 aZ) k (by rw [qay];have:=HC.o.2.2;omega)
    rw [qal (by rw [qay];have:=HC.o.2.2;omega)] at this;exact this.mono (by omega)
   have bu:=(qG ag).1;have H3:=qH (qA aL (qA ah (qA aB az)));have HS:=qH bu;obtain⟨s2,_,_,u2,t2,_,bD,_,_⟩:=ay;subst bD;have aM:=qgd k (by omega) W3;clear ae ag aL ah aB U hB aQ az bu;go_wp2_with fail;rw [<-av];have bv:W3.heap.size=H.heap.size:=by rw [av];exact qbu ..
   rw [bv] at aM;rw [aM];clear av;go_wp2_with fail
   go_loopw [36] (fun x36 W=>∃(j:Nat) (ps:List (Value×Bool)),j<=k/\x36=.int .i64 j/\Hu (ps.length=j/\IRow W H.heap.size k ps/\qcf W ps (ftop l)/\W.heap[w.heap.size]? = some (.cells #[.slice s2 t2 u2] 213 (0,0))/\MagAt W (.slice s2 t2 u2) (flcd l))/\Hu (Below w.heap.size w W)) (fun x36 _=>k-(intOf x36).toNat)
   case atStart =>
    have h0:=IRow.made W3 k;rw [bv] at h0;have aC:Below W3.heap.size W3 (W3.alloc (.cells (madeCells #[zs0,.bool false] (k*2)) 217)):=qbN qB qN;exact⟨0,[],qam _,rfl,qH ⟨rfl,h0,(fun i hi=>absurd hi (by simp)),(aC.block _ (qG H3.o.2.1).1).trans H3.o.2.1,H3.o.1.below aC⟩,qH (H3.o.2.2.1.trans (aC.mono H3.o.2.2.1.size))⟩
   case round =>
    clear aM;obtain⟨j,ps,hj,rfl,F,au⟩:=hrel
    by_cases bA:j<k
    ·have bJ:(j:Int)<k:=by omega
     have bf:j<l.length:=by have:=HC.o.2.2;omega
     have aA:=HC.o.1.addr (by omega);subst aA;have hc:=(HC.o.1.below au.o).cell j bf;have Y:=HC.o.2.1 j bf;have aG:ftop l j=ival (l.getD j fd0).1.data.toList*((flcd l / (ival (l.getD j fd0).2.data.toList).natAbs:Nat):Int):=rfl;obtain⟨N,hN⟩:=qX ((l.getD j fd0).1);obtain⟨D,hD⟩:=qX ((l.getD j fd0).2);rw [hN,hD] at hc Y aG;obtain⟨aD,aF⟩:=hc;have HW:=qH (qA Y aG);clear Y aG hN hD;go_wp2_with fail;have O:Below wr.heap.size wr (wr.alloc (.cells #[.string N,.string D] 27)):=qbN qB qN;refine (qm7 N D HW.o.1 w.heap.size s2 t2 u2 (flcd l) 4289 (by omega) (by omega) _ ((O.block _ (qG F.o.2.2.2.1).1).trans F.o.2.2.2.1) (F.o.2.2.2.2.below O) H3.o.2.2.2).mono ?_;rintro e w5 ⟨v5,rfl,aT,aY⟩;rw [<-HW.o.2] at aY;have I:Below wr.heap.size wr w5:=O.trans (aT.mono O.size);have Z:=F.o.2.1.below I;have af:=F.o.1;obtain⟨v6,rfl,aJ⟩:=aY;have ai:=Z.at (by omega);rw [af] at ai;obtain⟨⟨aR,aS⟩,aH⟩:=ai;have bL:=aH (j*2);have bM:=aH (j*2+1);have G:=Z.set (by omega) v6 (decide (ftop l j<0)) (qjc aJ);rw [af] at G;have V:=qbR (qbP w5 H.heap.size (j*2) v6) (qbP _ H.heap.size (j*2+1) (.bool (decide (ftop l j<0))));have ak:=((F.o.2.2.1.below I).snoc (by rw [af];exact aJ)).keep V Z.1 Z.nope;rw [af] at ak;have hne:w.heap.size≠H.heap.size:=Nat.ne_of_lt HS.o;have bn:=(qW (w5.setCell ⟨H.heap.size,j*2,none⟩ v6) ⟨H.heap.size,j*2+1,none⟩ (.bool (decide (ftop l j<0))) w.heap.size hne).trans ((qW w5 ⟨H.heap.size,j*2,none⟩ v6 w.heap.size hne).trans ((I.block _ (qG F.o.2.2.2.1).1).trans F.o.2.2.2.1));have bi:=qcj (F.o.2.2.2.2.below I) V Z.1 Z.nope;have aU:=((au.o.trans (I.mono au.o.size)).setCell (p:=⟨H.heap.size,j*2,none⟩) (qap HS.o) v6).setCell (p:=⟨H.heap.size,j*2+1,none⟩) (qap HS.o) (.bool (decide (ftop l j<0)));have H6:=qH (qA G (qA ak (qA bn (qA bi aU))));have HP:=qH af;obtain⟨s6,_,_,u6,t6,_,rfl,_,_⟩:=aJ;clear G ak bn bi aU V Z I aT O af aH aD aF;go_wp2;go_roundw
     case rel=>exact⟨j+1,_,bA,by go_num,qH ⟨by rw [qae,HP.o];rfl,H6.o.1,H6.o.2.1,H6.o.2.2.1,H6.o.2.2.2.1⟩,qH H6.o.2.2.2.2⟩
     case measure=>simp [intOf];omega
    ·obtain rfl:j=k:=by omega
     have hne:H.heap.size≠w.heap.size:=qbh HS.o;have bq:=heap_setCell_same wr w.heap.size 0 _ _ (.slice s2 t2 u2) F.o.2.2.2.1;have V:=qbP wr w.heap.size 0 (.slice s2 t2 u2);have aP:∀x∈(#[.slice s2 t2 u2]:Array Value).toList,∀d,x≠.int .u32 d:=by intro x hx d;rw [qao.1 hx];intro e;cases e
     have HE:Hu (((wr.setCell ⟨w.heap.size,0,none⟩ (.slice s2 t2 u2)).drew).heap[w.heap.size]? = some (.cells #[.slice s2 t2 u2] 213 (0,0))/\qcf (wr.setCell ⟨w.heap.size,0,none⟩ (.slice s2 t2 u2)).drew ps (ftop l)/\MagAt (wr.setCell ⟨w.heap.size,0,none⟩ (.slice s2 t2 u2)).drew (.slice s2 t2 u2) (flcd l)/\Below w.heap.size w (wr.setCell ⟨w.heap.size,0,none⟩ (.slice s2 t2 u2)).drew/\ps.length=j/\IRow (wr.setCell ⟨w.heap.size,0,none⟩ (.slice s2 t2 u2)).drew H.heap.size j ps):=qH ⟨bq,(F.o.2.2.1.keep V F.o.2.2.2.1 aP).below qB.drew,(qcj F.o.2.2.2.2 V F.o.2.2.2.1 aP).below qB.drew,(au.o.setCell (p:=⟨w.heap.size,0,none⟩) qN _).drew,F.o.1,⟨(qW wr ⟨w.heap.size,0,none⟩ (.slice s2 t2 u2) H.heap.size hne).trans F.o.2.1.1,F.o.2.1.2⟩⟩;clear bq V aP hne;have bN:=qC _ _ 0 _ _ _ F.o.2.2.2.1;have bH:=qF _ _ 0 _ _ F.o.2.2.2.1;go_wp2_with fail
     go_region
     all_goals go_wp2_with fail
     all_goals refine qR (v:=.tuple #[.slice (some ⟨H.heap.size,0,none⟩) j j,.slice s2 t2 u2]) (qkS rfl _ _ w.heap.size _ underlying213 rfl rfl _ _ rfl (qC _ _ 0 _ _ _ HE.o.1)) rfl ⟨H.heap.size,_,ps,rfl,qap HS.o,HE.o.2.2.2.1,HE.o.2.2.1,HE.o.2.2.2.2.1,HE.o.2.2.2.2.2,HE.o.2.1⟩
theorem qhZ {P:Program} (w:World) (Z sT ty G:TypeId) (m g F I:Nat) (a:Addr) (H U:Nat) (cur:Array Value) (t:TypeId) (cs:List Value)
  (hu:P.underlying Z=some (.slice G)) (hs:(P.info? G).map (·.size)=some m)
  (hg:w.heap[g]? = some (.cells cur t (0,0))) (hn:cs.length=Nat.min H F*m)
  (O:∀j v,cs[j]? = some v->w.cell? (a.add j)=some v) (J:0+cs.length<=cur.size) (h1:∀v∈cs,v.oneCell'=true) :
  (Builtin.copy_ #[Z,sT] ty #[.slice (some ⟨g,0,none⟩) F I,.slice (some a) H U]).run P w =
   .ok (goInt (Nat.min H F:Nat)) (w.setRow g (cur.toList.take 0++cs++cur.toList.drop (0+cs.length)).toArray):=by
 have hl:=run_loadCells_list (P:=P) w a cs O;have Y:=run_storeCells_at P g 0 t cs 0 cur w hg (by simpa using J) h1;cases V:P.info? G with
 | none=>simp [V] at hs
 | some i =>
  have hi:i.size=m:=by simpa [V] using hs
  rw [hn] at hl;simp [Builtin.copy_,run_underlying hu,Builtin.lenOf,Builtin.firstCells,sizeOf,typeInfo,V,hi,hl,Y]
def fflat (l:List FT):List Value:=l.flatMap fun x=>[.string x.1,.string x.2]
theorem qcg (l:List FT):(fflat l).length=l.length*2:=by
 induction l with
 | nil=>rfl
 | cons p l ih=>rw [fflat,List.flatMap_cons,qae,<-fflat,ih,qbJ];simp;omega
theorem qdE (a b:List FT):fflat (a++b)=fflat a++fflat b:=by unfold fflat;rw [List.flatMap_append]
theorem qeV (l:List FT):∀(k:Nat) (x:FT),l[k]? = some x->(fflat l)[k*2]? = some (.string x.1)/\(fflat l)[k*2+1]? = some (.string x.2):=by
 induction l with
 | nil=>intro k p h;cases h
 | cons q l ih =>
  intro k p h;have e:fflat (q :: l)=.string q.1 :: .string q.2 :: fflat l:=rfl;rw [e];cases k with
  | zero =>
   have:q=p:=qag h;subst this;exact⟨rfl,rfl⟩
  | succ k =>
   have F:=ih k p h;rw [show (k+1)*2=k*2+1+1 by omega];exact F
theorem qh4 (l:List FT):∀v∈fflat l,v.oneCell'=true:=by
 intro v G;obtain⟨x,_,F⟩:=List.mem_flatMap.1 G;rcases qaz.1 F with rfl | F
 ·rfl
 ·rw [qao.1 F];rfl
theorem getD_some {l:List FT} {k:Nat} (F:k<l.length):l[k]? = some (l.getD k fd0):=by rw [qab,qad F];rfl
theorem FCells.src {W:World} {O:Option Addr} {b F:Nat} {l:List FT} (h:FCells W O b F l):∀j v,(fflat l)[j]? = some v->W.cell? ((⟨b,F,none⟩:Addr).add j)=some v:=by
 intro j v G;have U:j<(fflat l).length:=(List.getElem?_eq_some_iff.1 G).1;rw [qcg] at U;have J:j / 2<l.length:=by omega
 obtain⟨H,I⟩:=qeV l (j / 2) _ (getD_some J);obtain⟨c1,c2⟩:=h.cell (j / 2) J;rw [Addr.add_mid]
 by_cases e:j % 2=0
 ·rw [show j / 2*2=j by omega] at H c1;rw [H] at G;rw [c1];exact G
 ·rw [show j / 2*2+1=j by omega] at I;rw [show F+j / 2*2+1=F+j by omega] at c2;rw [I] at G;rw [c2];exact G
theorem FCells.ofRow {W:World} {g:Nat} {l:List FT} {t:TypeId} {F:Nat×Nat} (h:W.heap[g]? = some (.cells (fflat l).toArray t F)):FCells W (some ⟨g,0,none⟩) g 0 l:=by
 refine⟨fun _=>rfl,fun k I=>?_⟩;obtain⟨G,H⟩:=qeV l k _ (getD_some I);rw [qaM];exact⟨(qC _ _ _ _ _ _ h).trans ((qaA ..).trans G),(qC _ _ _ _ _ _ h).trans ((qaA ..).trans H)⟩
theorem infoF:(Tryz.prog.info? 27).map (fun i=>(i.zero,i.size,i.bytes))=some (some (.agg #[.string ⟨#[]⟩,.string ⟨#[]⟩]),2,32):=by kernel_rfl
theorem qkI (n:Nat) (J:n<=1048576) (w:World):(Instr.makeSlice 22 (.int .i64 ((n:Int)+1)) (.int .i64 ((n:Int)+1))).run prog w=.ok (.slice (some ⟨w.heap.size,0,none⟩) (n+1) (n+1)) (w.alloc (.cells (madeCells #[.string ⟨#[]⟩,.string ⟨#[]⟩] ((n+1)*2)) 27)):=by
 obtain⟨i,I,F,G,H⟩:=info_parts infoF;have h:=run_make (P:=prog) w 22 27 i _ underlying22 I F .i64 .i64 ((n+1:Nat):Int) ((n+1:Nat):Int) (by omega) (Int.le_refl _) (by rw [H];omega) (by omega);rw [G,Int.toNat_natCast] at h;exact h
theorem qmH (l:List FT) (x:FT) (r:List Value) (F:r.length=2):(((fflat l++r).toArray.setIfInBounds (l.length*2) (.string x.1)).setIfInBounds (l.length*2+1) (.string x.2))=(fflat (l++[x])).toArray:=by
 obtain⟨a,b,rfl⟩:∃a b,r=[a,b]:=by
  match r,F with
  | [a,b],_=>exact⟨a,b,rfl⟩
 rw [qdE,qaI,qaI,qa6 _ _ (by rw [qcg];exact qaf _),qcg,qaK,qbi,qa6 _ _ (by rw [qcg];omega),qcg,show l.length*2+1-l.length*2=1 by omega]
 rfl
theorem qgO (ao:Option Addr) (b ax n c:Nat) (l:List FT) (x:FT) (w:World) (hl:l.length=n) (aD:0<n) (hn:n<=63) (F:FCells w ao b ax l) :
  Calls prog 150 #[.slice ao n c,.agg #[.string x.1,.string x.2]] w fun e w'=>∃g,e=.returned (.slice (some ⟨g,0,none⟩) ((n+1:Nat)) (n+1))/\Below w.heap.size w w'/\FCells w' (some ⟨g,0,none⟩) g 0 (l++[x]):=by
 obtain⟨s1,s2⟩:=x;have ay:=F.addr (by omega);subst ay;obtain⟨V,G⟩:=qY (w.alloc (.cells #[.string s1,.string s2] 27));have au:=qkI n (by omega) V;obtain⟨W2,H⟩:=qY (V.alloc (.cells (madeCells #[.string ⟨#[]⟩,.string ⟨#[]⟩] ((n+1)*2)) 27));have av:V.heap.size=w.heap.size+1:=by rw [G,qaa]
 rw [<-H,av] at au;have af:W2.heap[w.heap.size+1]? = some (.cells (madeCells #[.string ⟨#[]⟩,.string ⟨#[]⟩] ((n+1)*2)) 27 (0,0)):=by rw [H];exact qM _ _ _ av
 have ag:Below w.heap.size w V:=G▸qbN qB qN;have Z:Below w.heap.size w W2:=H▸qbN ag qN;have aj:=qhZ (P:=prog) W2 22 22 3 27 2 (w.heap.size+1) (n+1) (n+1) ⟨b,ax,none⟩ n c _ 27 (fflat l) underlying22 (by kernel_rfl) af (by rw [qcg,hl];show n*2=(min n (n+1))*2;rw [qaZ (by omega)]) (F.below Z).src (by rw [qcg,hl,size_madeCells];omega) (qh4 l);obtain⟨R,hR⟩:=qY (((madeCells #[.string ⟨#[]⟩,.string ⟨#[]⟩] ((n+1)*2):Array Value)).toList.drop (0+(fflat l).length));have Y:R.length=2:=by rw [hR,qbr,Array.length_toList,size_madeCells,qcg];omega
 rw [<-hR,List.take_zero,qbk] at aj;obtain⟨W3,J⟩:=qY (W2.setRow (w.heap.size+1) (fflat l++R).toArray);rw [<-J] at aj;have I:W3.heap[w.heap.size+1]? = some (.cells (fflat l++R).toArray 27 (0,0)):=by rw [J];exact qT _ _ _ _ _ _ af
 have ah:Below w.heap.size w W3:=J▸qS Z (by omega) _;have ae:V.heap[w.heap.size]? = some (.cells #[.string s1,.string s2] 27 (0,0)):=by rw [G];exact qM _ _ _ rfl
 have U:Below V.heap.size V W3:=J▸qS (H▸qbN qB qN) (by omega) _;have aa:=(U.block _ (qG ae).1).trans ae;have aF:=qC _ _ 0 _ _ _ aa;have aG:=qC _ _ 1 _ _ _ aa;have ak:(fflat l++R).length=n*2+2:=by rw [qae,qcg,Y,hl]
 obtain⟨d0,az⟩:∃d0,W3.cell? ⟨w.heap.size+1,n*2,none⟩=some d0:=⟨_,(qC _ _ _ _ _ _ I).trans ((qaA ..).trans (qad (by omega)))⟩;obtain⟨d1,aA⟩:∃d1,W3.cell? ⟨w.heap.size+1,n*2+1,none⟩=some d1:=⟨_,(qC _ _ _ _ _ _ I).trans ((qaA ..).trans (qad (by omega)))⟩;have aB:=qF _ _ (n*2) _ _ I;have aC:=qF _ _ (n*2+1) _ _ I;have O:=heap_setCell_same _ _ (n*2+1) _ _ (.string s2) (heap_setCell_same _ _ (n*2) _ _ (.string s1) I);rw [<-hl,qmH l (s1,s2) R Y,hl] at O;have ai:=(ah.setCell (p:=⟨w.heap.size+1,n*2,none⟩) (by show w.heap.size<=w.heap.size+1;omega) (.string s1)).setCell (p:=⟨w.heap.size+1,n*2+1,none⟩) (by show w.heap.size<=w.heap.size+1;omega) (.string s2);have HE:=qH (qA ai (FCells.ofRow O));have HN:=qH (qA H G);clear F af ag Z hR Y J I ah ae U aa ak O ai H;go_enter func150,ntmps150;go_wp2_with fail;rw [<-G];clear G;rw [au];go_wp2;go_ret;exact⟨_,rfl,HE.o.1,HE.o.2⟩
theorem qfL {W:World} {g:Nat} {t:TypeId} (h:W.heap[g]? = some (.cells #[.slice none 0 0,.bool false] t (0,0))) (a:Option Addr) (n c:Nat) (b:Bool) :
  ((W.setCell ⟨g,0,none⟩ (.slice a n c)).setCell ⟨g,1,none⟩ (.bool b)).heap[g]? = some (.cells #[.slice a n c,.bool b] t (0,0)) /\
  (∀k,k≠g->((W.setCell ⟨g,0,none⟩ (.slice a n c)).setCell ⟨g,1,none⟩ (.bool b)).heap[k]? = W.heap[k]?) /\
  (∀m F z,IntAt W (.agg #[m,.bool F]) z->IntAt ((W.setCell ⟨g,0,none⟩ (.slice a n c)).setCell ⟨g,1,none⟩ (.bool b)) (.agg #[m,.bool F]) z) :=
 ⟨qcM h a n c b,fun _k G=>(qW _ _ _ _ G).trans (qW _ _ _ _ G),fun _ _ _ H=>qcL H h a n c b⟩
def LTwo (F W:World) (G g4:Nat) (v3:Option Addr×Nat×Nat×Bool) (v4:Option Addr×Nat×Nat×Bool) (z3 z4:Int):Prop :=
 W.heap[G]? = some (.cells #[.slice v3.1 v3.2.1 v3.2.2.1,.bool v3.2.2.2] 217 (0,0))/\W.heap[g4]? = some (.cells #[.slice v4.1 v4.2.1 v4.2.2.1,.bool v4.2.2.2] 217 (0,0)) /\
  IntAt W (.agg #[.slice v3.1 v3.2.1 v3.2.2.1,.bool v3.2.2.2]) z3/\IntAt W (.agg #[.slice v4.1 v4.2.1 v4.2.2.1,.bool v4.2.2.2]) z4/\Below F.heap.size F W/\F.heap.size<=G/\F.heap.size<=g4
section
variable {W2 W:World} {a3:Option Addr} {n3 c3:Nat} {b3:Bool} {a4:Option Addr} {n4 c4:Nat} {b4:Bool} {z3 z4:Int}
theorem ltwo_aa (h:IntAt W (.agg #[.slice a3 n3 c3,.bool b3]) z3/\IntAt W (.agg #[.slice a4 n4 c4,.bool b4]) z4) (F:Below W2.heap.size W2 W) :
  LTwo W2 ((W.alloc (.cells #[.slice a3 n3 c3,.bool b3] 217)).alloc (.cells #[.slice a4 n4 c4,.bool b4] 217)) W.heap.size (W.heap.size+1) (a3,n3,c3,b3) (a4,n4,c4,b4) z3 z4 :=
 have k:=qbN (qbN (Below.refl W.heap.size W) qN) qN
 ⟨(qL _ _ _ (by simp only [qaa];omega)).trans (qM _ _ _ rfl),qM _ _ _ (by simp only [qaa]),h.1.below k,h.2.below k,qbN (qbN F qN) qN,F.size,qan F.size⟩
theorem ltwo_bb (h:IntAt W (.agg #[.slice a3 n3 c3,.bool b3]) z3/\IntAt W (.agg #[.slice a4 n4 c4,.bool b4]) z4) (F:Below W2.heap.size W2 W) :
  LTwo W2 ((W.alloc (.cells #[.slice a4 n4 c4,.bool b4] 217)).alloc (.cells #[.slice a3 n3 c3,.bool b3] 217)) (W.heap.size+1) W.heap.size (a3,n3,c3,b3) (a4,n4,c4,b4) z3 z4 :=
 have k:=qbN (qbN (Below.refl W.heap.size W) qN) qN
 ⟨qM _ _ _ (by simp only [qaa]),(qL _ _ _ (by simp only [qaa];omega)).trans (qM _ _ _ rfl),h.1.below k,h.2.below k,qbN (qbN F qN) qN,qan F.size,F.size⟩
theorem ltwo_pa {g:Nat} (h:IntAt W (.agg #[.slice a3 n3 c3,.bool b3]) z3/\IntAt W (.agg #[.slice a4 n4 c4,.bool b4]) z4) (F:Below W2.heap.size W2 W) (hg:W2.heap.size<=g) (G:W.heap[g]? = some (.cells #[.slice none 0 0,.bool false] 217 (0,0))) :
  LTwo W2 (((W.setCell ⟨g,0,none⟩ (.slice a3 n3 c3)).setCell ⟨g,1,none⟩ (.bool b3)).alloc (.cells #[.slice a4 n4 c4,.bool b4] 217)) g W.heap.size (a3,n3,c3,b3) (a4,n4,c4,b4) z3 z4:=by
 obtain⟨p1,p2,p3⟩:=qfL G a3 n3 c3 b3;have lt:=(qG G).1;have k:∀V:World,Below V.heap.size V (V.alloc (.cells #[.slice a4 n4 c4,.bool b4] 217)):=fun V=>qbN qB qN
 exact⟨(qL _ _ _ (by simp only [qbu];exact lt)).trans p1,qM _ _ _ (by simp only [qbu]),(p3 _ _ _ h.1).below (k _),(p3 _ _ _ h.2).below (k _),qbN ((F.setCell (by exact hg) _).setCell (by exact hg) _) qN,hg,F.size⟩
theorem ltwo_pb {g:Nat} (h:IntAt W (.agg #[.slice a3 n3 c3,.bool b3]) z3/\IntAt W (.agg #[.slice a4 n4 c4,.bool b4]) z4) (F:Below W2.heap.size W2 W) (hg:W2.heap.size<=g) (G:W.heap[g]? = some (.cells #[.slice none 0 0,.bool false] 217 (0,0))) :
  LTwo W2 (((W.setCell ⟨g,0,none⟩ (.slice a4 n4 c4)).setCell ⟨g,1,none⟩ (.bool b4)).alloc (.cells #[.slice a3 n3 c3,.bool b3] 217)) W.heap.size g (a3,n3,c3,b3) (a4,n4,c4,b4) z3 z4:=by
 obtain⟨p1,p2,p3⟩:=qfL G a4 n4 c4 b4;have lt:=(qG G).1;have k:∀V:World,Below V.heap.size V (V.alloc (.cells #[.slice a3 n3 c3,.bool b3] 217)):=fun V=>qbN qB qN
 exact⟨qM _ _ _ (by simp only [qbu]),(qL _ _ _ (by simp only [qbu];exact lt)).trans p1,(p3 _ _ _ h.1).below (k _),(p3 _ _ _ h.2).below (k _),qbN ((F.setCell (by exact hg) _).setCell (by exact hg) _) qN,F.size,hg⟩
theorem ltwo_pp {g F:Nat} (h:IntAt W (.agg #[.slice a3 n3 c3,.bool b3]) z3/\IntAt W (.agg #[.slice a4 n4 c4,.bool b4]) z4) (I:Below W2.heap.size W2 W) (hg:W2.heap.size<=g) (G:W2.heap.size<=F) (hne:g≠F) (J:W.heap[g]? = some (.cells #[.slice none 0 0,.bool false] 217 (0,0))) (H:W.heap[F]? = some (.cells #[.slice none 0 0,.bool false] 217 (0,0))) :
  LTwo W2 ((((W.setCell ⟨g,0,none⟩ (.slice a3 n3 c3)).setCell ⟨g,1,none⟩ (.bool b3)).setCell ⟨F,0,none⟩ (.slice a4 n4 c4)).setCell ⟨F,1,none⟩ (.bool b4)) g F (a3,n3,c3,b3) (a4,n4,c4,b4) z3 z4:=by
 obtain⟨p1,p2,p3⟩:=qfL J a3 n3 c3 b3;obtain⟨q1,q2,q3⟩:=qfL ((p2 F (Ne.symm hne)).trans H) a4 n4 c4 b4;exact⟨(q2 g hne).trans p1,q1,q3 _ _ _ (p3 _ _ _ h.1),q3 _ _ _ (p3 _ _ _ h.2),(((I.setCell (by exact hg) _).setCell (by exact hg) _).setCell (by exact G) _).setCell (by exact G) _,hg,G⟩
end
theorem qc1 {W:World} {F:List (Value×Bool)} {G:Nat->Int} (h:qcf W F G) {k:Nat} (J:k<F.length):∃(a:Option Addr) (n c:Nat) (b:Bool),F.getD k (zs0,false)=(.slice a n c,b)/\IntAt W (.agg #[.slice a n c,.bool b]) (G k):=by
 obtain⟨I,H⟩:=h k J;have hg:=H;obtain⟨a,_,_,c,n,_,e,_,_⟩:=H;refine⟨a,n,c,decide (G k<0),Prod.ext e I,_,rfl,e▸hg⟩
theorem qcG {a b:World} {g k:Nat} {cs:Array Value} {t:TypeId} (h:a.grownBy b (some g)) (hg:a.heap[k]? = some (.cells cs t (0,0))) (hne:k≠g) (i:Nat):b.cell? ⟨k,i,none⟩=cs[i]? :=
 qC _ _ i _ _ _ ((h.block _ (qG hg).1 (fun e=>hne (qag e))).trans hg)
theorem qbX {a b:World} (g:Nat) (h:Below a.heap.size a b):a.grownBy b (some g):=qcd (qcA a _) h
def qgM (W:World) (b n:Nat) (F:List (Value×Bool)):Prop:=∀k,k<n->W.cell? ⟨b,k*2,none⟩=some (F.getD k (zs0,false)).1/\W.cell? ⟨b,k*2+1,none⟩=some (.bool (F.getD k (zs0,false)).2)
theorem qgM.below {W W':World} {b n:Nat} {H:List (Value×Bool)} (h:qgM W b n H) (G:Below W.heap.size W W'):qgM W' b n H :=
 fun k F=>⟨(G.cell (qac W _ (h k F).1)).trans (h k F).1,(G.cell (qac W _ (h k F).2)).trans (h k F).2⟩
theorem qj9 {W:World} {g n j:Nat} {F:List (Value×Bool)} {z:Nat->Int} {a:Option Addr} {m c:Nat} {b:Bool} (H:IRow W g n F) (U:qcf W F z) (Y:F.length=j) (I:j<n) (V:IntAt W (.agg #[.slice a m c,.bool b]) (z j)) :
  IRow ((W.setCell ⟨g,j*2,none⟩ (.slice a m c)).setCell ⟨g,j*2+1,none⟩ (.bool b)) g n (F++[(.slice a m c,b)])/\qcf ((W.setCell ⟨g,j*2,none⟩ (.slice a m c)).setCell ⟨g,j*2+1,none⟩ (.bool b)) (F++[(.slice a m c,b)]) z:=by
 subst Y;obtain⟨v,G,hg⟩:=V;have J:v=.slice a m c:=by simp only [qa2,qa4,qaW] at G;exact G.1.symm
 have O:b=decide (z F.length<0):=by simp only [qa2,qa4,qaW,Value.bool.injEq] at G;exact G.2.1
 subst J;refine⟨H.set I _ b (qjc hg),?_⟩;rw [O];exact (U.snoc hg).keep (qbR (qbP W g (F.length*2) _) (qbP _ g (F.length*2+1) _)) H.1 H.nope
theorem qhY (br bp n cr cp I:Nat) (ps qs:List (Value×Bool)) (U O:Nat->Int) (K:Nat) (hK:K<=34359738368) (v0:Value) (z0:Int) (w:World) (hn:n<=64) (hc:I<n) (bM:ps.length=n) (bN:qs.length=n) (bg:qgM w br n ps) (bf:qgM w bp n qs) (hz:qcf w ps U) (hy:qcf w qs O) (bu:∀k,k<n->Fit (U k).natAbs K) (bq:∀k,k<n->Fit (O k).natAbs K) (h0:IntAt w v0 z0) (bi:Fit z0.natAbs K) (bO:z0≠0) :
  Calls prog 256 #[.slice (some ⟨br,0,none⟩) n cr,.slice (some ⟨bp,0,none⟩) n cp,.int .i64 I,v0] w fun e w'=>∃g rs,e=.returned (.slice (some ⟨g,0,none⟩) n n)/\w.heap.size<=g/\Below w.heap.size w w'/\rs.length=n/\IRow w' g n rs/\qcf w' rs (fun j=>(O I*U j-U I*O j).tdiv z0):=by
 obtain⟨a0,n0,c0,b0,rfl⟩:=qbO h0;obtain⟨W1,aj⟩:=qY (w.alloc (.cells #[.slice a0 n0 c0,.bool b0] 217));have bD:W1.heap.size=w.heap.size+1:=by rw [aj,qaa]
 have aL:=qgd n (by omega) W1;rw [bD] at aL;have aV:Below w.heap.size w W1:=aj▸qbN qB qN;have aW:=qbN (o:=.cells (madeCells #[zs0,.bool false] (n*2)) 217) aV qN;have aI:=IRow.made W1 n;rw [bD] at aI;have bB:W1.heap[w.heap.size]? = some (.cells #[.slice a0 n0 c0,.bool b0] 217 (0,0)):=by rw [aj];exact qM _ _ _ rfl
 have bC:(W1.alloc (.cells (madeCells #[zs0,.bool false] (n*2)) 217)).heap[w.heap.size]? = some (.cells #[.slice a0 n0 c0,.bool b0] 217 (0,0)):=(qL _ _ _ (by omega)).trans bB;have bV:(I:Int)<n:=by omega
 have H2:=qH (qA aW (qA aI bC));have J:=qH (qA bg (qA bf (qA hz (qA hy (qA bu (qA bq (qA h0 (qA bi (qA bM bN)))))))));have bW:=qeW;clear bg bf hz hy bu bq h0 bi aV aW aI bB bC;go_enter func256,ntmps256;go_wp2_with fail;rw [<-aj];rw [aL];clear aj aL;go_wp2_with fail
 go_loopw [18] (fun x18 W=>∃(j:Nat) (rs:List (Value×Bool)),j<=n/\x18=.int .i64 j/\Hu (rs.length=j/\IRow W (w.heap.size+1) n rs/\qcf W rs (fun j=>(O I*U j-U I*O j).tdiv z0)/\W.heap[w.heap.size]? = some (.cells #[.slice a0 n0 c0,.bool b0] 217 (0,0)))/\Hu (Below w.heap.size w W)) (fun x18 _=>n-(intOf x18).toNat)
 case atStart=>exact⟨0,[],qam _,rfl,qH ⟨rfl,H2.o.2.1,(fun i hi=>absurd hi (by simp)),H2.o.2.2⟩,qH H2.o.1⟩
 case round =>
  obtain⟨j,rs,hj,rfl,hI,hB⟩:=hrel
  by_cases V:j<n
  ·have bX:(j:Int)<n:=by omega
   obtain⟨a1,n1,c1,b1,e1,i1⟩:=qc1 (J.o.2.2.2.1.below hB.o) (k:=I) (by have:=J.o.2.2.2.2.2.2.2.2.2;omega);obtain⟨a2,n2,c2,b2,e2,i2⟩:=qc1 (J.o.2.2.1.below hB.o) (k:=j) (by have:=J.o.2.2.2.2.2.2.2.2.1;omega);obtain⟨a5,n5,c5,b5,e5,i5⟩:=qc1 (J.o.2.2.1.below hB.o) (k:=I) (by have:=J.o.2.2.2.2.2.2.2.2.1;omega);obtain⟨a6,n6,c6,b6,e6,i6⟩:=qc1 (J.o.2.2.2.1.below hB.o) (k:=j) (by have:=J.o.2.2.2.2.2.2.2.2.2;omega);have k1:=(J.o.2.1.below hB.o) I hc;have k2:=(J.o.1.below hB.o) j V;have k5:=(J.o.1.below hB.o) I hc;have k6:=(J.o.2.1.below hB.o) j V;rw [e1] at k1;rw [e2] at k2;rw [e5] at k5;rw [e6] at k6;have bE:∀W,Below wr.heap.size wr W->W.cell? ⟨bp,I*2,none⟩=some (.slice a1 n1 c1):=fun W h=>(h.cell (qac wr _ k1.1)).trans k1.1
   have bF:∀W,Below wr.heap.size wr W->W.cell? ⟨bp,I*2+1,none⟩=some (.bool b1):=fun W h=>(h.cell (qac wr _ k1.2)).trans k1.2
   have bG:∀W,Below wr.heap.size wr W->W.cell? ⟨br,j*2,none⟩=some (.slice a2 n2 c2):=fun W h=>(h.cell (qac wr _ k2.1)).trans k2.1
   have bH:∀W,Below wr.heap.size wr W->W.cell? ⟨br,j*2+1,none⟩=some (.bool b2):=fun W h=>(h.cell (qac wr _ k2.2)).trans k2.2
   have bI:∀W,Below wr.heap.size wr W->W.cell? ⟨br,I*2,none⟩=some (.slice a5 n5 c5):=fun W h=>(h.cell (qac wr _ k5.1)).trans k5.1
   have bJ:∀W,Below wr.heap.size wr W->W.cell? ⟨br,I*2+1,none⟩=some (.bool b5):=fun W h=>(h.cell (qac wr _ k5.2)).trans k5.2
   have bK:∀W,Below wr.heap.size wr W->W.cell? ⟨bp,j*2,none⟩=some (.slice a6 n6 c6):=fun W h=>(h.cell (qac wr _ k6.1)).trans k6.1
   have bL:∀W,Below wr.heap.size wr W->W.cell? ⟨bp,j*2+1,none⟩=some (.bool b6):=fun W h=>(h.cell (qac wr _ k6.2)).trans k6.2
   have aR:=qH (fun W (h:Below wr.heap.size wr W)=>qcp (O I) (U j) K K (by omega) _ _ W (i1.below h) (i2.below h) (J.o.2.2.2.2.2.1 I hc) (J.o.2.2.2.2.1 j V));have aS:=qH (fun W (h:Below wr.heap.size wr W)=>qcp (U I) (O j) K K (by omega) _ _ W (i5.below h) (i6.below h) (J.o.2.2.2.2.1 I hc) (J.o.2.2.2.2.2.1 j V));clear k1 k2 k5 k6 e1 e2 e5 e6 i1 i2 i5 i6;have ah:Below wr.heap.size wr wr:=Below.refl _ _;have aC:Below wr.heap.size wr wr.drew:=ah.drew;have aB:wr.drew.heap.size=wr.heap.size:=rfl;have F:∀W:World,W.drew.heap.size=W.heap.size:=fun _=>rfl
   go_wp2_with fail
   go_cut [11,12] (fun x11 x12 W=>∃(g3 g4:Nat) (a3:Option Addr) (n3 c3:Nat) (b3:Bool) (a4:Option Addr) (n4 c4:Nat) (b4:Bool),x11=.pointer (some ⟨g3,0,none⟩)/\x12=.pointer (some ⟨g4,0,none⟩)/\LTwo wr W g3 g4 (a3,n3,c3,b3) (a4,n4,c4,b4) (O I*U j) (U I*O j))
   case first =>
    go_region_held3 (fun W=>Below wr.heap.size wr W) (first | with_reducible exact ah | with_reducible exact aC | with_reducible exact H | with_reducible exact G | ((repeat (first | refine Below.setCell ?_ (by first | exact qaf _ | exact G.size | exact H.size | exact qan qN | exact qan G.size | exact qan H.size) _ | refine qbN ?_ qN | refine Below.drew ?_));first | exact H | exact G | exact ah)) (first | (go_at_call_of 153 (Value.agg #[.slice a1 n1 c1,.bool b1]);refine (aR.o _ (by ((repeat (first | refine Below.setCell ?_ (by first | exact qaf _ | exact G.size | exact H.size | exact qan qN | exact qan G.size | exact qan H.size) _ | refine qbN ?_ qN | refine Below.drew ?_));first | exact ah))).mono ?_;rintro e w3 ⟨p3,rfl,ak,aM⟩;have G:Below wr.heap.size wr w3:=bjoin (by ((repeat (first | refine Below.setCell ?_ (by first | exact qaf _ | exact G.size | exact H.size | exact qan qN | exact qan G.size | exact qan H.size) _ | refine qbN ?_ qN | refine Below.drew ?_));first | exact ah)) ak;obtain⟨a3,n3,c3,b3,rfl⟩:=qbO aM;have aD:=qH aM;obtain⟨k3,bY⟩:=bcell ak;have Z3:=qH (zkeep ak);have s3:_<=_:=ak.size;(try simp only [qaa,aB,F] at s3);(try have q3:wr.heap.size<w3.heap.size:=by omega);(try have r3:wr.heap.size+1<w3.heap.size:=by omega);clear ak aM) | (go_at_call_of 153 (Value.agg #[.slice a5 n5 c5,.bool b5]);refine (aS.o _ (by ((repeat (first | refine Below.setCell ?_ (by first | exact qaf _ | exact G.size | exact H.size | exact qan qN | exact qan G.size | exact qan H.size) _ | refine qbN ?_ qN | refine Below.drew ?_));first | exact G))).mono ?_;rintro e w4 ⟨p4,rfl,Z,aN⟩;have H:Below wr.heap.size wr w4:=bjoin (by ((repeat (first | refine Below.setCell ?_ (by first | exact qaf _ | exact G.size | exact H.size | exact qan qN | exact qan G.size | exact qan H.size) _ | refine qbN ?_ qN | refine Below.drew ?_));first | exact G)) Z;obtain⟨a4,n4,c4,b4,rfl⟩:=qbO aN;have ai:=qH (qA (show IntAt w4 _ _ from (by first | exact aD.o.below Z | exact (aD.o.below (qbN qB qN)).below Z | exact (aD.o.below (qbN (qbN qB qN) qN)).below Z)) aN);obtain⟨k4,bZ⟩:=bcell Z;have Z4:=qH (zkeep Z);have s4:_<=_:=Z.size;(try simp only [qaa] at s4);(try have q4:wr.heap.size<w4.heap.size:=by omega);(try have r4:wr.heap.size+1<w4.heap.size:=by omega);(try have t4:w3.heap.size<w4.heap.size:=by omega);(try have u4:w3.heap.size+1<w4.heap.size:=by omega);clear Z aN))
    all_goals go_wp2_with fail
    all_goals go_meet
    all_goals refine⟨_,_,a3,n3,c3,b3,a4,n4,c4,b4,rfl,rfl,?_⟩
    all_goals first
     | with_reducible exact ltwo_aa ai.o H
     | with_reducible exact ltwo_bb ai.o H
     | (with_reducible refine ltwo_pa ai.o H ?_ ?_;(first | exact qaf _ | exact G.size | exact H.size | exact qa9 _ | exact qan G.size);(refine Z4.o _ _ ?_;((try with_reducible refine zdrew ?_);first | (refine qM _ _ _ ?_;((try simp only) <;> omega)) | (refine Z3.o _ _ ?_;((try with_reducible refine zdrew ?_);first | (refine qM _ _ _ ?_;((try simp only) <;> omega)) | (refine (qL _ _ _ ?_).trans ?_;((try simp only [qaa,F]);omega);(refine qM _ _ _ ?_;((try simp only [qaa,F]) <;> omega))))) | (refine (qL _ _ _ ?_).trans ?_;((try simp only [qaa,F]);omega);(first | (refine qM _ _ _ ?_;((try simp only [qaa,F]) <;> omega)) | (refine Z3.o _ _ ?_;((try with_reducible refine zdrew ?_);first | (refine qM _ _ _ ?_;((try simp only [qaa,F]) <;> omega)) | (refine (qL _ _ _ ?_).trans ?_;((try simp only [qaa,F]);omega);(refine qM _ _ _ ?_;((try simp only [qaa,F]) <;> omega))))))) | (refine (qL _ _ _ ?_).trans ?_;((try simp only [qaa,F]);omega);refine (qL _ _ _ ?_).trans ?_;((try simp only [qaa,F]);omega);(refine Z3.o _ _ ?_;((try with_reducible refine zdrew ?_);first | (refine qM _ _ _ ?_;((try simp only [qaa,F]) <;> omega)) | (refine (qL _ _ _ ?_).trans ?_;((try simp only [qaa,F]);omega);(refine qM _ _ _ ?_;((try simp only [qaa,F]) <;> omega)))))))))
     | (with_reducible refine ltwo_pb ai.o H ?_ ?_;(first | exact qaf _ | exact G.size | exact H.size | exact qa9 _ | exact qan G.size);(refine Z4.o _ _ ?_;((try with_reducible refine zdrew ?_);first | (refine qM _ _ _ ?_;((try simp only) <;> omega)) | (refine Z3.o _ _ ?_;((try with_reducible refine zdrew ?_);first | (refine qM _ _ _ ?_;((try simp only) <;> omega)) | (refine (qL _ _ _ ?_).trans ?_;((try simp only [qaa,F]);omega);(refine qM _ _ _ ?_;((try simp only [qaa,F]) <;> omega))))) | (refine (qL _ _ _ ?_).trans ?_;((try simp only [qaa,F]);omega);(first | (refine qM _ _ _ ?_;((try simp only [qaa,F]) <;> omega)) | (refine Z3.o _ _ ?_;((try with_reducible refine zdrew ?_);first | (refine qM _ _ _ ?_;((try simp only [qaa,F]) <;> omega)) | (refine (qL _ _ _ ?_).trans ?_;((try simp only [qaa,F]);omega);(refine qM _ _ _ ?_;((try simp only [qaa,F]) <;> omega))))))) | (refine (qL _ _ _ ?_).trans ?_;((try simp only [qaa,F]);omega);refine (qL _ _ _ ?_).trans ?_;((try simp only [qaa,F]);omega);(refine Z3.o _ _ ?_;((try with_reducible refine zdrew ?_);first | (refine qM _ _ _ ?_;((try simp only [qaa,F]) <;> omega)) | (refine (qL _ _ _ ?_).trans ?_;((try simp only [qaa,F]);omega);(refine qM _ _ _ ?_;((try simp only [qaa,F]) <;> omega)))))))))
     | (with_reducible refine ltwo_pp ai.o H ?_ ?_ ?_ ?_ ?_;(first | exact qaf _ | exact G.size | exact H.size | exact qa9 _ | exact qan G.size);(first | exact qaf _ | exact G.size | exact H.size | exact qa9 _ | exact qan G.size);omega;(refine Z4.o _ _ ?_;((try with_reducible refine zdrew ?_);first | (refine qM _ _ _ ?_;((try simp only [qaa]) <;> omega)) | (refine Z3.o _ _ ?_;((try with_reducible refine zdrew ?_);first | (refine qM _ _ _ ?_;((try simp only [qaa]) <;> omega)) | (refine (qL _ _ _ ?_).trans ?_;((try simp only [qaa]);omega);(refine qM _ _ _ ?_;((try simp only) <;> omega))))) | (refine (qL _ _ _ ?_).trans ?_;((try simp only [qaa]);omega);(first | (refine qM _ _ _ ?_;((try simp only) <;> omega)) | (refine Z3.o _ _ ?_;((try with_reducible refine zdrew ?_);first | (refine qM _ _ _ ?_;((try simp only) <;> omega)) | (refine (qL _ _ _ ?_).trans ?_;((try simp only [qaa,F]);omega);(refine qM _ _ _ ?_;((try simp only [qaa,F]) <;> omega))))))) | (refine (qL _ _ _ ?_).trans ?_;((try simp only [qaa,F]);omega);refine (qL _ _ _ ?_).trans ?_;((try simp only [qaa,F]);omega);(refine Z3.o _ _ ?_;((try with_reducible refine zdrew ?_);first | (refine qM _ _ _ ?_;((try simp only [qaa,F]) <;> omega)) | (refine (qL _ _ _ ?_).trans ?_;((try simp only [qaa,F]);omega);(refine qM _ _ _ ?_;((try simp only [qaa,F]) <;> omega))))))));(refine Z4.o _ _ ?_;((try with_reducible refine zdrew ?_);first | (refine qM _ _ _ ?_;((try simp only [qaa]) <;> omega)) | (refine Z3.o _ _ ?_;((try with_reducible refine zdrew ?_);first | (refine qM _ _ _ ?_;((try simp only [qaa]) <;> omega)) | (refine (qL _ _ _ ?_).trans ?_;((try simp only [qaa]);omega);(refine qM _ _ _ ?_;((try simp only) <;> omega))))) | (refine (qL _ _ _ ?_).trans ?_;((try simp only [qaa]);omega);(first | (refine qM _ _ _ ?_;((try simp only) <;> omega)) | (refine Z3.o _ _ ?_;((try with_reducible refine zdrew ?_);first | (refine qM _ _ _ ?_;((try simp only) <;> omega)) | (refine (qL _ _ _ ?_).trans ?_;((try simp only [qaa,F]);omega);(refine qM _ _ _ ?_;((try simp only [qaa,F]) <;> omega))))))) | (refine (qL _ _ _ ?_).trans ?_;((try simp only [qaa,F]);omega);refine (qL _ _ _ ?_).trans ?_;((try simp only [qaa,F]);omega);(refine Z3.o _ _ ?_;((try with_reducible refine zdrew ?_);first | (refine qM _ _ _ ?_;((try simp only [qaa,F]) <;> omega)) | (refine (qL _ _ _ ?_).trans ?_;((try simp only [qaa,F]);omega);(refine qM _ _ _ ?_;((try simp only [qaa,F]) <;> omega)))))))))
   case rest =>
    obtain⟨g3,g4,a3,n3,c3,b3,a4,n4,c4,b4,rfl,rfl,h3,h4,aJ,aK,hb,l3,l4⟩:=hcut;dsimp only at h3 h4 aJ aK;have lr:=(qG hI.o.2.1.1).1;have bz:g3≠w.heap.size+1:=by omega
    have bA:g4≠w.heap.size+1:=by omega
    have ay:w.heap.size≠w.heap.size+1:=by omega
    have aA:=(hb.block _ (qG hI.o.2.2.2).1).trans hI.o.2.2.2;have bR:∀W,wc.grownBy W (some (w.heap.size+1))->W.cell? ⟨g3,0,none⟩=some (.slice a3 n3 c3):=fun W h=>qcG h h3 bz 0
    have bS:∀W,wc.grownBy W (some (w.heap.size+1))->W.cell? ⟨g3,1,none⟩=some (.bool b3):=fun W h=>qcG h h3 bz 1
    have bT:∀W,wc.grownBy W (some (w.heap.size+1))->W.cell? ⟨g4,0,none⟩=some (.slice a4 n4 c4):=fun W h=>qcG h h4 bA 0
    have bU:∀W,wc.grownBy W (some (w.heap.size+1))->W.cell? ⟨g4,1,none⟩=some (.bool b4):=fun W h=>qcG h h4 bA 1
    have bP:∀W,wc.grownBy W (some (w.heap.size+1))->W.cell? ⟨w.heap.size,0,none⟩=some (.slice a0 n0 c0):=fun W h=>qcG h aA ay 0
    have bQ:∀W,wc.grownBy W (some (w.heap.size+1))->W.cell? ⟨w.heap.size,1,none⟩=some (.bool b0):=fun W h=>qcG h aA ay 1
    have aF:=hB.o.trans (hb.mono hB.o.size);have bv:=J.o.2.2.2.2.2.2.1.below (W':=wc) (aF.mono (by omega));have hP:=J.o.2.2.2.2.1 j V;have ax:=(J.o.2.2.2.2.2.1 I hc).mul (J.o.2.2.2.2.1 j V);have aH:=(J.o.2.2.2.2.1 I hc).mul (J.o.2.2.2.2.2.1 j V);rw [<-qaE] at ax aH;have aG:Fit (-(U I*O j)).natAbs (K+K):=by rw [qbv];exact aH
    have bn:Fit (O I*U j + -(U I*O j)).natAbs (K+K+1):=(ax.add aG).le (Int.natAbs_add_le _ _);have HA:=qH (fun W (h:Below wc.heap.size wc W)=>(qdv .l) (U I*O j) _ W (aK.below h));have HS:=qH (fun W (u:Value) (h:Below wc.heap.size wc W) (hu:IntAt W u (-(U I*O j)))=>(qc5 .l) (O I*U j) (-(U I*O j)) (K+K) (by omega) _ u W (aJ.below h) hu ax aG);have HQ:=qH (fun W (u:Value) (h:Below wc.heap.size wc W) (hu:IntAt W u (O I*U j + -(U I*O j)))=>qge (O I*U j + -(U I*O j)) z0 (K+K+1) (by omega) u _ W hu (bv.below h) bn (J.o.2.2.2.2.2.2.2.1.mono (by omega)) bO);have ag:=qH (qA (hI.o.2.1.below hb) (qA (hI.o.2.2.1.below hb) (qA aA aF)));have au:Below wc.heap.size wc wc:=Below.refl _ _;have aa:Below wc.heap.size wc wc.drew:=au.drew;clear h3 h4 aJ aK hb aA aF bv hP ax aH aG bn ah aC aB bE bF bG bH bI bJ bK bL aR aS;go_wp2_with fail
    go_region_held3 (fun W=>wc.grownBy W (some (w.heap.size+1))) (first | with_reducible exact qcA _ _ | with_reducible exact qbX _ aa | with_reducible exact qbX _ Y | with_reducible exact qbX _ af | with_reducible exact qbX _ ae | with_reducible exact qbX _ Y.drew | with_reducible exact qbX _ af.drew | with_reducible exact qbX _ ae.drew | exact qbR (qbR (qbX _ Y) (qbP _ _ _ _)) (qbP _ _ _ _) | exact qbR (qbR (qbX _ Y.drew) (qbP _ _ _ _)) (qbP _ _ _ _)) (first | (go_at_call 156;refine (HA.o _ (by first | with_reducible exact au | with_reducible exact aa)).mono ?_;rintro e w5 ⟨p5,rfl,aX,aO⟩;have ae:Below wc.heap.size wc w5:=bjoin (by first | with_reducible exact au | with_reducible exact aa) aX;obtain⟨a7,n7,c7,b7,rfl⟩:=qbO aO;have G5:=qH aO;clear aX aO) | (go_at_call 154;refine (HS.o _ _ (by first | with_reducible exact ae | with_reducible exact ae.drew) (by first | exact G5.o | exact G5.o.below qB.drew)).mono ?_;rintro e w6 ⟨p6,rfl,aY,aP⟩;have af:Below wc.heap.size wc w6:=bjoin (by first | with_reducible exact ae | with_reducible exact ae.drew) aY;obtain⟨a8,n8,c8,b8,rfl⟩:=qbO aP;have G6:=qH aP;clear aY aP) | (go_at_call 266;refine (HQ.o _ _ (by first | with_reducible exact af | with_reducible exact af.drew) (by first | exact G6.o | exact G6.o.below qB.drew)).mono ?_;rintro e w7 ⟨p7,rfl,aZ,az⟩;have Y:Below wc.heap.size wc w7:=bjoin (by first | with_reducible exact af | with_reducible exact af.drew) aZ;obtain⟨a9,n9,c9,b9,rfl⟩:=qbO az;have G7:=qH az;have R7:=ag.o.1.below Y;have aT:=hI.o.1;have aU:=R7.at (by omega);rw [aT] at aU;obtain⟨⟨cu,cz⟩,aQ⟩:=aU;have cB:=aQ (j*2);have cK:=aQ (j*2+1);have av:=qH (qA (qj9 R7 (ag.o.2.1.below Y) hI.o.1 V (a:=a9) (m:=n9) (c:=c9) (b:=b9) (by rw [Int.sub_eq_add_neg];exact az)) (qA ((qW (w7.setCell ⟨w.heap.size+1,j*2,none⟩ (.slice a9 n9 c9)) ⟨w.heap.size+1,j*2+1,none⟩ (.bool b9) w.heap.size ay).trans ((qW w7 ⟨w.heap.size+1,j*2,none⟩ (.slice a9 n9 c9) w.heap.size ay).trans ((Y.block _ (qG ag.o.2.2.1).1).trans ag.o.2.2.1))) (((ag.o.2.2.2.trans (Y.mono ag.o.2.2.2.size)).setCell (p:=⟨w.heap.size+1,j*2,none⟩) (by show w.heap.size<=w.heap.size+1;omega) (.slice a9 n9 c9)).setCell (p:=⟨w.heap.size+1,j*2+1,none⟩) (by show w.heap.size<=w.heap.size+1;omega) (.bool b9))));clear aZ az R7 aT aQ))
    all_goals go_wp2_with fail
    all_goals go_roundw
    case rel=>exact⟨j+1,_,V,by go_num,qH ⟨by rw [qae,hI.o.1];rfl,av.o.1.1,av.o.1.2,av.o.2.1⟩,qH av.o.2.2⟩
    case measure=>simp [intOf];omega
  ·obtain rfl:j=n:=by omega
   go_wp2;go_ret;exact⟨_,rs,rfl,qa9 _,hB.o,hI.o.1,hI.o.2.1,hI.o.2.2.1⟩
abbrev zi0:Value:=.agg #[.slice none 0 0,.bool false]
def isum (t:Nat->Int):Nat->Int
 | 0=>0
 | n+1=>isum t n+t n
theorem qe4 (t:Nat->Int) (K:Nat):∀k,(∀j,j<k->Fit (t j).natAbs K)->Fit (isum t k).natAbs (K+k+1)
 | 0,_=>Nat.pow_pos (by decide)
 | k+1,h=>by
  have F:=qe4 t K k (fun j H=>h j (by omega));have G:=(h k (by omega)).mono (show K<=K+k+1 by omega);exact (F.add G).le (Int.natAbs_add_le _ _)
theorem qiK {w wr F:World} {V a9:Option Addr} {n1 c1 I H:Nat} {Y G:Bool} {z:Int} {o:Obj} (J:IntAt F (.agg #[.slice a9 I H,.bool G]) z) (z3:F.heap[w.heap.size+1+1]? = some (.cells #[.slice V n1 c1,.bool Y] 217 (0,0))) (U:Below (w.heap.size+1+1) wr F) (hz:wr.heap[w.heap.size+1]? = some o) (Z:Below w.heap.size w wr) :
  ((F.setCell ⟨w.heap.size+1+1,0,none⟩ (.slice a9 I H)).setCell ⟨w.heap.size+1+1,1,none⟩ (.bool G)).heap[w.heap.size+1+1]? = some (.cells #[.slice a9 I H,.bool G] 217 (0,0)) /\
   IntAt ((F.setCell ⟨w.heap.size+1+1,0,none⟩ (.slice a9 I H)).setCell ⟨w.heap.size+1+1,1,none⟩ (.bool G)) (.agg #[.slice a9 I H,.bool G]) z /\
   ((F.setCell ⟨w.heap.size+1+1,0,none⟩ (.slice a9 I H)).setCell ⟨w.heap.size+1+1,1,none⟩ (.bool G)).heap[w.heap.size+1]? = some o /\
   Below w.heap.size w ((F.setCell ⟨w.heap.size+1+1,0,none⟩ (.slice a9 I H)).setCell ⟨w.heap.size+1+1,1,none⟩ (.bool G)):=by
 have hne:w.heap.size+1≠w.heap.size+1+1:=by omega
 refine⟨heap_setCell_same _ _ 1 _ _ _ (heap_setCell_same _ _ 0 _ _ _ z3),?_,(qW _ ⟨_,1,none⟩ _ _ hne).trans ((qW _ ⟨_,0,none⟩ _ _ hne).trans ((U.block _ (by omega)).trans hz)),((Z.trans (U.mono (by omega))).setCell (p:=⟨_,0,none⟩) (by show w.heap.size<=w.heap.size+1+1;omega) _).setCell (p:=⟨_,1,none⟩) (by show w.heap.size<=w.heap.size+1+1;omega) _⟩;obtain⟨m,e,hg⟩:=J;refine⟨m,e,qcj hg (qbR (qbP F _ 0 _) (qbP _ _ 1 _)) z3 ?_⟩;intro x O d;rcases qaz.1 O with rfl | O
 ·intro h;cases h
 ·rw [qao.1 O];intro h;cases h
theorem qkZ (n:Nat) (p1 p2:Value) (t:Nat->Int) (K:Nat) (hK:K<=34359738368) (w:World) (hn:n<=64)
  (H:∀W (j:Nat),j<n->Below w.heap.size w W->Calls prog 152 #[.int .i64 j,p1,p2] W fun e W'=>∃u,e=.returned u/\Below W.heap.size W W'/\IntAt W' u (t j)) (V:∀j,j<n->Fit (t j).natAbs K) :
  Calls prog 151 #[.int .i64 n,zi0,.func (.func 152) #[] #[p1,p2],.func (.func 154) #[] #[]] w fun e w'=>∃u,e=.returned u/\Below w.heap.size w w'/\IntAt w' u (isum t n):=by
 have HT:=qH H;have HF:=qH V;have au:=qeW;clear H V;go_enter func151,ntmps151;go_wp2_with fail
 go_loopw [13] (fun x13 W=>∃(k:Nat) (a:Option Addr) (m c:Nat) (b:Bool),k<=n/\x13=.int .i64 k/\Hu (W.heap[w.heap.size+1+1]? = some (.cells #[.slice a m c,.bool b] 217 (0,0))/\IntAt W (.agg #[.slice a m c,.bool b]) (isum t k)/\W.heap[w.heap.size+1]? = some (.cells #[.slice none 0 0,.bool false] 217 (0,0)))/\Hu (Below w.heap.size w W)) (fun x13 _=>n-(intOf x13).toNat)
 case atStart =>
  refine⟨0,none,0,0,false,qam _,rfl,qH ⟨qM _ _ _ (by simp),?_,(qL _ _ _ (by simp)).trans (qM _ _ _ (by simp))⟩,qH (qbN (qbN (qbN qB qN) qN) qN)⟩;exact⟨_,rfl,MagAt.nil _⟩
 case round =>
  obtain⟨k,a1,n1,c1,b1,hk,rfl,I,hB⟩:=hrel
  by_cases ae:k<n
  ·have av:(k:Int)<n:=by omega
   have e0:=qC wr _ 0 _ _ _ I.o.1;have e1:=qC wr _ 1 _ _ _ I.o.1;have ak:Below (w.heap.size+1+1) wr wr:=Below.refl _ _;have Y:Below (w.heap.size+1+1) wr wr.drew:=ak.drew;have ai:=(qG I.o.1).1;have O:=qH ai;clear ai;have ah:=qH (qA (qe4 t K k (fun j hj=>HF.o j (by omega))) ((HF.o k ae).mono (show K<=K+k+1 by omega)));go_wp2_with fail
   go_region_with (first | (go_at_call 154;refine ((qc5 .l) (isum t k) (t k) (K+k+1) (by omega) _ _ _ (by first | exact F.o.1 | exact F.o.1.below qB.drew) (by first | exact F.o.2.1 | exact F.o.2.1.below qB.drew) ah.o.1 ah.o.2).mono ?_;rintro e w3 ⟨p3,rfl,aa,af⟩;have aj:Below (w.heap.size+1+1) wr w3:=Z.trans (aa.mono (qaj (qap O.o) Z.size));obtain⟨a9,n9,c9,b9,rfl⟩:=qbO af;have z3:=(aa.block _ (qai O.o Z.size)).trans F.o.2.2;have q0:=qC w3 _ 0 _ _ _ z3;have q1:=qC w3 _ 1 _ _ _ z3;have f0:=qF w3 _ 0 _ _ z3;have f1:=qF w3 _ 1 _ _ z3;have J:=qH (qiK af z3 aj I.o.2.2 hB.o);clear aa af z3) | (go_at_call 152;refine (HT.o _ k ae (hB.o.trans (Y.mono (by omega)))).mono ?_;rintro e w2 ⟨u2,rfl,U,ag⟩;have Z:Below (w.heap.size+1+1) wr w2:=Y.trans (U.mono (qap O.o));have z2:w2.heap[w.heap.size+1+1]? = some (.cells #[.slice a1 n1 c1,.bool b1] 217 (0,0)):=(U.block _ O.o).trans I.o.1;have g0:=qC w2 _ 0 _ _ _ z2;have g1:=qC w2 _ 1 _ _ _ z2;obtain⟨a2,n2,c2,b2,rfl⟩:=qbO ag;have F:=qH (qA (I.o.2.1.below (W':=w2) ((Below.refl wr.heap.size wr).drew.trans U)) (qA ag z2));clear U ag z2))
   all_goals go_wp2_with fail
   all_goals go_roundw
   all_goals first
    | exact⟨k+1,a9,n9,c9,b9,ae,by go_num,qH ⟨J.o.1,J.o.2.1,J.o.2.2.1⟩,qH J.o.2.2.2⟩
    | (simp [intOf];omega)
  ·obtain rfl:k=n:=by omega
   have e0:=qC wr _ 0 _ _ _ I.o.1;have e1:=qC wr _ 1 _ _ _ I.o.1;have G:=I.o.2.2;have HR:=qH (qA G (qA (qS hB.o (show w.heap.size<=w.heap.size+1 by omega) #[.slice a1 n1 c1,.bool b1]) (qcT (cs':=#[.slice a1 n1 c1,.bool b1]) I.o.2.1 G qeP)));clear G
   go_wp2_with (with_reducible refine sR_ rfl 217 _ _ rfl (w.heap.size+1) #[.slice a1 n1 c1,.bool b1] HR.o.1 2 ?_)
   exact qR (v:=.agg #[.slice a1 n1 c1,.bool b1]) (rA_ rfl (w.heap.size+1) (qT _ _ _ _ _ _ HR.o.1) underlying217 2) rfl ⟨_,rfl,HR.o.2.1,HR.o.2.2⟩
theorem qhN (n:Nat) (y1 y2 y3 y4:Value) (t:Nat->Int) (K:Nat) (hK:K<=34359738368) (w:World) (hn:n<=64)
  (H:∀W (j:Nat),j<n->Below w.heap.size w W->Calls prog 239 #[.int .i64 j,y1,y2,y3,y4] W fun e W'=>∃u,e=.returned u/\Below W.heap.size W W'/\IntAt W' u (t j)) (V:∀j,j<n->Fit (t j).natAbs K) :
  Calls prog 151 #[.int .i64 n,zi0,.func (.func 239) #[] #[y1,y2,y3,y4],.func (.func 154) #[] #[]] w fun e w'=>∃u,e=.returned u/\Below w.heap.size w w'/\IntAt w' u (isum t n):=by
 have HT:=qH H;have HF:=qH V;have au:=qeW;clear H V;go_enter func151,ntmps151;go_wp2_with fail
 go_loopw [13] (fun x13 W=>∃(k:Nat) (a:Option Addr) (m c:Nat) (b:Bool),k<=n/\x13=.int .i64 k/\Hu (W.heap[w.heap.size+1+1]? = some (.cells #[.slice a m c,.bool b] 217 (0,0))/\IntAt W (.agg #[.slice a m c,.bool b]) (isum t k)/\W.heap[w.heap.size+1]? = some (.cells #[.slice none 0 0,.bool false] 217 (0,0)))/\Hu (Below w.heap.size w W)) (fun x13 _=>n-(intOf x13).toNat)
 case atStart =>
  refine⟨0,none,0,0,false,qam _,rfl,qH ⟨qM _ _ _ (by simp),?_,(qL _ _ _ (by simp)).trans (qM _ _ _ (by simp))⟩,qH (qbN (qbN (qbN qB qN) qN) qN)⟩;exact⟨_,rfl,MagAt.nil _⟩
 case round =>
  obtain⟨k,a1,n1,c1,b1,hk,rfl,I,hB⟩:=hrel
  by_cases ae:k<n
  ·have av:(k:Int)<n:=by omega
   have e0:=qC wr _ 0 _ _ _ I.o.1;have e1:=qC wr _ 1 _ _ _ I.o.1;have ak:Below (w.heap.size+1+1) wr wr:=Below.refl _ _;have Y:Below (w.heap.size+1+1) wr wr.drew:=ak.drew;have ai:=(qG I.o.1).1;have O:=qH ai;clear ai;have ah:=qH (qA (qe4 t K k (fun j hj=>HF.o j (by omega))) ((HF.o k ae).mono (show K<=K+k+1 by omega)));go_wp2_with fail
   go_region_with (first | (go_at_call 154;refine ((qc5 .l) (isum t k) (t k) (K+k+1) (by omega) _ _ _ (by first | exact F.o.1 | exact F.o.1.below qB.drew) (by first | exact F.o.2.1 | exact F.o.2.1.below qB.drew) ah.o.1 ah.o.2).mono ?_;rintro e w3 ⟨p3,rfl,aa,af⟩;have aj:Below (w.heap.size+1+1) wr w3:=Z.trans (aa.mono (qaj (qap O.o) Z.size));obtain⟨a9,n9,c9,b9,rfl⟩:=qbO af;have z3:=(aa.block _ (qai O.o Z.size)).trans F.o.2.2;have q0:=qC w3 _ 0 _ _ _ z3;have q1:=qC w3 _ 1 _ _ _ z3;have f0:=qF w3 _ 0 _ _ z3;have f1:=qF w3 _ 1 _ _ z3;have J:=qH (qiK af z3 aj I.o.2.2 hB.o);clear aa af z3) | (go_at_call 239;refine (HT.o _ k ae (hB.o.trans (Y.mono (by omega)))).mono ?_;rintro e w2 ⟨u2,rfl,U,ag⟩;have Z:Below (w.heap.size+1+1) wr w2:=Y.trans (U.mono (qap O.o));have z2:w2.heap[w.heap.size+1+1]? = some (.cells #[.slice a1 n1 c1,.bool b1] 217 (0,0)):=(U.block _ O.o).trans I.o.1;have g0:=qC w2 _ 0 _ _ _ z2;have g1:=qC w2 _ 1 _ _ _ z2;obtain⟨a2,n2,c2,b2,rfl⟩:=qbO ag;have F:=qH (qA (I.o.2.1.below (W':=w2) ((Below.refl wr.heap.size wr).drew.trans U)) (qA ag z2));clear U ag z2))
   all_goals go_wp2_with fail
   all_goals go_roundw
   all_goals first
    | exact⟨k+1,a9,n9,c9,b9,ae,by go_num,qH ⟨J.o.1,J.o.2.1,J.o.2.2.1⟩,qH J.o.2.2.2⟩
    | (simp [intOf];omega)
  ·obtain rfl:k=n:=by omega
   have e0:=qC wr _ 0 _ _ _ I.o.1;have e1:=qC wr _ 1 _ _ _ I.o.1;have G:=I.o.2.2;have HR:=qH (qA G (qA (qS hB.o (show w.heap.size<=w.heap.size+1 by omega) #[.slice a1 n1 c1,.bool b1]) (qcT (cs':=#[.slice a1 n1 c1,.bool b1]) I.o.2.1 G qeP)));clear G
   go_wp2_with (with_reducible refine sR_ rfl 217 _ _ rfl (w.heap.size+1) #[.slice a1 n1 c1,.bool b1] HR.o.1 2 ?_)
   exact qR (v:=.agg #[.slice a1 n1 c1,.bool b1]) (rA_ rfl (w.heap.size+1) (qT _ _ _ _ _ _ HR.o.1) underlying217 2) rfl ⟨_,rfl,HR.o.2.1,HR.o.2.2⟩
abbrev rowv (g n:Nat):Value:=.slice (some ⟨g,0,none⟩) n n
def rowvs (R n:Nat) (F:Nat->Nat):List Value:=(List.range R).map fun i=>rowv (F i) n
theorem qcu (R n:Nat) (F:Nat->Nat):(rowvs R n F).length=R:=by rw [rowvs,qay,qbl]
theorem qdQ {R n i:Nat} {F:Nat->Nat} (G:i<R):(rowvs R n F)[i]? = some (rowv (F i) n):=by
 rw [rowvs,qaL,qby G];rfl
theorem qmE {R n i:Nat} {G:Nat->Nat} (g:Nat):(rowvs R n G).set i (rowv g n)=rowvs R n (fun j=>if j=i then g else G j):=by
 apply List.ext_getElem?;intro j
 by_cases F:j<R
 ·rw [qdQ F,List.getElem?_set]
  by_cases e:i=j
  ·subst e;rw [if_pos rfl,if_pos (by rw [qcu];exact F),if_pos rfl]
  ·rw [if_neg e,qdQ F,if_neg (fun h=>e h.symm)]
 ·rw [qaX (by rw [qbb,qcu];omega),qaX (by rw [qcu];omega)]
def qca (W:World) (g n:Nat) (m:Nat->Int):Prop:=∃F:List (Value×Bool),F.length=n/\IRow W g n F/\qcf W F m
theorem qca.below {W W':World} {g n:Nat} {m:Nat->Int} (h:qca W g n m) (F:Below W.heap.size W W'):qca W' g n m:=by
 obtain⟨ps,G,H,I⟩:=h;exact⟨ps,G,H.below F,I.below F⟩
theorem qca.cells {W:World} {g n:Nat} {F:List (Value×Bool)} (I:F.length=n) (G:IRow W g n F):qgM W g n F:=by
 intro k J;have H:(F++List.replicate (n-F.length) (zs0,false))[k]? = some (F.getD k (zs0,false)):=by
  rw [qav (by omega),qab,qad (by omega)];rfl
 obtain⟨e1,e2⟩:=qe2 _ _ _ H;exact⟨(qC _ _ _ _ _ _ G.1).trans ((qaA ..).trans e1),(qC _ _ _ _ _ _ G.1).trans ((qaA ..).trans e2)⟩
structure MatAt (W:World) (tb R n:Nat) (gs:Nat->Nat) (M:Nat->Nat->Int):Prop where
 row:W.heap[tb]? = some (.cells (rowvs R n gs).toArray 212 (0,0))
 rows:∀i,i<R->qca W (gs i) n (M i)
theorem MatAt.below {W W':World} {H R n:Nat} {F:Nat->Nat} {M:Nat->Nat->Int} (h:MatAt W H R n F M) (G:Below W.heap.size W W'):MatAt W' H R n F M :=
 ⟨(G.block _ (qG h.row).1).trans h.row,fun i I=>(h.rows i I).below G⟩
theorem MatAt.cell {W:World} {F R n:Nat} {G:Nat->Nat} {M:Nat->Nat->Int} (h:MatAt W F R n G M) {i:Nat} (H:i<R):W.cell? ⟨F,i,none⟩=some (rowv (G i) n)/\W.frozen? ⟨F,i,none⟩=false :=
 ⟨(qC _ _ _ _ _ _ h.row).trans ((qaA ..).trans (qdQ H)),qF _ _ _ _ _ h.row⟩
theorem qgr {R n:Nat} {F:Nat->Nat}:∀x∈(rowvs R n F).toArray.toList,∀d,x≠.int .u32 d:=by
 intro x G d e;obtain⟨i,_,h⟩:=qbo.1 (show x∈rowvs R n F from G);rw [e] at h;cases h
theorem qca.keep {W W':World} {G R n g J:Nat} {O:Nat->Nat} {m:Nat->Int} (h:qca W g J m) (H:W.grownBy W' (some G)) (I:W.heap[G]? = some (.cells (rowvs R n O).toArray 212 (0,0))):qca W' g J m:=by
 obtain⟨ps,U,F,V⟩:=h;have hne:g≠G:=by
  intro e;subst e;have:=F.1.symm.trans I;simp at this
 exact⟨ps,U,⟨(H.block _ (qG F.1).1 (fun e=>hne (qag e))).trans F.1,F.2⟩,V.keep H I qgr⟩
theorem MatAt.set {W:World} {F R n:Nat} {G:Nat->Nat} {M:Nat->Nat->Int} (h:MatAt W F R n G M) (i g:Nat) (m:Nat->Int) (hg:qca W g n m) :
  MatAt (W.setCell ⟨F,i,none⟩ (rowv g n)) F R n (fun j=>if j=i then g else G j) (fun j=>if j=i then m else M j):=by
 have H:=qbP W F i (rowv g n);refine⟨?_,fun j I=>?_⟩
 ·rw [heap_setCell_same _ F i _ _ _ h.row,qaI,qmE]
 ·by_cases e:j=i
  ·simp only [if_pos e];exact hg.keep H h.row
  ·simp only [if_neg e];exact (h.rows j I).keep H h.row
theorem MatAt.congr {W:World} {J R n:Nat} {I F:Nat->Nat} {M H:Nat->Nat->Int} (h:MatAt W J R n I M) (hg:∀i,i<R->I i=F i) (O:∀i,i<R->M i=H i):MatAt W J R n F H:=by
 refine⟨?_,fun i G=>by rw [<-hg i G,<-O i G];exact h.rows i G⟩;rw [h.row]
 congr 3
 exact List.map_congr_left fun i G=>by rw [hg i (qat.1 G)]
def PivAs (w:World) (G R n k c:Nat) (F:Nat->Nat) (M:Nat->Nat->Int) (e:Ending) (w':World):Prop :=
 (e=.returned (.bool false)/\w'=w/\∀i,k<=i->i<R->M i c=0) \/
 (e=.returned (.bool true)/\w.grownBy w' (some G)/\∃a,k<=a/\a<R/\M a c≠0/\MatAt w' G R n (fun j=>if j=k then F a else if j=a then F k else F j) (fun j=>if j=k then M a else if j=a then M k else M j))
theorem qmv (tb R n k c:Nat) (H:Nat->Nat) (M:Nat->Nat->Int) (w:World) (hR:R<=1024) (Z:k<R) (hc:c<n) (_hn:n<=1024) (hM:MatAt w tb R n H M) :
  Calls prog 255 #[.slice (some ⟨tb,0,none⟩) R R,.int .i64 k,.int .i64 c] w fun e w'=>PivAs w tb R n k c H M e w':=by
 have G:=qH hM;have ai:(k:Int)<R:=by omega
 have af:(c:Int)<n:=by omega
 clear hM;go_enter func255,ntmps255;go_wp2
 go_step3
 go_wp2
 go_step3
 go_wp2
 go_loopw [7,8] (fun x7 x8 W=>∃i:Nat,k<=i/\i<=R/\x7=.int .i64 (-1)/\x8=.int .i64 i/\W=w/\Hu (∀j,k<=j->j<i->M j c=0)) (fun _ x8 _=>R-(intOf x8).toNat)
 case atStart=>exact⟨k,qaf _,qap Z,rfl,rfl,rfl,qH (fun j I Y=>absurd I (by omega))⟩
 case round =>
  obtain⟨i,aa,ag,rfl,rfl,rfl,hI⟩:=hrel
  by_cases J:i<R
  ·have ah:(i:Int)<R:=by omega
   obtain⟨ps,U,F,O⟩:=G.o.rows i J;obtain⟨c0,f0⟩:=G.o.cell J;obtain⟨d0,d1⟩:=qca.cells U F c hc;obtain⟨I,Y⟩:=O c (by omega);have hz:=(qcq .l) (M i c).natAbs _ wr Y;have HZ:=qH hz;obtain⟨a,_,_,cc,m,_,e,_,_⟩:=Y;rw [e] at d0;rw [e] at HZ;clear hz e d1 I U F O;go_wp2_with fail;refine HZ.o.mono ?_;rintro e w2 ⟨rfl,ae⟩;subst ae
   by_cases V:(M i c).natAbs=0
   ·rw [qV V];go_wp2;go_roundw
    case rel =>
     refine⟨i+1,by omega,J,rfl,by go_num,trivial,qH (fun j I Y=>?_)⟩
     by_cases e:j=i
     ·subst e;omega
     ·exact hI.o j I (by omega)
    case measure=>simp [intOf];omega
   ·rw [qU V];obtain⟨c1,f1⟩:=G.o.cell Z;have m1:=G.o.set i (H k) (M k) (G.o.rows k Z);have m2:=m1.set k (H i) (M i) ((G.o.rows i J).keep (qbP w2 tb i (rowv (H k) n)) G.o.row);obtain⟨c2,f2⟩:=m1.cell Z;have H2:=qH m2;have H0:=qH V;clear m1 m2 V hR;go_wp2_with fail
    go_region
    all_goals go_wp2_with fail
    all_goals rw [Exit.noGoto_ret]
    all_goals go_ret
    all_goals exact qak ⟨rfl,qcd (qbR (qbP _ _ _ _) (qbP _ _ _ _)) qB.drew,i,aa,J,fun h=>H0.o (by rw [h];rfl),H2.o.below qB.drew⟩
  ·obtain rfl:i=R:=by omega
   go_wp2_with fail;rw [Exit.noGoto_ret];go_ret;exact qaw ⟨rfl,rfl,hI.o⟩
def sumQ:Nat->(Nat->Rat)->Rat
 | 0,_=>0
 | n+1,f=>sumQ n f+f n
theorem qbQ:∀{n:Nat} {f g:Nat->Rat},(∀i,i<n->f i=g i)->sumQ n f=sumQ n g
 | 0,_,_,_=>rfl
 | n+1,f,g,h=>by
  show sumQ n f+f n=sumQ n g+g n
  rw [qbQ fun i F=>h i (by omega),h n (by omega)]
theorem qcv:∀(n:Nat) (f:Nat->Rat),(∀i,i<n->f i=0)->sumQ n f=0
 | 0,_,_=>rfl
 | n+1,f,h=>by
  show sumQ n f+f n=0
  rw [qcv n f fun i F=>h i (by omega),h n (by omega)];grind
theorem qc8:∀(n:Nat) (f g:Nat->Rat),sumQ n (fun i=>f i+g i)=sumQ n f+sumQ n g
 | 0,_,_=>by simp [sumQ];try grind
 | n+1,f,g=>by
  show sumQ n (fun i=>f i+g i)+(f n+g n)=sumQ n f+f n+(sumQ n g+g n)
  rw [qc8 n f g];grind
theorem qb1:∀(n:Nat) (a:Rat) (f:Nat->Rat),sumQ n (fun i=>a*f i)=a*sumQ n f
 | 0,a,_=>by simp [sumQ]
 | n+1,a,f=>by
  show sumQ n (fun i=>a*f i)+a*f n=a*(sumQ n f+f n)
  rw [qb1 n a f];grind
theorem qcX:∀(n m:Nat) (f:Nat->Nat->Rat),sumQ n (fun i=>sumQ m fun j=>f i j)=sumQ m fun j=>sumQ n fun i=>f i j
 | 0,m,f=>(qcv m _ fun _ _=>rfl).symm
 | n+1,m,f=>by
  show sumQ n (fun i=>sumQ m fun j=>f i j)+sumQ m (fun j=>f n j)=sumQ m fun j=>(sumQ n (fun i=>f i j)+f n j)
  rw [qcX n m f,qc8]
theorem qcY:∀(n k:Nat) (f:Nat->Rat),k<n->(∀i,i<n->i≠k->f i=0)->sumQ n f=f k
 | 0,k,_,h,_=>absurd h (by omega)
 | n+1,k,f,h,h0=>by
  show sumQ n f+f n=f k
  by_cases e:k=n
  ·subst e;rw [qcv k f fun i G=>h0 i (by omega) (by omega)];grind
  ·rw [qcY n k f (by omega) fun i G F=>h0 i (by omega) F,h0 n (by omega) (fun h=>e h.symm)];grind
theorem sumQ_two (n k l:Nat) (f:Nat->Rat) (O:k<n) (U:l<n) (H:k≠l) (I:∀i,i<n->i≠k->i≠l->f i=0):sumQ n f=f k+f l:=by
 have e:sumQ n f=sumQ n (fun i=>(if i=k then f i else 0)+(if i=k then 0 else f i)):=qbQ fun i _=>by split <;> grind
 rw [e,qc8,qcY n k _ O (fun i _ F=>if_neg F),qcY n l _ U (fun i J G=>by
  by_cases h:i=k
  ·rw [if_pos h]
  ·rw [if_neg h];exact I i J h G),if_pos rfl,if_neg (fun h=>H h.symm)]
theorem qel:∀(n m:Nat) (f:Nat->Rat),sumQ (n+m) f=sumQ n f+sumQ m fun i=>f (n+i)
 | n,0,f=>by simp [sumQ];try grind
 | n,m+1,f=>by
  show sumQ (n+m) f+f (n+m)=sumQ n f+(sumQ m (fun i=>f (n+i))+f (n+m))
  rw [qel n m f];grind
def Span (R n:Nat) (A:Nat->Nat->Rat) (v:Nat->Rat):Prop:=∃c:Nat->Rat,∀j,j<n->v j=sumQ R fun i=>c i*A i j
theorem Span.row {R n:Nat} {A:Nat->Nat->Rat} {i:Nat} (F:i<R):Span R n A (A i) :=
 ⟨fun k=>if k=i then 1 else 0,fun j _=>by
  rw [qcY R i _ F (fun k _ G=>by simp [G])];simp⟩
theorem Span.congr {R n:Nat} {A B:Nat->Nat->Rat} {v u:Nat->Rat} (h:Span R n A v) (G:∀i,i<R->∀j,j<n->A i j=B i j) (J:∀j,j<n->v j=u j):Span R n B u:=by
 obtain⟨c,H⟩:=h;exact⟨c,fun j F=>by rw [<-J j F,H j F];exact qbQ fun i I=>by rw [G i I j F]⟩
theorem Span.comb {R n:Nat} {A:Nat->Nat->Rat} {u v:Nat->Rat} (I:Span R n A u) (J:Span R n A v) (a b:Rat):Span R n A (fun j=>a*u j+b*v j):=by
 obtain⟨c,G⟩:=I;obtain⟨d,H⟩:=J;refine⟨fun i=>a*c i+b*d i,fun j F=>?_⟩
 show a*u j+b*v j=_
 rw [G j F,H j F,<-qb1,<-qb1,<-qc8];exact qbQ fun i _=>by grind
theorem Span.trans {R S n:Nat} {A B:Nat->Nat->Rat} {v:Nat->Rat} (h:Span R n A v) (I:∀i,i<R->Span S n B (A i)):Span S n B v:=by
 obtain⟨c,J⟩:=h;have:∀i,∃d:Nat->Rat,i<R->∀j,j<n->A i j=sumQ S fun k=>d k*B k j:=fun i=>by
  by_cases F:i<R
  ·obtain⟨d,O⟩:=I i F;exact⟨d,fun _=>O⟩
  ·exact⟨fun _=>0,fun h=>absurd h F⟩
 refine⟨fun k=>sumQ R fun i=>c i*(Classical.choose (this i)) k,fun j G=>?_⟩;rw [J j G];have H:sumQ S (fun k=>sumQ R (fun i=>c i*(Classical.choose (this i)) k)*B k j)=sumQ S fun k=>sumQ R fun i=>c i*((Classical.choose (this i)) k*B k j):=qbQ fun k _=>by
  rw [show sumQ R (fun i=>c i*(Classical.choose (this i)) k)*B k j=B k j*sumQ R (fun i=>c i*(Classical.choose (this i)) k) by grind,<-qb1];exact qbQ fun i _=>by grind
 rw [H,<-qcX];refine qbQ fun i F=>?_
 rw [qb1,Classical.choose_spec (this i) F j G]
def qcZ (R S n:Nat) (A B:Nat->Nat->Rat):Prop:=(∀i,i<R->Span S n B (A i))/\∀i,i<S->Span R n A (B i)
theorem qcZ.refl (R n:Nat) (A:Nat->Nat->Rat):qcZ R R n A A:=⟨fun _ F=>Span.row F,fun _ F=>Span.row F⟩
theorem qcZ.symm {R S n:Nat} {A B:Nat->Nat->Rat} (h:qcZ R S n A B):qcZ S R n B A:=⟨h.2,h.1⟩
theorem qcZ.trans {R S T n:Nat} {A B C:Nat->Nat->Rat} (h:qcZ R S n A B) (k:qcZ S T n B C):qcZ R T n A C :=
 ⟨fun i F=>(h.1 i F).trans k.1,fun i F=>(k.2 i F).trans h.2⟩
