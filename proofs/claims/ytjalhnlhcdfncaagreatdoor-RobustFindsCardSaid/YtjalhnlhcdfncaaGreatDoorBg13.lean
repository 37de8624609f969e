import Derived.Deep.DrawnRows
import Derived.Deep.RegionWith
import Derived.Test.YtjalhnlhcdfncaaGreatDoorBg12
set_option maxRecDepth 100000
set_option maxHeartbeats 0
namespace Go.Proofs.YtjalhnlhcdfncaaGreatDoor
open Go.RowKit Go.Proofs.Tryz
abbrev FT:=ByteArray×ByteArray
def fd0:FT:=(⟨#[]⟩,⟨#[]⟩)
structure FCells (W:World) (ao:Option Addr) (b off:Nat) (l:List FT):Prop where
 addr:0<l.length->ao=some ⟨b,off,none⟩
 cell:∀k,k<l.length->W.cell? ⟨b,off+k*2,none⟩=some (.string (l.getD k fd0).1)/\W.cell? ⟨b,off+k*2+1,none⟩=some (.string (l.getD k fd0).2)
theorem FCells.below {W W':World} {F:Option Addr} {b off:Nat} {l:List FT} (h:FCells W F b off l) (G:Below W.heap.size W W'):FCells W' F b off l :=
 ⟨h.addr,fun k E=>⟨(G.cell (qac W _ (h.cell k E).1)).trans (h.cell k E).1,(G.cell (qac W _ (h.cell k E).2)).trans (h.cell k E).2⟩⟩
def FAll (l:List FT):Prop:=∀k,k<l.length->FOk (l.getD k fd0).1.data.toList (l.getD k fd0).2.data.toList
def fden (x:FT):Nat:=(ival x.2.data.toList).natAbs
theorem infoM:(Tryz.prog.info? 213).map (fun i=>(i.zero,i.size,i.bytes))=some (some (.slice none 0 0),1,24):=by kernel_rfl
theorem qdB {l:List FT} (h:FAll l) {k:Nat} (E:k<l.length):0<fden (l.getD k fd0)/\Fit (fden (l.getD k fd0)) 67:=⟨(h k E).dpos,(h k E).vd.fit⟩
theorem qkX (l:List FT) (k:Nat) (E:k<l.length):(l.take (k+1)).map fden=(l.take k).map fden++[fden (l.getD k fd0)]:=by
 rw [List.take_add_one,qad E,qbc,qab,qad E];rfl
def flcd (l:List FT):Nat:=lcms (l.map fden)
def ftop (l:List FT) (k:Nat):Int:=ival (l.getD k fd0).1.data.toList*((flcd l / fden (l.getD k fd0):Nat):Int)
def qcd (W:World) (E:List (Value×Bool)) (z:Nat->Int):Prop:=∀k,k<E.length->(E.getD k (zs0,false)).2=decide (z k<0)/\MagAt W (E.getD k (zs0,false)).1 (z k).natAbs
theorem qcd.below {W W':World} {F:List (Value×Bool)} {z:Nat->Int} (h:qcd W F z) (G:Below W.heap.size W W'):qcd W' F z:=fun k E=>⟨(h k E).1,(h k E).2.below G⟩
theorem qcd.keep {W W':World} {g:Nat} {cs:Array Value} {t:TypeId} {G:Nat×Nat} {F:List (Value×Bool)} {z:Nat->Int} (h:qcd W F z) (H:W.grownBy W' (some g)) (hg:W.heap[g]? = some (.cells cs t G)) (hne:∀x∈cs.toList,∀d,x≠.int .u32 d):qcd W' F z :=
 fun k E=>⟨(h k E).1,qch (h k E).2 H hg hne⟩
theorem qcd.snoc {W:World} {E:List (Value×Bool)} {z:Nat->Int} {v:Value} (h:qcd W E z) (H:MagAt W v (z E.length).natAbs):qcd W (E++[(v,decide (z E.length<0))]) z:=by
 intro k G;rw [qae,qaC] at G
 by_cases F:k<E.length
 ·rw [qab,qax F,<-qab];exact h k F
 ·obtain rfl:k=E.length:=by omega
  rw [qab,qas qN,qaK];exact⟨rfl,H⟩
theorem qkv {P:Program} {O:Func} {p u:Tmp} {G:TypeId} (h:O.results=#[.tmp u,.cell p G]) (E:Array Value) (w:World) (g:Nat) (d:TypeDesc) (hu:P.underlying G=some d) (hd:(match d with | .struct _ | .array _ _=>true | _=>false)=false)
  (Z:E.getD p undef=.pointer (some ⟨g,0,none⟩)) (J v:Value) (U:E.getD u undef=J) (V:w.cell? ⟨g,0,none⟩=some v) :
  (results O E).run P w=.ok (.tuple #[J,v]) w:=by
 have F:(isAgg G).run P w=.ok false w:=by
  unfold isAgg;rw [Sem.run_bind,run_underlying hu w];cases d <;> simp_all
 have Y:(loadVar G ⟨g,0,none⟩).run P w=.ok v w:=by
  simp [loadVar,Sem.run_bind,F,V]
 have I:E[p]?.getD undef=.pointer (some ⟨g,0,none⟩):=by simpa using Z
 have H:E[u]?.getD undef=J:=by simpa using U
 simp [results,h,I,H,asAddr,Y,Result.andThen]
theorem qhV (ao:Option Addr) (b off n c:Nat) (l:List FT) (w:World) (hl:l.length=n) (hn:n<=64) (Z:FCells w ao b off l) (hf:FAll l) :
  Calls prog 147 #[.slice ao n c] w fun e w'=>∃g v ps,e=.returned (.tuple #[.slice (some ⟨g,0,none⟩) n n,v])/\w.heap.size<=g/\Below w.heap.size w w'/\MagAt w' v (flcd l)/\ps.length=n/\IRow w' g n ps/\qcd w' ps (ftop l):=by
 have bB:=run_make_row' (P:=prog) 286 213 (.slice none 0 0) 24 underlying286 infoM rfl .i64 .i64 n (by omega) (by omega);have HC:=qH (qA Z (qA hf hl));have bG:=qeP;clear Z hf hl;go_enter func147,ntmps147;go_wp2
 go_loopw [15] (fun x15 W=>∃(k:Nat) (vs:List Value),k<=n/\x15=.int .i64 k/\Hu (vs.length=k/\PRow W (w.heap.size+1) n vs/\qdb W vs ((l.take k).map fden)/\W.heap[w.heap.size]? = some (.cells #[zs0] 213 (0,0)))/\Hu (Below w.heap.size w W)) (fun x15 _=>n-(intOf x15).toNat)
 case atStart =>
  have h1:=PRow.made (w.alloc (.cells #[zs0] 213)) n;rw [qaa] at h1;exact⟨0,[],qan _,rfl,qH ⟨rfl,h1,⟨by simp,fun k hk=>absurd hk (by simp)⟩,(qL _ _ _ (by simp only [qaa];omega)).trans (qM _ _ _ rfl)⟩,qH (qbM (qbM qB qN) qN)⟩
 case round =>
  clear bB;obtain⟨k,vs,hk,rfl,O,hB⟩:=hrel
  by_cases bA:k<n
  ·have bI:(k:Int)<n:=by omega
   have aJ:k<l.length:=by have:=HC.o.2.2;omega
   have az:=HC.o.1.addr (by omega);subst az;have hc:=(HC.o.1.below hB.o).cell k aJ;have V:=HC.o.2.1 k aJ;have av:=qkX l k aJ;have aW:fden (l.getD k fd0)=(ival (l.getD k fd0).2.data.toList).natAbs:=rfl;rw [aW] at av;obtain⟨N,hN⟩:=qX ((l.getD k fd0).1);obtain⟨D,hD⟩:=qX ((l.getD k fd0).2);rw [hN,hD] at hc;rw [hD] at av V;obtain⟨aC,aD⟩:=hc;have HN:=qH (fun W=>(qb7 .l) D V.vd W);have HD:=qH av;clear V av aW hN hD;go_wp2_with fail;refine (HN.o _).mono ?_;rintro e G ⟨v2,rfl,aa,ax⟩;obtain⟨m2,rfl,aH⟩:=ax;have I:Below wr.heap.size wr G:=(qB.alloc qN _).trans (aa.mono (by simp only [qaa];omega));have ai:=O.o.2.1.below I;have ah:=ai.at (by have:=O.o.1;omega);rw [O.o.1] at ah;obtain⟨aQ,aR⟩:=ah;have F:=ai.set (by have:=O.o.1;omega) m2 (qiY aH);rw [O.o.1] at F;have aN:=(((O.o.2.2.1.below I).snoc aH).keep (qbO G (w.heap.size+1) k m2) ai.1 ai.nope);rw [<-HD.o] at aN;have ag:=(qW G ⟨w.heap.size+1,k,none⟩ m2 w.heap.size (by show w.heap.size≠w.heap.size+1;omega)).trans ((I.block _ (qG O.o.2.2.2).1).trans O.o.2.2.2);have aU:=(hB.o.trans (I.mono hB.o.size)).setCell (p:=⟨w.heap.size+1,k,none⟩) (by show w.heap.size<=w.heap.size+1;omega) m2;have H3:=qH (qA F (qA aN (qA ag aU)));obtain⟨s2,_,_,u2,t2,_,rfl,_,_⟩:=aH;clear aa I ai F aN ag aU aC aD;go_wp2;go_roundw
   case rel=>exact⟨k+1,_,bA,by go_num,qH ⟨by rw [qae,O.o.1];rfl,H3.o.1,H3.o.2.1,H3.o.2.2.1⟩,qH H3.o.2.2.2⟩
   case measure=>simp [intOf];omega
  ·obtain rfl:k=n:=by omega
   have bf:=HC.o.2.2;have aM:=O.o.2.2.1;rw [qal (by omega)] at aM;have bv:∀j,j<k->0<(l.map fden).getD j 0/\Fit ((l.map fden).getD j 0) 67:=by
    intro j hj;have e:(l.map fden).getD j 0=fden (l.getD j fd0):=by
     rw [qab,qaE,qab,qad (by omega)];rfl
    rw [e];exact qdB HC.o.2.1 (by omega)
   have aV:=qgF (some ⟨w.heap.size+1,0,none⟩) (w.heap.size+1) 0 k k vs (l.map fden) 67 wr (by rw [qay];exact bf) (O.o.2.1.cells O.o.1) aM bv (by omega) (by decide) (by omega);have aP:=qH aV;clear aV bv aM bf;go_wp2_with fail;refine aP.o.mono ?_;rintro e G ⟨v2,rfl,aa,ax⟩;obtain⟨W3,au⟩:=qY (G.setCell ⟨w.heap.size,0,none⟩ v2);have af:=(aa.block _ (qG O.o.2.2.2).1).trans O.o.2.2.2;have bD:=qC _ _ 0 _ _ _ af;have bE:=qF _ _ 0 _ _ af;have aK:=qch ax (qbO G w.heap.size 0 v2) af (by intro x hx d;rw [qao.1 hx];intro e;cases e);have ag:(G.setCell ⟨w.heap.size,0,none⟩ v2).heap[w.heap.size]? = some (.cells #[v2] 213 (0,0)):=heap_setCell_same G w.heap.size 0 _ _ v2 af;have aA:=(hB.o.trans (aa.mono hB.o.size)).setCell (p:=⟨w.heap.size,0,none⟩) qN v2;rw [<-au] at aK ag aA;have ay:Fit (flcd l) 4289:=by
    have:=qeZ (l.map fden) 67 (by
     intro j hj;have aY:j<l.length:=by rw [qay] at hj;exact hj
     have e:(l.map fden).getD j 0=fden (l.getD j fd0):=by
      rw [qab,qaE,qab,qad aY];rfl
     rw [e];exact qdB HC.o.2.1 aY) k (by rw [qay];have:=HC.o.2.2;omega)
    rw [qal (by rw [qay];have:=HC.o.2.2;omega)] at this;exact this.mono (by omega)
   have bq:=(qG af).1;have H3:=qH (qA aK (qA ag (qA aA ay)));have HS:=qH bq;obtain⟨s2,_,_,u2,t2,_,bC,_,_⟩:=ax;subst bC;have aL:=qfZ k (by omega) W3;clear aa af aK ag aA O hB aP ay bq;go_wp2_with fail;rw [<-au];have bu:W3.heap.size=G.heap.size:=by rw [au];exact qbs ..
   rw [bu] at aL;rw [aL];clear au;go_wp2_with fail
   go_loopw [36] (fun x36 W=>∃(j:Nat) (ps:List (Value×Bool)),j<=k/\x36=.int .i64 j/\Hu (ps.length=j/\IRow W G.heap.size k ps/\qcd W ps (ftop l)/\W.heap[w.heap.size]? = some (.cells #[.slice s2 t2 u2] 213 (0,0))/\MagAt W (.slice s2 t2 u2) (flcd l))/\Hu (Below w.heap.size w W)) (fun x36 _=>k-(intOf x36).toNat)
   case atStart =>
    have h0:=IRow.made W3 k;rw [bu] at h0;have aB:Below W3.heap.size W3 (W3.alloc (.cells (madeCells #[zs0,.bool false] (k*2)) 217)):=qbM qB qN;exact⟨0,[],qan _,rfl,qH ⟨rfl,h0,(fun i hi=>absurd hi (by simp)),(aB.block _ (qG H3.o.2.1).1).trans H3.o.2.1,H3.o.1.below aB⟩,qH (H3.o.2.2.1.trans (aB.mono H3.o.2.2.1.size))⟩
   case round =>
    clear aL;obtain⟨j,ps,hj,rfl,E,ak⟩:=hrel
    by_cases bz:j<k
    ·have bH:(j:Int)<k:=by omega
     have aZ:j<l.length:=by have:=HC.o.2.2;omega
     have az:=HC.o.1.addr (by omega);subst az;have hc:=(HC.o.1.below ak.o).cell j aZ;have V:=HC.o.2.1 j aZ;have aF:ftop l j=ival (l.getD j fd0).1.data.toList*((flcd l / (ival (l.getD j fd0).2.data.toList).natAbs:Nat):Int):=rfl;obtain⟨N,hN⟩:=qX ((l.getD j fd0).1);obtain⟨D,hD⟩:=qX ((l.getD j fd0).2);rw [hN,hD] at hc V aF;obtain⟨aC,aD⟩:=hc;have HW:=qH (qA V aF);clear V aF hN hD;go_wp2_with fail;have J:Below wr.heap.size wr (wr.alloc (.cells #[.string N,.string D] 27)):=qbM qB qN;refine (qmv N D HW.o.1 w.heap.size s2 t2 u2 (flcd l) 4289 (by omega) (by omega) _ ((J.block _ (qG E.o.2.2.2.1).1).trans E.o.2.2.2.1) (E.o.2.2.2.2.below J) H3.o.2.2.2).mono ?_;rintro e w5 ⟨v5,rfl,aS,aX⟩;rw [<-HW.o.2] at aX;have H:Below wr.heap.size wr w5:=J.trans (aS.mono J.size);have Y:=E.o.2.1.below H;have ae:=E.o.1;obtain⟨v6,rfl,aI⟩:=aX;have ah:=Y.at (by omega);rw [ae] at ah;obtain⟨⟨aQ,aR⟩,aG⟩:=ah;have bJ:=aG (j*2);have bK:=aG (j*2+1);have F:=Y.set (by omega) v6 (decide (ftop l j<0)) (qiY aI);rw [ae] at F;have U:=qbR (qbO w5 G.heap.size (j*2) v6) (qbO _ G.heap.size (j*2+1) (.bool (decide (ftop l j<0))));have aj:=((E.o.2.2.1.below H).snoc (by rw [ae];exact aI)).keep U Y.1 Y.nope;rw [ae] at aj;have hne:w.heap.size≠G.heap.size:=Nat.ne_of_lt HS.o;have bi:=(qW (w5.setCell ⟨G.heap.size,j*2,none⟩ v6) ⟨G.heap.size,j*2+1,none⟩ (.bool (decide (ftop l j<0))) w.heap.size hne).trans ((qW w5 ⟨G.heap.size,j*2,none⟩ v6 w.heap.size hne).trans ((H.block _ (qG E.o.2.2.2.1).1).trans E.o.2.2.2.1));have bg:=qch (E.o.2.2.2.2.below H) U Y.1 Y.nope;have aT:=((ak.o.trans (H.mono ak.o.size)).setCell (p:=⟨G.heap.size,j*2,none⟩) (qap HS.o) v6).setCell (p:=⟨G.heap.size,j*2+1,none⟩) (qap HS.o) (.bool (decide (ftop l j<0)));have H6:=qH (qA F (qA aj (qA bi (qA bg aT))));have HP:=qH ae;obtain⟨s6,_,_,u6,t6,_,rfl,_,_⟩:=aI;clear F aj bi bg aT U Y H aS J ae aG aC aD;go_wp2;go_roundw
     case rel=>exact⟨j+1,_,bz,by go_num,qH ⟨by rw [qae,HP.o];rfl,H6.o.1,H6.o.2.1,H6.o.2.2.1,H6.o.2.2.2.1⟩,qH H6.o.2.2.2.2⟩
     case measure=>simp [intOf];omega
    ·obtain rfl:j=k:=by omega
     have hne:G.heap.size≠w.heap.size:=qbi HS.o;have bn:=heap_setCell_same wr w.heap.size 0 _ _ (.slice s2 t2 u2) E.o.2.2.2.1;have U:=qbO wr w.heap.size 0 (.slice s2 t2 u2);have aO:∀x∈(#[.slice s2 t2 u2]:Array Value).toList,∀d,x≠.int .u32 d:=by intro x hx d;rw [qao.1 hx];intro e;cases e
     have HE:Hu (((wr.setCell ⟨w.heap.size,0,none⟩ (.slice s2 t2 u2)).drew).heap[w.heap.size]? = some (.cells #[.slice s2 t2 u2] 213 (0,0))/\qcd (wr.setCell ⟨w.heap.size,0,none⟩ (.slice s2 t2 u2)).drew ps (ftop l)/\MagAt (wr.setCell ⟨w.heap.size,0,none⟩ (.slice s2 t2 u2)).drew (.slice s2 t2 u2) (flcd l)/\Below w.heap.size w (wr.setCell ⟨w.heap.size,0,none⟩ (.slice s2 t2 u2)).drew/\ps.length=j/\IRow (wr.setCell ⟨w.heap.size,0,none⟩ (.slice s2 t2 u2)).drew G.heap.size j ps):=qH ⟨bn,(E.o.2.2.1.keep U E.o.2.2.2.1 aO).below qB.drew,(qch E.o.2.2.2.2 U E.o.2.2.2.1 aO).below qB.drew,(ak.o.setCell (p:=⟨w.heap.size,0,none⟩) qN _).drew,E.o.1,⟨(qW wr ⟨w.heap.size,0,none⟩ (.slice s2 t2 u2) G.heap.size hne).trans E.o.2.1.1,E.o.2.1.2⟩⟩;clear bn U aO hne;have bL:=qC _ _ 0 _ _ _ E.o.2.2.2.1;have bF:=qF _ _ 0 _ _ E.o.2.2.2.1;go_wp2_with fail
     go_region
     all_goals go_wp2_with fail
     all_goals refine qR (v:=.tuple #[.slice (some ⟨G.heap.size,0,none⟩) j j,.slice s2 t2 u2]) (qkv rfl _ _ w.heap.size _ underlying213 rfl rfl _ _ rfl (qC _ _ 0 _ _ _ HE.o.1)) rfl ⟨G.heap.size,_,ps,rfl,qap HS.o,HE.o.2.2.2.1,HE.o.2.2.1,HE.o.2.2.2.2.1,HE.o.2.2.2.2.2,HE.o.2.1⟩
theorem qhO {P:Program} (w:World) (Y sT ty F:TypeId) (m g E H:Nat) (a:Addr) (G O:Nat) (cur:Array Value) (t:TypeId) (cs:List Value)
  (hu:P.underlying Y=some (.slice F)) (hs:(P.info? F).map (·.size)=some m)
  (hg:w.heap[g]? = some (.cells cur t (0,0))) (hn:cs.length=Nat.min G E*m)
  (J:∀j v,cs[j]? = some v->w.cell? (a.add j)=some v) (I:0+cs.length<=cur.size) (h1:∀v∈cs,v.oneCell'=true) :
  (Builtin.copy_ #[Y,sT] ty #[.slice (some ⟨g,0,none⟩) E H,.slice (some a) G O]).run P w =
   .ok (goInt (Nat.min G E:Nat)) (w.setRow g (cur.toList.take 0++cs++cur.toList.drop (0+cs.length)).toArray):=by
 have Z:=run_loadCells_list (P:=P) w a cs J;have V:=run_storeCells_at P g 0 t cs 0 cur w hg (by simpa using I) h1;cases U:P.info? F with
 | none=>simp [U] at hs
 | some i =>
  have hi:i.size=m:=by simpa [U] using hs
  rw [hn] at Z;simp [Builtin.copy_,run_underlying hu,Builtin.lenOf,Builtin.firstCells,sizeOf,typeInfo,U,hi,Z,V]
def fflat (l:List FT):List Value:=l.flatMap fun x=>[.string x.1,.string x.2]
theorem qce (l:List FT):(fflat l).length=l.length*2:=by
 induction l with
 | nil=>rfl
 | cons p l ih=>rw [fflat,List.flatMap_cons,qae,<-fflat,ih,qbC];simp;omega
theorem qdA (a b:List FT):fflat (a++b)=fflat a++fflat b:=by unfold fflat;rw [List.flatMap_append]
theorem qeO (l:List FT):∀(k:Nat) (x:FT),l[k]? = some x->(fflat l)[k*2]? = some (.string x.1)/\(fflat l)[k*2+1]? = some (.string x.2):=by
 induction l with
 | nil=>intro k p h;cases h
 | cons q l ih =>
  intro k p h;have e:fflat (q :: l)=.string q.1 :: .string q.2 :: fflat l:=rfl;rw [e];cases k with
  | zero =>
   have:q=p:=qag h;subst this;exact⟨rfl,rfl⟩
  | succ k =>
   have E:=ih k p h;rw [show (k+1)*2=k*2+1+1 by omega];exact E
theorem qhT (l:List FT):∀v∈fflat l,v.oneCell'=true:=by
 intro v F;obtain⟨x,_,E⟩:=List.mem_flatMap.1 F;rcases qaD.1 E with rfl | E
 ·rfl
 ·rw [qao.1 E];rfl
theorem getD_some {l:List FT} {k:Nat} (E:k<l.length):l[k]? = some (l.getD k fd0):=by rw [qab,qad E];rfl
theorem FCells.src {W:World} {I:Option Addr} {b off:Nat} {l:List FT} (h:FCells W I b off l):∀j v,(fflat l)[j]? = some v->W.cell? ((⟨b,off,none⟩:Addr).add j)=some v:=by
 intro j v E;have J:j<(fflat l).length:=(List.getElem?_eq_some_iff.1 E).1;rw [qce] at J;have H:j / 2<l.length:=by omega
 obtain⟨F,G⟩:=qeO l (j / 2) _ (getD_some H);obtain⟨c1,c2⟩:=h.cell (j / 2) H;rw [Addr.add_mid]
 by_cases e:j % 2=0
 ·rw [show j / 2*2=j by omega] at F c1;rw [F] at E;rw [c1];exact E
 ·rw [show j / 2*2+1=j by omega] at G;rw [show off+j / 2*2+1=off+j by omega] at c2;rw [G] at E;rw [c2];exact E
theorem FCells.ofRow {W:World} {g:Nat} {l:List FT} {t:TypeId} {E:Nat×Nat} (h:W.heap[g]? = some (.cells (fflat l).toArray t E)):FCells W (some ⟨g,0,none⟩) g 0 l:=by
 refine⟨fun _=>rfl,fun k H=>?_⟩;obtain⟨F,G⟩:=qeO l k _ (getD_some H);rw [qaL];exact⟨(qC _ _ _ _ _ _ h).trans ((qaz ..).trans F),(qC _ _ _ _ _ _ h).trans ((qaz ..).trans G)⟩
theorem infoF:(Tryz.prog.info? 27).map (fun i=>(i.zero,i.size,i.bytes))=some (some (.agg #[.string ⟨#[]⟩,.string ⟨#[]⟩]),2,32):=by kernel_rfl
theorem qkm (n:Nat) (I:n<=1048576) (w:World):(Instr.makeSlice 22 (.int .i64 ((n:Int)+1)) (.int .i64 ((n:Int)+1))).run prog w=.ok (.slice (some ⟨w.heap.size,0,none⟩) (n+1) (n+1)) (w.alloc (.cells (madeCells #[.string ⟨#[]⟩,.string ⟨#[]⟩] ((n+1)*2)) 27)):=by
 obtain⟨i,H,E,F,G⟩:=info_parts infoF;have h:=run_make (P:=prog) w 22 27 i _ underlying22 H E .i64 .i64 ((n+1:Nat):Int) ((n+1:Nat):Int) (by omega) (Int.le_refl _) (by rw [G];omega) (by omega);rw [F,Int.toNat_natCast] at h;exact h
theorem ql9 (l:List FT) (x:FT) (r:List Value) (E:r.length=2):(((fflat l++r).toArray.setIfInBounds (l.length*2) (.string x.1)).setIfInBounds (l.length*2+1) (.string x.2))=(fflat (l++[x])).toArray:=by
 obtain⟨a,b,rfl⟩:∃a b,r=[a,b]:=by
  match r,E with
  | [a,b],_=>exact⟨a,b,rfl⟩
 rw [qdA,qaH,qaH,qa1 _ _ (by rw [qce];exact qaf _),qce,qaK,qbf,qa1 _ _ (by rw [qce];omega),qce,show l.length*2+1-l.length*2=1 by omega]
 rfl
theorem qgE (ao:Option Addr) (b off n c:Nat) (l:List FT) (x:FT) (w:World) (hl:l.length=n) (aB:0<n) (hn:n<=63) (E:FCells w ao b off l) :
  Calls prog 150 #[.slice ao n c,.agg #[.string x.1,.string x.2]] w fun e w'=>∃g,e=.returned (.slice (some ⟨g,0,none⟩) ((n+1:Nat)) (n+1))/\Below w.heap.size w w'/\FCells w' (some ⟨g,0,none⟩) g 0 (l++[x]):=by
 obtain⟨s1,s2⟩:=x;have av:=E.addr (by omega);subst av;obtain⟨U,F⟩:=qY (w.alloc (.cells #[.string s1,.string s2] 27));have ak:=qkm n (by omega) U;obtain⟨W2,G⟩:=qY (U.alloc (.cells (madeCells #[.string ⟨#[]⟩,.string ⟨#[]⟩] ((n+1)*2)) 27));have au:U.heap.size=w.heap.size+1:=by rw [F,qaa]
 rw [<-G,au] at ak;have ae:W2.heap[w.heap.size+1]? = some (.cells (madeCells #[.string ⟨#[]⟩,.string ⟨#[]⟩] ((n+1)*2)) 27 (0,0)):=by rw [G];exact qM _ _ _ au
 have af:Below w.heap.size w U:=F▸qbM qB qN;have Y:Below w.heap.size w W2:=G▸qbM af qN;have ai:=qhO (P:=prog) W2 22 22 3 27 2 (w.heap.size+1) (n+1) (n+1) ⟨b,off,none⟩ n c _ 27 (fflat l) underlying22 (by kernel_rfl) ae (by rw [qce,hl];show n*2=(min n (n+1))*2;rw [qaU (by omega)]) (E.below Y).src (by rw [qce,hl,size_madeCells];omega) (qhT l);obtain⟨R,hR⟩:=qY (((madeCells #[.string ⟨#[]⟩,.string ⟨#[]⟩] ((n+1)*2):Array Value)).toList.drop (0+(fflat l).length));have V:R.length=2:=by rw [hR,qbn,Array.length_toList,size_madeCells,qce];omega
 rw [<-hR,List.take_zero,qbl] at ai;obtain⟨W3,I⟩:=qY (W2.setRow (w.heap.size+1) (fflat l++R).toArray);rw [<-I] at ai;have H:W3.heap[w.heap.size+1]? = some (.cells (fflat l++R).toArray 27 (0,0)):=by rw [I];exact qT _ _ _ _ _ _ ae
 have ag:Below w.heap.size w W3:=I▸qS Y (by omega) _;have aa:U.heap[w.heap.size]? = some (.cells #[.string s1,.string s2] 27 (0,0)):=by rw [F];exact qM _ _ _ rfl
 have O:Below U.heap.size U W3:=I▸qS (G▸qbM qB qN) (by omega) _;have Z:=(O.block _ (qG aa).1).trans aa;have aC:=qC _ _ 0 _ _ _ Z;have aD:=qC _ _ 1 _ _ _ Z;have aj:(fflat l++R).length=n*2+2:=by rw [qae,qce,V,hl]
 obtain⟨d0,ax⟩:∃d0,W3.cell? ⟨w.heap.size+1,n*2,none⟩=some d0:=⟨_,(qC _ _ _ _ _ _ H).trans ((qaz ..).trans (qad (by omega)))⟩;obtain⟨d1,ay⟩:∃d1,W3.cell? ⟨w.heap.size+1,n*2+1,none⟩=some d1:=⟨_,(qC _ _ _ _ _ _ H).trans ((qaz ..).trans (qad (by omega)))⟩;have az:=qF _ _ (n*2) _ _ H;have aA:=qF _ _ (n*2+1) _ _ H;have J:=heap_setCell_same _ _ (n*2+1) _ _ (.string s2) (heap_setCell_same _ _ (n*2) _ _ (.string s1) H);rw [<-hl,ql9 l (s1,s2) R V,hl] at J;have ah:=(ag.setCell (p:=⟨w.heap.size+1,n*2,none⟩) (by show w.heap.size<=w.heap.size+1;omega) (.string s1)).setCell (p:=⟨w.heap.size+1,n*2+1,none⟩) (by show w.heap.size<=w.heap.size+1;omega) (.string s2);have HE:=qH (qA ah (FCells.ofRow J));have HN:=qH (qA G F);clear E ae af Y hR V I H ag aa O Z aj J ah G;go_enter func150,ntmps150;go_wp2_with fail;rw [<-F];clear F;rw [ak];go_wp2;go_ret;exact⟨_,rfl,HE.o.1,HE.o.2⟩
theorem qfE {W:World} {g:Nat} {t:TypeId} (h:W.heap[g]? = some (.cells #[.slice none 0 0,.bool false] t (0,0))) (a:Option Addr) (n c:Nat) (b:Bool) :
  ((W.setCell ⟨g,0,none⟩ (.slice a n c)).setCell ⟨g,1,none⟩ (.bool b)).heap[g]? = some (.cells #[.slice a n c,.bool b] t (0,0)) /\
  (∀k,k≠g->((W.setCell ⟨g,0,none⟩ (.slice a n c)).setCell ⟨g,1,none⟩ (.bool b)).heap[k]? = W.heap[k]?) /\
  (∀m E z,IntAt W (.agg #[m,.bool E]) z->IntAt ((W.setCell ⟨g,0,none⟩ (.slice a n c)).setCell ⟨g,1,none⟩ (.bool b)) (.agg #[m,.bool E]) z) :=
 ⟨qcM h a n c b,fun _k F=>(qW _ _ _ _ F).trans (qW _ _ _ _ F),fun _ _ _ G=>qcL G h a n c b⟩
def LTwo (E W:World) (F G:Nat) (v3:Option Addr×Nat×Nat×Bool) (v4:Option Addr×Nat×Nat×Bool) (z3 z4:Int):Prop :=
 W.heap[F]? = some (.cells #[.slice v3.1 v3.2.1 v3.2.2.1,.bool v3.2.2.2] 217 (0,0))/\W.heap[G]? = some (.cells #[.slice v4.1 v4.2.1 v4.2.2.1,.bool v4.2.2.2] 217 (0,0)) /\
  IntAt W (.agg #[.slice v3.1 v3.2.1 v3.2.2.1,.bool v3.2.2.2]) z3/\IntAt W (.agg #[.slice v4.1 v4.2.1 v4.2.2.1,.bool v4.2.2.2]) z4/\Below E.heap.size E W/\E.heap.size<=F/\E.heap.size<=G
section
variable {W2 W:World} {a3:Option Addr} {n3 c3:Nat} {b3:Bool} {a4:Option Addr} {n4 c4:Nat} {b4:Bool} {z3 z4:Int}
theorem ltwo_aa (h:IntAt W (.agg #[.slice a3 n3 c3,.bool b3]) z3/\IntAt W (.agg #[.slice a4 n4 c4,.bool b4]) z4) (E:Below W2.heap.size W2 W) :
  LTwo W2 ((W.alloc (.cells #[.slice a3 n3 c3,.bool b3] 217)).alloc (.cells #[.slice a4 n4 c4,.bool b4] 217)) W.heap.size (W.heap.size+1) (a3,n3,c3,b3) (a4,n4,c4,b4) z3 z4 :=
 have k:=qbM (qbM (Below.refl W.heap.size W) qN) qN
 ⟨(qL _ _ _ (by simp only [qaa];omega)).trans (qM _ _ _ rfl),qM _ _ _ (by simp only [qaa]),h.1.below k,h.2.below k,qbM (qbM E qN) qN,E.size,qam E.size⟩
theorem ltwo_bb (h:IntAt W (.agg #[.slice a3 n3 c3,.bool b3]) z3/\IntAt W (.agg #[.slice a4 n4 c4,.bool b4]) z4) (E:Below W2.heap.size W2 W) :
  LTwo W2 ((W.alloc (.cells #[.slice a4 n4 c4,.bool b4] 217)).alloc (.cells #[.slice a3 n3 c3,.bool b3] 217)) (W.heap.size+1) W.heap.size (a3,n3,c3,b3) (a4,n4,c4,b4) z3 z4 :=
 have k:=qbM (qbM (Below.refl W.heap.size W) qN) qN
 ⟨qM _ _ _ (by simp only [qaa]),(qL _ _ _ (by simp only [qaa];omega)).trans (qM _ _ _ rfl),h.1.below k,h.2.below k,qbM (qbM E qN) qN,qam E.size,E.size⟩
theorem ltwo_pa {g:Nat} (h:IntAt W (.agg #[.slice a3 n3 c3,.bool b3]) z3/\IntAt W (.agg #[.slice a4 n4 c4,.bool b4]) z4) (E:Below W2.heap.size W2 W) (hg:W2.heap.size<=g) (F:W.heap[g]? = some (.cells #[.slice none 0 0,.bool false] 217 (0,0))) :
  LTwo W2 (((W.setCell ⟨g,0,none⟩ (.slice a3 n3 c3)).setCell ⟨g,1,none⟩ (.bool b3)).alloc (.cells #[.slice a4 n4 c4,.bool b4] 217)) g W.heap.size (a3,n3,c3,b3) (a4,n4,c4,b4) z3 z4:=by
 obtain⟨p1,p2,p3⟩:=qfE F a3 n3 c3 b3;have lt:=(qG F).1;have k:∀V:World,Below V.heap.size V (V.alloc (.cells #[.slice a4 n4 c4,.bool b4] 217)):=fun V=>qbM qB qN
 exact⟨(qL _ _ _ (by simp only [qbs];exact lt)).trans p1,qM _ _ _ (by simp only [qbs]),(p3 _ _ _ h.1).below (k _),(p3 _ _ _ h.2).below (k _),qbM ((E.setCell (by exact hg) _).setCell (by exact hg) _) qN,hg,E.size⟩
theorem ltwo_pb {g:Nat} (h:IntAt W (.agg #[.slice a3 n3 c3,.bool b3]) z3/\IntAt W (.agg #[.slice a4 n4 c4,.bool b4]) z4) (E:Below W2.heap.size W2 W) (hg:W2.heap.size<=g) (F:W.heap[g]? = some (.cells #[.slice none 0 0,.bool false] 217 (0,0))) :
  LTwo W2 (((W.setCell ⟨g,0,none⟩ (.slice a4 n4 c4)).setCell ⟨g,1,none⟩ (.bool b4)).alloc (.cells #[.slice a3 n3 c3,.bool b3] 217)) W.heap.size g (a3,n3,c3,b3) (a4,n4,c4,b4) z3 z4:=by
 obtain⟨p1,p2,p3⟩:=qfE F a4 n4 c4 b4;have lt:=(qG F).1;have k:∀V:World,Below V.heap.size V (V.alloc (.cells #[.slice a3 n3 c3,.bool b3] 217)):=fun V=>qbM qB qN
 exact⟨qM _ _ _ (by simp only [qbs]),(qL _ _ _ (by simp only [qbs];exact lt)).trans p1,(p3 _ _ _ h.1).below (k _),(p3 _ _ _ h.2).below (k _),qbM ((E.setCell (by exact hg) _).setCell (by exact hg) _) qN,E.size,hg⟩
theorem ltwo_pp {g E:Nat} (h:IntAt W (.agg #[.slice a3 n3 c3,.bool b3]) z3/\IntAt W (.agg #[.slice a4 n4 c4,.bool b4]) z4) (H:Below W2.heap.size W2 W) (hg:W2.heap.size<=g) (F:W2.heap.size<=E) (hne:g≠E) (I:W.heap[g]? = some (.cells #[.slice none 0 0,.bool false] 217 (0,0))) (G:W.heap[E]? = some (.cells #[.slice none 0 0,.bool false] 217 (0,0))) :
  LTwo W2 ((((W.setCell ⟨g,0,none⟩ (.slice a3 n3 c3)).setCell ⟨g,1,none⟩ (.bool b3)).setCell ⟨E,0,none⟩ (.slice a4 n4 c4)).setCell ⟨E,1,none⟩ (.bool b4)) g E (a3,n3,c3,b3) (a4,n4,c4,b4) z3 z4:=by
 obtain⟨p1,p2,p3⟩:=qfE I a3 n3 c3 b3;obtain⟨q1,q2,q3⟩:=qfE ((p2 E (Ne.symm hne)).trans G) a4 n4 c4 b4;exact⟨(q2 g hne).trans p1,q1,q3 _ _ _ (p3 _ _ _ h.1),q3 _ _ _ (p3 _ _ _ h.2),(((H.setCell (by exact hg) _).setCell (by exact hg) _).setCell (by exact F) _).setCell (by exact F) _,hg,F⟩
end
theorem qc1 {W:World} {E:List (Value×Bool)} {F:Nat->Int} (h:qcd W E F) {k:Nat} (I:k<E.length):∃(a:Option Addr) (n c:Nat) (b:Bool),E.getD k (zs0,false)=(.slice a n c,b)/\IntAt W (.agg #[.slice a n c,.bool b]) (F k):=by
 obtain⟨H,G⟩:=h k I;have hg:=G;obtain⟨a,_,_,c,n,_,e,_,_⟩:=G;refine⟨a,n,c,decide (F k<0),Prod.ext e H,_,rfl,e▸hg⟩
theorem qcF {a b:World} {g k:Nat} {cs:Array Value} {t:TypeId} (h:a.grownBy b (some g)) (hg:a.heap[k]? = some (.cells cs t (0,0))) (hne:k≠g) (i:Nat):b.cell? ⟨k,i,none⟩=cs[i]? :=
 qC _ _ i _ _ _ ((h.block _ (qG hg).1 (fun e=>hne (qag e))).trans hg)
theorem qbV {a b:World} (g:Nat) (h:Below a.heap.size a b):a.grownBy b (some g):=qcb (qcz a _) h
def qgD (W:World) (b n:Nat) (E:List (Value×Bool)):Prop:=∀k,k<n->W.cell? ⟨b,k*2,none⟩=some (E.getD k (zs0,false)).1/\W.cell? ⟨b,k*2+1,none⟩=some (.bool (E.getD k (zs0,false)).2)
theorem qgD.below {W W':World} {b n:Nat} {G:List (Value×Bool)} (h:qgD W b n G) (F:Below W.heap.size W W'):qgD W' b n G :=
 fun k E=>⟨(F.cell (qac W _ (h k E).1)).trans (h k E).1,(F.cell (qac W _ (h k E).2)).trans (h k E).2⟩
theorem qjQ {W:World} {g n j:Nat} {E:List (Value×Bool)} {z:Nat->Int} {a:Option Addr} {m c:Nat} {b:Bool} (G:IRow W g n E) (O:qcd W E z) (V:E.length=j) (H:j<n) (U:IntAt W (.agg #[.slice a m c,.bool b]) (z j)) :
  IRow ((W.setCell ⟨g,j*2,none⟩ (.slice a m c)).setCell ⟨g,j*2+1,none⟩ (.bool b)) g n (E++[(.slice a m c,b)])/\qcd ((W.setCell ⟨g,j*2,none⟩ (.slice a m c)).setCell ⟨g,j*2+1,none⟩ (.bool b)) (E++[(.slice a m c,b)]) z:=by
 subst V;obtain⟨v,F,hg⟩:=U;have I:v=.slice a m c:=by simp only [qaZ,qa5,qaY] at F;exact F.1.symm
 have J:b=decide (z E.length<0):=by simp only [qaZ,qa5,qaY,Value.bool.injEq] at F;exact F.2.1
 subst I;refine⟨G.set H _ b (qiY hg),?_⟩;rw [J];exact (O.snoc hg).keep (qbR (qbO W g (E.length*2) _) (qbO _ g (E.length*2+1) _)) G.1 G.nope
theorem qhN (br bp n cr cp H:Nat) (ps qs:List (Value×Bool)) (O J:Nat->Int) (K:Nat) (hK:K<=34359738368) (v0:Value) (z0:Int) (w:World) (hn:n<=64) (hc:H<n) (bL:ps.length=n) (bM:qs.length=n) (bf:qgD w br n ps) (aZ:qgD w bp n qs) (hz:qcd w ps O) (hy:qcd w qs J) (bq:∀k,k<n->Fit (O k).natAbs K) (bn:∀k,k<n->Fit (J k).natAbs K) (h0:IntAt w v0 z0) (bg:Fit z0.natAbs K) (bN:z0≠0) :
  Calls prog 256 #[.slice (some ⟨br,0,none⟩) n cr,.slice (some ⟨bp,0,none⟩) n cp,.int .i64 H,v0] w fun e w'=>∃g rs,e=.returned (.slice (some ⟨g,0,none⟩) n n)/\w.heap.size<=g/\Below w.heap.size w w'/\rs.length=n/\IRow w' g n rs/\qcd w' rs (fun j=>(J H*O j-O H*J j).tdiv z0):=by
 obtain⟨a0,n0,c0,b0,rfl⟩:=qbN h0;obtain⟨W1,ai⟩:=qY (w.alloc (.cells #[.slice a0 n0 c0,.bool b0] 217));have bC:W1.heap.size=w.heap.size+1:=by rw [ai,qaa]
 have aK:=qfZ n (by omega) W1;rw [bC] at aK;have aU:Below w.heap.size w W1:=ai▸qbM qB qN;have aV:=qbM (o:=.cells (madeCells #[zs0,.bool false] (n*2)) 217) aU qN;have aH:=IRow.made W1 n;rw [bC] at aH;have bA:W1.heap[w.heap.size]? = some (.cells #[.slice a0 n0 c0,.bool b0] 217 (0,0)):=by rw [ai];exact qM _ _ _ rfl
 have bB:(W1.alloc (.cells (madeCells #[zs0,.bool false] (n*2)) 217)).heap[w.heap.size]? = some (.cells #[.slice a0 n0 c0,.bool b0] 217 (0,0)):=(qL _ _ _ (by omega)).trans bA;have bU:(H:Int)<n:=by omega
 have H2:=qH (qA aV (qA aH bB));have I:=qH (qA bf (qA aZ (qA hz (qA hy (qA bq (qA bn (qA h0 (qA bg (qA bL bM)))))))));have bV:=qeP;clear bf aZ hz hy bq bn h0 bg aU aV aH bA bB;go_enter func256,ntmps256;go_wp2_with fail;rw [<-ai];rw [aK];clear ai aK;go_wp2_with fail
 go_loopw [18] (fun x18 W=>∃(j:Nat) (rs:List (Value×Bool)),j<=n/\x18=.int .i64 j/\Hu (rs.length=j/\IRow W (w.heap.size+1) n rs/\qcd W rs (fun j=>(J H*O j-O H*J j).tdiv z0)/\W.heap[w.heap.size]? = some (.cells #[.slice a0 n0 c0,.bool b0] 217 (0,0)))/\Hu (Below w.heap.size w W)) (fun x18 _=>n-(intOf x18).toNat)
 case atStart=>exact⟨0,[],qan _,rfl,qH ⟨rfl,H2.o.2.1,(fun i hi=>absurd hi (by simp)),H2.o.2.2⟩,qH H2.o.1⟩
 case round =>
  obtain⟨j,rs,hj,rfl,hI,hB⟩:=hrel
  by_cases U:j<n
  ·have bW:(j:Int)<n:=by omega
   obtain⟨a1,n1,c1,b1,e1,i1⟩:=qc1 (I.o.2.2.2.1.below hB.o) (k:=H) (by have:=I.o.2.2.2.2.2.2.2.2.2;omega);obtain⟨a2,n2,c2,b2,e2,i2⟩:=qc1 (I.o.2.2.1.below hB.o) (k:=j) (by have:=I.o.2.2.2.2.2.2.2.2.1;omega);obtain⟨a5,n5,c5,b5,e5,i5⟩:=qc1 (I.o.2.2.1.below hB.o) (k:=H) (by have:=I.o.2.2.2.2.2.2.2.2.1;omega);obtain⟨a6,n6,c6,b6,e6,i6⟩:=qc1 (I.o.2.2.2.1.below hB.o) (k:=j) (by have:=I.o.2.2.2.2.2.2.2.2.2;omega);have k1:=(I.o.2.1.below hB.o) H hc;have k2:=(I.o.1.below hB.o) j U;have k5:=(I.o.1.below hB.o) H hc;have k6:=(I.o.2.1.below hB.o) j U;rw [e1] at k1;rw [e2] at k2;rw [e5] at k5;rw [e6] at k6;have bD:∀W,Below wr.heap.size wr W->W.cell? ⟨bp,H*2,none⟩=some (.slice a1 n1 c1):=fun W h=>(h.cell (qac wr _ k1.1)).trans k1.1
   have bE:∀W,Below wr.heap.size wr W->W.cell? ⟨bp,H*2+1,none⟩=some (.bool b1):=fun W h=>(h.cell (qac wr _ k1.2)).trans k1.2
   have bF:∀W,Below wr.heap.size wr W->W.cell? ⟨br,j*2,none⟩=some (.slice a2 n2 c2):=fun W h=>(h.cell (qac wr _ k2.1)).trans k2.1
   have bG:∀W,Below wr.heap.size wr W->W.cell? ⟨br,j*2+1,none⟩=some (.bool b2):=fun W h=>(h.cell (qac wr _ k2.2)).trans k2.2
   have bH:∀W,Below wr.heap.size wr W->W.cell? ⟨br,H*2,none⟩=some (.slice a5 n5 c5):=fun W h=>(h.cell (qac wr _ k5.1)).trans k5.1
   have bI:∀W,Below wr.heap.size wr W->W.cell? ⟨br,H*2+1,none⟩=some (.bool b5):=fun W h=>(h.cell (qac wr _ k5.2)).trans k5.2
   have bJ:∀W,Below wr.heap.size wr W->W.cell? ⟨bp,j*2,none⟩=some (.slice a6 n6 c6):=fun W h=>(h.cell (qac wr _ k6.1)).trans k6.1
   have bK:∀W,Below wr.heap.size wr W->W.cell? ⟨bp,j*2+1,none⟩=some (.bool b6):=fun W h=>(h.cell (qac wr _ k6.2)).trans k6.2
   have aQ:=qH (fun W (h:Below wr.heap.size wr W)=>qcq (J H) (O j) K K (by omega) _ _ W (i1.below h) (i2.below h) (I.o.2.2.2.2.2.1 H hc) (I.o.2.2.2.2.1 j U));have aR:=qH (fun W (h:Below wr.heap.size wr W)=>qcq (O H) (J j) K K (by omega) _ _ W (i5.below h) (i6.below h) (I.o.2.2.2.2.1 H hc) (I.o.2.2.2.2.2.1 j U));clear k1 k2 k5 k6 e1 e2 e5 e6 i1 i2 i5 i6;have ag:Below wr.heap.size wr wr:=Below.refl _ _;have aB:Below wr.heap.size wr wr.drew:=ag.drew;have aA:wr.drew.heap.size=wr.heap.size:=rfl;have E:∀W:World,W.drew.heap.size=W.heap.size:=fun _=>rfl
   go_wp2_with fail
   go_cut [11,12] (fun x11 x12 W=>∃(g3 g4:Nat) (a3:Option Addr) (n3 c3:Nat) (b3:Bool) (a4:Option Addr) (n4 c4:Nat) (b4:Bool),x11=.pointer (some ⟨g3,0,none⟩)/\x12=.pointer (some ⟨g4,0,none⟩)/\LTwo wr W g3 g4 (a3,n3,c3,b3) (a4,n4,c4,b4) (J H*O j) (O H*J j))
   case first =>
    go_region_held3 (fun W=>Below wr.heap.size wr W) (first | with_reducible exact ag | with_reducible exact aB | with_reducible exact G | with_reducible exact F | ((repeat (first | refine Below.setCell ?_ (by first | exact qaf _ | exact F.size | exact G.size | exact qam qN | exact qam F.size | exact qam G.size) _ | refine qbM ?_ qN | refine Below.drew ?_));first | exact G | exact F | exact ag)) (first | (go_at_call_of 153 (Value.agg #[.slice a1 n1 c1,.bool b1]);refine (aQ.o _ (by ((repeat (first | refine Below.setCell ?_ (by first | exact qaf _ | exact F.size | exact G.size | exact qam qN | exact qam F.size | exact qam G.size) _ | refine qbM ?_ qN | refine Below.drew ?_));first | exact ag))).mono ?_;rintro e w3 ⟨p3,rfl,aj,aL⟩;have F:Below wr.heap.size wr w3:=bjoin (by ((repeat (first | refine Below.setCell ?_ (by first | exact qaf _ | exact F.size | exact G.size | exact qam qN | exact qam F.size | exact qam G.size) _ | refine qbM ?_ qN | refine Below.drew ?_));first | exact ag)) aj;obtain⟨a3,n3,c3,b3,rfl⟩:=qbN aL;have aC:=qH aL;obtain⟨k3,bX⟩:=bcell aj;have Z3:=qH (zkeep aj);have s3:_<=_:=aj.size;(try simp only [qaa,aA,E] at s3);(try have q3:wr.heap.size<w3.heap.size:=by omega);(try have r3:wr.heap.size+1<w3.heap.size:=by omega);clear aj aL) | (go_at_call_of 153 (Value.agg #[.slice a5 n5 c5,.bool b5]);refine (aR.o _ (by ((repeat (first | refine Below.setCell ?_ (by first | exact qaf _ | exact F.size | exact G.size | exact qam qN | exact qam F.size | exact qam G.size) _ | refine qbM ?_ qN | refine Below.drew ?_));first | exact F))).mono ?_;rintro e w4 ⟨p4,rfl,Y,aM⟩;have G:Below wr.heap.size wr w4:=bjoin (by ((repeat (first | refine Below.setCell ?_ (by first | exact qaf _ | exact F.size | exact G.size | exact qam qN | exact qam F.size | exact qam G.size) _ | refine qbM ?_ qN | refine Below.drew ?_));first | exact F)) Y;obtain⟨a4,n4,c4,b4,rfl⟩:=qbN aM;have ah:=qH (qA (show IntAt w4 _ _ from (by first | exact aC.o.below Y | exact (aC.o.below (qbM qB qN)).below Y | exact (aC.o.below (qbM (qbM qB qN) qN)).below Y)) aM);obtain⟨k4,bY⟩:=bcell Y;have Z4:=qH (zkeep Y);have s4:_<=_:=Y.size;(try simp only [qaa] at s4);(try have q4:wr.heap.size<w4.heap.size:=by omega);(try have r4:wr.heap.size+1<w4.heap.size:=by omega);(try have t4:w3.heap.size<w4.heap.size:=by omega);(try have u4:w3.heap.size+1<w4.heap.size:=by omega);clear Y aM))
    all_goals go_wp2_with fail
    all_goals go_meet
    all_goals refine⟨_,_,a3,n3,c3,b3,a4,n4,c4,b4,rfl,rfl,?_⟩
    all_goals first
     | with_reducible exact ltwo_aa ah.o G
     | with_reducible exact ltwo_bb ah.o G
     | (with_reducible refine ltwo_pa ah.o G ?_ ?_;(first | exact qaf _ | exact F.size | exact G.size | exact qa7 _ | exact qam F.size);(refine Z4.o _ _ ?_;((try with_reducible refine zdrew ?_);first | (refine qM _ _ _ ?_;((try simp only) <;> omega)) | (refine Z3.o _ _ ?_;((try with_reducible refine zdrew ?_);first | (refine qM _ _ _ ?_;((try simp only) <;> omega)) | (refine (qL _ _ _ ?_).trans ?_;((try simp only [qaa,E]);omega);(refine qM _ _ _ ?_;((try simp only [qaa,E]) <;> omega))))) | (refine (qL _ _ _ ?_).trans ?_;((try simp only [qaa,E]);omega);(first | (refine qM _ _ _ ?_;((try simp only [qaa,E]) <;> omega)) | (refine Z3.o _ _ ?_;((try with_reducible refine zdrew ?_);first | (refine qM _ _ _ ?_;((try simp only [qaa,E]) <;> omega)) | (refine (qL _ _ _ ?_).trans ?_;((try simp only [qaa,E]);omega);(refine qM _ _ _ ?_;((try simp only [qaa,E]) <;> omega))))))) | (refine (qL _ _ _ ?_).trans ?_;((try simp only [qaa,E]);omega);refine (qL _ _ _ ?_).trans ?_;((try simp only [qaa,E]);omega);(refine Z3.o _ _ ?_;((try with_reducible refine zdrew ?_);first | (refine qM _ _ _ ?_;((try simp only [qaa,E]) <;> omega)) | (refine (qL _ _ _ ?_).trans ?_;((try simp only [qaa,E]);omega);(refine qM _ _ _ ?_;((try simp only [qaa,E]) <;> omega)))))))))
     | (with_reducible refine ltwo_pb ah.o G ?_ ?_;(first | exact qaf _ | exact F.size | exact G.size | exact qa7 _ | exact qam F.size);(refine Z4.o _ _ ?_;((try with_reducible refine zdrew ?_);first | (refine qM _ _ _ ?_;((try simp only) <;> omega)) | (refine Z3.o _ _ ?_;((try with_reducible refine zdrew ?_);first | (refine qM _ _ _ ?_;((try simp only) <;> omega)) | (refine (qL _ _ _ ?_).trans ?_;((try simp only [qaa,E]);omega);(refine qM _ _ _ ?_;((try simp only [qaa,E]) <;> omega))))) | (refine (qL _ _ _ ?_).trans ?_;((try simp only [qaa,E]);omega);(first | (refine qM _ _ _ ?_;((try simp only [qaa,E]) <;> omega)) | (refine Z3.o _ _ ?_;((try with_reducible refine zdrew ?_);first | (refine qM _ _ _ ?_;((try simp only [qaa,E]) <;> omega)) | (refine (qL _ _ _ ?_).trans ?_;((try simp only [qaa,E]);omega);(refine qM _ _ _ ?_;((try simp only [qaa,E]) <;> omega))))))) | (refine (qL _ _ _ ?_).trans ?_;((try simp only [qaa,E]);omega);refine (qL _ _ _ ?_).trans ?_;((try simp only [qaa,E]);omega);(refine Z3.o _ _ ?_;((try with_reducible refine zdrew ?_);first | (refine qM _ _ _ ?_;((try simp only [qaa,E]) <;> omega)) | (refine (qL _ _ _ ?_).trans ?_;((try simp only [qaa,E]);omega);(refine qM _ _ _ ?_;((try simp only [qaa,E]) <;> omega)))))))))
     | (with_reducible refine ltwo_pp ah.o G ?_ ?_ ?_ ?_ ?_;(first | exact qaf _ | exact F.size | exact G.size | exact qa7 _ | exact qam F.size);(first | exact qaf _ | exact F.size | exact G.size | exact qa7 _ | exact qam F.size);omega;(refine Z4.o _ _ ?_;((try with_reducible refine zdrew ?_);first | (refine qM _ _ _ ?_;((try simp only [qaa]) <;> omega)) | (refine Z3.o _ _ ?_;((try with_reducible refine zdrew ?_);first | (refine qM _ _ _ ?_;((try simp only [qaa]) <;> omega)) | (refine (qL _ _ _ ?_).trans ?_;((try simp only [qaa]);omega);(refine qM _ _ _ ?_;((try simp only) <;> omega))))) | (refine (qL _ _ _ ?_).trans ?_;((try simp only [qaa]);omega);(first | (refine qM _ _ _ ?_;((try simp only) <;> omega)) | (refine Z3.o _ _ ?_;((try with_reducible refine zdrew ?_);first | (refine qM _ _ _ ?_;((try simp only) <;> omega)) | (refine (qL _ _ _ ?_).trans ?_;((try simp only [qaa,E]);omega);(refine qM _ _ _ ?_;((try simp only [qaa,E]) <;> omega))))))) | (refine (qL _ _ _ ?_).trans ?_;((try simp only [qaa,E]);omega);refine (qL _ _ _ ?_).trans ?_;((try simp only [qaa,E]);omega);(refine Z3.o _ _ ?_;((try with_reducible refine zdrew ?_);first | (refine qM _ _ _ ?_;((try simp only [qaa,E]) <;> omega)) | (refine (qL _ _ _ ?_).trans ?_;((try simp only [qaa,E]);omega);(refine qM _ _ _ ?_;((try simp only [qaa,E]) <;> omega))))))));(refine Z4.o _ _ ?_;((try with_reducible refine zdrew ?_);first | (refine qM _ _ _ ?_;((try simp only [qaa]) <;> omega)) | (refine Z3.o _ _ ?_;((try with_reducible refine zdrew ?_);first | (refine qM _ _ _ ?_;((try simp only [qaa]) <;> omega)) | (refine (qL _ _ _ ?_).trans ?_;((try simp only [qaa]);omega);(refine qM _ _ _ ?_;((try simp only) <;> omega))))) | (refine (qL _ _ _ ?_).trans ?_;((try simp only [qaa]);omega);(first | (refine qM _ _ _ ?_;((try simp only) <;> omega)) | (refine Z3.o _ _ ?_;((try with_reducible refine zdrew ?_);first | (refine qM _ _ _ ?_;((try simp only) <;> omega)) | (refine (qL _ _ _ ?_).trans ?_;((try simp only [qaa,E]);omega);(refine qM _ _ _ ?_;((try simp only [qaa,E]) <;> omega))))))) | (refine (qL _ _ _ ?_).trans ?_;((try simp only [qaa,E]);omega);refine (qL _ _ _ ?_).trans ?_;((try simp only [qaa,E]);omega);(refine Z3.o _ _ ?_;((try with_reducible refine zdrew ?_);first | (refine qM _ _ _ ?_;((try simp only [qaa,E]) <;> omega)) | (refine (qL _ _ _ ?_).trans ?_;((try simp only [qaa,E]);omega);(refine qM _ _ _ ?_;((try simp only [qaa,E]) <;> omega)))))))))
   case rest =>
    obtain⟨g3,g4,a3,n3,c3,b3,a4,n4,c4,b4,rfl,rfl,h3,h4,aI,aJ,hb,l3,l4⟩:=hcut;dsimp only at h3 h4 aI aJ;have lr:=(qG hI.o.2.1.1).1;have bv:g3≠w.heap.size+1:=by omega
    have bz:g4≠w.heap.size+1:=by omega
    have ax:w.heap.size≠w.heap.size+1:=by omega
    have az:=(hb.block _ (qG hI.o.2.2.2).1).trans hI.o.2.2.2;have bQ:∀W,wc.grownBy W (some (w.heap.size+1))->W.cell? ⟨g3,0,none⟩=some (.slice a3 n3 c3):=fun W h=>qcF h h3 bv 0
    have bR:∀W,wc.grownBy W (some (w.heap.size+1))->W.cell? ⟨g3,1,none⟩=some (.bool b3):=fun W h=>qcF h h3 bv 1
    have bS:∀W,wc.grownBy W (some (w.heap.size+1))->W.cell? ⟨g4,0,none⟩=some (.slice a4 n4 c4):=fun W h=>qcF h h4 bz 0
    have bT:∀W,wc.grownBy W (some (w.heap.size+1))->W.cell? ⟨g4,1,none⟩=some (.bool b4):=fun W h=>qcF h h4 bz 1
    have bO:∀W,wc.grownBy W (some (w.heap.size+1))->W.cell? ⟨w.heap.size,0,none⟩=some (.slice a0 n0 c0):=fun W h=>qcF h az ax 0
    have bP:∀W,wc.grownBy W (some (w.heap.size+1))->W.cell? ⟨w.heap.size,1,none⟩=some (.bool b0):=fun W h=>qcF h az ax 1
    have aD:=hB.o.trans (hb.mono hB.o.size);have bu:=I.o.2.2.2.2.2.2.1.below (W':=wc) (aD.mono (by omega));have hP:=I.o.2.2.2.2.1 j U;have av:=(I.o.2.2.2.2.2.1 H hc).mul (I.o.2.2.2.2.1 j U);have aG:=(I.o.2.2.2.2.1 H hc).mul (I.o.2.2.2.2.2.1 j U);rw [<-qaB] at av aG;have aF:Fit (-(O H*J j)).natAbs (K+K):=by rw [qby];exact aG
    have bi:Fit (J H*O j + -(O H*J j)).natAbs (K+K+1):=(av.add aF).le (Int.natAbs_add_le _ _);have HA:=qH (fun W (h:Below wc.heap.size wc W)=>(qdr .l) (O H*J j) _ W (aJ.below h));have HS:=qH (fun W (u:Value) (h:Below wc.heap.size wc W) (hu:IntAt W u (-(O H*J j)))=>(qc5 .l) (J H*O j) (-(O H*J j)) (K+K) (by omega) _ u W (aI.below h) hu av aF);have HQ:=qH (fun W (u:Value) (h:Below wc.heap.size wc W) (hu:IntAt W u (J H*O j + -(O H*J j)))=>qf4 (J H*O j + -(O H*J j)) z0 (K+K+1) (by omega) u _ W hu (bu.below h) bi (I.o.2.2.2.2.2.2.2.1.mono (by omega)) bN);have af:=qH (qA (hI.o.2.1.below hb) (qA (hI.o.2.2.1.below hb) (qA az aD)));have ak:Below wc.heap.size wc wc:=Below.refl _ _;have Z:Below wc.heap.size wc wc.drew:=ak.drew;clear h3 h4 aI aJ hb az aD bu hP av aG aF bi ag aB aA bD bE bF bG bH bI bJ bK aQ aR;go_wp2_with fail
    go_region_held3 (fun W=>wc.grownBy W (some (w.heap.size+1))) (first | with_reducible exact qcz _ _ | with_reducible exact qbV _ Z | with_reducible exact qbV _ V | with_reducible exact qbV _ ae | with_reducible exact qbV _ aa | with_reducible exact qbV _ V.drew | with_reducible exact qbV _ ae.drew | with_reducible exact qbV _ aa.drew | exact qbR (qbR (qbV _ V) (qbO _ _ _ _)) (qbO _ _ _ _) | exact qbR (qbR (qbV _ V.drew) (qbO _ _ _ _)) (qbO _ _ _ _)) (first | (go_at_call 156;refine (HA.o _ (by first | with_reducible exact ak | with_reducible exact Z)).mono ?_;rintro e w5 ⟨p5,rfl,aW,aN⟩;have aa:Below wc.heap.size wc w5:=bjoin (by first | with_reducible exact ak | with_reducible exact Z) aW;obtain⟨a7,n7,c7,b7,rfl⟩:=qbN aN;have G5:=qH aN;clear aW aN) | (go_at_call 154;refine (HS.o _ _ (by first | with_reducible exact aa | with_reducible exact aa.drew) (by first | exact G5.o | exact G5.o.below qB.drew)).mono ?_;rintro e w6 ⟨p6,rfl,aX,aO⟩;have ae:Below wc.heap.size wc w6:=bjoin (by first | with_reducible exact aa | with_reducible exact aa.drew) aX;obtain⟨a8,n8,c8,b8,rfl⟩:=qbN aO;have G6:=qH aO;clear aX aO) | (go_at_call 266;refine (HQ.o _ _ (by first | with_reducible exact ae | with_reducible exact ae.drew) (by first | exact G6.o | exact G6.o.below qB.drew)).mono ?_;rintro e w7 ⟨p7,rfl,aY,ay⟩;have V:Below wc.heap.size wc w7:=bjoin (by first | with_reducible exact ae | with_reducible exact ae.drew) aY;obtain⟨a9,n9,c9,b9,rfl⟩:=qbN ay;have G7:=qH ay;have R7:=af.o.1.below V;have aS:=hI.o.1;have aT:=R7.at (by omega);rw [aS] at aT;obtain⟨⟨bZ,cu⟩,aP⟩:=aT;have cz:=aP (j*2);have cB:=aP (j*2+1);have au:=qH (qA (qjQ R7 (af.o.2.1.below V) hI.o.1 U (a:=a9) (m:=n9) (c:=c9) (b:=b9) (by rw [Int.sub_eq_add_neg];exact ay)) (qA ((qW (w7.setCell ⟨w.heap.size+1,j*2,none⟩ (.slice a9 n9 c9)) ⟨w.heap.size+1,j*2+1,none⟩ (.bool b9) w.heap.size ax).trans ((qW w7 ⟨w.heap.size+1,j*2,none⟩ (.slice a9 n9 c9) w.heap.size ax).trans ((V.block _ (qG af.o.2.2.1).1).trans af.o.2.2.1))) (((af.o.2.2.2.trans (V.mono af.o.2.2.2.size)).setCell (p:=⟨w.heap.size+1,j*2,none⟩) (by show w.heap.size<=w.heap.size+1;omega) (.slice a9 n9 c9)).setCell (p:=⟨w.heap.size+1,j*2+1,none⟩) (by show w.heap.size<=w.heap.size+1;omega) (.bool b9))));clear aY ay R7 aS aP))
    all_goals go_wp2_with fail
    all_goals go_roundw
    case rel=>exact⟨j+1,_,U,by go_num,qH ⟨by rw [qae,hI.o.1];rfl,au.o.1.1,au.o.1.2,au.o.2.1⟩,qH au.o.2.2⟩
    case measure=>simp [intOf];omega
  ·obtain rfl:j=n:=by omega
   go_wp2;go_ret;exact⟨_,rs,rfl,qa7 _,hB.o,hI.o.1,hI.o.2.1,hI.o.2.2.1⟩
abbrev zi0:Value:=.agg #[.slice none 0 0,.bool false]
def isum (t:Nat->Int):Nat->Int
 | 0=>0
 | n+1=>isum t n+t n
theorem qeY (t:Nat->Int) (K:Nat):∀k,(∀j,j<k->Fit (t j).natAbs K)->Fit (isum t k).natAbs (K+k+1)
 | 0,_=>Nat.pow_pos (by decide)
 | k+1,h=>by
  have E:=qeY t K k (fun j G=>h j (by omega));have F:=(h k (by omega)).mono (show K<=K+k+1 by omega);exact (E.add F).le (Int.natAbs_add_le _ _)
theorem qiu {w wr E:World} {U a9:Option Addr} {n1 c1 H G:Nat} {b1 F:Bool} {z:Int} {o:Obj} (I:IntAt E (.agg #[.slice a9 H G,.bool F]) z) (z3:E.heap[w.heap.size+1+1]? = some (.cells #[.slice U n1 c1,.bool b1] 217 (0,0))) (O:Below (w.heap.size+1+1) wr E) (Y:wr.heap[w.heap.size+1]? = some o) (V:Below w.heap.size w wr) :
  ((E.setCell ⟨w.heap.size+1+1,0,none⟩ (.slice a9 H G)).setCell ⟨w.heap.size+1+1,1,none⟩ (.bool F)).heap[w.heap.size+1+1]? = some (.cells #[.slice a9 H G,.bool F] 217 (0,0)) /\
   IntAt ((E.setCell ⟨w.heap.size+1+1,0,none⟩ (.slice a9 H G)).setCell ⟨w.heap.size+1+1,1,none⟩ (.bool F)) (.agg #[.slice a9 H G,.bool F]) z /\
   ((E.setCell ⟨w.heap.size+1+1,0,none⟩ (.slice a9 H G)).setCell ⟨w.heap.size+1+1,1,none⟩ (.bool F)).heap[w.heap.size+1]? = some o /\
   Below w.heap.size w ((E.setCell ⟨w.heap.size+1+1,0,none⟩ (.slice a9 H G)).setCell ⟨w.heap.size+1+1,1,none⟩ (.bool F)):=by
 have hne:w.heap.size+1≠w.heap.size+1+1:=by omega
 refine⟨heap_setCell_same _ _ 1 _ _ _ (heap_setCell_same _ _ 0 _ _ _ z3),?_,(qW _ ⟨_,1,none⟩ _ _ hne).trans ((qW _ ⟨_,0,none⟩ _ _ hne).trans ((O.block _ (by omega)).trans Y)),((V.trans (O.mono (by omega))).setCell (p:=⟨_,0,none⟩) (by show w.heap.size<=w.heap.size+1+1;omega) _).setCell (p:=⟨_,1,none⟩) (by show w.heap.size<=w.heap.size+1+1;omega) _⟩;obtain⟨m,e,hg⟩:=I;refine⟨m,e,qch hg (qbR (qbO E _ 0 _) (qbO _ _ 1 _)) z3 ?_⟩;intro x J d;rcases qaD.1 J with rfl | J
 ·intro h;cases h
 ·rw [qao.1 J];intro h;cases h
theorem qkC (n:Nat) (p1 p2:Value) (t:Nat->Int) (K:Nat) (hK:K<=34359738368) (w:World) (hn:n<=64)
  (G:∀W (j:Nat),j<n->Below w.heap.size w W->Calls prog 152 #[.int .i64 j,p1,p2] W fun e W'=>∃u,e=.returned u/\Below W.heap.size W W'/\IntAt W' u (t j)) (U:∀j,j<n->Fit (t j).natAbs K) :
  Calls prog 151 #[.int .i64 n,zi0,.func (.func 152) #[] #[p1,p2],.func (.func 154) #[] #[]] w fun e w'=>∃u,e=.returned u/\Below w.heap.size w w'/\IntAt w' u (isum t n):=by
 have HT:=qH G;have HF:=qH U;have ak:=qeP;clear G U;go_enter func151,ntmps151;go_wp2_with fail
 go_loopw [13] (fun x13 W=>∃(k:Nat) (a:Option Addr) (m c:Nat) (b:Bool),k<=n/\x13=.int .i64 k/\Hu (W.heap[w.heap.size+1+1]? = some (.cells #[.slice a m c,.bool b] 217 (0,0))/\IntAt W (.agg #[.slice a m c,.bool b]) (isum t k)/\W.heap[w.heap.size+1]? = some (.cells #[.slice none 0 0,.bool false] 217 (0,0)))/\Hu (Below w.heap.size w W)) (fun x13 _=>n-(intOf x13).toNat)
 case atStart =>
  refine⟨0,none,0,0,false,qan _,rfl,qH ⟨qM _ _ _ (by simp),?_,(qL _ _ _ (by simp)).trans (qM _ _ _ (by simp))⟩,qH (qbM (qbM (qbM qB qN) qN) qN)⟩;exact⟨_,rfl,MagAt.nil _⟩
 case round =>
  obtain⟨k,a1,n1,c1,b1,hk,rfl,H,hB⟩:=hrel
  by_cases aa:k<n
  ·have au:(k:Int)<n:=by omega
   have e0:=qC wr _ 0 _ _ _ H.o.1;have e1:=qC wr _ 1 _ _ _ H.o.1;have aj:Below (w.heap.size+1+1) wr wr:=Below.refl _ _;have V:Below (w.heap.size+1+1) wr wr.drew:=aj.drew;have ah:=(qG H.o.1).1;have J:=qH ah;clear ah;have ag:=qH (qA (qeY t K k (fun j hj=>HF.o j (by omega))) ((HF.o k aa).mono (show K<=K+k+1 by omega)));go_wp2_with fail
   go_region_with (first | (go_at_call 154;refine ((qc5 .l) (isum t k) (t k) (K+k+1) (by omega) _ _ _ (by first | exact E.o.1 | exact E.o.1.below qB.drew) (by first | exact E.o.2.1 | exact E.o.2.1.below qB.drew) ag.o.1 ag.o.2).mono ?_;rintro e w3 ⟨p3,rfl,Z,ae⟩;have ai:Below (w.heap.size+1+1) wr w3:=Y.trans (Z.mono (qak (qap J.o) Y.size));obtain⟨a9,n9,c9,b9,rfl⟩:=qbN ae;have z3:=(Z.block _ (qai J.o Y.size)).trans E.o.2.2;have q0:=qC w3 _ 0 _ _ _ z3;have q1:=qC w3 _ 1 _ _ _ z3;have f0:=qF w3 _ 0 _ _ z3;have f1:=qF w3 _ 1 _ _ z3;have I:=qH (qiu ae z3 ai H.o.2.2 hB.o);clear Z ae z3) | (go_at_call 152;refine (HT.o _ k aa (hB.o.trans (V.mono (by omega)))).mono ?_;rintro e w2 ⟨u2,rfl,O,af⟩;have Y:Below (w.heap.size+1+1) wr w2:=V.trans (O.mono (qap J.o));have z2:w2.heap[w.heap.size+1+1]? = some (.cells #[.slice a1 n1 c1,.bool b1] 217 (0,0)):=(O.block _ J.o).trans H.o.1;have g0:=qC w2 _ 0 _ _ _ z2;have g1:=qC w2 _ 1 _ _ _ z2;obtain⟨a2,n2,c2,b2,rfl⟩:=qbN af;have E:=qH (qA (H.o.2.1.below (W':=w2) ((Below.refl wr.heap.size wr).drew.trans O)) (qA af z2));clear O af z2))
   all_goals go_wp2_with fail
   all_goals go_roundw
   all_goals first
    | exact⟨k+1,a9,n9,c9,b9,aa,by go_num,qH ⟨I.o.1,I.o.2.1,I.o.2.2.1⟩,qH I.o.2.2.2⟩
    | (simp [intOf];omega)
  ·obtain rfl:k=n:=by omega
   have e0:=qC wr _ 0 _ _ _ H.o.1;have e1:=qC wr _ 1 _ _ _ H.o.1;have F:=H.o.2.2;have HR:=qH (qA F (qA (qS hB.o (show w.heap.size<=w.heap.size+1 by omega) #[.slice a1 n1 c1,.bool b1]) (qcS (cs':=#[.slice a1 n1 c1,.bool b1]) H.o.2.1 F qeG)));clear F
   go_wp2_with (with_reducible refine sR_ rfl 217 _ _ rfl (w.heap.size+1) #[.slice a1 n1 c1,.bool b1] HR.o.1 2 ?_)
   exact qR (v:=.agg #[.slice a1 n1 c1,.bool b1]) (rA_ rfl (w.heap.size+1) (qT _ _ _ _ _ _ HR.o.1) underlying217 2) rfl ⟨_,rfl,HR.o.2.1,HR.o.2.2⟩
theorem qhA (n:Nat) (y1 y2 y3 y4:Value) (t:Nat->Int) (K:Nat) (hK:K<=34359738368) (w:World) (hn:n<=64)
  (G:∀W (j:Nat),j<n->Below w.heap.size w W->Calls prog 239 #[.int .i64 j,y1,y2,y3,y4] W fun e W'=>∃u,e=.returned u/\Below W.heap.size W W'/\IntAt W' u (t j)) (U:∀j,j<n->Fit (t j).natAbs K) :
  Calls prog 151 #[.int .i64 n,zi0,.func (.func 239) #[] #[y1,y2,y3,y4],.func (.func 154) #[] #[]] w fun e w'=>∃u,e=.returned u/\Below w.heap.size w w'/\IntAt w' u (isum t n):=by
 have HT:=qH G;have HF:=qH U;have ak:=qeP;clear G U;go_enter func151,ntmps151;go_wp2_with fail
 go_loopw [13] (fun x13 W=>∃(k:Nat) (a:Option Addr) (m c:Nat) (b:Bool),k<=n/\x13=.int .i64 k/\Hu (W.heap[w.heap.size+1+1]? = some (.cells #[.slice a m c,.bool b] 217 (0,0))/\IntAt W (.agg #[.slice a m c,.bool b]) (isum t k)/\W.heap[w.heap.size+1]? = some (.cells #[.slice none 0 0,.bool false] 217 (0,0)))/\Hu (Below w.heap.size w W)) (fun x13 _=>n-(intOf x13).toNat)
 case atStart =>
  refine⟨0,none,0,0,false,qan _,rfl,qH ⟨qM _ _ _ (by simp),?_,(qL _ _ _ (by simp)).trans (qM _ _ _ (by simp))⟩,qH (qbM (qbM (qbM qB qN) qN) qN)⟩;exact⟨_,rfl,MagAt.nil _⟩
 case round =>
  obtain⟨k,a1,n1,c1,b1,hk,rfl,H,hB⟩:=hrel
  by_cases aa:k<n
  ·have au:(k:Int)<n:=by omega
   have e0:=qC wr _ 0 _ _ _ H.o.1;have e1:=qC wr _ 1 _ _ _ H.o.1;have aj:Below (w.heap.size+1+1) wr wr:=Below.refl _ _;have V:Below (w.heap.size+1+1) wr wr.drew:=aj.drew;have ah:=(qG H.o.1).1;have J:=qH ah;clear ah;have ag:=qH (qA (qeY t K k (fun j hj=>HF.o j (by omega))) ((HF.o k aa).mono (show K<=K+k+1 by omega)));go_wp2_with fail
   go_region_with (first | (go_at_call 154;refine ((qc5 .l) (isum t k) (t k) (K+k+1) (by omega) _ _ _ (by first | exact E.o.1 | exact E.o.1.below qB.drew) (by first | exact E.o.2.1 | exact E.o.2.1.below qB.drew) ag.o.1 ag.o.2).mono ?_;rintro e w3 ⟨p3,rfl,Z,ae⟩;have ai:Below (w.heap.size+1+1) wr w3:=Y.trans (Z.mono (qak (qap J.o) Y.size));obtain⟨a9,n9,c9,b9,rfl⟩:=qbN ae;have z3:=(Z.block _ (qai J.o Y.size)).trans E.o.2.2;have q0:=qC w3 _ 0 _ _ _ z3;have q1:=qC w3 _ 1 _ _ _ z3;have f0:=qF w3 _ 0 _ _ z3;have f1:=qF w3 _ 1 _ _ z3;have I:=qH (qiu ae z3 ai H.o.2.2 hB.o);clear Z ae z3) | (go_at_call 239;refine (HT.o _ k aa (hB.o.trans (V.mono (by omega)))).mono ?_;rintro e w2 ⟨u2,rfl,O,af⟩;have Y:Below (w.heap.size+1+1) wr w2:=V.trans (O.mono (qap J.o));have z2:w2.heap[w.heap.size+1+1]? = some (.cells #[.slice a1 n1 c1,.bool b1] 217 (0,0)):=(O.block _ J.o).trans H.o.1;have g0:=qC w2 _ 0 _ _ _ z2;have g1:=qC w2 _ 1 _ _ _ z2;obtain⟨a2,n2,c2,b2,rfl⟩:=qbN af;have E:=qH (qA (H.o.2.1.below (W':=w2) ((Below.refl wr.heap.size wr).drew.trans O)) (qA af z2));clear O af z2))
   all_goals go_wp2_with fail
   all_goals go_roundw
   all_goals first
    | exact⟨k+1,a9,n9,c9,b9,aa,by go_num,qH ⟨I.o.1,I.o.2.1,I.o.2.2.1⟩,qH I.o.2.2.2⟩
    | (simp [intOf];omega)
  ·obtain rfl:k=n:=by omega
   have e0:=qC wr _ 0 _ _ _ H.o.1;have e1:=qC wr _ 1 _ _ _ H.o.1;have F:=H.o.2.2;have HR:=qH (qA F (qA (qS hB.o (show w.heap.size<=w.heap.size+1 by omega) #[.slice a1 n1 c1,.bool b1]) (qcS (cs':=#[.slice a1 n1 c1,.bool b1]) H.o.2.1 F qeG)));clear F
   go_wp2_with (with_reducible refine sR_ rfl 217 _ _ rfl (w.heap.size+1) #[.slice a1 n1 c1,.bool b1] HR.o.1 2 ?_)
   exact qR (v:=.agg #[.slice a1 n1 c1,.bool b1]) (rA_ rfl (w.heap.size+1) (qT _ _ _ _ _ _ HR.o.1) underlying217 2) rfl ⟨_,rfl,HR.o.2.1,HR.o.2.2⟩
abbrev rowv (g n:Nat):Value:=.slice (some ⟨g,0,none⟩) n n
def rowvs (R n:Nat) (E:Nat->Nat):List Value:=(List.range R).map fun i=>rowv (E i) n
theorem qcu (R n:Nat) (E:Nat->Nat):(rowvs R n E).length=R:=by rw [rowvs,qay,qbo]
theorem qdL {R n i:Nat} {E:Nat->Nat} (F:i<R):(rowvs R n E)[i]? = some (rowv (E i) n):=by
 rw [rowvs,qaE,qbE F];rfl
theorem ql6 {R n i:Nat} {F:Nat->Nat} (g:Nat):(rowvs R n F).set i (rowv g n)=rowvs R n (fun j=>if j=i then g else F j):=by
 apply List.ext_getElem?;intro j
 by_cases E:j<R
 ·rw [qdL E,List.getElem?_set]
  by_cases e:i=j
  ·subst e;rw [if_pos rfl,if_pos (by rw [qcu];exact E),if_pos rfl]
  ·rw [if_neg e,qdL E,if_neg (fun h=>e h.symm)]
 ·rw [qaS (by rw [qaQ,qcu];omega),qaS (by rw [qcu];omega)]
def qb9 (W:World) (g n:Nat) (m:Nat->Int):Prop:=∃E:List (Value×Bool),E.length=n/\IRow W g n E/\qcd W E m
theorem qb9.below {W W':World} {g n:Nat} {m:Nat->Int} (h:qb9 W g n m) (E:Below W.heap.size W W'):qb9 W' g n m:=by
 obtain⟨ps,F,G,H⟩:=h;exact⟨ps,F,G.below E,H.below E⟩
theorem qb9.cells {W:World} {g n:Nat} {E:List (Value×Bool)} (H:E.length=n) (F:IRow W g n E):qgD W g n E:=by
 intro k I;have G:(E++List.replicate (n-E.length) (zs0,false))[k]? = some (E.getD k (zs0,false)):=by
  rw [qax (by omega),qab,qad (by omega)];rfl
 obtain⟨e1,e2⟩:=qeW _ _ _ G;exact⟨(qC _ _ _ _ _ _ F.1).trans ((qaz ..).trans e1),(qC _ _ _ _ _ _ F.1).trans ((qaz ..).trans e2)⟩
structure MatAt (W:World) (tb R n:Nat) (gs:Nat->Nat) (M:Nat->Nat->Int):Prop where
 row:W.heap[tb]? = some (.cells (rowvs R n gs).toArray 212 (0,0))
 rows:∀i,i<R->qb9 W (gs i) n (M i)
theorem MatAt.below {W W':World} {G R n:Nat} {E:Nat->Nat} {M:Nat->Nat->Int} (h:MatAt W G R n E M) (F:Below W.heap.size W W'):MatAt W' G R n E M :=
 ⟨(F.block _ (qG h.row).1).trans h.row,fun i H=>(h.rows i H).below F⟩
theorem MatAt.cell {W:World} {E R n:Nat} {F:Nat->Nat} {M:Nat->Nat->Int} (h:MatAt W E R n F M) {i:Nat} (G:i<R):W.cell? ⟨E,i,none⟩=some (rowv (F i) n)/\W.frozen? ⟨E,i,none⟩=false :=
 ⟨(qC _ _ _ _ _ _ h.row).trans ((qaz ..).trans (qdL G)),qF _ _ _ _ _ h.row⟩
theorem qgg {R n:Nat} {E:Nat->Nat}:∀x∈(rowvs R n E).toArray.toList,∀d,x≠.int .u32 d:=by
 intro x F d e;obtain⟨i,_,h⟩:=qbA.1 (show x∈rowvs R n E from F);rw [e] at h;cases h
theorem qb9.keep {W W':World} {F R n g I:Nat} {J:Nat->Nat} {m:Nat->Int} (h:qb9 W g I m) (G:W.grownBy W' (some F)) (H:W.heap[F]? = some (.cells (rowvs R n J).toArray 212 (0,0))):qb9 W' g I m:=by
 obtain⟨ps,O,E,U⟩:=h;have hne:g≠F:=by
  intro e;subst e;have:=E.1.symm.trans H;simp at this
 exact⟨ps,O,⟨(G.block _ (qG E.1).1 (fun e=>hne (qag e))).trans E.1,E.2⟩,U.keep G H qgg⟩
theorem MatAt.set {W:World} {E R n:Nat} {F:Nat->Nat} {M:Nat->Nat->Int} (h:MatAt W E R n F M) (i g:Nat) (m:Nat->Int) (hg:qb9 W g n m) :
  MatAt (W.setCell ⟨E,i,none⟩ (rowv g n)) E R n (fun j=>if j=i then g else F j) (fun j=>if j=i then m else M j):=by
 have G:=qbO W E i (rowv g n);refine⟨?_,fun j H=>?_⟩
 ·rw [heap_setCell_same _ E i _ _ _ h.row,qaH,ql6]
 ·by_cases e:j=i
  ·simp only [if_pos e];exact hg.keep G h.row
  ·simp only [if_neg e];exact (h.rows j H).keep G h.row
theorem MatAt.congr {W:World} {I R n:Nat} {H E:Nat->Nat} {M G:Nat->Nat->Int} (h:MatAt W I R n H M) (hg:∀i,i<R->H i=E i) (J:∀i,i<R->M i=G i):MatAt W I R n E G:=by
 refine⟨?_,fun i F=>by rw [<-hg i F,<-J i F];exact h.rows i F⟩;rw [h.row]
 congr 3
 exact List.map_congr_left fun i F=>by rw [hg i (qar.1 F)]
def PivAs (w:World) (G R n k c:Nat) (E:Nat->Nat) (M:Nat->Nat->Int) (e:Ending) (F:World):Prop :=
 (e=.returned (.bool false)/\F=w/\∀i,k<=i->i<R->M i c=0) \/
 (e=.returned (.bool true)/\w.grownBy F (some G)/\∃a,k<=a/\a<R/\M a c≠0/\MatAt F G R n (fun j=>if j=k then E a else if j=a then E k else E j) (fun j=>if j=k then M a else if j=a then M k else M j))
theorem qlZ (Z R n k c:Nat) (G:Nat->Nat) (M:Nat->Nat->Int) (w:World) (hR:R<=1024) (Y:k<R) (hc:c<n) (_hn:n<=1024) (hM:MatAt w Z R n G M) :
  Calls prog 255 #[.slice (some ⟨Z,0,none⟩) R R,.int .i64 k,.int .i64 c] w fun e w'=>PivAs w Z R n k c G M e w':=by
 have F:=qH hM;have ai:(k:Int)<R:=by omega
 have af:(c:Int)<n:=by omega
 clear hM;go_enter func255,ntmps255;go_wp2
 go_step3
 go_wp2
 go_step3
 go_wp2
 go_loopw [7,8] (fun x7 x8 W=>∃i:Nat,k<=i/\i<=R/\x7=.int .i64 (-1)/\x8=.int .i64 i/\W=w/\Hu (∀j,k<=j->j<i->M j c=0)) (fun _ x8 _=>R-(intOf x8).toNat)
 case atStart=>exact⟨k,qaf _,qap Y,rfl,rfl,rfl,qH (fun j H V=>absurd H (by omega))⟩
 case round =>
  obtain⟨i,aa,ag,rfl,rfl,rfl,hI⟩:=hrel
  by_cases I:i<R
  ·have ah:(i:Int)<R:=by omega
   obtain⟨ps,O,E,J⟩:=F.o.rows i I;obtain⟨c0,f0⟩:=F.o.cell I;obtain⟨d0,d1⟩:=qb9.cells O E c hc;obtain⟨H,V⟩:=J c (by omega);have hz:=(qcr .l) (M i c).natAbs _ wr V;have HZ:=qH hz;obtain⟨a,_,_,cc,m,_,e,_,_⟩:=V;rw [e] at d0;rw [e] at HZ;clear hz e d1 H O E J;go_wp2_with fail;refine HZ.o.mono ?_;rintro e w2 ⟨rfl,ae⟩;subst ae
   by_cases U:(M i c).natAbs=0
   ·rw [qV U];go_wp2;go_roundw
    case rel =>
     refine⟨i+1,by omega,I,rfl,by go_num,trivial,qH (fun j H V=>?_)⟩
     by_cases e:j=i
     ·subst e;omega
     ·exact hI.o j H (by omega)
    case measure=>simp [intOf];omega
   ·rw [qU U];obtain⟨c1,f1⟩:=F.o.cell Y;have m1:=F.o.set i (G k) (M k) (F.o.rows k Y);have m2:=m1.set k (G i) (M i) ((F.o.rows i I).keep (qbO w2 Z i (rowv (G k) n)) F.o.row);obtain⟨c2,f2⟩:=m1.cell Y;have H2:=qH m2;have H0:=qH U;clear m1 m2 U hR;go_wp2_with fail
    go_region
    all_goals go_wp2_with fail
    all_goals rw [Exit.noGoto_ret]
    all_goals go_ret
    all_goals exact qaj ⟨rfl,qcb (qbR (qbO _ _ _ _) (qbO _ _ _ _)) qB.drew,i,aa,I,fun h=>H0.o (by rw [h];rfl),H2.o.below qB.drew⟩
  ·obtain rfl:i=R:=by omega
   go_wp2_with fail;rw [Exit.noGoto_ret];go_ret;exact qav ⟨rfl,rfl,hI.o⟩
def KK (K k:Nat):Nat:=(K+1)*2 ^ k-1
theorem qkL (K:Nat):KK K 0=K:=by unfold KK;rw [Nat.pow_zero,qbI];omega
theorem qkK (K k:Nat):KK K (k+1)=KK K k+KK K k+1:=by
 unfold KK;have h:0<(K+1)*2 ^ k:=qbL (by omega) (Nat.pow_pos (by decide));rw [qaW,<-qaJ];omega
theorem KK_le {K k:Nat} (I:K<=33554430) (H:k<=10):KK K k<=34359738368:=by
 unfold KK;have E:2 ^ k<=2 ^ 10:=qa6 (by decide) H;have F:(K+1)*2 ^ k<=(K+1)*2 ^ 10:=qaM _ E;have G:(2:Nat) ^ 10=1024:=by decide
 rw [G] at F;omega
theorem fit_step {a b c d z:Int} {K:Nat} (G:Fit a.natAbs K) (H:Fit b.natAbs K) (I:Fit c.natAbs K) (J:Fit d.natAbs K):Fit ((a*b-c*d).tdiv z).natAbs (K+K+1):=by
 have E:=G.mul H;have F:=I.mul J;rw [<-qaB] at E F;refine ((E.add F).le ?_);refine qak ?_ (show (a*b-c*d).natAbs<=_ by omega);rw [Int.natAbs_tdiv];exact qaN _ _
theorem swap_fit {M:Nat->Nat->Int} {k a R n K:Nat} (H:k<R) (F:a<R) (h:∀i,i<R->∀j,j<n->Fit (M i j).natAbs K):∀i,i<R->∀j,j<n->Fit (qb6 M k a i j).natAbs K:=by
 intro i G j E;unfold qb6;split
 ·exact h a F j E
 ·split
  ·exact h k H j E
  ·exact h i G j E
def qb5 (W:World) (g:Nat) (z:Int):Prop:=∃(a:Option Addr) (m c:Nat) (b:Bool),W.heap[g]? = some (.cells #[.slice a m c,.bool b] 217 (0,0))/\IntAt W (.agg #[.slice a m c,.bool b]) z
theorem qb5.below {W W':World} {g:Nat} {z:Int} (h:qb5 W g z) (F:Below W.heap.size W W'):qb5 W' g z:=by
 obtain⟨a,m,c,b,E,G⟩:=h;exact⟨a,m,c,b,(F.block _ (qG E).1).trans E,G.below F⟩
theorem qb5.keep {W W':World} {g F R n:Nat} {I:Nat->Nat} {z:Int} (h:qb5 W g z) (G:W.grownBy W' (some F)) (H:W.heap[F]? = some (.cells (rowvs R n I).toArray 212 (0,0))):qb5 W' g z:=by
 obtain⟨a,m,c,b,E,x,e,J⟩:=h;have hne:g≠F:=by
  intro e;subst e;have:=E.symm.trans H;simp at this
 exact⟨a,m,c,b,(G.block _ (qG E).1 (fun e=>hne (qag e))).trans E,x,e,qch J G H qgg⟩
theorem qjv {a:Option Addr} {m c:Nat} {b:Bool}:∀x∈(#[.slice a m c,.bool b]:Array Value).toList,∀d,x≠.int .u32 d:=by
 intro x E d e;rcases qaD.1 E with h | h
 ·rw [h] at e;cases e
 ·rw [qao.1 h] at e;cases e
theorem qdM (W:World) (g:Nat) (u v:Value):W.grownBy ((W.setCell ⟨g,0,none⟩ u).setCell ⟨g,1,none⟩ v) (some g):=qbR (qbO W g 0 u) (qbO _ g 1 v)
theorem qb5.put {W:World} {g:Nat} {z0 z:Int} {a:Option Addr} {m c:Nat} {b:Bool} (h:qb5 W g z0) (F:IntAt W (.agg #[.slice a m c,.bool b]) z):qb5 ((W.setCell ⟨g,0,none⟩ (.slice a m c)).setCell ⟨g,1,none⟩ (.bool b)) g z:=by
 obtain⟨a0,m0,c0,b0,E,_⟩:=h;obtain⟨x,e,G⟩:=F;exact⟨a,m,c,b,heap_setCell_same _ g 1 _ _ _ (heap_setCell_same _ g 0 _ _ _ E),x,e,qch G (qdM W g _ _) E qjv⟩
theorem qb9.put {W W':World} {g E n:Nat} {z0:Int} {m:Nat->Int} (h:qb9 W E n m) (H:qb5 W g z0) (F:W.grownBy W' (some g)) (hne:E≠g):qb9 W' E n m:=by
 obtain⟨a0,m0,c0,b0,G,_⟩:=H;obtain⟨ps,p1,p2,p3⟩:=h;exact⟨ps,p1,⟨(F.block _ (qG p2.1).1 (fun e=>hne (qag e))).trans p2.1,p2.2⟩,p3.keep F G qjv⟩
theorem MatAt.put {W W':World} {F R n g:Nat} {E:Nat->Nat} {M:Nat->Nat->Int} {z0:Int} (h:MatAt W F R n E M) (G:qb5 W g z0) (I:W.grownBy W' (some g)) (hne:∀i,i<R->E i≠g):MatAt W' F R n E M:=by
 refine⟨?_,fun i H=>(h.rows i H).put G I (hne i H)⟩;have:F≠g:=by
  intro e;subst e;obtain⟨_,_,_,_,J,_⟩:=G;have:=h.row.symm.trans J;simp at this
 exact (I.block _ (qG h.row).1 (fun e=>this (qag e))).trans h.row
theorem qb5.cells {W:World} {g:Nat} {z:Int} (h:qb5 W g z):∃(a:Option Addr) (m c:Nat) (b:Bool),(W.cell? ⟨g,0,none⟩=some (.slice a m c)/\W.cell? ⟨g,1,none⟩=some (.bool b))/\(W.frozen? ⟨g,0,none⟩=false/\W.frozen? ⟨g,1,none⟩=false)/\IntAt W (.agg #[.slice a m c,.bool b]) z:=by
 obtain⟨a,m,c,b,E,F⟩:=h;exact⟨a,m,c,b,⟨qC _ _ 0 _ _ _ E,qC _ _ 1 _ _ _ E⟩,⟨qF _ _ 0 _ _ E,qF _ _ 1 _ _ E⟩,F⟩
theorem qb9.pair {W:World} {g n:Nat} {m:Nat->Int} (h:qb9 W g n m) {c:Nat} (H:c<n):∃(a:Option Addr) (l k:Nat) (b:Bool),W.cell? ⟨g,c*2,none⟩=some (.slice a l k)/\W.cell? ⟨g,c*2+1,none⟩=some (.bool b)/\IntAt W (.agg #[.slice a l k,.bool b]) (m c):=by
 obtain⟨ps,E,F,G⟩:=h;obtain⟨d0,d1⟩:=qb9.cells E F c H;obtain⟨a,l,k,b,e,I⟩:=qc1 G (k:=c) (by omega);rw [e] at d0 d1;exact⟨a,l,k,b,d0,d1,I⟩
theorem qb5.lt {W:World} {g:Nat} {z:Int} (h:qb5 W g z):g<W.heap.size:=by
 obtain⟨_,_,_,_,E,_⟩:=h;exact (qG E).1
theorem qei {a b:World} {row:Option Nat} (h:a.grownBy b row) {p:Addr} (F:a.heap.size<=p.block) (v:Value):a.grownBy (b.setCell p v) row :=
 ⟨h.os,h.tape,h.output,by simpa [World.setCell] using h.size,fun i E hne=>(qW b p v i (by omega)).trans (h.block i E hne)⟩
theorem gs_set {R i g x:Nat} {E:Nat->Nat} (h:∀j,j<R->E j≠x) (hg:g≠x):∀j,j<R->(fun j=>if j=i then g else E j) j≠x:=by
 intro j F
 by_cases e:j=i
 ·simp only [if_pos e];exact hg
 ·simp only [if_neg e];exact h j F
theorem qle {R k a x:Nat} {E:Nat->Nat} (I:k<R) (G:a<R) (h:∀i,i<R->E i≠x):∀i,i<R->(fun j=>if j=k then E a else if j=a then E k else E j) i≠x:=by
 intro i H
 by_cases e:i=k
 ·simp only [if_pos e];exact h a G
 ·by_cases F:i=a
  ·simp only [if_neg e,if_pos F];exact h k I
  ·simp only [if_neg e,if_neg F];exact h i H
theorem qhg {W:World} {H I n c K:Nat} {F G:Nat->Int} {v0:Value} {z0:Int} (hK:K<=34359738368) (hn:n<=64) (hc:c<n) (hi:qb9 W H n F) (hk:qb9 W I n G) (O:∀j,j<n->Fit (F j).natAbs K) (U:∀j,j<n->Fit (G j).natAbs K) (h0:IntAt W v0 z0) (J:Fit z0.natAbs K) (Z:z0≠0) :
  Calls prog 256 #[rowv H n,rowv I n,.int .i64 c,v0] W fun e W'=>∃g,e=.returned (rowv g n)/\W.heap.size<=g/\Below W.heap.size W W'/\qb9 W' g n (fun j=>(G c*F j-F c*G j).tdiv z0):=by
 obtain⟨ps,p1,p2,p3⟩:=hi;obtain⟨qs,q1,q2,q3⟩:=hk;refine (qhN H I n n n c ps qs F G K hK v0 z0 W hn hc p1 q1 (qb9.cells p1 p2) (qb9.cells q1 q2) p3 q3 O U h0 J Z).mono ?_;rintro e W' ⟨g,rs,rfl,hg,hb,Y,E,V⟩;exact⟨g,rfl,hg,hb,rs,Y,E,V⟩
def epart (M:Nat->Nat->Int) (k:Nat) (D:Int) (i:Nat):Nat->Nat->Int:=qbY (fun j=>decide (j<i)) M k k D
theorem qiO (M:Nat->Nat->Int) (k:Nat) (D:Int):epart M k D 0=M:=by
 funext j
 unfold epart qbY;rw [if_neg];intro h;have:=of_decide_eq_true h.1;omega
theorem qeM (M:Nat->Nat->Int) (k:Nat) (D:Int) (i:Nat):epart M k D i i=M i/\epart M k D i k=M k:=by
 unfold epart qbY
 constructor
 ·rw [if_neg];intro h;have:=of_decide_eq_true h.1;omega
 ·rw [if_neg];intro h;exact h.2 rfl
theorem qj1 (M:Nat->Nat->Int) (k:Nat) (D:Int) (i:Nat) (E:i≠k):(fun j=>if j=i then (fun x=>(M k k*M i x-M i k*M k x).tdiv D) else epart M k D i j)=epart M k D (i+1):=by
 funext j
 by_cases e:j=i
 ·subst e;rw [if_pos rfl];unfold epart qbY;rw [if_pos ⟨qV (by omega),E⟩]
 ·rw [if_neg e];unfold epart qbY;have h:decide (j<i)=decide (j<i+1):=decide_eq_decide.2 (by omega);simp only [h]
theorem qj2 (M:Nat->Nat->Int) (k:Nat) (D:Int):epart M k D k=epart M k D (k+1):=by
 funext j
 unfold epart qbY
 by_cases e:j=k
 ·rw [if_neg (fun h=>h.2 e),if_neg (fun h=>h.2 e)]
 ·have h:decide (j<k)=decide (j<k+1):=decide_eq_decide.2 (by omega);simp only [h]
theorem qk1 (M:Nat->Nat->Int) (k:Nat) (D:Int) (R:Nat):∀j,j<R->epart M k D R j=qbY (fun _=>true) M k k D j:=by
 intro j E;unfold epart qbY;simp only [qV E]
theorem qk2 {M:Nat->Nat->Int} {k:Nat} {D:Int} {R n K:Nat} (H:k<R) (G:k<n) (h:∀i,i<R->∀j,j<n->Fit (M i j).natAbs K):∀i,i<R->∀j,j<n->Fit (qbY (fun _=>true) M k k D i j).natAbs (K+K+1):=by
 intro i E j F;unfold qbY;split
 ·exact fit_step (h k H k G) (h i E j F) (h i E k G) (h k H j F)
 ·exact (h i E j F).mono (by omega)
theorem qk3 {W:World} {E R n k i g:Nat} {D:Int} {F:Nat->Nat} {M:Nat->Nat->Int} (h:MatAt W E R n F (epart M k D i)) (G:i≠k) (hg:qb9 W g n (fun j=>(epart M k D i k k*epart M k D i i j-epart M k D i i k*epart M k D i k j).tdiv D)) :
  MatAt (W.setCell ⟨E,i,none⟩ (rowv g n)) E R n (fun j=>if j=i then g else F j) (epart M k D (i+1)):=by
 rw [(qeM M k D i).1,(qeM M k D i).2] at hg;have:=h.set i g _ hg;rw [qj1 M k D i G] at this;exact this
theorem qb5.other {W:World} {g E:Nat} {z z0:Int} {u v:Value} (h:qb5 W g z) (H:qb5 W E z0) (hne:g≠E):qb5 ((W.setCell ⟨E,0,none⟩ u).setCell ⟨E,1,none⟩ v) g z:=by
 obtain⟨a,m,c,b,F,x,e,I⟩:=h;obtain⟨_,_,_,_,k1,_⟩:=H;have G:=qdM W E u v;exact⟨a,m,c,b,(G.block _ (qG F).1 (fun e=>hne (qag e))).trans F,x,e,qch I G k1 qjv⟩
theorem qb5.row2 {W:World} {g:Nat} {z0 z:Int} {a:Option Addr} {m c:Nat} {b:Bool} (h:qb5 W g z0) (F:IntAt W (.agg #[.slice a m c,.bool b]) z):((W.setCell ⟨g,0,none⟩ (.slice a m c)).setCell ⟨g,1,none⟩ (.bool b)).heap[g]? = some (.cells #[.slice a m c,.bool b] 217 (0,0))/\IntAt ((W.setCell ⟨g,0,none⟩ (.slice a m c)).setCell ⟨g,1,none⟩ (.bool b)) (.agg #[.slice a m c,.bool b]) z:=by
 obtain⟨a0,m0,c0,b0,E,_⟩:=h;obtain⟨x,e,G⟩:=F;exact⟨heap_setCell_same _ g 1 _ _ _ (heap_setCell_same _ g 0 _ _ _ E),x,e,qch G (qdM W g _ _) E qjv⟩
theorem qb5.zero {W:World} {g:Nat} {z0:Int} (h:qb5 W g z0):((W.setCell ⟨g,0,none⟩ (.slice none 0 0)).setCell ⟨g,1,none⟩ (.bool false)).heap[g]? = some (.cells #[.slice none 0 0,.bool false] 217 (0,0)) :=
 (h.row2 (z:=0) ⟨_,rfl,MagAt.nil _⟩).1
def ElmAs (w:World) (F R n K:Nat) (A:Nat->Nat->Int) (e:Ending) (E:World):Prop :=
  ∃(v:Value) (z:Int),e=.returned v/\IntAt E v z/\w.grownBy E (some F) /\
    ((z=0/\∃(k:Nat) (D:Int) (M:Nat->Nat->Int),k<R/\ElimSt R n k D M A/\∀i,k<=i->i<R->M i k=0) \/
     (Fit z.natAbs (KK K R)/\∃(G:Nat->Nat) (M:Nat->Nat->Int),MatAt E F R n G M/\ElimSt R n R z M A/\∀i,i<R->∀j,j<n->Fit (M i j).natAbs (KK K R)))
theorem elim_any (tb R n K:Nat) (Z:Nat->Nat) (A:Nat->Nat->Int) (w:World) (aT:0<R) (hR:R<=10) (aU:R<=n) (hn:n<=11) (hK:K<=33554430) (aO:0<K) (hM:MatAt w tb R n Z A) (aG:∀i,i<R->Z i<w.heap.size) (hF:∀i,i<R->∀j,j<n->Fit (A i j).natAbs K) :
  Calls prog 240 #[.slice (some ⟨tb,0,none⟩) R R] w fun e w'=>ElmAs w tb R n K A e w':=by
 have HM:=qH (qA hM (qA aG hF));have aX:tb<w.heap.size:=(qG hM.row).1;have aR:(0:Int)<R:=by omega
 clear hM hF aG;go_enter func240,ntmps240;go_wp2_with fail
 go_loopw [10] (fun x10 W=>∃(k:Nat) (D:Int) (Z:Nat->Nat) (M:Nat->Nat->Int),k<=R/\x10=.int .i64 k/\Hu (ElimSt R n k D M A)/\Hu (MatAt W tb R n Z M/\(∀i,i<R->Z i≠w.heap.size+1+1)/\∀i,i<R->Z i≠w.heap.size)/\Hu (qb5 W (w.heap.size+1+1) D/\qb5 W w.heap.size 0)/\Hu (w.grownBy W (some tb))/\Hu (Fit D.natAbs (KK K k)/\∀i,i<R->∀j,j<n->Fit (M i j).natAbs (KK K k))) (fun x10 _=>R-(intOf x10).toNat)
 case atStart =>
  have hb:Below w.heap.size w (((w.alloc (.cells #[.slice none 0 0,.bool false] 217)).alloc (.cells #[.int .u32 1] 201)).alloc (.cells #[.slice (some ⟨w.heap.size+1,0,none⟩) 1 1,.bool false] 217)):=qbM (qbM (qbM qB qN) qN) qN;refine⟨0,1,Z,A,qan _,rfl,qH (ElimSt.start _ _ _),qH ⟨HM.o.1.below hb,fun i Y=>by have:=HM.o.2.1 i Y;omega,fun i Y=>by have:=HM.o.2.1 i Y;omega⟩,qH ⟨⟨_,_,_,_,qM _ _ _ (by simp),_,rfl,?_⟩,⟨_,_,_,_,(qL _ _ _ (by simp only [qaa];omega)).trans ((qL _ _ _ (by simp only [qaa];omega)).trans (qM _ _ _ rfl)),_,rfl,MagAt.nil _⟩⟩,qH (qbV _ hb),qH ⟨?_,fun i Y j hj=>by rw [qkL];exact HM.o.2.2 i Y j hj⟩⟩
  ·have:=(qfh (w.alloc (.cells #[.slice none 0 0,.bool false] 217)) 201 (s:=1) (by decide) (by decide)).below (qbM (o:=.cells #[.slice (some ⟨w.heap.size+1,0,none⟩) 1 1,.bool false] 217) qB qN);rw [qaa] at this;exact this
  ·rw [qkL];exact Fit.mono (show Fit 1 1 by show 1<1000000000 ^ 1;decide) aO
 case round =>
  obtain⟨k,D,gs1,M,hk,rfl,hS,J,hI,hG,aa⟩:=hrel
  by_cases F:k<R
  ·have aS:(k:Int)<R:=by omega
   have V:k<n:=by omega
   go_wp2_with fail;refine (qlZ tb R n k k gs1 M _ (by omega) F V (by omega) J.o.1).mono ?_;rintro e w2 (⟨rfl,hw,h0⟩ | ⟨rfl,aj,a,aQ,ai,hne,az⟩)
   ·subst hw;have H0:=qH h0;obtain⟨a,m,d,b,⟨e0,e1⟩,⟨z0,z1⟩,_⟩:=hI.o.2.cells;have O:=hI.o.2.zero;have ah:=qei (qei hG.o qN (p:=⟨w.heap.size,0,none⟩) (.slice none 0 0)) qN (p:=⟨w.heap.size,1,none⟩) (.bool false);have H:=qH (qA O ah);clear h0 O ah;go_wp2_with fail;exact qR (v:=.agg #[.slice none 0 0,.bool false]) (rA_ rfl w.heap.size H.o.1 underlying217 2) rfl ⟨_,0,rfl,⟨_,rfl,MagAt.nil _⟩,H.o.2,qav ⟨rfl,k,D,M,F,hS.o,H0.o⟩⟩
   ·have ax:=qH (hS.o.swap aQ ai);have aL:=qH (qA (hI.o.1.keep aj J.o.1.row) (hI.o.2.keep aj J.o.1.row));have aK:=qH (qbR hG.o aj);have U:=qH (qA aa.o.1 (swap_fit F ai aa.o.2));have aC:=qH (show qb6 M k a k k≠0 by unfold qb6;rw [if_pos rfl];exact hne);obtain⟨gs2,au⟩:=qY (fun j=>if j=k then gs1 a else if j=a then gs1 k else gs1 j);have aA:=qle F ai J.o.2.1;have af:=qle F ai J.o.2.2;rw [<-au] at az aA af;have ae:MatAt w2 tb R n gs2 (qb6 M k a):=az;obtain⟨M2,ak⟩:=qY (qb6 M k a);rw [<-ak] at ae ax U aC;have aB:=qH (qA ae (qA aA af));clear az ae au ak hne aj aA af hS J hI hG aa;go_wp2_with fail
    go_loopw [21] (fun x21 W=>∃(i:Nat) (Z:Nat->Nat),i<=R/\x21=.int .i64 i/\Hu (MatAt W tb R n Z (epart M2 k D i)/\(∀i,i<R->Z i≠w.heap.size+1+1)/\∀i,i<R->Z i≠w.heap.size)/\Hu (qb5 W (w.heap.size+1+1) D/\qb5 W w.heap.size 0)/\Hu (w.grownBy W (some tb))) (fun x21 _=>R-(intOf x21).toNat)
    case atStart=>exact⟨0,gs2,qan _,rfl,qH ⟨by rw [qiO];exact aB.o.1,aB.o.2⟩,aL,aK⟩
    case round =>
     obtain⟨i,aD,aV,rfl,E,G,ay⟩:=hrel
     by_cases Y:i<R
     ·have aW:(i:Int)<R:=by omega
      by_cases ag:i=k
      ·have aH:((i:Int) != (k:Int))=false:=by simp [ag]
       have aN:=qH (show epart M2 k D i=epart M2 k D (i+1) by rw [ag];exact qj2 M2 k D);clear ag;go_wp2;go_roundw
       case rel=>exact⟨i+1,aD,Y,by go_num,qH ⟨by rw [<-aN.o];exact E.o.1,E.o.2⟩,G,ay⟩
       case measure=>simp [intOf];omega
      ·have aH:((i:Int) != (k:Int))=true:=by rw [bne_iff_ne];omega
       have aM:=qH ag;clear ag;obtain⟨ci,fi⟩:=E.o.1.cell Y;obtain⟨ck,fk⟩:=E.o.1.cell F;obtain⟨a,m,d,b,⟨e0,e1⟩,_,I⟩:=G.o.1.cells;have HC:=qH (fun W (h:Below wr.heap.size wr W)=>qhg (KK_le hK (show k<=10 by omega)) (show n<=64 by omega) V ((E.o.1.below h).rows i Y) ((E.o.1.below h).rows k F) (by rw [(qeM M2 k D i).1];exact U.o.2 i Y) (by rw [(qeM M2 k D i).2];exact U.o.2 k F) (I.below h) U.o.1 ax.o.nz);have av:Below wr.heap.size wr wr.drew:=qB.drew;clear I;go_wp2_with fail
       go_region_with (first | (go_at_call 256;refine (HC.o _ av).mono ?_;rintro e w4 ⟨g,rfl,aP,aF,aJ⟩;have hb:=av.trans aF;obtain⟨q0,q1⟩:=(E.o.1.below hb).cell Y;have H:=qH (qA (E.o.1.below hb) (qA (qA (G.o.1.below hb) (G.o.2.below hb)) (qA aP (qA aJ (qcb ay.o hb)))));clear aF aJ hb))
       all_goals go_wp2_with fail
       all_goals go_roundw
       all_goals first
        | exact⟨i+1,_,Y,by go_num,qH ⟨qk3 H.o.1 aM.o H.o.2.2.2.1,gs_set E.o.2.1 (qbi (qai G.o.1.lt H.o.2.2.1)),gs_set E.o.2.2 (qbi (qai G.o.2.lt H.o.2.2.1))⟩,qH ⟨H.o.2.1.1.keep (qbO _ _ _ _) H.o.1.row,H.o.2.1.2.keep (qbO _ _ _ _) H.o.1.row⟩,qH (qbR H.o.2.2.2.2 (qbO _ _ _ _))⟩
        | (simp [intOf];omega)
     ·obtain rfl:i=R:=by omega
      obtain⟨ck,fk⟩:=E.o.1.cell F;obtain⟨a,m,d,b,⟨e0,e1⟩,⟨z0,z1⟩,_⟩:=G.o.1.cells;obtain⟨a2,m2,d2,b2,p0,p1,I⟩:=(E.o.1.rows k F).pair V;rw [(qeM M2 k D i).2] at I;have H:=qH I;clear I;go_wp2;go_roundw
      case rel =>
       refine⟨k+1,M2 k k,aD,qbY (fun _=>true) M2 k k D,by omega,by go_num,qH (ax.o.next F V aC.o),qH ⟨(E.o.1.put G.o.1 (qdM _ _ _ _) E.o.2.1).congr (fun _ _=>rfl) (qk1 M2 k D i),E.o.2⟩,qH ⟨G.o.1.put H.o,G.o.2.other G.o.1 (by omega)⟩,qH ?_,qH ⟨?_,?_⟩⟩
       ·exact qei (qei ay.o (qam (qa7 _)) _) (qam (qa7 _)) _
       ·rw [qkK];exact (U.o.2 k F k V).mono (by omega)
       ·rw [qkK];exact qk2 F V U.o.2
      case measure=>simp [intOf];omega
  ·obtain rfl:k=R:=by omega
   obtain⟨a,m,d,b,⟨e0,e1⟩,_,I⟩:=hI.o.1.cells;obtain⟨a2,m2,d2,b2,⟨p0,p1⟩,⟨z0,z1⟩,_⟩:=hI.o.2.cells;have O:=hI.o.2.row2 I;have ah:=qei (qei hG.o qN (p:=⟨w.heap.size,0,none⟩) (.slice a m d)) qN (p:=⟨w.heap.size,1,none⟩) (.bool b);have aI:=J.o.1.put hI.o.2 (qdM _ _ (.slice a m d) (.bool b)) J.o.2.2;have H:=qH (qA O (qA ah aI));clear I O ah aI;go_wp2_with fail;exact qR (v:=.agg #[.slice a m d,.bool b]) (rA_ rfl w.heap.size H.o.1.1 underlying217 2) rfl ⟨_,D,rfl,H.o.1.2,H.o.2.1,qaj ⟨aa.o.1,gs1,M,H.o.2.2,hS.o,aa.o.2⟩⟩
def ftxt (q:Rat):FT:=(qcc q.num,num q.den)
theorem qfD (q:Rat):fstr q=.agg #[.string (ftxt q).1,.string (ftxt q).2]:=rfl
def FRow (W:World) (g n:Nat) (l:List FT):Prop:=W.heap[g]? = some (.cells (fflat (l++List.replicate (n-l.length) fd0)).toArray 27 (0,0))/\l.length<=n
theorem FRow.below {W W':World} {g n:Nat} {l:List FT} (h:FRow W g n l) (E:Below W.heap.size W W'):FRow W' g n l :=
 ⟨(E.block _ (qG h.1).1).trans h.1,h.2⟩
theorem FRow.at {W:World} {g n:Nat} {l:List FT} (h:FRow W g n l) (H:l.length<n):(W.cell? ⟨g,l.length*2,none⟩=some (.string ⟨#[]⟩)/\W.cell? ⟨g,l.length*2+1,none⟩=some (.string ⟨#[]⟩))/\∀j,W.frozen? ⟨g,j,none⟩=false:=by
 have E:(l++List.replicate (n-l.length) fd0)[l.length]? = some fd0:=by
  rw [qas qN,qaK,qbx,if_pos (by omega)]
 obtain⟨F,G⟩:=qeO _ _ _ E;exact⟨⟨(qC _ _ _ _ _ _ h.1).trans ((qaz ..).trans F),(qC _ _ _ _ _ _ h.1).trans ((qaz ..).trans G)⟩,fun j=>qF _ _ _ _ _ h.1⟩
theorem FRow.set {W:World} {g n:Nat} {l:List FT} (h:FRow W g n l) (H:l.length<n) (x:FT) :
  FRow ((W.setCell ⟨g,l.length*2,none⟩ (.string x.1)).setCell ⟨g,l.length*2+1,none⟩ (.string x.2)) g n (l++[x]):=by
 refine⟨?_,by rw [qae,qaC];omega⟩;rw [heap_setCell_same _ g (l.length*2+1) _ _ _ (heap_setCell_same _ g (l.length*2) _ _ _ h.1)]
 congr 3
 obtain⟨m,G⟩:∃m,n-l.length=m+1:=⟨n-l.length-1,by omega⟩;have E:fflat (l++List.replicate (m+1) fd0)=fflat l++(.string fd0.1 :: .string fd0.2 :: fflat (List.replicate m fd0)):=by
  rw [qdA,qbm];rfl
 have F:fflat (l++[x]++List.replicate m fd0)=fflat l++(.string x.1 :: .string x.2 :: fflat (List.replicate m fd0)):=by
  rw [qdA,qdA,qaA];rfl
 rw [qaH,qaH,G,qae,qaC,show n-(l.length+1)=m by omega,E,F];rw [qa1 _ _ (by rw [qce];exact qaf _),qce,qaK,qbf,qa1 _ _ (by rw [qce];omega),qce,show l.length*2+1-l.length*2=1 by omega]
 rfl
theorem qk6 (n:Nat):fflat (List.replicate n fd0)=List.replicate (n*2) (.string ⟨#[]⟩):=by
 induction n with
 | zero=>rfl
 | succ n ih =>
  rw [qbm,show (n+1)*2=n*2+1+1 by omega,qbm,qbm,<-ih];rfl
theorem qkl (n:Nat):madeCells #[.string ⟨#[]⟩,.string ⟨#[]⟩] (n*2)=(fflat (List.replicate n fd0)).toArray:=by
 rw [qk6];apply Array.ext';apply List.ext_getElem?;intro i;rw [Array.getElem?_toList]
 show _=(List.replicate (n*2) (Value.string ⟨#[]⟩))[i]?
 by_cases E:i<n*2
 ·rw [qbx,if_pos E];have F:(madeCells #[.string ⟨#[]⟩,.string ⟨#[]⟩] (n*2))[i]? = some ((#[.string ⟨#[]⟩,.string ⟨#[]⟩]:Array Value)[i % 2]!):=by simp [madeCells,E]
  rw [F]
  congr 1
  rcases (show i % 2=0\/i % 2=1 by omega) with e | e <;> rw [e] <;> rfl
 ·rw [Array.getElem?_eq_none (by rw [size_madeCells];omega),qaS (by rw [qbk];omega)]
theorem FRow.made (W:World) (n:Nat):FRow (W.alloc (.cells (madeCells #[.string ⟨#[]⟩,.string ⟨#[]⟩] (n*2)) 27)) W.heap.size n []:=by
 refine⟨?_,qan _⟩;rw [qM _ _ _ rfl,qbl,List.length_nil,Nat.sub_zero,qkl]
theorem qho (n:Nat) (I:n<=1048576) (w:World):(Instr.makeSlice 22 (.int .i64 (n:Int)) (.int .i64 (n:Int))).run prog w=.ok (.slice (some ⟨w.heap.size,0,none⟩) n n) (w.alloc (.cells (madeCells #[.string ⟨#[]⟩,.string ⟨#[]⟩] (n*2)) 27)):=by
 obtain⟨i,H,E,F,G⟩:=info_parts infoF;have h:=run_make (P:=prog) w 22 27 i _ underlying22 H E .i64 .i64 (n:Int) (n:Int) (by omega) (Int.le_refl _) (by rw [G];omega) (by omega);rw [F,Int.toNat_natCast] at h;exact h
theorem FRow.cells {W:World} {g n:Nat} {l:List FT} (h:FRow W g n l) (F:l.length=n):FCells W (some ⟨g,0,none⟩) g 0 l:=by
 have E:=h.1;rw [F,qaK,List.replicate_zero,qbz] at E;exact FCells.ofRow E
theorem HasT.keepRow {W W':World} {G R n:Nat} {H:Nat->Nat} (h:HasT W) (O:W.grownBy W' (some G)) (U:W.heap[G]? = some (.cells (rowvs R n H).toArray 212 (0,0))):HasT W':=by
 unfold HasT Lib.TabIs World.var? at *;cases hg:(prog).globalNamed "internal/strconv.uint64pow10" with
 | none=>simp [hg] at h
 | some g =>
  simp only [hg,Option.bind_some] at h ⊢;have F:g<W.heap.size:=by
   rcases qaV g W.heap.size with h' | h'
   ·exact h'
   ·rw [Array.getElem?_eq_none h'] at h;simp at h
  have hne:g≠G:=by
   intro e;subst e;rw [U] at h;simp only [Option.some.injEq] at h;have E:=congrArg (fun a:Array Value=>a[0]?) h;have I:((Lib.pow10Tab.map fun z=>Value.int .u64 z).toArray)[0]? = some (.int .u64 1):=rfl;have E:(rowvs R n H).toArray[0]? = (Lib.pow10Tab.map fun z=>Value.int .u64 z).toArray[0]?:=E;rw [I,qaz] at E
   by_cases J:0<R
   ·rw [qdL J] at E;simp at E
   ·rw [qaS (by rw [qcu];omega)] at E;simp at E
  rw [O.block g F (fun e=>hne (qag e))];exact h
def told (n:Nat) (x:Nat->Rat):List FT:=(List.range n).map fun i=>ftxt (x i)
def qbQ (n:Nat) (x:Nat->Rat):Prop:=∀i,i<n->Short (x i)
theorem qbQ.snoc {n:Nat} {x:Nat->Rat} (h:qbQ n x) (E:Short (x n)):qbQ (n+1) x:=fun j F=>by
 by_cases e:j=n
 ·rw [e];exact E
 ·exact h j (by omega)
theorem qfc (n:Nat) (x:Nat->Rat):told (n+1) x=told n x++[ftxt (x n)]:=by
 unfold told;rw [List.range_succ,qbc];rfl
theorem qbP (n:Nat) (x:Nat->Rat):(told n x).length=n:=by unfold told;rw [qay,qbo]
def FOne (E W:World) (g:Nat) (x:FT):Prop:=W.heap[g]? = some (.cells #[.string x.1,.string x.2] 27 (0,0))/\Below E.heap.size E W/\E.heap.size<=g
theorem fone_a {E W:World} {x1 x2:ByteArray} (F:Below E.heap.size E W):FOne E (W.alloc (.cells #[.string x1,.string x2] 27)) W.heap.size (x1,x2) :=
 ⟨qM _ _ _ rfl,qbM F qN,F.size⟩
theorem fone_p {E W:World} {g:Nat} {x1 x2:ByteArray} {F c1:Value} (G:Below E.heap.size E W) (hg:E.heap.size<=g) (H:W.heap[g]? = some (.cells #[F,c1] 27 (0,0))) :
  FOne E ((W.setCell ⟨g,0,none⟩ (.string x1)).setCell ⟨g,1,none⟩ (.string x2)) g (x1,x2) :=
 ⟨heap_setCell_same _ g 1 _ _ _ (heap_setCell_same _ g 0 _ _ _ H),(G.setCell (p:=⟨g,0,none⟩) hg _).setCell (p:=⟨g,1,none⟩) hg _,hg⟩
theorem qfp {w F:World} {q:Rat} {e:Ending} (h:qhc w q e F):∃(x1 x2:ByteArray) (c:Int),e=.returned (.tuple #[.agg #[.string x1,.string x2],.int .i64 c])/\(Short q/\(x1,x2)=ftxt q/\c=0\/¬Short q/\(x1,x2)=fd0/\c=6)/\Below w.heap.size w F:=by
 obtain⟨h | h,E⟩:=h
 ·exact⟨(ftxt q).1,(ftxt q).2,0,h.2,qav ⟨h.1,rfl,rfl⟩,E⟩
 ·exact⟨_,_,6,h.2,qaj ⟨h.1,rfl,rfl⟩,E⟩
def Tells (n:Nat) (x:Nat->Rat) (e:Ending) (E:World):Prop :=
 (qbQ n x/\∃g,e=.returned (.tuple #[.slice (some ⟨g,0,none⟩) n n,.int .i64 0])/\FCells E (some ⟨g,0,none⟩) g 0 (told n x)) \/
 (¬qbQ n x/\e=.returned (.tuple #[.slice none 0 0,.int .i64 6]))
def SolvesAs (w:World) (F R:Nat) (A:Nat->Nat->Int) (e:Ending) (E:World):Prop :=
 w.grownBy E (some F)/\((Sing R (castM A)/\e=.returned (.tuple #[.slice none 0 0,.int .i64 7])) \/
  (¬Sing R (castM A)/\∃x,qcv R (castM A) (fun i=>castM A i R) x/\Tells R x e E))
theorem fit_pos {z:Int} {K:Nat} (h:Fit z.natAbs K) (E:z≠0):0<K:=by
 rcases qaX K with e | e
 ·subst e;have:z.natAbs<1:=h;omega
 ·exact e
theorem qfL (a b:Int):Rat.divInt a b=(a:Rat) / b:=Rat.divInt_eq_div a b
theorem qmc (tb R K:Nat) (gs:Nat->Nat) (A:Nat->Nat->Int) (w:World) (bB:0<R) (hR:R<=10) (hK:K<=33554430) (bA:0<K) (hM:MatAt w tb R (R+1) gs A) (aC:∀i,i<R->gs i<w.heap.size) (hF:∀i,i<R->∀j,j<R+1->Fit (A i j).natAbs K) (hT:HasT w) :
  Calls prog 190 #[.agg #[.slice (some ⟨tb,0,none⟩) R R]] w fun e w'=>SolvesAs w tb R A e w':=by
 have HM:=qH (qA hM (qA aC hF));have HT:=qH hT;have bE:tb<w.heap.size:=(qG hM.row).1;have bF:(0:Int)<R:=by omega
 have ai:Below w.heap.size w (w.alloc (.cells #[.slice (some ⟨tb,0,none⟩) R R] 262)):=qbM qB qN;have HE:=qH (elim_any tb R (R+1) K gs A (w.alloc (.cells #[.slice (some ⟨tb,0,none⟩) R R] 262)) bB hR (by omega) (by omega) hK bA (hM.below ai) (fun i O=>qai (aC i O) ai.size) hF);have au:=qH ai;have bI:=qeP;clear hM hF aC hT ai;go_enter func190,ntmps190;go_wp2_with fail;refine HE.o.mono ?_;rintro e G ⟨v,z,rfl,hv,J,hz⟩;obtain⟨a,m,d,b,rfl⟩:=qbN hv;have aX:=(HM.o.1.below au.o);have aK:=(HT.o.below au.o).keepRow J aX.row;have hg:=qbR (qbV tb au.o) J;have bg:=(qcr .l) z.natAbs (.slice a m d);have Hv:=qH hv;have HX:=qH (qA aK (qA hg J));have aV:MagAt G (.slice a m d) z.natAbs:=by
  obtain⟨_,e,h⟩:=hv;simp only [qaZ,qa5,qaY] at e;rw [e.1];exact h
 have ay:Below G.heap.size G (G.alloc (.cells #[.slice a m d,.bool b] 217)):=qbM qB qN;have HZ:=qH (bg _ (aV.below ay));have I:=qH ay;have bC:(G.alloc (.cells #[.slice a m d,.bool b] 217)).heap.size=G.heap.size+1:=by rw [qaa]
 have bD:w.heap.size<G.heap.size:=by have:=J.size;rw [qaa] at this;omega
 have V:G.heap[w.heap.size]? = some (.cells #[.slice (some ⟨tb,0,none⟩) R R] 262 (0,0)):=(J.block _ (by rw [qaa];omega) (fun e=>Nat.lt_irrefl _ (qag e▸bE))).trans (qM _ _ _ rfl);have bi:=qH V;have bu:=qC _ _ 0 _ _ _ V;clear hv J aX aK hg bg aV ay bC V;go_wp2_with fail;obtain⟨W3,U⟩:=qY (G.alloc (.cells #[.slice a m d,.bool b] 217));rw [<-U] at HZ I ⊢;have aB:Hu (w.grownBy W3 (some tb)):=qH (qcb HX.o.2.1 I.o);rcases hz with ⟨ak,k,D,M,hk,hS,h0⟩ | ⟨aT,gs',M,aJ,hS,aP⟩
 ·refine HZ.o.mono ?_;rintro e w4 ⟨rfl,hw⟩;rw [qV (show z.natAbs=0 by omega)];have HS:=qH (qk0 hS (by omega) hk h0);subst hw;clear hS h0 ak U;go_wp2_with fail
  go_ret2
  exact⟨aB.o,qav ⟨HS.o,rfl⟩⟩
 ·refine HZ.o.mono ?_;rintro e w4 ⟨rfl,hw⟩;have ak:=hS.nz;rw [qU (show ¬z.natAbs=0 by omega)];have aW:=qho R (by omega) W3;obtain⟨W5,ah⟩:=qY (W3.alloc (.cells (madeCells #[.string ⟨#[]⟩,.string ⟨#[]⟩] (R*2)) 27));rw [<-ah] at aW;have aS:FRow W5 W3.heap.size R []:=ah▸FRow.made W3 R;have az:Below W3.heap.size W3 W5:=ah▸qbM qB qN;clear ah;have aY:W3.heap[G.heap.size]? = some (.cells #[.slice a m d,.bool b] 217 (0,0)):=by rw [U];exact qM _ _ _ rfl
  have H:=(I.o.block _ (by exact bD)).trans bi.o;have Y:=(az.block _ (qG H).1).trans H;have bz:=qC _ _ 0 _ _ _ Y;have H5:=qH (qA aS (qA az Y));have HS:=qH (qA aT (qA (aJ.below I.o) (qA hS aP)));have H3:=qH (qA aY (qA H (qA (Hv.o.below I.o) (HX.o.1.below I.o))));have aH:=qH ak;have aZ:W3.heap.size=G.heap.size+1:=by rw [U,qaa]
  have bG:=qH aZ;subst hw;clear hS ak U aJ aP aT aY H bu aZ aS az Y;have bv:=qC _ _ 0 _ _ _ H3.o.2.1;go_wp2_with fail
  go_loopw [26] (fun x26 W=>∃(i:Nat),i<=R/\x26=.int .i64 i/\Hu (qbQ i (fun i=>(M i R:Rat) / z))/\Hu (FRow W w4.heap.size R (told i (fun i=>(M i R:Rat) / z)))/\Hu (Below w4.heap.size w4 W)) (fun x26 _=>R-(intOf x26).toNat)
  case atStart=>exact⟨0,qan _,rfl,qH (fun i O=>absurd O (by omega)),qH H5.o.1,qH H5.o.2.1⟩
  case round =>
   obtain⟨i,bJ,rfl,hA,hF,hB⟩:=hrel
   by_cases O:i<R
   ·have bK:(i:Int)<R:=by omega
    have bH:(R:Int)<R+1:=by omega
    have ax:=HS.o.2.1.below hB.o;obtain⟨ci,fi⟩:=ax.cell O;obtain⟨a2,m2,d2,b2,p0,p1,aU⟩:=(ax.rows i O).pair (show R<R+1 by omega);have hr:=(hB.o.block _ (qG H3.o.1).1).trans H3.o.1;have aA:=(hB.o.block _ (qG H3.o.2.1).1).trans H3.o.2.1;have C0:∀W,Below wr.heap.size wr W->W.cell? ⟨w.heap.size,0,none⟩=some (.slice (some ⟨tb,0,none⟩) R R):=fun W h=>(h.cell (p:=⟨w.heap.size,0,none⟩) (qG aA).1).trans (qC _ _ 0 _ _ _ aA)
    have C1:∀W,Below wr.heap.size wr W->W.cell? ⟨gs' i,R*2,none⟩=some (.slice a2 m2 d2):=fun W h=>(h.cell (qac wr _ p0)).trans p0
    have C2:∀W,Below wr.heap.size wr W->W.cell? ⟨gs' i,R*2+1,none⟩=some (.bool b2):=fun W h=>(h.cell (qac wr _ p1)).trans p1
    have C3:∀W,Below wr.heap.size wr W->W.cell? ⟨G.heap.size,0,none⟩=some (.slice a m d):=fun W h=>(h.cell (p:=⟨G.heap.size,0,none⟩) (qG hr).1).trans (qC _ _ 0 _ _ _ hr)
    have C4:∀W,Below wr.heap.size wr W->W.cell? ⟨G.heap.size,1,none⟩=some (.bool b):=fun W h=>(h.cell (p:=⟨G.heap.size,1,none⟩) (qG hr).1).trans (qC _ _ 1 _ _ _ hr)
    have bf:=H3.o.2.2.1.below hB.o;have aL:=H3.o.2.2.2.below hB.o;have aQ:=HS.o.2.2.2 i O R (by omega);have HW:=qH (fun W (h:Below wr.heap.size wr W)=>qgT (M i R) z aH.o (KK K R) (fit_pos HS.o.1 aH.o) (KK_le hK hR) _ _ W (aU.below h) (bf.below h) aQ HS.o.1 (aL.below h));have aG:Below wr.heap.size wr wr:=Below.refl _ _;have ae:Below wr.heap.size wr wr.drew:=aG.drew;have aa:Below wr.heap.size wr (wr.alloc (.cells #[.string ⟨#[]⟩,.string ⟨#[]⟩] 27)).drew:=(qbM aG qN).drew;have aI:=hF.o.at (by rw [qbP];exact O);have HF:=qH aI;clear ax aU p0 p1 hr aA bf aL aQ aI bv bz aW;go_wp2_with fail
    go_cut [9,10] (fun x9 x10 W=>∃(g9:Nat) (x1 x2:ByteArray) (c:Int),x9=.pointer (some ⟨g9,0,none⟩)/\x10=.int .i64 c/\Hu (Short (Rat.divInt (M i R) z)/\(x1,x2)=ftxt (Rat.divInt (M i R) z)/\c=0\/¬Short (Rat.divInt (M i R) z)/\(x1,x2)=fd0/\c=6)/\FOne wr W g9 (x1,x2))
    case first =>
     go_region_held3 (fun W=>Below wr.heap.size wr W) (first | with_reducible exact aG | with_reducible exact ae | with_reducible exact aa | with_reducible exact E | exact qbM E qN | exact (E.setCell qN _).setCell qN _ | exact (E.setCell E.size _).setCell E.size _) (first | (go_at_call 160;refine (HW.o _ (by first | with_reducible exact ae | with_reducible exact aa)).mono ?_;rintro e w6 hx;obtain⟨x1,x2,c6,rfl,hx,aj⟩:=qfp hx;have E:Below wr.heap.size wr w6:=bjoin (by first | with_reducible exact ae | with_reducible exact aa) aj;have bq:=qH hx;obtain⟨k6,bM⟩:=bcell aj;have Z6:=qH (zkeep aj);clear hx aj))
     all_goals go_wp2_with fail
     all_goals go_meet
     all_goals refine⟨_,x1,x2,c6,rfl,rfl,bq,?_⟩
     all_goals first
      | with_reducible exact fone_a E
      | exact fone_p E qN (Z6.o _ _ (qM _ _ _ rfl))
    case rest =>
     obtain⟨g9,x1,x2,c,rfl,rfl,hx,ho⟩:=hcut;obtain⟨aD,aF,bL⟩:=ho;have o0:=qC _ _ 0 _ _ _ aD;have o1:=qC _ _ 1 _ _ _ aD;have av:=hF.o.below aF;have aM:=av.at (by rw [qbP];exact O);have Z:=av.set (by rw [qbP];exact O) (x1,x2);rw [qbP] at aM Z;obtain⟨⟨q0,q1⟩,qf⟩:=aM;have bN:=qf (i*2);have bO:=qf (i*2+1);have aN:=((hB.o.trans (aF.mono hB.o.size)).setCell (p:=⟨w4.heap.size,i*2,none⟩) qN (.string x1)).setCell (p:=⟨w4.heap.size,i*2+1,none⟩) qN (.string x2);have aO:=hB.o.trans (aF.mono hB.o.size);have HQ:=qH (qA Z (qA aN aO));have HX:=qH hx.o;have hq:=qfL (M i R) z;clear Z aN aO aD av qf C0 C1 C2 C3 C4 ci fi;rcases hx.o with ⟨F,af,rfl⟩ | ⟨F,af,rfl⟩
     ·rw [hq] at F af;have ag:=qH (qA F af);clear F af hq;go_wp2;go_roundw
      case rel=>exact⟨i+1,O,by go_num,qH (hA.o.snoc ag.o.1),qH (by rw [qfc,<-ag.o.2];exact HQ.o.1),qH HQ.o.2.1⟩
      case measure=>simp [intOf];omega
     ·rw [hq] at F;have ag:=qH F;clear F af hq;go_wp2_with fail
      go_ret2
      exact⟨qcb aB.o HQ.o.2.2,qaj ⟨(qfC HS.o.2.2.1).2,_,(qfC HS.o.2.2.1).1,qaj ⟨fun h=>ag.o (h i O),rfl⟩⟩⟩
   ·obtain rfl:i=R:=by omega
    have aR:=hF.o.cells (qbP _ _);have bn:=qH aR;clear aR;go_wp2_with fail
    go_ret2
    exact⟨qcb aB.o hB.o,qaj ⟨(qfC HS.o.2.2.1).2,_,(qfC HS.o.2.2.1).1,qav ⟨hA.o,_,rfl,bn.o⟩⟩⟩
abbrev Tbl:=List (List FT)
structure TCells (W:World) (ao:Option Addr) (b off:Nat) (t:Tbl):Prop where
 addr:0<t.length->ao=some ⟨b,off,none⟩
 row:∀k,k<t.length->∃(ra:Option Addr) (rb ro rc:Nat),W.cell? ⟨b,off+k,none⟩=some (.slice ra (t.getD k []).length rc)/\FCells W ra rb ro (t.getD k [])
theorem TCells.below {W W':World} {E:Option Addr} {b off:Nat} {t:Tbl} (h:TCells W E b off t) (G:Below W.heap.size W W'):TCells W' E b off t :=
 ⟨h.addr,fun k I=>by
  obtain⟨ra,rb,ro,rc,F,H⟩:=h.row k I;exact⟨ra,rb,ro,rc,(G.cell (qac W _ F)).trans F,H.below G⟩⟩
def wid (t:Tbl):Nat:=(t.getD 0 []).length
structure TOk (t:Tbl):Prop where
 r1:1<=t.length
 r2:t.length<=40
 c1:1<=wid t
 c2:wid t<=10
 rows:∀k,k<t.length->(t.getD k []).length=wid t/\FAll (t.getD k [])
theorem qkT (ao:Option Addr) (b off R c:Nat) (t:Tbl) (w:World) (hR:t.length=R) (hl:R<=4611686018427387904) (hw:∀k,k<R->(t.getD k []).length<=4611686018427387904) (Z:TCells w ao b off t) :
  Calls prog 209 #[.slice ao R c] w fun e w'=>qeH w (TOk t) 60 e w':=by
 have G:=qH (qA Z (qA hR hw))
 by_cases h1:1<=R
 case neg =>
  have V:(R:Int)<1:=by omega
  clear Z hR;go_enter func209,ntmps209;go_wp2;go_ret;exact⟨60,rfl,qaj ⟨rfl,fun h=>by have:=h.r1;have:=G.o.2.1;omega⟩,Below.refl _ _⟩
 have aC:¬(R:Int)<1:=by omega
 by_cases h2:R<=40
 case neg =>
  have V:(40:Int)<R:=by omega
  clear Z hR;go_enter func209,ntmps209;go_wp2;go_ret;exact⟨60,rfl,qaj ⟨rfl,fun h=>by have:=h.r2;have:=G.o.2.1;omega⟩,Below.refl _ _⟩
 have aD:¬(40:Int)<R:=by omega
 have aB:(0:Int)<R:=by omega
 have av:=Z.addr (by omega);subst av;obtain⟨aK,aL,aN,aM,J,_⟩:=Z.row 0 (by omega);rw [qbp] at J;obtain⟨n,hn⟩:=qX (wid t);have ak:(t.getD 0 []).length=n:=hn;have ay:=hw 0 (by omega);rw [ak] at J ay;have Y:=qH hn;have az:b<w.heap.size:=qac w _ J;clear Z hR hn ak hw
 by_cases h3:1<=n
 case neg =>
  have V:(n:Int)<1:=by omega
  go_enter func209,ntmps209;go_wp2;go_ret;exact⟨60,rfl,qaj ⟨rfl,fun h=>by have:=h.c1;have:=Y.o;omega⟩,Below.refl _ _⟩
 have aF:¬(n:Int)<1:=by omega
 by_cases h4:n<=10
 case neg =>
  have V:(10:Int)<n:=by omega
  go_enter func209,ntmps209;go_wp2;go_ret;exact⟨60,rfl,qaj ⟨rfl,fun h=>by have:=h.c2;have:=Y.o;omega⟩,Below.refl _ _⟩
 have aG:¬(10:Int)<n:=by omega
 go_enter func209,ntmps209;go_wp2_with fail
 go_loopw [31] (fun x31 W=>∃k:Nat,k<=R/\x31=.int .i64 k/\Hu (∀i,i<k->(t.getD i []).length=n/\FAll (t.getD i []))/\Hu (Below w.heap.size w W)) (fun x31 _=>R-(intOf x31).toNat)
 case atStart=>exact⟨0,qan _,rfl,qH (fun i hi=>absurd hi (by omega)),qH qB⟩
 case round =>
  obtain⟨k,hk,rfl,hI,O⟩:=hrel
  by_cases ai:k<R
  ·have aJ:(k:Int)<R:=by omega
   have aH:=(O.o.cell (p:=⟨b,off,none⟩) az).trans J;obtain⟨ra,rb,ro,rc,af,ag⟩:=(G.o.1.below O.o).row k (by have:=G.o.2.1;omega);have HF:=qH ag;obtain⟨row,F⟩:=qX (t.getD k []);obtain⟨l,U⟩:=qX row.length;have aj:=G.o.2.2 k ai;rw [F] at af HF aj;rw [U] at af aj;have H:=qH (qA F U);clear F U ag
   by_cases E:l=n
   case neg =>
    have hne:((l:Int) != (n:Int))=true:=by rw [bne_iff_ne];omega
    have HL:=qH E;clear E;go_wp2;go_ret;exact⟨60,rfl,qaj ⟨rfl,fun h=>HL.o (by rw [<-H.o.2,<-H.o.1,<-Y.o];exact (h.rows k (by have:=G.o.2.1;omega)).1)⟩,O.o⟩
   have hne:((l:Int) != (n:Int))=false:=by simp [E]
   have HL:=qH E;clear E;obtain⟨wo,aA⟩:=qY wr;subst aA;go_wp2_with fail
   go_loopw [44] (fun x44 W=>∃j:Nat,j<=l/\x44=.int .i64 j/\Hu (∀i,i<j->FOk (row.getD i fd0).1.data.toList (row.getD i fd0).2.data.toList)/\Hu (Below wo.heap.size wo W)) (fun x44 _=>l-(intOf x44).toNat)
   case atStart=>exact⟨0,qan _,rfl,qH (fun i hi=>absurd hi (by omega)),qH qB⟩
   case round =>
    obtain⟨j,hj,rfl,hJ,I⟩:=hrel
    by_cases ah:j<l
    ·have aI:(j:Int)<l:=by omega
     have au:=HF.o.addr (by have:=H.o.2;omega);subst au;obtain⟨d0,d1⟩:=(HF.o.below I.o).cell j (by have:=H.o.2;omega);obtain⟨N,hN⟩:=qX ((row.getD j fd0).1);obtain⟨D,hD⟩:=qX ((row.getD j fd0).2);rw [hN] at d0;rw [hD] at d1;have HX:=qH (qA hN hD);clear hN hD;go_wp2_with fail;refine (qeg N D _).mono ?_;rintro e w2 ⟨cc,rfl,ax,ae⟩;have aa:=qH (I.o.trans ((qB.alloc qN _ |>.trans (ae.mono (by simp only [qaa];omega))).mono I.o.size));clear ae;rcases ax with ⟨rfl,hf⟩ | ⟨rfl,hf⟩
     ·have Hf:=qH hf;clear hf;go_wp2;go_roundw
      case rel=>exact⟨j+1,ah,by go_num,qH (fun i hi=>by
       rcases (show i<j\/i=j by omega) with h | h
       ·exact hJ.o i h
       ·rw [h,HX.o.1,HX.o.2];exact Hf.o),aa⟩
      case measure=>simp [intOf];omega
     ·have Hf:=qH hf;clear hf;go_wp2;go_ret;exact⟨60,rfl,qaj ⟨rfl,fun h=>Hf.o (by
       have:=(h.rows k (by have:=G.o.2.1;omega)).2 j (by rw [H.o.1,H.o.2];exact ah);rw [H.o.1,HX.o.1,HX.o.2] at this;exact this)⟩,O.o.trans (aa.o.mono O.o.size)⟩
    ·obtain rfl:j=l:=by omega
     go_wp2;go_roundw
     case rel=>exact⟨k+1,ai,by go_num,qH (fun i hi=>by
      rcases (show i<k\/i=k by omega) with h | h
      ·exact hI.o i h
      ·rw [h,H.o.1,H.o.2];exact⟨HL.o,fun x hx=>hJ.o x (by rw [<-H.o.2];exact hx)⟩),qH (O.o.trans (I.o.mono O.o.size))⟩
     case measure=>simp [intOf];omega
  ·obtain rfl:k=R:=by omega
   go_wp2;go_ret;exact⟨0,rfl,qav ⟨rfl,⟨by have:=G.o.2.1;omega,by have:=G.o.2.1;omega,by rw [Y.o];exact h3,by rw [Y.o];exact h4,fun i hi=>by rw [Y.o];exact hI.o i (by have:=G.o.2.1;omega)⟩⟩,O.o⟩
def CLAs (w:World) (t L:Tbl) (e:Ending) (E:World):Prop :=
 ∃c:Int,e=.returned (.int .i64 c)/\(c=60/\¬TOk t\/c=20/\TOk t/\¬(∀k,k<L.length->FAll (L.getD k []))\/c=0/\TOk t/\∀k,k<L.length->FAll (L.getD k []))/\Below w.heap.size w E
theorem qeu (ao:Option Addr) (b off R c:Nat) (t:Tbl) (Z:Option Addr) (b2 au R2 c2:Nat) (L:Tbl) (w:World) (hR:t.length=R) (hl:R<=4611686018427387904) (hw:∀k,k<R->(t.getD k []).length<=4611686018427387904) (hc:TCells w ao b off t)
  (aa:L.length=R2) (H:R2<=4611686018427387904) (ak:∀k,k<R2->(L.getD k []).length<=4611686018427387904) (ae:TCells w Z b2 au L) :
  Calls prog 145 #[.slice ao R c,.slice Z R2 c2] w fun e w'=>CLAs w t L e w':=by
 have HK:=qH (qkT ao b off R c t w hR hl hw hc);have I:=qH (qA ae (qA aa ak));clear hR hw hc aa ak ae;go_enter func145,ntmps145;go_wp2_with fail;refine HK.o.mono ?_;rintro e w2 ⟨cc,rfl,O,E⟩;have HB:=qH E;clear E;rcases O with ⟨rfl,hT⟩ | ⟨rfl,hT⟩
 case inr =>
  have HT:=qH hT;clear hT;go_wp2;go_ret;exact⟨60,rfl,qav ⟨rfl,HT.o⟩,HB.o⟩
 have HT:=qH hT;clear hT;go_wp2_with fail
 go_loopw [17] (fun x17 W=>∃k:Nat,k<=R2/\x17=.int .i64 k/\Hu (∀i,i<k->FAll (L.getD i []))/\Hu (Below w.heap.size w W)) (fun x17 _=>R2-(intOf x17).toNat)
 case atStart=>exact⟨0,qan _,rfl,qH (fun i V=>absurd V (by omega)),HB⟩
 case round =>
  obtain⟨k,hk,rfl,hI,U⟩:=hrel
  by_cases ai:k<R2
  ·have aA:(k:Int)<R2:=by omega
   have ax:=I.o.1.addr (by have:=I.o.2.1;omega);subst ax;obtain⟨ra,rb,ro,rc,af,ag⟩:=(I.o.1.below U.o).row k (by have:=I.o.2.1;omega);have HF:=qH ag;obtain⟨row,F⟩:=qX (L.getD k []);obtain⟨l,H⟩:=qX row.length;have aj:=I.o.2.2 k ai;rw [F] at af HF aj;rw [H] at af aj;have J:=qH (qA F H);clear F H ag;obtain⟨wo,ay⟩:=qY wr;subst ay;go_wp2_with fail
   go_loopw [23] (fun x23 W=>∃j:Nat,j<=l/\x23=.int .i64 j/\Hu (∀i,i<j->FOk (row.getD i fd0).1.data.toList (row.getD i fd0).2.data.toList)/\Hu (Below wo.heap.size wo W)) (fun x23 _=>l-(intOf x23).toNat)
   case atStart=>exact⟨0,qan _,rfl,qH (fun i V=>absurd V (by omega)),qH qB⟩
   case round =>
    obtain⟨j,hj,rfl,hJ,G⟩:=hrel
    by_cases ah:j<l
    ·have az:(j:Int)<l:=by omega
     have av:=HF.o.addr (by have:=J.o.2;omega);subst av;obtain⟨d0,d1⟩:=(HF.o.below G.o).cell j (by have:=J.o.2;omega);obtain⟨N,hN⟩:=qX ((row.getD j fd0).1);obtain⟨D,hD⟩:=qX ((row.getD j fd0).2);rw [hN] at d0;rw [hD] at d1;have HX:=qH (qA hN hD);clear hN hD;go_wp2_with fail;refine (qeg N D _).mono ?_;rintro e w2 ⟨cc,rfl,O,E⟩;have Y:=qH (G.o.trans ((qB.alloc qN _ |>.trans (E.mono (by simp only [qaa];omega))).mono G.o.size));clear E;rcases O with ⟨rfl,hf⟩ | ⟨rfl,hf⟩
     ·have Hf:=qH hf;clear hf;go_wp2;go_roundw
      case rel=>exact⟨j+1,ah,by go_num,qH (fun i V=>by
       rcases (show i<j\/i=j by omega) with h | h
       ·exact hJ.o i h
       ·rw [h,HX.o.1,HX.o.2];exact Hf.o),Y⟩
      case measure=>simp [intOf];omega
     ·have Hf:=qH hf;clear hf;go_wp2;go_ret;exact⟨20,rfl,qaj (qav ⟨rfl,HT.o,fun h=>Hf.o (by
       have:=h k (by have:=I.o.2.1;omega) j (by rw [J.o.1,J.o.2];exact ah);rw [J.o.1,HX.o.1,HX.o.2] at this;exact this)⟩),U.o.trans (Y.o.mono U.o.size)⟩
    ·obtain rfl:j=l:=by omega
     go_wp2;go_roundw
     case rel=>exact⟨k+1,ai,by go_num,qH (fun i V=>by
      rcases (show i<k\/i=k by omega) with h | h
      ·exact hI.o i h
      ·rw [h,J.o.1];exact fun x hx=>hJ.o x (by rw [<-J.o.2];exact hx)),qH (U.o.trans (G.o.mono U.o.size))⟩
     case measure=>simp [intOf];omega
  ·obtain rfl:k=R2:=by omega
   go_wp2;go_ret;exact⟨0,rfl,qaj (qaj ⟨rfl,HT.o,fun i V=>hI.o i (by have:=I.o.2.1;omega)⟩),U.o⟩
def Neg (l:List FT):Prop:=∃k,k<l.length/\ival (l.getD k fd0).1.data.toList<0
def NegAs (w:World) (l:List FT) (e:Ending) (E:World):Prop:=∃x:Bool,e=.returned (.bool x)/\(x=true↔Neg l)/\Below w.heap.size w E
theorem qfw (ao:Option Addr) (b off n c:Nat) (l:List FT) (w:World) (hn:l.length=n) (hl:n<=4611686018427387904) (hc:FCells w ao b off l) (hf:FAll l) :
  Calls prog 146 #[.slice ao n c] w fun e w'=>NegAs w l e w':=by
 have F:=qH (qA hc (qA hn hf));have af:=qeP;clear hc hn hf;go_enter func146,ntmps146;go_wp2_with fail
 go_loopw [7] (fun x7 W=>∃j:Nat,j<=n/\x7=.int .i64 j/\Hu (∀i,i<j->0<=ival (l.getD i fd0).1.data.toList)/\Hu (Below w.heap.size w W)) (fun x7 _=>n-(intOf x7).toNat)
 case atStart=>exact⟨0,qan _,rfl,qH (fun i hi=>absurd hi (by omega)),qH qB⟩
 case round =>
  obtain⟨j,hj,rfl,hJ,E⟩:=hrel
  by_cases Z:j<n
  ·have ag:(j:Int)<n:=by omega
   have Y:=F.o.1.addr (by have:=F.o.2.1;omega);subst Y;obtain⟨d0,d1⟩:=(F.o.1.below E.o).cell j (by have:=F.o.2.1;omega);have H:=(F.o.2.2 j (by have:=F.o.2.1;omega)).vn;obtain⟨N,hN⟩:=qX ((l.getD j fd0).1);obtain⟨D,hD⟩:=qX ((l.getD j fd0).2);rw [hN] at d0 H;rw [hD] at d1;have U:=qH (qA hN H);clear hN hD H;go_wp2_with fail;refine ((qb7 .l) N U.o.2 _).mono ?_;rintro e w2 ⟨v2,rfl,J,aa⟩;have I:=qH (E.o.trans ((qB.alloc qN _ |>.trans (J.mono (by simp only [qaa];omega))).mono E.o.size));obtain⟨m2,rfl,O⟩:=aa;have ae:∀b W,(Instr.field 217 (.agg #[m2,.bool b]) 1).run prog W=.ok (.bool b) W:=by
    obtain⟨_,_,_,_,_,_,rfl,_,_⟩:=O;intro b W;kernel_rfl
   clear J O
   by_cases G:ival N.data.toList<0
   ·rw [qV G];have V:=qH G;clear G;go_wp2;go_ret;exact⟨true,rfl,⟨fun _=>⟨j,by have:=F.o.2.1;omega,by rw [U.o.1];exact V.o⟩,fun _=>rfl⟩,I.o⟩
   ·rw [qU G];have V:=qH (Int.not_lt.1 G);clear G;go_wp2;go_roundw
    case rel=>exact⟨j+1,Z,by go_num,qH (fun i hi=>by
     rcases (show i<j\/i=j by omega) with h | h
     ·exact hJ.o i h
     ·rw [h,U.o.1];exact V.o),I⟩
    case measure=>simp [intOf];omega
  ·obtain rfl:j=n:=by omega
   go_wp2;go_ret;exact⟨false,rfl,⟨fun h=>absurd h (by decide),fun⟨k,hk,G⟩=>absurd G (Int.not_lt.2 (hJ.o k (by have:=F.o.2.1;omega)))⟩,E.o⟩
def lval (l:List FT) (k:Nat):Rat:=fval (l.getD k fd0).1.data.toList (l.getD k fd0).2.data.toList
def tval (t:Tbl) (i:Nat):Nat->Rat:=lval (t.getD i [])
theorem qhk (n d:List UInt8):fval n d=(ival n:Rat) / ((ival d).natAbs:Rat):=by
 unfold fval;rw [<-Rat.divInt_ofNat,Rat.divInt_eq_div];rfl
theorem flcd_dvd {l:List FT} {k:Nat} (E:k<l.length):fden (l.getD k fd0)∣flcd l:=by
 have h:=qhn (l.map fden) (l.map fden).length k (by rw [qay];exact E) qN;rw [qba] at h;have e:(l.map fden).getD k 0=fden (l.getD k fd0):=by
  rw [qab,qaE,qab,qad E];rfl
 rw [e] at h;exact h
theorem qkW {l:List FT} {j:Nat} (F:j<(l.map fden).length):(l.map fden).getD j 0=fden (l.getD j fd0):=by
 have E:j<l.length:=by rw [qay] at F;exact F
 rw [qab,qaE,qab,qad E];rfl
theorem qjt {l:List FT} (h:FAll l):0<flcd l:=by
 have:=qe0 (l.map fden) (fun j E=>by rw [qkW E];exact (qdB h (by rw [qay] at E;exact E)).1) (l.map fden).length qN;rw [qba] at this;exact this
theorem qeR {l:List FT} (h:FAll l) {m:Nat} (F:l.length<=m):Fit (flcd l) (m*67+1):=by
 have:=qeZ (l.map fden) 67 (fun j E=>by rw [qkW E];exact qdB h (by rw [qay] at E;exact E)) (l.map fden).length qN;rw [qba,qay] at this;exact this.mono (by omega)
theorem qeT {l:List FT} (h:FAll l) {k:Nat} (F:k<l.length):((ftop l k:Int):Rat)=(flcd l:Rat)*lval l k:=by
 obtain⟨q,G⟩:=flcd_dvd F;have E:=(qdB h F).1;have e:flcd l / fden (l.getD k fd0)=q:=by rw [G];exact qaP _ E
 unfold ftop lval;rw [qhk,e,G];have H:((fden (l.getD k fd0):Nat):Rat)≠0:=by
  have:=qbi E
  exact_mod_cast this
 show _=_*((ival _:Rat) / ((fden (l.getD k fd0):Nat):Rat))
 push_cast
 grind
theorem qcR {l:List FT} (h:FAll l) {m:Nat} (F:l.length<=m) {k:Nat} (E:k<l.length):Fit (ftop l k).natAbs (67+(m*67+1)):=by
 unfold ftop;rw [qaB,qaq];exact (h k E).vn.fit.mul ((qeR h F).le (qaN _ _))
theorem Sing.scale {R:Nat} {A B:Nat->Nat->Rat} (s:Nat->Rat) (J:∀i,i<R->s i≠0) (h:∀i,i<R->∀j,j<R->A i j=s i*B i j):Sing R A↔Sing R B:=by
 have F:∀(y:Nat->Rat) i,i<R->sumQ R (fun j=>A i j*y j)=s i*sumQ R (fun j=>B i j*y j):=fun y i E=>by
  rw [<-qb3];exact qbS fun j I=>by rw [h i E j I];grind
 constructor
 ·rintro ⟨y,H,G⟩;refine⟨y,H,fun i E=>?_⟩;have:=G i E;rw [F y i E] at this;rcases Rat.mul_eq_zero.1 this with e | e
  ·exact absurd e (J i E)
  ·exact e
 ·rintro ⟨y,H,G⟩;exact⟨y,H,fun i E=>by rw [F y i E,G i E];grind⟩
theorem qcv.scale {R:Nat} {A B:Nat->Nat->Rat} {b c x:Nat->Rat} (s:Nat->Rat) (J:∀i,i<R->s i≠0) (h:∀i,i<R->∀j,j<R->A i j=s i*B i j) (H:∀i,i<R->b i=s i*c i) (O:qcv R A b x):qcv R B c x:=fun i E=>by
 have F:=O i E;have G:sumQ R (fun j=>A i j*x j)=s i*sumQ R (fun j=>B i j*x j):=by
  rw [<-qb3];exact qbS fun j I=>by rw [h i E j I];grind
 rw [G,H i E] at F;have:=J i E
 grind
theorem qfO {l:List FT} {x:FT} {k:Nat} (E:k<l.length):(l++[x]).getD k fd0=l.getD k fd0:=by
 rw [qab,qax E,<-qab]
theorem qfN {l:List FT} {x:FT}:(l++[x]).getD l.length fd0=x:=by
 rw [qab,qas qN,qaK];rfl
theorem FAll.snoc {l:List FT} {x:FT} (h:FAll l) (F:FOk x.1.data.toList x.2.data.toList):FAll (l++[x]):=fun k E=>by
 rw [qae,qaC] at E
 by_cases e:k<l.length
 ·rw [qfO e];exact h k e
 ·obtain rfl:k=l.length:=by omega
  rw [qfN];exact F
theorem qfY {l:List FT} {x:FT} {k:Nat} (E:k<l.length):lval (l++[x]) k=lval l k:=by unfold lval;rw [qfO E]
theorem qfX {l:List FT} {x:FT}:lval (l++[x]) l.length=fval x.1.data.toList x.2.data.toList:=by unfold lval;rw [qfN]
structure MatPart (W:World) (tb R k n:Nat) (gs:Nat->Nat) (M:Nat->Nat->Int):Prop where
 row:W.heap[tb]? = some (.cells (rowvs k n gs++List.replicate (R-k) zs0).toArray 212 (0,0))
 rows:∀i,i<k->qb9 W (gs i) n (M i)
 le:k<=R
theorem MatPart.below {W W':World} {G R k n:Nat} {E:Nat->Nat} {M:Nat->Nat->Int} (h:MatPart W G R k n E M) (F:Below W.heap.size W W'):MatPart W' G R k n E M :=
 ⟨(F.block _ (qG h.row).1).trans h.row,fun i H=>(h.rows i H).below F,h.le⟩
theorem qhw {R k n:Nat} {E:Nat->Nat}:∀x∈(rowvs k n E++List.replicate (R-k) zs0).toArray.toList,∀d,x≠.int .u32 d:=by
 intro x F d e;rcases qaI.1 (show x∈rowvs k n E++List.replicate (R-k) zs0 from F) with h | h
 ·exact qgg x h d e
 ·rw [(List.mem_replicate.1 h).2] at e;cases e
theorem qb9.keepRows {W W':World} {G g J:Nat} {cs:Array Value} {m:Nat->Int} (h:qb9 W g J m) (H:W.grownBy W' (some G)) (I:W.heap[G]? = some (.cells cs 212 (0,0))) (hne:∀x∈cs.toList,∀d,x≠.int .u32 d):qb9 W' g J m:=by
 obtain⟨ps,O,F,U⟩:=h;have E:g≠G:=by
  intro e;subst e;have:=F.1.symm.trans I;simp at this
 exact⟨ps,O,⟨(H.block _ (qG F.1).1 (fun e=>E (qag e))).trans F.1,F.2⟩,U.keep H I hne⟩
theorem MatPart.at {W:World} {E R k n:Nat} {F:Nat->Nat} {M:Nat->Nat->Int} (h:MatPart W E R k n F M) (G:k<R):W.cell? ⟨E,k,none⟩=some zs0/\W.frozen? ⟨E,k,none⟩=false:=by
 refine⟨(qC _ _ _ _ _ _ h.row).trans ?_,qF _ _ _ _ _ h.row⟩;rw [qaz,qas (by rw [qcu];exact qaf _),qcu,qaK,qbx,if_pos (by omega)]
theorem MatPart.done {W:World} {F R n:Nat} {E:Nat->Nat} {M:Nat->Nat->Int} (h:MatPart W F R R n E M):MatAt W F R n E M:=by
 have:=h.row;rw [qaK,List.replicate_zero,qbz] at this;exact⟨this,h.rows⟩
theorem MatPart.made (W:World) (R n:Nat) (E:Nat->Nat) (M:Nat->Nat->Int):MatPart (W.alloc (.cells (madeCells #[zs0] R) 212)) W.heap.size R 0 n E M:=by
 refine⟨?_,fun i F=>absurd F (by omega),qan _⟩;rw [qM _ _ _ rfl,Nat.sub_zero,show rowvs 0 n E=[] from rfl,qbl,<-toList_madeCells_one,Array.toArray_toList]
theorem qjw:(Tryz.prog.info? 212).map (fun i=>(i.zero,i.size,i.bytes))=some (some (.slice none 0 0),1,24):=by kernel_rfl
theorem qlF (n:Nat) (I:n<=1048576) (w:World):(Instr.makeSlice 260 (.int .i64 (n:Int)) (.int .i64 (n:Int))).run prog w=.ok (.slice (some ⟨w.heap.size,0,none⟩) n n) (w.alloc (.cells (madeCells #[zs0] n) 212)):=by
 obtain⟨i,H,E,F,G⟩:=info_parts qjw;have h:=run_make (P:=prog) w 260 212 i _ underlying260 H E .i64 .i64 (n:Int) (n:Int) (by omega) (Int.le_refl _) (by rw [G];omega) (by omega);rw [F,Int.toNat_natCast,qbI] at h;exact h
theorem qdR {w a b:World} {g:Nat} (h:Below w.heap.size w a) (k:a.grownBy b (some g)) (hg:w.heap.size<=g:=by omega):Below w.heap.size w b :=
 h.trans ⟨k.os,k.tape,k.output,k.size,fun i E=>k.block i (qai E h.size) (fun e=>by have:=qag e;omega)⟩
theorem qdH {a b:World} {g:Nat} (h:a.grownBy b (some g)) {p:Addr} (E:p.block<a.heap.size) (hne:p.block≠g):b.cell? p=a.cell? p:=World.cell?_of_block (h.block _ E (fun e=>hne (qag e)))
theorem qd8 {W:World} {F:Option Addr} {b off n c:Nat} {l:List FT} (J:l.length=n) (U:n<=64) (E:FCells W F b off l) (I:FAll l) :
  Calls prog 147 #[.slice F n c] W fun e W'=>∃g v,e=.returned (.tuple #[rowv g n,v])/\W.heap.size<=g/\Below W.heap.size W W'/\MagAt W' v (flcd l)/\qb9 W' g n (ftop l):=by
 refine (qhV F b off n c l W J U E I).mono ?_;rintro e W' ⟨g,v,ps,rfl,hg,H,O,V,Y,G⟩;exact⟨g,v,rfl,hg,H,O,ps,V,Y,G⟩
def besides (t:Tbl) (l:List FT) (i:Nat):List FT:=t.getD i []++[l.getD i fd0]
