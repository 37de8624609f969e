import Derived.Deep.DrawnRows
import Derived.Deep.RegionWith
import Derived.Test.YtjalhnlhcdfncaaGreatDoorBu11
set_option maxRecDepth 100000
set_option maxHeartbeats 0
namespace Go.Proofs.YtjalhnlhcdfncaaGreatDoor
open Go.RowKit Go.Proofs.Tryz
abbrev FT:=ByteArray×ByteArray
def fd0:FT:=(⟨#[]⟩,⟨#[]⟩)
structure FCells (W:World) (ao:Option Addr) (b off:Nat) (l:List FT):Prop where
 addr:0<l.length->ao=some ⟨b,off,none⟩
 cell:∀k,k<l.length->W.cell? ⟨b,off+k*2,none⟩=some (.string (l.getD k fd0).1)/\W.cell? ⟨b,off+k*2+1,none⟩=some (.string (l.getD k fd0).2)
theorem FCells.below {W W':World} {G:Option Addr} {b E:Nat} {l:List FT} (h:FCells W G b E l) (H:Below W.heap.size W W'):FCells W' G b E l :=
 ⟨h.addr,fun k F=>⟨(H.cell (qac W _ (h.cell k F).1)).trans (h.cell k F).1,(H.cell (qac W _ (h.cell k F).2)).trans (h.cell k F).2⟩⟩
def FAll (l:List FT):Prop:=∀k,k<l.length->FOk (l.getD k fd0).1.data.toList (l.getD k fd0).2.data.toList
def fden (x:FT):Nat:=(ival x.2.data.toList).natAbs
theorem infoM:(Tryz.prog.info? 213).map (fun i=>(i.zero,i.size,i.bytes))=some (some (.slice none 0 0),1,24):=by kernel_rfl
theorem qd1 {l:List FT} (h:FAll l) {k:Nat} (E:k<l.length):0<fden (l.getD k fd0)/\Fit (fden (l.getD k fd0)) 67:=⟨(h k E).dpos,(h k E).vd.fit⟩
theorem qma (l:List FT) (k:Nat) (E:k<l.length):(l.take (k+1)).map fden=(l.take k).map fden++[fden (l.getD k fd0)]:=by
 rw [qbJ,qad E,qbn,qaa,qad E];rfl
def flcd (l:List FT):Nat:=lcms (l.map fden)
def ftop (l:List FT) (k:Nat):Int:=ival (l.getD k fd0).1.data.toList*((flcd l / fden (l.getD k fd0):Nat):Int)
def qcu (W:World) (E:List (Value×Bool)) (z:Nat->Int):Prop:=∀k,k<E.length->(E.getD k (zs0,false)).2=decide (z k<0)/\MagAt W (E.getD k (zs0,false)).1 (z k).natAbs
theorem qcu.below {W W':World} {F:List (Value×Bool)} {z:Nat->Int} (h:qcu W F z) (G:Below W.heap.size W W'):qcu W' F z:=fun k E=>⟨(h k E).1,(h k E).2.below G⟩
theorem qcu.keep {W W':World} {g:Nat} {cs:Array Value} {t:TypeId} {G:Nat×Nat} {F:List (Value×Bool)} {z:Nat->Int} (h:qcu W F z) (H:W.grownBy W' (some g)) (hg:W.heap[g]? = some (.cells cs t G)) (hne:∀x∈cs.toList,∀d,x≠.int .u32 d):qcu W' F z :=
 fun k E=>⟨(h k E).1,qcq (h k E).2 H hg hne⟩
theorem qcu.snoc {W:World} {E:List (Value×Bool)} {z:Nat->Int} {v:Value} (h:qcu W E z) (H:MagAt W v (z E.length).natAbs):qcu W (E++[(v,decide (z E.length<0))]) z:=by
 intro k G;rw [qaf,qaG] at G
 by_cases F:k<E.length
 ·rw [qaa,qaz F,<-qaa];exact h k F
 ·obtain rfl:k=E.length:=by omega
  rw [qaa,qau qN,qaM];exact⟨rfl,H⟩
theorem qlw {P:Program} {O:Func} {p u:Tmp} {G:TypeId} (h:O.results=#[.tmp u,.cell p G]) (E:Array Value) (w:World) (g:Nat) (d:TypeDesc) (hu:P.underlying G=some d) (hd:(match d with | .struct _ | .array _ _=>true | _=>false)=false)
  (Z:E.getD p undef=.pointer (some ⟨g,0,none⟩)) (J v:Value) (U:E.getD u undef=J) (V:w.cell? ⟨g,0,none⟩=some v) :
  (results O E).run P w=.ok (.tuple #[J,v]) w:=by
 have F:(isAgg G).run P w=.ok false w:=by
  unfold isAgg;rw [Sem.run_bind,run_underlying hu w];cases d <;> simp_all
 have Y:(loadVar G ⟨g,0,none⟩).run P w=.ok v w:=by
  simp [loadVar,Sem.run_bind,F,V]
 have I:E[p]?.getD undef=.pointer (some ⟨g,0,none⟩):=by simpa using Z
 have H:E[u]?.getD undef=J:=by simpa using U
 simp [results,h,I,H,asAddr,Y,Result.andThen]
theorem qiA (ao:Option Addr) (b bD n c:Nat) (l:List FT) (w:World) (hl:l.length=n) (hn:n<=64) (Z:FCells w ao b bD l) (hf:FAll l) :
  Calls prog 147 #[.slice ao n c] w fun e w'=>∃g v ps,e=.returned (.tuple #[.slice (some ⟨g,0,none⟩) n n,v])/\w.heap.size<=g/\Below w.heap.size w w'/\MagAt w' v (flcd l)/\ps.length=n/\IRow w' g n ps/\qcu w' ps (ftop l):=by
 have bB:=run_make_row' (P:=prog) 286 213 (.slice none 0 0) 24 underlying286 infoM rfl .i64 .i64 n (by omega) (by omega);have HC:=qH (qA Z (qA hf hl));have bH:=qfj;clear Z hf hl;go_enter func147,ntmps147;go_wp2
 go_loopw [15] (fun x15 W=>∃(k:Nat) (vs:List Value),k<=n/\x15=.int .i64 k/\Hu (vs.length=k/\PRow W (w.heap.size+1) n vs/\qdD W vs ((l.take k).map fden)/\W.heap[w.heap.size]? = some (.cells #[zs0] 213 (0,0)))/\Hu (Below w.heap.size w W)) (fun x15 _=>n-(intOf x15).toNat)
 case atStart =>
  have h1:=PRow.made (w.alloc (.cells #[zs0] 213)) n;rw [qab] at h1;exact⟨0,[],qaj _,rfl,qH ⟨rfl,h1,⟨by simp,fun k hk=>absurd hk (by simp)⟩,(qL _ _ _ (by simp only [qab];omega)).trans (qM _ _ _ rfl)⟩,qH (qbY (qbY qB qN) qN)⟩
 case round =>
  clear bB;obtain⟨k,vs,hk,rfl,O,hB⟩:=hrel
  by_cases bA:k<n
  ·have bJ:(k:Int)<n:=by omega
   have aJ:k<l.length:=by have:=HC.o.2.2;omega
   have az:=HC.o.1.addr (by omega);subst az;have hc:=(HC.o.1.below hB.o).cell k aJ;have V:=HC.o.2.1 k aJ;have av:=qma l k aJ;have aW:fden (l.getD k fd0)=(ival (l.getD k fd0).2.data.toList).natAbs:=rfl;rw [aW] at av;obtain⟨N,hN⟩:=qX ((l.getD k fd0).1);obtain⟨D,hD⟩:=qX ((l.getD k fd0).2);rw [hN,hD] at hc;rw [hD] at av V;obtain⟨aC,aD⟩:=hc;have HN:=qH (fun W=>(qcl .l) D V.vd W);have HD:=qH av;clear V av aW hN hD;go_wp2_with fail;refine (HN.o _).mono ?_;rintro e G ⟨v2,rfl,aa,ax⟩;obtain⟨m2,rfl,aH⟩:=ax;have I:Below wr.heap.size wr G:=(qB.alloc qN _).trans (aa.mono (by simp only [qab];omega));have ai:=O.o.2.1.below I;have ah:=ai.at (by have:=O.o.1;omega);rw [O.o.1] at ah;obtain⟨aQ,aR⟩:=ah;have F:=ai.set (by have:=O.o.1;omega) m2 (qjO aH);rw [O.o.1] at F;have aN:=(((O.o.2.2.1.below I).snoc aH).keep (qb0 G (w.heap.size+1) k m2) ai.1 ai.nope);rw [<-HD.o] at aN;have ag:=(qW G ⟨w.heap.size+1,k,none⟩ m2 w.heap.size (by show w.heap.size≠w.heap.size+1;omega)).trans ((I.block _ (qG O.o.2.2.2).1).trans O.o.2.2.2);have aU:=(hB.o.trans (I.mono hB.o.size)).setCell (p:=⟨w.heap.size+1,k,none⟩) (by show w.heap.size<=w.heap.size+1;omega) m2;have H3:=qH (qA F (qA aN (qA ag aU)));obtain⟨s2,_,_,u2,t2,_,rfl,_,_⟩:=aH;clear aa I ai F aN ag aU aC aD;go_wp2;go_roundw
   case rel=>exact⟨k+1,_,bA,by go_num,qH ⟨by rw [qaf,O.o.1];rfl,H3.o.1,H3.o.2.1,H3.o.2.2.1⟩,qH H3.o.2.2.2⟩
   case measure=>simp [intOf];omega
  ·obtain rfl:k=n:=by omega
   have bf:=HC.o.2.2;have aM:=O.o.2.2.1;rw [qah (by omega)] at aM;have bv:∀j,j<k->0<(l.map fden).getD j 0/\Fit ((l.map fden).getD j 0) 67:=by
    intro j hj;have e:(l.map fden).getD j 0=fden (l.getD j fd0):=by
     rw [qaa,qaN,qaa,qad (by omega)];rfl
    rw [e];exact qd1 HC.o.2.1 (by omega)
   have aV:=qhl (some ⟨w.heap.size+1,0,none⟩) (w.heap.size+1) 0 k k vs (l.map fden) 67 wr (by rw [qaD];exact bf) (O.o.2.1.cells O.o.1) aM bv (by omega) (by decide) (by omega);have aP:=qH aV;clear aV bv aM bf;go_wp2_with fail;refine aP.o.mono ?_;rintro e G ⟨v2,rfl,aa,ax⟩;obtain⟨W3,au⟩:=qY (G.setCell ⟨w.heap.size,0,none⟩ v2);have af:=(aa.block _ (qG O.o.2.2.2).1).trans O.o.2.2.2;have bE:=qC _ _ 0 _ _ _ af;have bF:=qF _ _ 0 _ _ af;have aK:=qcq ax (qb0 G w.heap.size 0 v2) af (by intro x hx d;rw [qan.1 hx];intro e;cases e);have ag:(G.setCell ⟨w.heap.size,0,none⟩ v2).heap[w.heap.size]? = some (.cells #[v2] 213 (0,0)):=heap_setCell_same G w.heap.size 0 _ _ v2 af;have aA:=(hB.o.trans (aa.mono hB.o.size)).setCell (p:=⟨w.heap.size,0,none⟩) qN v2;rw [<-au] at aK ag aA;have ay:Fit (flcd l) 4289:=by
    have:=qfs (l.map fden) 67 (by
     intro j hj;have aY:j<l.length:=by rw [qaD] at hj;exact hj
     have e:(l.map fden).getD j 0=fden (l.getD j fd0):=by
      rw [qaa,qaN,qaa,qad aY];rfl
     rw [e];exact qd1 HC.o.2.1 aY) k (by rw [qaD];have:=HC.o.2.2;omega)
    rw [qah (by rw [qaD];have:=HC.o.2.2;omega)] at this;exact this.mono (by omega)
   have bq:=(qG af).1;have H3:=qH (qA aK (qA ag (qA aA ay)));have HS:=qH bq;obtain⟨s2,_,_,u2,t2,_,bC,_,_⟩:=ax;subst bC;have aL:=qgI k (by omega) W3;clear aa af aK ag aA O hB aP ay bq;go_wp2_with fail;rw [<-au];have bu:W3.heap.size=G.heap.size:=by rw [au];exact qbC ..
   rw [bu] at aL;rw [aL];clear au;go_wp2_with fail
   go_loopw [36] (fun x36 W=>∃(j:Nat) (ps:List (Value×Bool)),j<=k/\x36=.int .i64 j/\Hu (ps.length=j/\IRow W G.heap.size k ps/\qcu W ps (ftop l)/\W.heap[w.heap.size]? = some (.cells #[.slice s2 t2 u2] 213 (0,0))/\MagAt W (.slice s2 t2 u2) (flcd l))/\Hu (Below w.heap.size w W)) (fun x36 _=>k-(intOf x36).toNat)
   case atStart =>
    have h0:=IRow.made W3 k;rw [bu] at h0;have aB:Below W3.heap.size W3 (W3.alloc (.cells (madeCells #[zs0,.bool false] (k*2)) 217)):=qbY qB qN;exact⟨0,[],qaj _,rfl,qH ⟨rfl,h0,(fun i hi=>absurd hi (by simp)),(aB.block _ (qG H3.o.2.1).1).trans H3.o.2.1,H3.o.1.below aB⟩,qH (H3.o.2.2.1.trans (aB.mono H3.o.2.2.1.size))⟩
   case round =>
    clear aL;obtain⟨j,ps,hj,rfl,E,ak⟩:=hrel
    by_cases bz:j<k
    ·have bI:(j:Int)<k:=by omega
     have aZ:j<l.length:=by have:=HC.o.2.2;omega
     have az:=HC.o.1.addr (by omega);subst az;have hc:=(HC.o.1.below ak.o).cell j aZ;have V:=HC.o.2.1 j aZ;have aF:ftop l j=ival (l.getD j fd0).1.data.toList*((flcd l / (ival (l.getD j fd0).2.data.toList).natAbs:Nat):Int):=rfl;obtain⟨N,hN⟩:=qX ((l.getD j fd0).1);obtain⟨D,hD⟩:=qX ((l.getD j fd0).2);rw [hN,hD] at hc V aF;obtain⟨aC,aD⟩:=hc;have HW:=qH (qA V aF);clear V aF hN hD;go_wp2_with fail;have J:Below wr.heap.size wr (wr.alloc (.cells #[.string N,.string D] 27)):=qbY qB qN;refine (qnZ N D HW.o.1 w.heap.size s2 t2 u2 (flcd l) 4289 (by omega) (by omega) _ ((J.block _ (qG E.o.2.2.2.1).1).trans E.o.2.2.2.1) (E.o.2.2.2.2.below J) H3.o.2.2.2).mono ?_;rintro e w5 ⟨v5,rfl,aS,aX⟩;rw [<-HW.o.2] at aX;have H:Below wr.heap.size wr w5:=J.trans (aS.mono J.size);have Y:=E.o.2.1.below H;have ae:=E.o.1;obtain⟨v6,rfl,aI⟩:=aX;have ah:=Y.at (by omega);rw [ae] at ah;obtain⟨⟨aQ,aR⟩,aG⟩:=ah;have bK:=aG (j*2);have bL:=aG (j*2+1);have F:=Y.set (by omega) v6 (decide (ftop l j<0)) (qjO aI);rw [ae] at F;have U:=qbX (qb0 w5 G.heap.size (j*2) v6) (qb0 _ G.heap.size (j*2+1) (.bool (decide (ftop l j<0))));have aj:=((E.o.2.2.1.below H).snoc (by rw [ae];exact aI)).keep U Y.1 Y.nope;rw [ae] at aj;have hne:w.heap.size≠G.heap.size:=Nat.ne_of_lt HS.o;have bi:=(qW (w5.setCell ⟨G.heap.size,j*2,none⟩ v6) ⟨G.heap.size,j*2+1,none⟩ (.bool (decide (ftop l j<0))) w.heap.size hne).trans ((qW w5 ⟨G.heap.size,j*2,none⟩ v6 w.heap.size hne).trans ((H.block _ (qG E.o.2.2.2.1).1).trans E.o.2.2.2.1));have bg:=qcq (E.o.2.2.2.2.below H) U Y.1 Y.nope;have aT:=((ak.o.trans (H.mono ak.o.size)).setCell (p:=⟨G.heap.size,j*2,none⟩) (qaq HS.o) v6).setCell (p:=⟨G.heap.size,j*2+1,none⟩) (qaq HS.o) (.bool (decide (ftop l j<0)));have H6:=qH (qA F (qA aj (qA bi (qA bg aT))));have HP:=qH ae;obtain⟨s6,_,_,u6,t6,_,rfl,_,_⟩:=aI;clear F aj bi bg aT U Y H aS J ae aG aC aD;go_wp2;go_roundw
     case rel=>exact⟨j+1,_,bz,by go_num,qH ⟨by rw [qaf,HP.o];rfl,H6.o.1,H6.o.2.1,H6.o.2.2.1,H6.o.2.2.2.1⟩,qH H6.o.2.2.2.2⟩
     case measure=>simp [intOf];omega
    ·obtain rfl:j=k:=by omega
     have hne:G.heap.size≠w.heap.size:=qbo HS.o;have bn:=heap_setCell_same wr w.heap.size 0 _ _ (.slice s2 t2 u2) E.o.2.2.2.1;have U:=qb0 wr w.heap.size 0 (.slice s2 t2 u2);have aO:∀x∈(#[.slice s2 t2 u2]:Array Value).toList,∀d,x≠.int .u32 d:=by intro x hx d;rw [qan.1 hx];intro e;cases e
     have HE:Hu (((wr.setCell ⟨w.heap.size,0,none⟩ (.slice s2 t2 u2)).drew).heap[w.heap.size]? = some (.cells #[.slice s2 t2 u2] 213 (0,0))/\qcu (wr.setCell ⟨w.heap.size,0,none⟩ (.slice s2 t2 u2)).drew ps (ftop l)/\MagAt (wr.setCell ⟨w.heap.size,0,none⟩ (.slice s2 t2 u2)).drew (.slice s2 t2 u2) (flcd l)/\Below w.heap.size w (wr.setCell ⟨w.heap.size,0,none⟩ (.slice s2 t2 u2)).drew/\ps.length=j/\IRow (wr.setCell ⟨w.heap.size,0,none⟩ (.slice s2 t2 u2)).drew G.heap.size j ps):=qH ⟨bn,(E.o.2.2.1.keep U E.o.2.2.2.1 aO).below qB.drew,(qcq E.o.2.2.2.2 U E.o.2.2.2.1 aO).below qB.drew,(ak.o.setCell (p:=⟨w.heap.size,0,none⟩) qN _).drew,E.o.1,⟨(qW wr ⟨w.heap.size,0,none⟩ (.slice s2 t2 u2) G.heap.size hne).trans E.o.2.1.1,E.o.2.1.2⟩⟩;clear bn U aO hne;have bM:=qC _ _ 0 _ _ _ E.o.2.2.2.1;have bG:=qF _ _ 0 _ _ E.o.2.2.2.1;go_wp2_with fail
     go_region
     all_goals go_wp2_with fail
     all_goals refine qR (v:=.tuple #[.slice (some ⟨G.heap.size,0,none⟩) j j,.slice s2 t2 u2]) (qlw rfl _ _ w.heap.size _ underlying213 rfl rfl _ _ rfl (qC _ _ 0 _ _ _ HE.o.1)) rfl ⟨G.heap.size,_,ps,rfl,qaq HS.o,HE.o.2.2.2.1,HE.o.2.2.1,HE.o.2.2.2.2.1,HE.o.2.2.2.2.2,HE.o.2.1⟩
theorem qis {P:Program} (w:World) (Y sT ty F:TypeId) (m g E H:Nat) (a:Addr) (G O:Nat) (cur:Array Value) (t:TypeId) (cs:List Value)
  (hu:P.underlying Y=some (.slice F)) (hs:(P.info? F).map (·.size)=some m)
  (hg:w.heap[g]? = some (.cells cur t (0,0))) (hn:cs.length=Nat.min G E*m)
  (J:∀j v,cs[j]? = some v->w.cell? (a.add j)=some v) (I:0+cs.length<=cur.size) (h1:∀v∈cs,v.oneCell'=true) :
  (Builtin.copy_ #[Y,sT] ty #[.slice (some ⟨g,0,none⟩) E H,.slice (some a) G O]).run P w =
   .ok (goInt (Nat.min G E:Nat)) (w.setRow g (cur.toList.take 0++cs++cur.toList.drop (0+cs.length)).toArray):=by
 have Z:=run_loadCells_list (P:=P) w a cs J;have V:=run_storeCells_at P g 0 t cs 0 cur w hg (by simpa using I) h1;cases U:P.info? F with
 | none=>simp [U] at hs
 | some i =>
  have hi:i.size=m:=by simpa [U] using hs
  rw [hn] at Z;simp [Builtin.copy_,run_underlying hu,Builtin.lenOf,Builtin.firstCells,sizeOf,typeInfo,U,hi,Z,V]
def fflat (l:List FT):List Value:=l.flatMap fun x=>[.string x.1,.string x.2]
theorem qcv (l:List FT):(fflat l).length=l.length*2:=by
 induction l with
 | nil=>rfl
 | cons p l ih=>rw [fflat,List.flatMap_cons,qaf,<-fflat,ih,qbz];simp;omega
theorem qd0 (a b:List FT):fflat (a++b)=fflat a++fflat b:=by unfold fflat;rw [List.flatMap_append]
theorem qfi (l:List FT):∀(k:Nat) (x:FT),l[k]? = some x->(fflat l)[k*2]? = some (.string x.1)/\(fflat l)[k*2+1]? = some (.string x.2):=by
 induction l with
 | nil=>intro k p h;cases h
 | cons q l ih =>
  intro k p h;have e:fflat (q :: l)=.string q.1 :: .string q.2 :: fflat l:=rfl;rw [e];cases k with
  | zero =>
   have:q=p:=qag h;subst this;exact⟨rfl,rfl⟩
  | succ k =>
   have E:=ih k p h;rw [show (k+1)*2=k*2+1+1 by omega];exact E
theorem qiy (l:List FT):∀v∈fflat l,v.oneCell'=true:=by
 intro v E;obtain⟨x,_,hx⟩:=List.mem_flatMap.1 E;rcases qav.1 hx with rfl | hx
 ·rfl
 ·rw [qan.1 hx];rfl
theorem getD_some {l:List FT} {k:Nat} (E:k<l.length):l[k]? = some (l.getD k fd0):=by rw [qaa,qad E];rfl
theorem FCells.src {W:World} {J:Option Addr} {b E:Nat} {l:List FT} (h:FCells W J b E l):∀j v,(fflat l)[j]? = some v->W.cell? ((⟨b,E,none⟩:Addr).add j)=some v:=by
 intro j v F;have O:j<(fflat l).length:=(List.getElem?_eq_some_iff.1 F).1;rw [qcv] at O;have I:j / 2<l.length:=by omega
 obtain⟨G,H⟩:=qfi l (j / 2) _ (getD_some I);obtain⟨c1,c2⟩:=h.cell (j / 2) I;rw [Addr.add_mid]
 by_cases e:j % 2=0
 ·rw [show j / 2*2=j by omega] at G c1;rw [G] at F;rw [c1];exact F
 ·rw [show j / 2*2+1=j by omega] at H;rw [show E+j / 2*2+1=E+j by omega] at c2;rw [H] at F;rw [c2];exact F
theorem FCells.ofRow {W:World} {g:Nat} {l:List FT} {t:TypeId} {E:Nat×Nat} (h:W.heap[g]? = some (.cells (fflat l).toArray t E)):FCells W (some ⟨g,0,none⟩) g 0 l:=by
 refine⟨fun _=>rfl,fun k H=>?_⟩;obtain⟨F,G⟩:=qfi l k _ (getD_some H);rw [qaR];exact⟨(qC _ _ _ _ _ _ h).trans ((qaC ..).trans F),(qC _ _ _ _ _ _ h).trans ((qaC ..).trans G)⟩
theorem infoF:(Tryz.prog.info? 27).map (fun i=>(i.zero,i.size,i.bytes))=some (some (.agg #[.string ⟨#[]⟩,.string ⟨#[]⟩]),2,32):=by kernel_rfl
theorem qlj (n:Nat) (I:n<=1048576) (w:World):(Instr.makeSlice 22 (.int .i64 ((n:Int)+1)) (.int .i64 ((n:Int)+1))).run prog w=.ok (.slice (some ⟨w.heap.size,0,none⟩) (n+1) (n+1)) (w.alloc (.cells (madeCells #[.string ⟨#[]⟩,.string ⟨#[]⟩] ((n+1)*2)) 27)):=by
 obtain⟨i,H,E,F,G⟩:=info_parts infoF;have h:=run_make (P:=prog) w 22 27 i _ underlying22 H E .i64 .i64 ((n+1:Nat):Int) ((n+1:Nat):Int) (by omega) (Int.le_refl _) (by rw [G];omega) (by omega);rw [F,Int.toNat_natCast] at h;exact h
theorem qnz (l:List FT) (x:FT) (r:List Value) (hr:r.length=2):(((fflat l++r).toArray.setIfInBounds (l.length*2) (.string x.1)).setIfInBounds (l.length*2+1) (.string x.2))=(fflat (l++[x])).toArray:=by
 obtain⟨a,b,rfl⟩:∃a b,r=[a,b]:=by
  match r,hr with
  | [a,b],_=>exact⟨a,b,rfl⟩
 rw [qd0,qaL,qaL,qbb _ _ (by rw [qcv];exact qae _),qcv,qaM,qbp,qbb _ _ (by rw [qcv];omega),qcv,show l.length*2+1-l.length*2=1 by omega]
 rfl
theorem qhk (ao:Option Addr) (b av n c:Nat) (l:List FT) (x:FT) (w:World) (hl:l.length=n) (aC:0<n) (hn:n<=63) (E:FCells w ao b av l) :
  Calls prog 150 #[.slice ao n c,.agg #[.string x.1,.string x.2]] w fun e w'=>∃g,e=.returned (.slice (some ⟨g,0,none⟩) ((n+1:Nat)) (n+1))/\Below w.heap.size w w'/\FCells w' (some ⟨g,0,none⟩) g 0 (l++[x]):=by
 obtain⟨s1,s2⟩:=x;have ax:=E.addr (by omega);subst ax;obtain⟨U,F⟩:=qY (w.alloc (.cells #[.string s1,.string s2] 27));have ak:=qlj n (by omega) U;obtain⟨W2,G⟩:=qY (U.alloc (.cells (madeCells #[.string ⟨#[]⟩,.string ⟨#[]⟩] ((n+1)*2)) 27));have au:U.heap.size=w.heap.size+1:=by rw [F,qab]
 rw [<-G,au] at ak;have ae:W2.heap[w.heap.size+1]? = some (.cells (madeCells #[.string ⟨#[]⟩,.string ⟨#[]⟩] ((n+1)*2)) 27 (0,0)):=by rw [G];exact qM _ _ _ au
 have af:Below w.heap.size w U:=F▸qbY qB qN;have Y:Below w.heap.size w W2:=G▸qbY af qN;have ai:=qis (P:=prog) W2 22 22 3 27 2 (w.heap.size+1) (n+1) (n+1) ⟨b,av,none⟩ n c _ 27 (fflat l) underlying22 (by kernel_rfl) ae (by rw [qcv,hl];show n*2=(min n (n+1))*2;rw [qaX (by omega)]) (E.below Y).src (by rw [qcv,hl,size_madeCells];omega) (qiy l);obtain⟨R,hR⟩:=qY (((madeCells #[.string ⟨#[]⟩,.string ⟨#[]⟩] ((n+1)*2):Array Value)).toList.drop (0+(fflat l).length));have V:R.length=2:=by rw [hR,qbi,qbq,size_madeCells,qcv];omega
 rw [<-hR,List.take_zero,qbj] at ai;obtain⟨W3,I⟩:=qY (W2.setRow (w.heap.size+1) (fflat l++R).toArray);rw [<-I] at ai;have H:W3.heap[w.heap.size+1]? = some (.cells (fflat l++R).toArray 27 (0,0)):=by rw [I];exact qT _ _ _ _ _ _ ae
 have ag:Below w.heap.size w W3:=I▸qS Y (by omega) _;have aa:U.heap[w.heap.size]? = some (.cells #[.string s1,.string s2] 27 (0,0)):=by rw [F];exact qM _ _ _ rfl
 have O:Below U.heap.size U W3:=I▸qS (G▸qbY qB qN) (by omega) _;have Z:=(O.block _ (qG aa).1).trans aa;have aD:=qC _ _ 0 _ _ _ Z;have aF:=qC _ _ 1 _ _ _ Z;have aj:(fflat l++R).length=n*2+2:=by rw [qaf,qcv,V,hl]
 obtain⟨d0,ay⟩:∃d0,W3.cell? ⟨w.heap.size+1,n*2,none⟩=some d0:=⟨_,(qC _ _ _ _ _ _ H).trans ((qaC ..).trans (qad (by omega)))⟩;obtain⟨d1,az⟩:∃d1,W3.cell? ⟨w.heap.size+1,n*2+1,none⟩=some d1:=⟨_,(qC _ _ _ _ _ _ H).trans ((qaC ..).trans (qad (by omega)))⟩;have aA:=qF _ _ (n*2) _ _ H;have aB:=qF _ _ (n*2+1) _ _ H;have J:=heap_setCell_same _ _ (n*2+1) _ _ (.string s2) (heap_setCell_same _ _ (n*2) _ _ (.string s1) H);rw [<-hl,qnz l (s1,s2) R V,hl] at J;have ah:=(ag.setCell (p:=⟨w.heap.size+1,n*2,none⟩) (by show w.heap.size<=w.heap.size+1;omega) (.string s1)).setCell (p:=⟨w.heap.size+1,n*2+1,none⟩) (by show w.heap.size<=w.heap.size+1;omega) (.string s2);have HE:=qH (qA ah (FCells.ofRow J));have HN:=qH (qA G F);clear E ae af Y hR V I H ag aa O Z aj J ah G;go_enter func150,ntmps150;go_wp2_with fail;rw [<-F];clear F;rw [ak];go_wp2;go_ret;exact⟨_,rfl,HE.o.1,HE.o.2⟩
theorem qgh {W:World} {g:Nat} {t:TypeId} (h:W.heap[g]? = some (.cells #[.slice none 0 0,.bool false] t (0,0))) (a:Option Addr) (n c:Nat) (b:Bool) :
  ((W.setCell ⟨g,0,none⟩ (.slice a n c)).setCell ⟨g,1,none⟩ (.bool b)).heap[g]? = some (.cells #[.slice a n c,.bool b] t (0,0)) /\
  (∀k,k≠g->((W.setCell ⟨g,0,none⟩ (.slice a n c)).setCell ⟨g,1,none⟩ (.bool b)).heap[k]? = W.heap[k]?) /\
  (∀m E z,IntAt W (.agg #[m,.bool E]) z->IntAt ((W.setCell ⟨g,0,none⟩ (.slice a n c)).setCell ⟨g,1,none⟩ (.bool b)) (.agg #[m,.bool E]) z) :=
 ⟨qc9 h a n c b,fun _k F=>(qW _ _ _ _ F).trans (qW _ _ _ _ F),fun _ _ _ G=>qc8 G h a n c b⟩
def LTwo (E W:World) (F G:Nat) (v3:Option Addr×Nat×Nat×Bool) (v4:Option Addr×Nat×Nat×Bool) (z3 z4:Int):Prop :=
 W.heap[F]? = some (.cells #[.slice v3.1 v3.2.1 v3.2.2.1,.bool v3.2.2.2] 217 (0,0))/\W.heap[G]? = some (.cells #[.slice v4.1 v4.2.1 v4.2.2.1,.bool v4.2.2.2] 217 (0,0)) /\
  IntAt W (.agg #[.slice v3.1 v3.2.1 v3.2.2.1,.bool v3.2.2.2]) z3/\IntAt W (.agg #[.slice v4.1 v4.2.1 v4.2.2.1,.bool v4.2.2.2]) z4/\Below E.heap.size E W/\E.heap.size<=F/\E.heap.size<=G
section
variable {W2 W:World} {a3:Option Addr} {n3 c3:Nat} {b3:Bool} {a4:Option Addr} {n4 c4:Nat} {b4:Bool} {z3 z4:Int}
theorem ltwo_aa (h:IntAt W (.agg #[.slice a3 n3 c3,.bool b3]) z3/\IntAt W (.agg #[.slice a4 n4 c4,.bool b4]) z4) (E:Below W2.heap.size W2 W) :
  LTwo W2 ((W.alloc (.cells #[.slice a3 n3 c3,.bool b3] 217)).alloc (.cells #[.slice a4 n4 c4,.bool b4] 217)) W.heap.size (W.heap.size+1) (a3,n3,c3,b3) (a4,n4,c4,b4) z3 z4 :=
 have k:=qbY (qbY (Below.refl W.heap.size W) qN) qN
 ⟨(qL _ _ _ (by simp only [qab];omega)).trans (qM _ _ _ rfl),qM _ _ _ (by simp only [qab]),h.1.below k,h.2.below k,qbY (qbY E qN) qN,E.size,qap E.size⟩
theorem ltwo_bb (h:IntAt W (.agg #[.slice a3 n3 c3,.bool b3]) z3/\IntAt W (.agg #[.slice a4 n4 c4,.bool b4]) z4) (E:Below W2.heap.size W2 W) :
  LTwo W2 ((W.alloc (.cells #[.slice a4 n4 c4,.bool b4] 217)).alloc (.cells #[.slice a3 n3 c3,.bool b3] 217)) (W.heap.size+1) W.heap.size (a3,n3,c3,b3) (a4,n4,c4,b4) z3 z4 :=
 have k:=qbY (qbY (Below.refl W.heap.size W) qN) qN
 ⟨qM _ _ _ (by simp only [qab]),(qL _ _ _ (by simp only [qab];omega)).trans (qM _ _ _ rfl),h.1.below k,h.2.below k,qbY (qbY E qN) qN,qap E.size,E.size⟩
theorem ltwo_pa {g:Nat} (h:IntAt W (.agg #[.slice a3 n3 c3,.bool b3]) z3/\IntAt W (.agg #[.slice a4 n4 c4,.bool b4]) z4) (E:Below W2.heap.size W2 W) (hg:W2.heap.size<=g) (F:W.heap[g]? = some (.cells #[.slice none 0 0,.bool false] 217 (0,0))) :
  LTwo W2 (((W.setCell ⟨g,0,none⟩ (.slice a3 n3 c3)).setCell ⟨g,1,none⟩ (.bool b3)).alloc (.cells #[.slice a4 n4 c4,.bool b4] 217)) g W.heap.size (a3,n3,c3,b3) (a4,n4,c4,b4) z3 z4:=by
 obtain⟨p1,p2,p3⟩:=qgh F a3 n3 c3 b3;have lt:=(qG F).1;have k:∀V:World,Below V.heap.size V (V.alloc (.cells #[.slice a4 n4 c4,.bool b4] 217)):=fun V=>qbY qB qN
 exact⟨(qL _ _ _ (by simp only [qbC];exact lt)).trans p1,qM _ _ _ (by simp only [qbC]),(p3 _ _ _ h.1).below (k _),(p3 _ _ _ h.2).below (k _),qbY ((E.setCell (by exact hg) _).setCell (by exact hg) _) qN,hg,E.size⟩
theorem ltwo_pb {g:Nat} (h:IntAt W (.agg #[.slice a3 n3 c3,.bool b3]) z3/\IntAt W (.agg #[.slice a4 n4 c4,.bool b4]) z4) (E:Below W2.heap.size W2 W) (hg:W2.heap.size<=g) (F:W.heap[g]? = some (.cells #[.slice none 0 0,.bool false] 217 (0,0))) :
  LTwo W2 (((W.setCell ⟨g,0,none⟩ (.slice a4 n4 c4)).setCell ⟨g,1,none⟩ (.bool b4)).alloc (.cells #[.slice a3 n3 c3,.bool b3] 217)) W.heap.size g (a3,n3,c3,b3) (a4,n4,c4,b4) z3 z4:=by
 obtain⟨p1,p2,p3⟩:=qgh F a4 n4 c4 b4;have lt:=(qG F).1;have k:∀V:World,Below V.heap.size V (V.alloc (.cells #[.slice a3 n3 c3,.bool b3] 217)):=fun V=>qbY qB qN
 exact⟨qM _ _ _ (by simp only [qbC]),(qL _ _ _ (by simp only [qbC];exact lt)).trans p1,(p3 _ _ _ h.1).below (k _),(p3 _ _ _ h.2).below (k _),qbY ((E.setCell (by exact hg) _).setCell (by exact hg) _) qN,E.size,hg⟩
theorem ltwo_pp {g E:Nat} (h:IntAt W (.agg #[.slice a3 n3 c3,.bool b3]) z3/\IntAt W (.agg #[.slice a4 n4 c4,.bool b4]) z4) (H:Below W2.heap.size W2 W) (hg:W2.heap.size<=g) (F:W2.heap.size<=E) (hne:g≠E) (I:W.heap[g]? = some (.cells #[.slice none 0 0,.bool false] 217 (0,0))) (G:W.heap[E]? = some (.cells #[.slice none 0 0,.bool false] 217 (0,0))) :
  LTwo W2 ((((W.setCell ⟨g,0,none⟩ (.slice a3 n3 c3)).setCell ⟨g,1,none⟩ (.bool b3)).setCell ⟨E,0,none⟩ (.slice a4 n4 c4)).setCell ⟨E,1,none⟩ (.bool b4)) g E (a3,n3,c3,b3) (a4,n4,c4,b4) z3 z4:=by
 obtain⟨p1,p2,p3⟩:=qgh I a3 n3 c3 b3;obtain⟨q1,q2,q3⟩:=qgh ((p2 E (Ne.symm hne)).trans G) a4 n4 c4 b4;exact⟨(q2 g hne).trans p1,q1,q3 _ _ _ (p3 _ _ _ h.1),q3 _ _ _ (p3 _ _ _ h.2),(((H.setCell (by exact hg) _).setCell (by exact hg) _).setCell (by exact F) _).setCell (by exact F) _,hg,F⟩
end
theorem qdm {W:World} {E:List (Value×Bool)} {F:Nat->Int} (h:qcu W E F) {k:Nat} (I:k<E.length):∃(a:Option Addr) (n c:Nat) (b:Bool),E.getD k (zs0,false)=(.slice a n c,b)/\IntAt W (.agg #[.slice a n c,.bool b]) (F k):=by
 obtain⟨H,G⟩:=h k I;have hg:=G;obtain⟨a,_,_,c,n,_,e,_,_⟩:=G;refine⟨a,n,c,decide (F k<0),Prod.ext e H,_,rfl,e▸hg⟩
theorem qc5 {a b:World} {g k:Nat} {cs:Array Value} {t:TypeId} (h:a.grownBy b (some g)) (hg:a.heap[k]? = some (.cells cs t (0,0))) (hne:k≠g) (i:Nat):b.cell? ⟨k,i,none⟩=cs[i]? :=
 qC _ _ i _ _ _ ((h.block _ (qG hg).1 (fun e=>hne (qag e))).trans hg)
theorem qb6 {a b:World} (g:Nat) (h:Below a.heap.size a b):a.grownBy b (some g):=qco (qcs a _) h
def qhj (W:World) (b n:Nat) (E:List (Value×Bool)):Prop:=∀k,k<n->W.cell? ⟨b,k*2,none⟩=some (E.getD k (zs0,false)).1/\W.cell? ⟨b,k*2+1,none⟩=some (.bool (E.getD k (zs0,false)).2)
theorem qhj.below {W W':World} {b n:Nat} {G:List (Value×Bool)} (h:qhj W b n G) (F:Below W.heap.size W W'):qhj W' b n G :=
 fun k E=>⟨(F.cell (qac W _ (h k E).1)).trans (h k E).1,(F.cell (qac W _ (h k E).2)).trans (h k E).2⟩
theorem qkJ {W:World} {g n j:Nat} {E:List (Value×Bool)} {z:Nat->Int} {a:Option Addr} {m c:Nat} {b:Bool} (G:IRow W g n E) (O:qcu W E z) (V:E.length=j) (H:j<n) (U:IntAt W (.agg #[.slice a m c,.bool b]) (z j)) :
  IRow ((W.setCell ⟨g,j*2,none⟩ (.slice a m c)).setCell ⟨g,j*2+1,none⟩ (.bool b)) g n (E++[(.slice a m c,b)])/\qcu ((W.setCell ⟨g,j*2,none⟩ (.slice a m c)).setCell ⟨g,j*2+1,none⟩ (.bool b)) (E++[(.slice a m c,b)]) z:=by
 subst V;obtain⟨v,F,hg⟩:=U;have I:v=.slice a m c:=by simp only [qaY,qa5,qaW] at F;exact F.1.symm
 have J:b=decide (z E.length<0):=by simp only [qaY,qa5,qaW,qbF] at F;exact F.2.1
 subst I;refine⟨G.set H _ b (qjO hg),?_⟩;rw [J];exact (O.snoc hg).keep (qbX (qb0 W g (E.length*2) _) (qb0 _ g (E.length*2+1) _)) G.1 G.nope
theorem qir (br bp n cr cp H:Nat) (ps qs:List (Value×Bool)) (O J:Nat->Int) (K:Nat) (hK:K<=34359738368) (v0:Value) (z0:Int) (w:World) (hn:n<=64) (hc:H<n) (bL:ps.length=n) (bM:qs.length=n) (bf:qhj w br n ps) (aZ:qhj w bp n qs) (hz:qcu w ps O) (hy:qcu w qs J) (bq:∀k,k<n->Fit (O k).natAbs K) (bn:∀k,k<n->Fit (J k).natAbs K) (h0:IntAt w v0 z0) (bg:Fit z0.natAbs K) (bN:z0≠0) :
  Calls prog 256 #[.slice (some ⟨br,0,none⟩) n cr,.slice (some ⟨bp,0,none⟩) n cp,.int .i64 H,v0] w fun e w'=>∃g rs,e=.returned (.slice (some ⟨g,0,none⟩) n n)/\w.heap.size<=g/\Below w.heap.size w w'/\rs.length=n/\IRow w' g n rs/\qcu w' rs (fun j=>(J H*O j-O H*J j).tdiv z0):=by
 obtain⟨a0,n0,c0,b0,rfl⟩:=qbZ h0;obtain⟨W1,ai⟩:=qY (w.alloc (.cells #[.slice a0 n0 c0,.bool b0] 217));have bC:W1.heap.size=w.heap.size+1:=by rw [ai,qab]
 have aK:=qgI n (by omega) W1;rw [bC] at aK;have aU:Below w.heap.size w W1:=ai▸qbY qB qN;have aV:=qbY (o:=.cells (madeCells #[zs0,.bool false] (n*2)) 217) aU qN;have aH:=IRow.made W1 n;rw [bC] at aH;have bA:W1.heap[w.heap.size]? = some (.cells #[.slice a0 n0 c0,.bool b0] 217 (0,0)):=by rw [ai];exact qM _ _ _ rfl
 have bB:(W1.alloc (.cells (madeCells #[zs0,.bool false] (n*2)) 217)).heap[w.heap.size]? = some (.cells #[.slice a0 n0 c0,.bool b0] 217 (0,0)):=(qL _ _ _ (by omega)).trans bA;have bU:(H:Int)<n:=by omega
 have H2:=qH (qA aV (qA aH bB));have I:=qH (qA bf (qA aZ (qA hz (qA hy (qA bq (qA bn (qA h0 (qA bg (qA bL bM)))))))));have bV:=qfj;clear bf aZ hz hy bq bn h0 bg aU aV aH bA bB;go_enter func256,ntmps256;go_wp2_with fail;rw [<-ai];rw [aK];clear ai aK;go_wp2_with fail
 go_loopw [18] (fun x18 W=>∃(j:Nat) (rs:List (Value×Bool)),j<=n/\x18=.int .i64 j/\Hu (rs.length=j/\IRow W (w.heap.size+1) n rs/\qcu W rs (fun j=>(J H*O j-O H*J j).tdiv z0)/\W.heap[w.heap.size]? = some (.cells #[.slice a0 n0 c0,.bool b0] 217 (0,0)))/\Hu (Below w.heap.size w W)) (fun x18 _=>n-(intOf x18).toNat)
 case atStart=>exact⟨0,[],qaj _,rfl,qH ⟨rfl,H2.o.2.1,(fun i hi=>absurd hi (by simp)),H2.o.2.2⟩,qH H2.o.1⟩
 case round =>
  obtain⟨j,rs,hj,rfl,hI,hB⟩:=hrel
  by_cases U:j<n
  ·have bW:(j:Int)<n:=by omega
   obtain⟨a1,n1,c1,b1,e1,i1⟩:=qdm (I.o.2.2.2.1.below hB.o) (k:=H) (by have:=I.o.2.2.2.2.2.2.2.2.2;omega);obtain⟨a2,n2,c2,b2,e2,i2⟩:=qdm (I.o.2.2.1.below hB.o) (k:=j) (by have:=I.o.2.2.2.2.2.2.2.2.1;omega);obtain⟨a5,n5,c5,b5,e5,i5⟩:=qdm (I.o.2.2.1.below hB.o) (k:=H) (by have:=I.o.2.2.2.2.2.2.2.2.1;omega);obtain⟨a6,n6,c6,b6,e6,i6⟩:=qdm (I.o.2.2.2.1.below hB.o) (k:=j) (by have:=I.o.2.2.2.2.2.2.2.2.2;omega);have k1:=(I.o.2.1.below hB.o) H hc;have k2:=(I.o.1.below hB.o) j U;have k5:=(I.o.1.below hB.o) H hc;have k6:=(I.o.2.1.below hB.o) j U;rw [e1] at k1;rw [e2] at k2;rw [e5] at k5;rw [e6] at k6;have bD:∀W,Below wr.heap.size wr W->W.cell? ⟨bp,H*2,none⟩=some (.slice a1 n1 c1):=fun W h=>(h.cell (qac wr _ k1.1)).trans k1.1
   have bE:∀W,Below wr.heap.size wr W->W.cell? ⟨bp,H*2+1,none⟩=some (.bool b1):=fun W h=>(h.cell (qac wr _ k1.2)).trans k1.2
   have bF:∀W,Below wr.heap.size wr W->W.cell? ⟨br,j*2,none⟩=some (.slice a2 n2 c2):=fun W h=>(h.cell (qac wr _ k2.1)).trans k2.1
   have bG:∀W,Below wr.heap.size wr W->W.cell? ⟨br,j*2+1,none⟩=some (.bool b2):=fun W h=>(h.cell (qac wr _ k2.2)).trans k2.2
   have bH:∀W,Below wr.heap.size wr W->W.cell? ⟨br,H*2,none⟩=some (.slice a5 n5 c5):=fun W h=>(h.cell (qac wr _ k5.1)).trans k5.1
   have bI:∀W,Below wr.heap.size wr W->W.cell? ⟨br,H*2+1,none⟩=some (.bool b5):=fun W h=>(h.cell (qac wr _ k5.2)).trans k5.2
   have bJ:∀W,Below wr.heap.size wr W->W.cell? ⟨bp,j*2,none⟩=some (.slice a6 n6 c6):=fun W h=>(h.cell (qac wr _ k6.1)).trans k6.1
   have bK:∀W,Below wr.heap.size wr W->W.cell? ⟨bp,j*2+1,none⟩=some (.bool b6):=fun W h=>(h.cell (qac wr _ k6.2)).trans k6.2
   have aQ:=qH (fun W (h:Below wr.heap.size wr W)=>qcJ (J H) (O j) K K (by omega) _ _ W (i1.below h) (i2.below h) (I.o.2.2.2.2.2.1 H hc) (I.o.2.2.2.2.1 j U));have aR:=qH (fun W (h:Below wr.heap.size wr W)=>qcJ (O H) (J j) K K (by omega) _ _ W (i5.below h) (i6.below h) (I.o.2.2.2.2.1 H hc) (I.o.2.2.2.2.2.1 j U));clear k1 k2 k5 k6 e1 e2 e5 e6 i1 i2 i5 i6;have ag:Below wr.heap.size wr wr:=Below.refl _ _;have aB:Below wr.heap.size wr wr.drew:=ag.drew;have aA:wr.drew.heap.size=wr.heap.size:=rfl;have E:∀W:World,W.drew.heap.size=W.heap.size:=fun _=>rfl
   go_wp2_with fail
   go_cut [11,12] (fun x11 x12 W=>∃(g3 g4:Nat) (a3:Option Addr) (n3 c3:Nat) (b3:Bool) (a4:Option Addr) (n4 c4:Nat) (b4:Bool),x11=.pointer (some ⟨g3,0,none⟩)/\x12=.pointer (some ⟨g4,0,none⟩)/\LTwo wr W g3 g4 (a3,n3,c3,b3) (a4,n4,c4,b4) (J H*O j) (O H*J j))
   case first =>
    go_region_held3 (fun W=>Below wr.heap.size wr W) (first | with_reducible exact ag | with_reducible exact aB | with_reducible exact G | with_reducible exact F | ((repeat (first | refine Below.setCell ?_ (by first | exact qae _ | exact F.size | exact G.size | exact qap qN | exact qap F.size | exact qap G.size) _ | refine qbY ?_ qN | refine Below.drew ?_));first | exact G | exact F | exact ag)) (first | (go_at_call_of 153 (Value.agg #[.slice a1 n1 c1,.bool b1]);refine (aQ.o _ (by ((repeat (first | refine Below.setCell ?_ (by first | exact qae _ | exact F.size | exact G.size | exact qap qN | exact qap F.size | exact qap G.size) _ | refine qbY ?_ qN | refine Below.drew ?_));first | exact ag))).mono ?_;rintro e w3 ⟨p3,rfl,aj,aL⟩;have F:Below wr.heap.size wr w3:=bjoin (by ((repeat (first | refine Below.setCell ?_ (by first | exact qae _ | exact F.size | exact G.size | exact qap qN | exact qap F.size | exact qap G.size) _ | refine qbY ?_ qN | refine Below.drew ?_));first | exact ag)) aj;obtain⟨a3,n3,c3,b3,rfl⟩:=qbZ aL;have aC:=qH aL;obtain⟨k3,bX⟩:=bcell aj;have Z3:=qH (zkeep aj);have s3:_<=_:=aj.size;(try simp only [qab,aA,E] at s3);(try have q3:wr.heap.size<w3.heap.size:=by omega);(try have r3:wr.heap.size+1<w3.heap.size:=by omega);clear aj aL) | (go_at_call_of 153 (Value.agg #[.slice a5 n5 c5,.bool b5]);refine (aR.o _ (by ((repeat (first | refine Below.setCell ?_ (by first | exact qae _ | exact F.size | exact G.size | exact qap qN | exact qap F.size | exact qap G.size) _ | refine qbY ?_ qN | refine Below.drew ?_));first | exact F))).mono ?_;rintro e w4 ⟨p4,rfl,Y,aM⟩;have G:Below wr.heap.size wr w4:=bjoin (by ((repeat (first | refine Below.setCell ?_ (by first | exact qae _ | exact F.size | exact G.size | exact qap qN | exact qap F.size | exact qap G.size) _ | refine qbY ?_ qN | refine Below.drew ?_));first | exact F)) Y;obtain⟨a4,n4,c4,b4,rfl⟩:=qbZ aM;have ah:=qH (qA (show IntAt w4 _ _ from (by first | exact aC.o.below Y | exact (aC.o.below (qbY qB qN)).below Y | exact (aC.o.below (qbY (qbY qB qN) qN)).below Y)) aM);obtain⟨k4,bY⟩:=bcell Y;have Z4:=qH (zkeep Y);have s4:_<=_:=Y.size;(try simp only [qab] at s4);(try have q4:wr.heap.size<w4.heap.size:=by omega);(try have r4:wr.heap.size+1<w4.heap.size:=by omega);(try have t4:w3.heap.size<w4.heap.size:=by omega);(try have u4:w3.heap.size+1<w4.heap.size:=by omega);clear Y aM))
    all_goals go_wp2_with fail
    all_goals go_meet
    all_goals refine⟨_,_,a3,n3,c3,b3,a4,n4,c4,b4,rfl,rfl,?_⟩
    all_goals first
     | with_reducible exact ltwo_aa ah.o G
     | with_reducible exact ltwo_bb ah.o G
     | (with_reducible refine ltwo_pa ah.o G ?_ ?_;(first | exact qae _ | exact F.size | exact G.size | exact qbc _ | exact qap F.size);(refine Z4.o _ _ ?_;((try with_reducible refine zdrew ?_);first | (refine qM _ _ _ ?_;((try simp only) <;> omega)) | (refine Z3.o _ _ ?_;((try with_reducible refine zdrew ?_);first | (refine qM _ _ _ ?_;((try simp only) <;> omega)) | (refine (qL _ _ _ ?_).trans ?_;((try simp only [qab,E]);omega);(refine qM _ _ _ ?_;((try simp only [qab,E]) <;> omega))))) | (refine (qL _ _ _ ?_).trans ?_;((try simp only [qab,E]);omega);(first | (refine qM _ _ _ ?_;((try simp only [qab,E]) <;> omega)) | (refine Z3.o _ _ ?_;((try with_reducible refine zdrew ?_);first | (refine qM _ _ _ ?_;((try simp only [qab,E]) <;> omega)) | (refine (qL _ _ _ ?_).trans ?_;((try simp only [qab,E]);omega);(refine qM _ _ _ ?_;((try simp only [qab,E]) <;> omega))))))) | (refine (qL _ _ _ ?_).trans ?_;((try simp only [qab,E]);omega);refine (qL _ _ _ ?_).trans ?_;((try simp only [qab,E]);omega);(refine Z3.o _ _ ?_;((try with_reducible refine zdrew ?_);first | (refine qM _ _ _ ?_;((try simp only [qab,E]) <;> omega)) | (refine (qL _ _ _ ?_).trans ?_;((try simp only [qab,E]);omega);(refine qM _ _ _ ?_;((try simp only [qab,E]) <;> omega)))))))))
     | (with_reducible refine ltwo_pb ah.o G ?_ ?_;(first | exact qae _ | exact F.size | exact G.size | exact qbc _ | exact qap F.size);(refine Z4.o _ _ ?_;((try with_reducible refine zdrew ?_);first | (refine qM _ _ _ ?_;((try simp only) <;> omega)) | (refine Z3.o _ _ ?_;((try with_reducible refine zdrew ?_);first | (refine qM _ _ _ ?_;((try simp only) <;> omega)) | (refine (qL _ _ _ ?_).trans ?_;((try simp only [qab,E]);omega);(refine qM _ _ _ ?_;((try simp only [qab,E]) <;> omega))))) | (refine (qL _ _ _ ?_).trans ?_;((try simp only [qab,E]);omega);(first | (refine qM _ _ _ ?_;((try simp only [qab,E]) <;> omega)) | (refine Z3.o _ _ ?_;((try with_reducible refine zdrew ?_);first | (refine qM _ _ _ ?_;((try simp only [qab,E]) <;> omega)) | (refine (qL _ _ _ ?_).trans ?_;((try simp only [qab,E]);omega);(refine qM _ _ _ ?_;((try simp only [qab,E]) <;> omega))))))) | (refine (qL _ _ _ ?_).trans ?_;((try simp only [qab,E]);omega);refine (qL _ _ _ ?_).trans ?_;((try simp only [qab,E]);omega);(refine Z3.o _ _ ?_;((try with_reducible refine zdrew ?_);first | (refine qM _ _ _ ?_;((try simp only [qab,E]) <;> omega)) | (refine (qL _ _ _ ?_).trans ?_;((try simp only [qab,E]);omega);(refine qM _ _ _ ?_;((try simp only [qab,E]) <;> omega)))))))))
     | (with_reducible refine ltwo_pp ah.o G ?_ ?_ ?_ ?_ ?_;(first | exact qae _ | exact F.size | exact G.size | exact qbc _ | exact qap F.size);(first | exact qae _ | exact F.size | exact G.size | exact qbc _ | exact qap F.size);omega;(refine Z4.o _ _ ?_;((try with_reducible refine zdrew ?_);first | (refine qM _ _ _ ?_;((try simp only [qab]) <;> omega)) | (refine Z3.o _ _ ?_;((try with_reducible refine zdrew ?_);first | (refine qM _ _ _ ?_;((try simp only [qab]) <;> omega)) | (refine (qL _ _ _ ?_).trans ?_;((try simp only [qab]);omega);(refine qM _ _ _ ?_;((try simp only) <;> omega))))) | (refine (qL _ _ _ ?_).trans ?_;((try simp only [qab]);omega);(first | (refine qM _ _ _ ?_;((try simp only) <;> omega)) | (refine Z3.o _ _ ?_;((try with_reducible refine zdrew ?_);first | (refine qM _ _ _ ?_;((try simp only) <;> omega)) | (refine (qL _ _ _ ?_).trans ?_;((try simp only [qab,E]);omega);(refine qM _ _ _ ?_;((try simp only [qab,E]) <;> omega))))))) | (refine (qL _ _ _ ?_).trans ?_;((try simp only [qab,E]);omega);refine (qL _ _ _ ?_).trans ?_;((try simp only [qab,E]);omega);(refine Z3.o _ _ ?_;((try with_reducible refine zdrew ?_);first | (refine qM _ _ _ ?_;((try simp only [qab,E]) <;> omega)) | (refine (qL _ _ _ ?_).trans ?_;((try simp only [qab,E]);omega);(refine qM _ _ _ ?_;((try simp only [qab,E]) <;> omega))))))));(refine Z4.o _ _ ?_;((try with_reducible refine zdrew ?_);first | (refine qM _ _ _ ?_;((try simp only [qab]) <;> omega)) | (refine Z3.o _ _ ?_;((try with_reducible refine zdrew ?_);first | (refine qM _ _ _ ?_;((try simp only [qab]) <;> omega)) | (refine (qL _ _ _ ?_).trans ?_;((try simp only [qab]);omega);(refine qM _ _ _ ?_;((try simp only) <;> omega))))) | (refine (qL _ _ _ ?_).trans ?_;((try simp only [qab]);omega);(first | (refine qM _ _ _ ?_;((try simp only) <;> omega)) | (refine Z3.o _ _ ?_;((try with_reducible refine zdrew ?_);first | (refine qM _ _ _ ?_;((try simp only) <;> omega)) | (refine (qL _ _ _ ?_).trans ?_;((try simp only [qab,E]);omega);(refine qM _ _ _ ?_;((try simp only [qab,E]) <;> omega))))))) | (refine (qL _ _ _ ?_).trans ?_;((try simp only [qab,E]);omega);refine (qL _ _ _ ?_).trans ?_;((try simp only [qab,E]);omega);(refine Z3.o _ _ ?_;((try with_reducible refine zdrew ?_);first | (refine qM _ _ _ ?_;((try simp only [qab,E]) <;> omega)) | (refine (qL _ _ _ ?_).trans ?_;((try simp only [qab,E]);omega);(refine qM _ _ _ ?_;((try simp only [qab,E]) <;> omega)))))))))
   case rest =>
    obtain⟨g3,g4,a3,n3,c3,b3,a4,n4,c4,b4,rfl,rfl,h3,h4,aI,aJ,hb,l3,l4⟩:=hcut;dsimp only at h3 h4 aI aJ;have lr:=(qG hI.o.2.1.1).1;have bv:g3≠w.heap.size+1:=by omega
    have bz:g4≠w.heap.size+1:=by omega
    have ax:w.heap.size≠w.heap.size+1:=by omega
    have az:=(hb.block _ (qG hI.o.2.2.2).1).trans hI.o.2.2.2;have bQ:∀W,wc.grownBy W (some (w.heap.size+1))->W.cell? ⟨g3,0,none⟩=some (.slice a3 n3 c3):=fun W h=>qc5 h h3 bv 0
    have bR:∀W,wc.grownBy W (some (w.heap.size+1))->W.cell? ⟨g3,1,none⟩=some (.bool b3):=fun W h=>qc5 h h3 bv 1
    have bS:∀W,wc.grownBy W (some (w.heap.size+1))->W.cell? ⟨g4,0,none⟩=some (.slice a4 n4 c4):=fun W h=>qc5 h h4 bz 0
    have bT:∀W,wc.grownBy W (some (w.heap.size+1))->W.cell? ⟨g4,1,none⟩=some (.bool b4):=fun W h=>qc5 h h4 bz 1
    have bO:∀W,wc.grownBy W (some (w.heap.size+1))->W.cell? ⟨w.heap.size,0,none⟩=some (.slice a0 n0 c0):=fun W h=>qc5 h az ax 0
    have bP:∀W,wc.grownBy W (some (w.heap.size+1))->W.cell? ⟨w.heap.size,1,none⟩=some (.bool b0):=fun W h=>qc5 h az ax 1
    have aD:=hB.o.trans (hb.mono hB.o.size);have bu:=I.o.2.2.2.2.2.2.1.below (W':=wc) (aD.mono (by omega));have hP:=I.o.2.2.2.2.1 j U;have av:=(I.o.2.2.2.2.2.1 H hc).mul (I.o.2.2.2.2.1 j U);have aG:=(I.o.2.2.2.2.1 H hc).mul (I.o.2.2.2.2.2.1 j U);rw [<-qaK] at av aG;have aF:Fit (-(O H*J j)).natAbs (K+K):=by rw [qbv];exact aG
    have bi:Fit (J H*O j + -(O H*J j)).natAbs (K+K+1):=(av.add aF).le (Int.natAbs_add_le _ _);have HA:=qH (fun W (h:Below wc.heap.size wc W)=>(qdR .l) (O H*J j) _ W (aJ.below h));have HS:=qH (fun W (u:Value) (h:Below wc.heap.size wc W) (hu:IntAt W u (-(O H*J j)))=>(qdq .l) (J H*O j) (-(O H*J j)) (K+K) (by omega) _ u W (aI.below h) hu av aF);have HQ:=qH (fun W (u:Value) (h:Below wc.heap.size wc W) (hu:IntAt W u (J H*O j + -(O H*J j)))=>qgK (J H*O j + -(O H*J j)) z0 (K+K+1) (by omega) u _ W hu (bu.below h) bi (I.o.2.2.2.2.2.2.2.1.mono (by omega)) bN);have af:=qH (qA (hI.o.2.1.below hb) (qA (hI.o.2.2.1.below hb) (qA az aD)));have ak:Below wc.heap.size wc wc:=Below.refl _ _;have Z:Below wc.heap.size wc wc.drew:=ak.drew;clear h3 h4 aI aJ hb az aD bu hP av aG aF bi ag aB aA bD bE bF bG bH bI bJ bK aQ aR;go_wp2_with fail
    go_region_held3 (fun W=>wc.grownBy W (some (w.heap.size+1))) (first | with_reducible exact qcs _ _ | with_reducible exact qb6 _ Z | with_reducible exact qb6 _ V | with_reducible exact qb6 _ ae | with_reducible exact qb6 _ aa | with_reducible exact qb6 _ V.drew | with_reducible exact qb6 _ ae.drew | with_reducible exact qb6 _ aa.drew | exact qbX (qbX (qb6 _ V) (qb0 _ _ _ _)) (qb0 _ _ _ _) | exact qbX (qbX (qb6 _ V.drew) (qb0 _ _ _ _)) (qb0 _ _ _ _)) (first | (go_at_call 156;refine (HA.o _ (by first | with_reducible exact ak | with_reducible exact Z)).mono ?_;rintro e w5 ⟨p5,rfl,aW,aN⟩;have aa:Below wc.heap.size wc w5:=bjoin (by first | with_reducible exact ak | with_reducible exact Z) aW;obtain⟨a7,n7,c7,b7,rfl⟩:=qbZ aN;have G5:=qH aN;clear aW aN) | (go_at_call 154;refine (HS.o _ _ (by first | with_reducible exact aa | with_reducible exact aa.drew) (by first | exact G5.o | exact G5.o.below qB.drew)).mono ?_;rintro e w6 ⟨p6,rfl,aX,aO⟩;have ae:Below wc.heap.size wc w6:=bjoin (by first | with_reducible exact aa | with_reducible exact aa.drew) aX;obtain⟨a8,n8,c8,b8,rfl⟩:=qbZ aO;have G6:=qH aO;clear aX aO) | (go_at_call 266;refine (HQ.o _ _ (by first | with_reducible exact ae | with_reducible exact ae.drew) (by first | exact G6.o | exact G6.o.below qB.drew)).mono ?_;rintro e w7 ⟨p7,rfl,aY,ay⟩;have V:Below wc.heap.size wc w7:=bjoin (by first | with_reducible exact ae | with_reducible exact ae.drew) aY;obtain⟨a9,n9,c9,b9,rfl⟩:=qbZ ay;have G7:=qH ay;have R7:=af.o.1.below V;have aS:=hI.o.1;have aT:=R7.at (by omega);rw [aS] at aT;obtain⟨⟨bZ,cu⟩,aP⟩:=aT;have cz:=aP (j*2);have cB:=aP (j*2+1);have au:=qH (qA (qkJ R7 (af.o.2.1.below V) hI.o.1 U (a:=a9) (m:=n9) (c:=c9) (b:=b9) (by rw [Int.sub_eq_add_neg];exact ay)) (qA ((qW (w7.setCell ⟨w.heap.size+1,j*2,none⟩ (.slice a9 n9 c9)) ⟨w.heap.size+1,j*2+1,none⟩ (.bool b9) w.heap.size ax).trans ((qW w7 ⟨w.heap.size+1,j*2,none⟩ (.slice a9 n9 c9) w.heap.size ax).trans ((V.block _ (qG af.o.2.2.1).1).trans af.o.2.2.1))) (((af.o.2.2.2.trans (V.mono af.o.2.2.2.size)).setCell (p:=⟨w.heap.size+1,j*2,none⟩) (by show w.heap.size<=w.heap.size+1;omega) (.slice a9 n9 c9)).setCell (p:=⟨w.heap.size+1,j*2+1,none⟩) (by show w.heap.size<=w.heap.size+1;omega) (.bool b9))));clear aY ay R7 aS aP))
    all_goals go_wp2_with fail
    all_goals go_roundw
    case rel=>exact⟨j+1,_,U,by go_num,qH ⟨by rw [qaf,hI.o.1];rfl,au.o.1.1,au.o.1.2,au.o.2.1⟩,qH au.o.2.2⟩
    case measure=>simp [intOf];omega
  ·obtain rfl:j=n:=by omega
   go_wp2;go_ret;exact⟨_,rs,rfl,qbc _,hB.o,hI.o.1,hI.o.2.1,hI.o.2.2.1⟩
abbrev zi0:Value:=.agg #[.slice none 0 0,.bool false]
def isum (t:Nat->Int):Nat->Int
 | 0=>0
 | n+1=>isum t n+t n
theorem qfr (t:Nat->Int) (K:Nat):∀k,(∀j,j<k->Fit (t j).natAbs K)->Fit (isum t k).natAbs (K+k+1)
 | 0,_=>Nat.pow_pos (by decide)
 | k+1,h=>by
  have E:=qfr t K k (fun j G=>h j (by omega));have F:=(h k (by omega)).mono (show K<=K+k+1 by omega);exact (E.add F).le (Int.natAbs_add_le _ _)
theorem qjh {w wr E:World} {O a9:Option Addr} {n1 c1 H G:Nat} {U F:Bool} {z:Int} {o:Obj} (I:IntAt E (.agg #[.slice a9 H G,.bool F]) z) (z3:E.heap[w.heap.size+1+1]? = some (.cells #[.slice O n1 c1,.bool U] 217 (0,0))) (J:Below (w.heap.size+1+1) wr E) (V:wr.heap[w.heap.size+1]? = some o) (hB:Below w.heap.size w wr) :
  ((E.setCell ⟨w.heap.size+1+1,0,none⟩ (.slice a9 H G)).setCell ⟨w.heap.size+1+1,1,none⟩ (.bool F)).heap[w.heap.size+1+1]? = some (.cells #[.slice a9 H G,.bool F] 217 (0,0)) /\
   IntAt ((E.setCell ⟨w.heap.size+1+1,0,none⟩ (.slice a9 H G)).setCell ⟨w.heap.size+1+1,1,none⟩ (.bool F)) (.agg #[.slice a9 H G,.bool F]) z /\
   ((E.setCell ⟨w.heap.size+1+1,0,none⟩ (.slice a9 H G)).setCell ⟨w.heap.size+1+1,1,none⟩ (.bool F)).heap[w.heap.size+1]? = some o /\
   Below w.heap.size w ((E.setCell ⟨w.heap.size+1+1,0,none⟩ (.slice a9 H G)).setCell ⟨w.heap.size+1+1,1,none⟩ (.bool F)):=by
 have hne:w.heap.size+1≠w.heap.size+1+1:=by omega
 refine⟨heap_setCell_same _ _ 1 _ _ _ (heap_setCell_same _ _ 0 _ _ _ z3),?_,(qW _ ⟨_,1,none⟩ _ _ hne).trans ((qW _ ⟨_,0,none⟩ _ _ hne).trans ((J.block _ (by omega)).trans V)),((hB.trans (J.mono (by omega))).setCell (p:=⟨_,0,none⟩) (by show w.heap.size<=w.heap.size+1+1;omega) _).setCell (p:=⟨_,1,none⟩) (by show w.heap.size<=w.heap.size+1+1;omega) _⟩;obtain⟨m,e,hg⟩:=I;refine⟨m,e,qcq hg (qbX (qb0 E _ 0 _) (qb0 _ _ 1 _)) z3 ?_⟩;intro x hx d;rcases qav.1 hx with rfl | hx
 ·intro h;cases h
 ·rw [qan.1 hx];intro h;cases h
theorem qlJ (n:Nat) (p1 p2:Value) (t:Nat->Int) (K:Nat) (hK:K<=34359738368) (w:World) (hn:n<=64)
  (G:∀W (j:Nat),j<n->Below w.heap.size w W->Calls prog 152 #[.int .i64 j,p1,p2] W fun e W'=>∃u,e=.returned u/\Below W.heap.size W W'/\IntAt W' u (t j)) (U:∀j,j<n->Fit (t j).natAbs K) :
  Calls prog 151 #[.int .i64 n,zi0,.func (.func 152) #[] #[p1,p2],.func (.func 154) #[] #[]] w fun e w'=>∃u,e=.returned u/\Below w.heap.size w w'/\IntAt w' u (isum t n):=by
 have HT:=qH G;have HF:=qH U;have ak:=qfj;clear G U;go_enter func151,ntmps151;go_wp2_with fail
 go_loopw [13] (fun x13 W=>∃(k:Nat) (a:Option Addr) (m c:Nat) (b:Bool),k<=n/\x13=.int .i64 k/\Hu (W.heap[w.heap.size+1+1]? = some (.cells #[.slice a m c,.bool b] 217 (0,0))/\IntAt W (.agg #[.slice a m c,.bool b]) (isum t k)/\W.heap[w.heap.size+1]? = some (.cells #[.slice none 0 0,.bool false] 217 (0,0)))/\Hu (Below w.heap.size w W)) (fun x13 _=>n-(intOf x13).toNat)
 case atStart =>
  refine⟨0,none,0,0,false,qaj _,rfl,qH ⟨qM _ _ _ (by simp),?_,(qL _ _ _ (by simp)).trans (qM _ _ _ (by simp))⟩,qH (qbY (qbY (qbY qB qN) qN) qN)⟩;exact⟨_,rfl,MagAt.nil _⟩
 case round =>
  obtain⟨k,a1,n1,c1,b1,hk,rfl,H,hB⟩:=hrel
  by_cases aa:k<n
  ·have au:(k:Int)<n:=by omega
   have e0:=qC wr _ 0 _ _ _ H.o.1;have e1:=qC wr _ 1 _ _ _ H.o.1;have aj:Below (w.heap.size+1+1) wr wr:=Below.refl _ _;have V:Below (w.heap.size+1+1) wr wr.drew:=aj.drew;have ah:=(qG H.o.1).1;have J:=qH ah;clear ah;have ag:=qH (qA (qfr t K k (fun j hj=>HF.o j (by omega))) ((HF.o k aa).mono (show K<=K+k+1 by omega)));go_wp2_with fail
   go_region_with (first | (go_at_call 154;refine ((qdq .l) (isum t k) (t k) (K+k+1) (by omega) _ _ _ (by first | exact E.o.1 | exact E.o.1.below qB.drew) (by first | exact E.o.2.1 | exact E.o.2.1.below qB.drew) ag.o.1 ag.o.2).mono ?_;rintro e w3 ⟨p3,rfl,Z,ae⟩;have ai:Below (w.heap.size+1+1) wr w3:=Y.trans (Z.mono (qal (qaq J.o) Y.size));obtain⟨a9,n9,c9,b9,rfl⟩:=qbZ ae;have z3:=(Z.block _ (qak J.o Y.size)).trans E.o.2.2;have q0:=qC w3 _ 0 _ _ _ z3;have q1:=qC w3 _ 1 _ _ _ z3;have f0:=qF w3 _ 0 _ _ z3;have f1:=qF w3 _ 1 _ _ z3;have I:=qH (qjh ae z3 ai H.o.2.2 hB.o);clear Z ae z3) | (go_at_call 152;refine (HT.o _ k aa (hB.o.trans (V.mono (by omega)))).mono ?_;rintro e w2 ⟨u2,rfl,O,af⟩;have Y:Below (w.heap.size+1+1) wr w2:=V.trans (O.mono (qaq J.o));have z2:w2.heap[w.heap.size+1+1]? = some (.cells #[.slice a1 n1 c1,.bool b1] 217 (0,0)):=(O.block _ J.o).trans H.o.1;have g0:=qC w2 _ 0 _ _ _ z2;have g1:=qC w2 _ 1 _ _ _ z2;obtain⟨a2,n2,c2,b2,rfl⟩:=qbZ af;have E:=qH (qA (H.o.2.1.below (W':=w2) ((Below.refl wr.heap.size wr).drew.trans O)) (qA af z2));clear O af z2))
   all_goals go_wp2_with fail
   all_goals go_roundw
   all_goals first
    | exact⟨k+1,a9,n9,c9,b9,aa,by go_num,qH ⟨I.o.1,I.o.2.1,I.o.2.2.1⟩,qH I.o.2.2.2⟩
    | (simp [intOf];omega)
  ·obtain rfl:k=n:=by omega
   have e0:=qC wr _ 0 _ _ _ H.o.1;have e1:=qC wr _ 1 _ _ _ H.o.1;have F:=H.o.2.2;have HR:=qH (qA F (qA (qS hB.o (show w.heap.size<=w.heap.size+1 by omega) #[.slice a1 n1 c1,.bool b1]) (qdd (cs':=#[.slice a1 n1 c1,.bool b1]) H.o.2.1 F qfa)));clear F
   go_wp2_with (with_reducible refine sR_ rfl 217 _ _ rfl (w.heap.size+1) #[.slice a1 n1 c1,.bool b1] HR.o.1 2 ?_)
   exact qR (v:=.agg #[.slice a1 n1 c1,.bool b1]) (rA_ rfl (w.heap.size+1) (qT _ _ _ _ _ _ HR.o.1) underlying217 2) rfl ⟨_,rfl,HR.o.2.1,HR.o.2.2⟩
theorem qib (n:Nat) (y1 y2 y3 y4:Value) (t:Nat->Int) (K:Nat) (hK:K<=34359738368) (w:World) (hn:n<=64)
  (G:∀W (j:Nat),j<n->Below w.heap.size w W->Calls prog 239 #[.int .i64 j,y1,y2,y3,y4] W fun e W'=>∃u,e=.returned u/\Below W.heap.size W W'/\IntAt W' u (t j)) (U:∀j,j<n->Fit (t j).natAbs K) :
  Calls prog 151 #[.int .i64 n,zi0,.func (.func 239) #[] #[y1,y2,y3,y4],.func (.func 154) #[] #[]] w fun e w'=>∃u,e=.returned u/\Below w.heap.size w w'/\IntAt w' u (isum t n):=by
 have HT:=qH G;have HF:=qH U;have ak:=qfj;clear G U;go_enter func151,ntmps151;go_wp2_with fail
 go_loopw [13] (fun x13 W=>∃(k:Nat) (a:Option Addr) (m c:Nat) (b:Bool),k<=n/\x13=.int .i64 k/\Hu (W.heap[w.heap.size+1+1]? = some (.cells #[.slice a m c,.bool b] 217 (0,0))/\IntAt W (.agg #[.slice a m c,.bool b]) (isum t k)/\W.heap[w.heap.size+1]? = some (.cells #[.slice none 0 0,.bool false] 217 (0,0)))/\Hu (Below w.heap.size w W)) (fun x13 _=>n-(intOf x13).toNat)
 case atStart =>
  refine⟨0,none,0,0,false,qaj _,rfl,qH ⟨qM _ _ _ (by simp),?_,(qL _ _ _ (by simp)).trans (qM _ _ _ (by simp))⟩,qH (qbY (qbY (qbY qB qN) qN) qN)⟩;exact⟨_,rfl,MagAt.nil _⟩
 case round =>
  obtain⟨k,a1,n1,c1,b1,hk,rfl,H,hB⟩:=hrel
  by_cases aa:k<n
  ·have au:(k:Int)<n:=by omega
   have e0:=qC wr _ 0 _ _ _ H.o.1;have e1:=qC wr _ 1 _ _ _ H.o.1;have aj:Below (w.heap.size+1+1) wr wr:=Below.refl _ _;have V:Below (w.heap.size+1+1) wr wr.drew:=aj.drew;have ah:=(qG H.o.1).1;have J:=qH ah;clear ah;have ag:=qH (qA (qfr t K k (fun j hj=>HF.o j (by omega))) ((HF.o k aa).mono (show K<=K+k+1 by omega)));go_wp2_with fail
   go_region_with (first | (go_at_call 154;refine ((qdq .l) (isum t k) (t k) (K+k+1) (by omega) _ _ _ (by first | exact E.o.1 | exact E.o.1.below qB.drew) (by first | exact E.o.2.1 | exact E.o.2.1.below qB.drew) ag.o.1 ag.o.2).mono ?_;rintro e w3 ⟨p3,rfl,Z,ae⟩;have ai:Below (w.heap.size+1+1) wr w3:=Y.trans (Z.mono (qal (qaq J.o) Y.size));obtain⟨a9,n9,c9,b9,rfl⟩:=qbZ ae;have z3:=(Z.block _ (qak J.o Y.size)).trans E.o.2.2;have q0:=qC w3 _ 0 _ _ _ z3;have q1:=qC w3 _ 1 _ _ _ z3;have f0:=qF w3 _ 0 _ _ z3;have f1:=qF w3 _ 1 _ _ z3;have I:=qH (qjh ae z3 ai H.o.2.2 hB.o);clear Z ae z3) | (go_at_call 239;refine (HT.o _ k aa (hB.o.trans (V.mono (by omega)))).mono ?_;rintro e w2 ⟨u2,rfl,O,af⟩;have Y:Below (w.heap.size+1+1) wr w2:=V.trans (O.mono (qaq J.o));have z2:w2.heap[w.heap.size+1+1]? = some (.cells #[.slice a1 n1 c1,.bool b1] 217 (0,0)):=(O.block _ J.o).trans H.o.1;have g0:=qC w2 _ 0 _ _ _ z2;have g1:=qC w2 _ 1 _ _ _ z2;obtain⟨a2,n2,c2,b2,rfl⟩:=qbZ af;have E:=qH (qA (H.o.2.1.below (W':=w2) ((Below.refl wr.heap.size wr).drew.trans O)) (qA af z2));clear O af z2))
   all_goals go_wp2_with fail
   all_goals go_roundw
   all_goals first
    | exact⟨k+1,a9,n9,c9,b9,aa,by go_num,qH ⟨I.o.1,I.o.2.1,I.o.2.2.1⟩,qH I.o.2.2.2⟩
    | (simp [intOf];omega)
  ·obtain rfl:k=n:=by omega
   have e0:=qC wr _ 0 _ _ _ H.o.1;have e1:=qC wr _ 1 _ _ _ H.o.1;have F:=H.o.2.2;have HR:=qH (qA F (qA (qS hB.o (show w.heap.size<=w.heap.size+1 by omega) #[.slice a1 n1 c1,.bool b1]) (qdd (cs':=#[.slice a1 n1 c1,.bool b1]) H.o.2.1 F qfa)));clear F
   go_wp2_with (with_reducible refine sR_ rfl 217 _ _ rfl (w.heap.size+1) #[.slice a1 n1 c1,.bool b1] HR.o.1 2 ?_)
   exact qR (v:=.agg #[.slice a1 n1 c1,.bool b1]) (rA_ rfl (w.heap.size+1) (qT _ _ _ _ _ _ HR.o.1) underlying217 2) rfl ⟨_,rfl,HR.o.2.1,HR.o.2.2⟩
abbrev rowv (g n:Nat):Value:=.slice (some ⟨g,0,none⟩) n n
def rowvs (R n:Nat) (E:Nat->Nat):List Value:=(List.range R).map fun i=>rowv (E i) n
theorem qcN (R n:Nat) (E:Nat->Nat):(rowvs R n E).length=R:=by rw [rowvs,qaD,qbs]
theorem qd7 {R n i:Nat} {E:Nat->Nat} (F:i<R):(rowvs R n E)[i]? = some (rowv (E i) n):=by
 rw [rowvs,qaN,qbG F];rfl
theorem qnu {R n i:Nat} {F:Nat->Nat} (g:Nat):(rowvs R n F).set i (rowv g n)=rowvs R n (fun j=>if j=i then g else F j):=by
 apply List.ext_getElem?;intro j
 by_cases E:j<R
 ·rw [qd7 E,List.getElem?_set]
  by_cases e:i=j
  ·subst e;rw [if_pos rfl,if_pos (by rw [qcN];exact E),if_pos rfl]
  ·rw [if_neg e,qd7 E,if_neg (fun h=>e h.symm)]
 ·rw [qaO (by rw [qa7,qcN];omega),qaO (by rw [qcN];omega)]
def qcm (W:World) (g n:Nat) (m:Nat->Int):Prop:=∃E:List (Value×Bool),E.length=n/\IRow W g n E/\qcu W E m
theorem qcm.below {W W':World} {g n:Nat} {m:Nat->Int} (h:qcm W g n m) (E:Below W.heap.size W W'):qcm W' g n m:=by
 obtain⟨ps,F,G,H⟩:=h;exact⟨ps,F,G.below E,H.below E⟩
theorem qcm.cells {W:World} {g n:Nat} {E:List (Value×Bool)} (H:E.length=n) (F:IRow W g n E):qhj W g n E:=by
 intro k I;have G:(E++List.replicate (n-E.length) (zs0,false))[k]? = some (E.getD k (zs0,false)):=by
  rw [qaz (by omega),qaa,qad (by omega)];rfl
 obtain⟨e1,e2⟩:=qfp _ _ _ G;exact⟨(qC _ _ _ _ _ _ F.1).trans ((qaC ..).trans e1),(qC _ _ _ _ _ _ F.1).trans ((qaC ..).trans e2)⟩
structure MatAt (W:World) (tb R n:Nat) (gs:Nat->Nat) (M:Nat->Nat->Int):Prop where
 row:W.heap[tb]? = some (.cells (rowvs R n gs).toArray 212 (0,0))
 rows:∀i,i<R->qcm W (gs i) n (M i)
theorem MatAt.below {W W':World} {G R n:Nat} {E:Nat->Nat} {M:Nat->Nat->Int} (h:MatAt W G R n E M) (F:Below W.heap.size W W'):MatAt W' G R n E M :=
 ⟨(F.block _ (qG h.row).1).trans h.row,fun i H=>(h.rows i H).below F⟩
theorem MatAt.cell {W:World} {E R n:Nat} {F:Nat->Nat} {M:Nat->Nat->Int} (h:MatAt W E R n F M) {i:Nat} (G:i<R):W.cell? ⟨E,i,none⟩=some (rowv (F i) n)/\W.frozen? ⟨E,i,none⟩=false :=
 ⟨(qC _ _ _ _ _ _ h.row).trans ((qaC ..).trans (qd7 G)),qF _ _ _ _ _ h.row⟩
theorem qgV {R n:Nat} {E:Nat->Nat}:∀x∈(rowvs R n E).toArray.toList,∀d,x≠.int .u32 d:=by
 intro x hx d e;obtain⟨i,_,h⟩:=qbe.1 (show x∈rowvs R n E from hx);rw [e] at h;cases h
theorem qcm.keep {W W':World} {F R n g I:Nat} {J:Nat->Nat} {m:Nat->Int} (h:qcm W g I m) (G:W.grownBy W' (some F)) (H:W.heap[F]? = some (.cells (rowvs R n J).toArray 212 (0,0))):qcm W' g I m:=by
 obtain⟨ps,O,E,U⟩:=h;have hne:g≠F:=by
  intro e;subst e;have:=E.1.symm.trans H;simp at this
 exact⟨ps,O,⟨(G.block _ (qG E.1).1 (fun e=>hne (qag e))).trans E.1,E.2⟩,U.keep G H qgV⟩
theorem MatAt.set {W:World} {E R n:Nat} {F:Nat->Nat} {M:Nat->Nat->Int} (h:MatAt W E R n F M) (i g:Nat) (m:Nat->Int) (hg:qcm W g n m) :
  MatAt (W.setCell ⟨E,i,none⟩ (rowv g n)) E R n (fun j=>if j=i then g else F j) (fun j=>if j=i then m else M j):=by
 have G:=qb0 W E i (rowv g n);refine⟨?_,fun j H=>?_⟩
 ·rw [heap_setCell_same _ E i _ _ _ h.row,qaL,qnu]
 ·by_cases e:j=i
  ·simp only [if_pos e];exact hg.keep G h.row
  ·simp only [if_neg e];exact (h.rows j H).keep G h.row
theorem MatAt.congr {W:World} {I R n:Nat} {H E:Nat->Nat} {M G:Nat->Nat->Int} (h:MatAt W I R n H M) (hg:∀i,i<R->H i=E i) (J:∀i,i<R->M i=G i):MatAt W I R n E G:=by
 refine⟨?_,fun i F=>by rw [<-hg i F,<-J i F];exact h.rows i F⟩;rw [h.row]
 congr 3
 exact List.map_congr_left fun i F=>by rw [hg i (qas.1 F)]
def PivAs (w:World) (G R n k c:Nat) (E:Nat->Nat) (M:Nat->Nat->Int) (e:Ending) (F:World):Prop :=
 (e=.returned (.bool false)/\F=w/\∀i,k<=i->i<R->M i c=0) \/
 (e=.returned (.bool true)/\w.grownBy F (some G)/\∃a,k<=a/\a<R/\M a c≠0/\MatAt F G R n (fun j=>if j=k then E a else if j=a then E k else E j) (fun j=>if j=k then M a else if j=a then M k else M j))
theorem qnk (Z R n k c:Nat) (G:Nat->Nat) (M:Nat->Nat->Int) (w:World) (hR:R<=1024) (Y:k<R) (hc:c<n) (_hn:n<=1024) (hM:MatAt w Z R n G M) :
  Calls prog 255 #[.slice (some ⟨Z,0,none⟩) R R,.int .i64 k,.int .i64 c] w fun e w'=>PivAs w Z R n k c G M e w':=by
 have F:=qH hM;have ai:(k:Int)<R:=by omega
 have af:(c:Int)<n:=by omega
 clear hM;go_enter func255,ntmps255;go_wp2
 go_step3
 go_wp2
 go_step3
 go_wp2
 go_loopw [7,8] (fun x7 x8 W=>∃i:Nat,k<=i/\i<=R/\x7=.int .i64 (-1)/\x8=.int .i64 i/\W=w/\Hu (∀j,k<=j->j<i->M j c=0)) (fun _ x8 _=>R-(intOf x8).toNat)
 case atStart=>exact⟨k,qae _,qaq Y,rfl,rfl,rfl,qH (fun j H V=>absurd H (by omega))⟩
 case round =>
  obtain⟨i,aa,ag,rfl,rfl,rfl,hI⟩:=hrel
  by_cases I:i<R
  ·have ah:(i:Int)<R:=by omega
   obtain⟨ps,O,E,J⟩:=F.o.rows i I;obtain⟨c0,f0⟩:=F.o.cell I;obtain⟨d0,d1⟩:=qcm.cells O E c hc;obtain⟨H,V⟩:=J c (by omega);have hz:=(qcK .l) (M i c).natAbs _ wr V;have HZ:=qH hz;obtain⟨a,_,_,cc,m,_,e,_,_⟩:=V;rw [e] at d0;rw [e] at HZ;clear hz e d1 H O E J;go_wp2_with fail;refine HZ.o.mono ?_;rintro e w2 ⟨rfl,ae⟩;subst ae
   by_cases U:(M i c).natAbs=0
   ·rw [qV U];go_wp2;go_roundw
    case rel =>
     refine⟨i+1,by omega,I,rfl,by go_num,trivial,qH (fun j H V=>?_)⟩
     by_cases e:j=i
     ·subst e;omega
     ·exact hI.o j H (by omega)
    case measure=>simp [intOf];omega
   ·rw [qU U];obtain⟨c1,f1⟩:=F.o.cell Y;have m1:=F.o.set i (G k) (M k) (F.o.rows k Y);have m2:=m1.set k (G i) (M i) ((F.o.rows i I).keep (qb0 w2 Z i (rowv (G k) n)) F.o.row);obtain⟨c2,f2⟩:=m1.cell Y;have H2:=qH m2;have H0:=qH U;clear m1 m2 U hR;go_wp2_with fail
    go_region
    all_goals go_wp2_with fail
    all_goals rw [Exit.noGoto_ret]
    all_goals go_ret
    all_goals exact qam ⟨rfl,qco (qbX (qb0 _ _ _ _) (qb0 _ _ _ _)) qB.drew,i,aa,I,fun h=>H0.o (by rw [h];rfl),H2.o.below qB.drew⟩
  ·obtain rfl:i=R:=by omega
   go_wp2_with fail;rw [Exit.noGoto_ret];go_ret;exact qax ⟨rfl,rfl,hI.o⟩
def sumQ:Nat->(Nat->Rat)->Rat
 | 0,_=>0
 | n+1,f=>sumQ n f+f n
theorem qb4:∀{n:Nat} {f g:Nat->Rat},(∀i,i<n->f i=g i)->sumQ n f=sumQ n g
 | 0,_,_,_=>rfl
 | n+1,f,g,h=>by
  show sumQ n f+f n=sumQ n g+g n
  rw [qb4 fun i E=>h i (by omega),h n (by omega)]
theorem qc7:∀(n:Nat) (f:Nat->Rat),(∀i,i<n->f i=0)->sumQ n f=0
 | 0,_,_=>rfl
 | n+1,f,h=>by
  show sumQ n f+f n=0
  rw [qc7 n f fun i E=>h i (by omega),h n (by omega)];grind
theorem qeS:∀(n:Nat) (f g:Nat->Rat),sumQ n (fun i=>f i+g i)=sumQ n f+sumQ n g
 | 0,_,_=>by simp [sumQ];try grind
 | n+1,f,g=>by
  show sumQ n (fun i=>f i+g i)+(f n+g n)=sumQ n f+f n+(sumQ n g+g n)
  rw [qeS n f g];grind
theorem qcr:∀(n:Nat) (a:Rat) (f:Nat->Rat),sumQ n (fun i=>a*f i)=a*sumQ n f
 | 0,a,_=>by simp [sumQ]
 | n+1,a,f=>by
  show sumQ n (fun i=>a*f i)+a*f n=a*(sumQ n f+f n)
  rw [qcr n a f];grind
theorem qeA:∀(n m:Nat) (f:Nat->Nat->Rat),sumQ n (fun i=>sumQ m fun j=>f i j)=sumQ m fun j=>sumQ n fun i=>f i j
 | 0,m,f=>(qc7 m _ fun _ _=>rfl).symm
 | n+1,m,f=>by
  show sumQ n (fun i=>sumQ m fun j=>f i j)+sumQ m (fun j=>f n j)=sumQ m fun j=>(sumQ n (fun i=>f i j)+f n j)
  rw [qeA n m f,qeS]
theorem qdv:∀(n k:Nat) (f:Nat->Rat),k<n->(∀i,i<n->i≠k->f i=0)->sumQ n f=f k
 | 0,k,_,h,_=>absurd h (by omega)
 | n+1,k,f,h,h0=>by
  show sumQ n f+f n=f k
  by_cases e:k=n
  ·subst e;rw [qc7 k f fun i F=>h0 i (by omega) (by omega)];grind
  ·rw [qdv n k f (by omega) fun i F E=>h0 i (by omega) E,h0 n (by omega) (fun h=>e h.symm)];grind
theorem sumQ_two (n k l:Nat) (f:Nat->Rat) (J:k<n) (O:l<n) (G:k≠l) (H:∀i,i<n->i≠k->i≠l->f i=0):sumQ n f=f k+f l:=by
 have e:sumQ n f=sumQ n (fun i=>(if i=k then f i else 0)+(if i=k then 0 else f i)):=qb4 fun i _=>by split <;> grind
 rw [e,qeS,qdv n k _ J (fun i _ E=>if_neg E),qdv n l _ O (fun i I F=>by
  by_cases h:i=k
  ·rw [if_pos h]
  ·rw [if_neg h];exact H i I h F),if_pos rfl,if_neg (fun h=>G h.symm)]
theorem qeB:∀(n m:Nat) (f:Nat->Rat),sumQ (n+m) f=sumQ n f+sumQ m fun i=>f (n+i)
 | n,0,f=>by simp [sumQ];try grind
 | n,m+1,f=>by
  show sumQ (n+m) f+f (n+m)=sumQ n f+(sumQ m (fun i=>f (n+i))+f (n+m))
  rw [qeB n m f];grind
def Span (R n:Nat) (A:Nat->Nat->Rat) (v:Nat->Rat):Prop:=∃c:Nat->Rat,∀j,j<n->v j=sumQ R fun i=>c i*A i j
theorem Span.row {R n:Nat} {A:Nat->Nat->Rat} {i:Nat} (E:i<R):Span R n A (A i) :=
 ⟨fun k=>if k=i then 1 else 0,fun j _=>by
  rw [qdv R i _ E (fun k _ F=>by simp [F])];simp⟩
theorem Span.congr {R n:Nat} {A B:Nat->Nat->Rat} {v u:Nat->Rat} (h:Span R n A v) (F:∀i,i<R->∀j,j<n->A i j=B i j) (I:∀j,j<n->v j=u j):Span R n B u:=by
 obtain⟨c,G⟩:=h;exact⟨c,fun j E=>by rw [<-I j E,G j E];exact qb4 fun i H=>by rw [F i H j E]⟩
theorem Span.comb {R n:Nat} {A:Nat->Nat->Rat} {u v:Nat->Rat} (H:Span R n A u) (I:Span R n A v) (a b:Rat):Span R n A (fun j=>a*u j+b*v j):=by
 obtain⟨c,F⟩:=H;obtain⟨d,G⟩:=I;refine⟨fun i=>a*c i+b*d i,fun j E=>?_⟩
 show a*u j+b*v j=_
 rw [F j E,G j E,<-qcr,<-qcr,<-qeS];exact qb4 fun i _=>by grind
theorem Span.trans {R S n:Nat} {A B:Nat->Nat->Rat} {v:Nat->Rat} (h:Span R n A v) (H:∀i,i<R->Span S n B (A i)):Span S n B v:=by
 obtain⟨c,I⟩:=h;have:∀i,∃d:Nat->Rat,i<R->∀j,j<n->A i j=sumQ S fun k=>d k*B k j:=fun i=>by
  by_cases E:i<R
  ·obtain⟨d,J⟩:=H i E;exact⟨d,fun _=>J⟩
  ·exact⟨fun _=>0,fun h=>absurd h E⟩
 refine⟨fun k=>sumQ R fun i=>c i*(Classical.choose (this i)) k,fun j F=>?_⟩;rw [I j F];have G:sumQ S (fun k=>sumQ R (fun i=>c i*(Classical.choose (this i)) k)*B k j)=sumQ S fun k=>sumQ R fun i=>c i*((Classical.choose (this i)) k*B k j):=qb4 fun k _=>by
  rw [show sumQ R (fun i=>c i*(Classical.choose (this i)) k)*B k j=B k j*sumQ R (fun i=>c i*(Classical.choose (this i)) k) by grind,<-qcr];exact qb4 fun i _=>by grind
 rw [G,<-qeA];refine qb4 fun i E=>?_
 rw [qcr,Classical.choose_spec (this i) E j F]
def qdj (R S n:Nat) (A B:Nat->Nat->Rat):Prop:=(∀i,i<R->Span S n B (A i))/\∀i,i<S->Span R n A (B i)
theorem qdj.refl (R n:Nat) (A:Nat->Nat->Rat):qdj R R n A A:=⟨fun _ E=>Span.row E,fun _ E=>Span.row E⟩
theorem qdj.symm {R S n:Nat} {A B:Nat->Nat->Rat} (h:qdj R S n A B):qdj S R n B A:=⟨h.2,h.1⟩
theorem qdj.trans {R S T n:Nat} {A B C:Nat->Nat->Rat} (h:qdj R S n A B) (k:qdj S T n B C):qdj R T n A C :=
 ⟨fun i E=>(h.1 i E).trans k.1,fun i E=>(k.2 i E).trans h.2⟩
