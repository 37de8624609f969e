import Derived.Lib.ParseIntBCases
import Derived.Test.YtjalhnlhcdfncaaGreatDoorBo19
set_option maxRecDepth 100000
set_option maxHeartbeats 0
namespace Go.Proofs.YtjalhnlhcdfncaaGreatDoor
open Go.RowKit Go.Lib
theorem cmp_lt (p q:Rat):cmp3 (p.num*(q.den:Int) + -(q.num*(p.den:Int))) 0<0↔p<q:=by
 rw [Rat.lt_iff];unfold cmp3;generalize p.num*(q.den:Int)=A;generalize q.num*(p.den:Int)=B;split
 ·constructor <;> intro h <;> omega
 ·split
  ·constructor <;> intro h <;> omega
  ·constructor <;> intro h <;> omega
end Go.Proofs.YtjalhnlhcdfncaaGreatDoor
namespace Go.Proofs.YtjalhnlhcdfncaaGreatDoor
open Go.RowKit Go.Proofs.Tryz
theorem str_ext {s t:ByteArray} (h:s.data.toList=t.data.toList):s=t:=by
 have:s.data=t.data:=Array.toList_inj.1 h;cases s;cases t;simp at this;subst this;rfl
def qfs (l:List Pt) (k:Nat):Lit->Value
 | .string s=>.bool (decide (∃j,j<k/\(l.getD j pt0).name.data.toList=s))
 | _=>.bool false
theorem qkM (l:List Pt):∀E,(Value.bool false)=qfs l 0 E:=fun E=>by
 unfold qfs;split
 ·rw [qU (by rintro ⟨j,h,_⟩;omega)]
 ·rfl
theorem qjD (l:List Pt) (k:Nat):∀x,x≠Lit.string (l.getD k pt0).name.data.toList->qfs l (k+1) x=qfs l k x:=fun x hx=>by
 unfold qfs;split
 ·rename_i s
  congr 1
  rw [decide_eq_decide]
  constructor
  ·rintro ⟨j,h,e⟩;rcases (show j<k\/j=k by omega) with E | rfl
   ·exact⟨j,E,e⟩
   ·exact absurd (by rw [e]) hx
  ·rintro ⟨j,h,e⟩;exact⟨j,by omega,e⟩
 ·rfl
theorem qms (l:List Pt) (k:Nat):qfs l (k+1) (.string (l.getD k pt0).name.data.toList)=.bool true:=by
 unfold qfs;exact congrArg Value.bool (qV ⟨k,by omega,rfl⟩)
structure PtsTo (l:List Pt) (k:Nat):Prop where
 rows:∀j,j<k->PtOk (l.getD j pt0)/\(l.getD j pt0).dev.length=chans l
 apart:∀i j,j<i->i<k->(l.getD j pt0).name≠(l.getD i pt0).name
theorem PtsTo.zero (l:List Pt):PtsTo l 0:=⟨fun j h=>absurd h (by omega),fun i j _ h=>absurd h (by omega)⟩
theorem PtsTo.next {l:List Pt} {k:Nat} (h:PtsTo l k) (F:PtOk (l.getD k pt0)) (H:(l.getD k pt0).dev.length=chans l) (I:¬∃j,j<k/\(l.getD j pt0).name.data.toList=(l.getD k pt0).name.data.toList):PtsTo l (k+1) :=
 ⟨fun j O=>by
  rcases (show j<k\/j=k by omega) with h4 | rfl
  ·exact h.rows j h4
  ·exact⟨F,H⟩,fun i j E J=>by
  rcases (show i<k\/i=k by omega) with h4 | rfl
  ·exact h.apart i j E h4
  ·exact fun e=>I ⟨j,E,by rw [e]⟩⟩
theorem qgv (ao:Option Addr) (b off R c:Nat) (l:List Pt) (w:World) (hR:l.length=R) (hl:R<=4611686018427387904) (hs:∀k,k<R->(l.getD k pt0).name.size<=4611686018427387904/\(l.getD k pt0).dev.length<=4611686018427387904) (hP:PCells w ao b off l) :
  Calls prog 55 #[.slice ao R c] w fun e w'=>qfI w (PtsOk l) 310 e w':=by
 by_cases h1:1<=R
 case neg =>
  have hi:(R:Int)<1:=by omega
  have HR:=qH hR;clear hP hR;go_enter func55,ntmps55;go_wp2;go_ret;exact⟨310,rfl,qam ⟨rfl,fun h=>by have:=h.r1;have:=HR.o;omega⟩,Below.refl _ _⟩
 have aQ:¬(R:Int)<1:=by omega
 by_cases h2:R<=40
 case neg =>
  have hi:(40:Int)<R:=by omega
  have HR:=qH hR;clear hP hR;go_enter func55,ntmps55;go_wp2;go_ret;exact⟨310,rfl,qam ⟨rfl,fun h=>by have:=h.r2;have:=HR.o;omega⟩,Below.refl _ _⟩
 have aR:¬(40:Int)<R:=by omega
 have aJ:=hP.addr (by omega);subst aJ;have J:=qH (qA hP (qA hR hs));have aL:=@run_makeMap prog;have au:MapAt (w.alloc (.map #[] 0)) prog 9 w.heap.size 0 (.bool false) (qfs l 0):=(MapAt.made w prog 9 (.bool false)).congr fun kl _=>qkM l kl
 have aF:=qH au;have aC:=qH (show Below w.heap.size w (w.alloc (.map #[] 0)) from qB.alloc qN _);clear hP hR hs au;go_enter func55,ntmps55;go_wp2_with fail;clear aL
 go_loopw [17] (fun x17 W=>∃k:Nat,x17=.int .i64 k/\k<=R/\Hu (PtsTo l k)/\Hu (Below w.heap.size w W/\MapAt W prog 9 w.heap.size k (.bool false) (qfs l k))) (fun x17 _=>R-(intOf x17).toNat)
 case atStart=>exact⟨0,rfl,qaj _,qH (PtsTo.zero l),qH ⟨aC.o,aF.o⟩⟩
 case round =>
  obtain⟨k,rfl,hk,hJ,K⟩:=hrel
  by_cases ax:k<R
  ·have aS:(k:Int)<R:=by omega
   obtain⟨d0,⟨ra,rb,ro,rc,d1,hN⟩,d2,d3,d4⟩:=(J.o.1.below K.o.1).cell k (by have:=J.o.2.1;omega);obtain⟨_,⟨aM,aW,aX,aN,f1,_⟩,_⟩:=(J.o.1.below K.o.1).cell 0 (by have:=J.o.2.1;omega);rw [Nat.zero_mul,qbt] at f1;obtain⟨p,hp⟩:=qX (l.getD k pt0);obtain⟨n0,ah⟩:∃n,(l.getD 0 pt0).dev.length=n:=⟨_,rfl⟩;have Y:=J.o.2.2 k ax;rw [ah] at f1;rw [hp] at d0 d1 d2 d3 d4 hN Y;obtain⟨nm,dev,l0,l1,l2⟩:=p;simp only [] at d0 d1 d2 d3 d4 hN Y;obtain⟨n,hn⟩:=qX dev.length;rw [hn] at d1;have E:=qH (qA hp (qA ah (qA hn (qA Y hN))));have az:b<wr.heap.size:=qae wr _ f1;obtain⟨I,av,O⟩:=nw1 wr #[.string nm,.slice ra n rc,.int .i64 l0,.int .i64 l1,.int .i64 l2] 72;have aA:=qo1 (.agg #[.string nm,.slice ra n rc,.int .i64 l0,.int .i64 l1,.int .i64 l2]) ⟨nm,dev,l0,l1,l2⟩;have aH:=qH (fun (W:World) (h:Below wr.heap.size wr W)=>aA W ⟨ra,rb,ro,rc,by rw [E.o.2.2.1],E.o.2.2.2.2.below h⟩ E.o.2.2.2.1.1 E.o.2.2.2.1.2);have aU:w.heap.size<wr.heap.size:=K.o.2.lt;have KM:=qH (qA O.o.1 (K.o.2.below O.o.1));have ae:∀W,Below I.heap.size I W->W.cell? ⟨b,off+1,none⟩=some (.slice aM n0 aN):=fun W h=>(h.cell (p:=⟨b,off+1,none⟩) (qai az O.o.1.size)).trans ((O.o.1.cell (p:=⟨b,off+1,none⟩) az).trans f1)
   have aT:=(qG O.o.2).1;have c0:=rowC (B:=I.heap.size) O.o.2 0;have c1:=rowC (B:=I.heap.size) O.o.2 1;have c2:=rowC (B:=I.heap.size) O.o.2 2;have c3:=rowC (B:=I.heap.size) O.o.2 3;have c4:=rowC (B:=I.heap.size) O.o.2 4;have aP:(0:Int)<R:=by omega
   have aO:0<R:=by omega
   clear aA hp ah hn Y hN;go_wp2_with fail;rw [<-av];clear av d0 d1 d2 d3 d4 f1;refine wp_region_held_drew (S:=fun W=>Below I.heap.size I W) (by kernel_rfl) qB.drew (fun hS0=>?_);refine hT 0 (h:=?_);refine hC 1 (aH.o _ ((O.o.1).drew)) (h:=?_);rintro e w6 ⟨bb,rfl,V,af⟩;have F:Below I.heap.size I w6:=qcm af;have K6:=qH (qA (K.o.1.trans ((KM.o.1.trans (F.mono KM.o.1.size)).mono K.o.1.size)) (qA (KM.o.2.below F) (zkeep F _ _ O.o.2)));refine⟨_,rfl,F,hN (h:=?_)⟩;cases bb with
   | false =>
    have aG:=qH (show ¬PtOk ⟨nm,dev,l0,l1,l2⟩ from fun h=>by have:=V.2 h;cases this);clear V af;refine hT 2 (h:=hT 3 (h:=hU 4 (h:=hU 5 (h:=hU 6 (h:=hU 7 (h:=hU 8 (h:=hU 9 (h:=hU 10 (h:=hU 11 (h:=hU 12 (h:=hT 13 (h:=hT 14 (h:=hU 15 (h:=hU 16 (h:=hU 17 (h:=hU 18 (h:=hT 19 (h:=?_))))))))))))))))));refine wpAnyH_done (by kernel_rfl) ?_ _;clear F hS0 c0 c1 c2 c3 c4 ae;go_wp2;go_ret;exact⟨310,rfl,qam ⟨rfl,fun h=>aG.o (by rw [<-E.o.1];exact (h.rows k (by have:=J.o.2.1;omega)).1)⟩,K6.o.1⟩
   | true =>
    have aI:=qH (V.1 rfl);clear V af
    by_cases U:n=n0
    case neg =>
     have hne:((n:Int) != (n0:Int))=true:=by rw [bne_iff_ne];omega
     have aa:=qH U;clear U;refine hT 2 (h:=hT 3 (h:=hT 4 (h:=hT 5 (h:=hT 6 (h:=hT 7 (h:=hT 8 (h:=hT 9 (h:=hT 10 (h:=hT 11 (h:=hT 12 (h:=hT 13 (h:=hT 14 (h:=hU 15 (h:=hU 16 (h:=hU 17 (h:=hU 18 (h:=hT 19 (h:=?_))))))))))))))))));refine wpAnyH_done (by kernel_rfl) ?_ _;clear F hS0 c0 c1 c2 c3 c4 ae;go_wp2;go_ret;exact⟨310,rfl,qam ⟨rfl,fun h=>aa.o (by
      have:=(h.rows k (by have:=J.o.2.1;omega)).2;rw [E.o.1] at this;unfold chans at this;rw [E.o.2.1] at this;exact E.o.2.2.1.symm.trans this)⟩,K6.o.1⟩
    have hne:((n:Int) != (n0:Int))=false:=by simp [U]
    have aa:=qH U;clear U;have ay:Maps.Keyed prog 9:=Maps.string_keyed underlying9;have aB:Tryz.prog.underlying 172=some (.map 9 4):=underlying172;have Z:keyOf prog 9 (.string nm)=some (.string nm.data.toList):=WideMaps.keyOf_string_mk underlying9 (by have:=E.o.2.2.2.1.1;unfold maxLen;omega);obtain⟨seen,H⟩:∃s,decide (∃j,j<k/\(l.getD j pt0).name.data.toList=nm.data.toList)=s:=⟨_,rfl⟩;have ag:∀W,Below I.heap.size I W->(Instr.lookup 172 (.map (some w.heap.size)) (.string nm) false).run prog W=.ok (.bool seen) W:=fun W h=>by
     rw [<-H];exact (KM.o.2.below h).look ay aB (by kernel_rfl) Z
    have aj:=qH H;clear H;refine hT 2 (h:=hT 3 (h:=hT 4 (h:=hT 5 (h:=hT 6 (h:=hT 7 (h:=hT 8 (h:=hT 9 (h:=hT 10 (h:=hT 11 (h:=hT 12 (h:=hT 13 (h:=hT 14 (h:=hT 15 (h:=hT 16 (h:=hT 17 (h:=hT 18 (h:=hT 19 (h:=?_))))))))))))))))));refine wpAnyH_done (by kernel_rfl) ?_ _;clear F hS0 c0 c1 c2 c3 c4 ae ag;cases seen with
    | true =>
     go_wp2;go_ret;exact⟨310,rfl,qam ⟨rfl,fun h=>by
      obtain⟨j,hj,e⟩:=of_decide_eq_true aj.o;refine h.apart k j hj (by have:=J.o.2.1;omega) ?_;rw [E.o.1];exact str_ext e⟩,K6.o.1⟩
    | false =>
     have ak:PtsTo l (k+1):=by
      refine hJ.o.next (by rw [E.o.1];exact aI.o) ?_ (by rw [E.o.1];exact of_decide_eq_false aj.o)
      rw [E.o.1];unfold chans;rw [E.o.2.1];exact E.o.2.2.1.trans aa.o
     have aD:=qH ak;obtain⟨W7,aV,f7,g7⟩:=K6.o.2.1.store ay aB (by unfold maxLen;omega) Z (.bool true);have ai:l.getD k pt0=⟨nm,dev,l0,l1,l2⟩:=E.o.1;have m7:=f7 (qfs l (k+1)) (by have:=qms l k;rw [ai] at this;exact this) (by have:=qjD l k;rw [ai] at this;exact this);have K7:=qH (qA (qez K6.o.1 g7 qN) m7);have q0:=qC w6 _ 0 _ _ _ K6.o.2.2;clear ak ai m7 f7 g7;go_wp2;go_roundw
     case rel=>exact⟨k+1,by go_num,ax,aD,K7⟩
     case measure=>simp [intOf];omega
  ·obtain rfl:k=R:=by omega
   go_wp2;go_ret;exact⟨0,rfl,qaw ⟨rfl,⟨by have:=J.o.2.1;omega,by have:=J.o.2.1;omega,fun j hj=>hJ.o.rows j (by have:=J.o.2.1;omega),fun i j aK hi=>hJ.o.apart i j aK (by have:=J.o.2.1;omega)⟩⟩,K.o.1⟩
theorem chan_any (O:Option Addr) (b off R c:Nat) (l:List Pt) (w:World) (V:l.length=R) (hl:R<=4611686018427387904) (hs:∀k,k<R->(l.getD k pt0).name.size<=4611686018427387904/\(l.getD k pt0).dev.length<=4611686018427387904) (U:PCells w O b off l) :
  Calls prog 144 #[.slice O R c] w fun e w'=>((PtsOk l/\e=.returned (.tuple #[.int .i64 (chans l:Nat),.int .i64 0]))\/(¬PtsOk l/\e=.returned (.tuple #[.int .i64 0,.int .i64 310])))/\Below w.heap.size w w':=by
 have HC:=qH (qgv O b off R c l w V hl hs U);have F:=qH (qA U V);clear U V hs;go_enter func144,ntmps144;go_wp2_with fail;refine HC.o.mono ?_;rintro e w2 ⟨cc,rfl,Z,J⟩;have HB:=qH J;rcases Z with ⟨rfl,E⟩ | ⟨rfl,H⟩
 ·have h1:1<=R:=by have:=E.r1;have:=F.o.2;omega
  have Y:=F.o.1.addr (by have:=F.o.2;omega);subst Y;obtain⟨_,⟨ra,rb,ro,rc,f1,_⟩,_⟩:=(F.o.1.below J).cell 0 (by have:=F.o.2;omega);rw [Nat.zero_mul,qbt] at f1;obtain⟨n,hn⟩:=qX ((l.getD 0 pt0).dev.length);rw [hn] at f1;have ae:(0:Int)<R:=by omega
  have aa:0<R:=by omega
  have I:=qH (qA E (show chans l=n from hn));clear E hn J;go_wp2_with fail
  go_ret2
  exact⟨qaw ⟨I.o.1,by rw [I.o.2];rfl⟩,HB.o⟩
 ·have I:=qH H;clear H J;go_wp2_with fail
  go_ret2
  exact⟨qam ⟨I.o,rfl⟩,HB.o⟩
def qk3 (H:FuncId) (E:Array Value) (w:World) (n:Nat) (P:Nat->FT->Prop) (F:Nat->Int->Prop):Prop :=
 ∀i,i<n->∀W,Below w.heap.size w W->Calls prog H (#[.int .i64 (i:Int)]++E) W fun e w'=>Below W.heap.size W w'/\((∃x y,e=.returned (.agg #[.string x,.string y])/\P i (x,y))\/∃c,e=thrown c/\F i c)
theorem qeE (fc:FuncId) (E:Array Value) (n:Nat) (hn:n<=1000) (P:Nat->FT->Prop) (F:Nat->Int->Prop) (w:World) (ae:∀a W,(callFunc fc (#[a]++E)).run prog W=.ok (.enter fc (#[a]++E)) W) (hf:qk3 fc E w n P F) :
  Calls prog 68 #[.int .i64 (n:Int),.func (.func fc) #[] E] w fun e w'=>Below w.heap.size w w' /\
   ((∃(l:List FT) (g:Nat),l.length=n/\(∀i,i<n->P i (l.getD i fd0))/\e=.returned (.slice (some ⟨g,0,none⟩) n n)/\FCells w' (some ⟨g,0,none⟩) g 0 l/\w.heap.size<=g)\/∃i c,i<n/\e=thrown c/\F i c):=by
 have aa:=qiG n (by omega) w;obtain⟨W5,I⟩:=qY (w.alloc (.cells (madeCells #[.string ⟨#[]⟩,.string ⟨#[]⟩] (n*2)) 27));rw [<-I] at aa;have Z:FRow W5 w.heap.size n []:=I▸FRow.made w n;have Y:Below w.heap.size w W5:=I▸qB.alloc qN _;have H0:=qH (qA Z (qA Y hf));clear Z Y hf I;go_enter func68,ntmps68;go_wp2_with fail
 go_loopw [10] (fun x10 W=>∃i:Nat,x10=.int .i64 i/\i<=n/\Hu (∃l:List FT,l.length=i/\(∀j,j<i->P j (l.getD j fd0))/\FRow W w.heap.size n l/\Below w.heap.size w W)) (fun x10 _=>n-(intOf x10).toNat)
 case atStart=>exact⟨0,rfl,qaj _,qH ⟨[],rfl,fun j hj=>absurd hj (by omega),H0.o.1,H0.o.2.1⟩⟩
 case round =>
  obtain⟨i,rfl,ag,hI⟩:=hrel;obtain⟨l,hl,hP,O,hB⟩:=hI.o
  by_cases hi:i<n
  ·subst hl;have af:(l.length:Int)<n:=by omega
   have HC:=qH (H0.o.2.2 l.length hi _ hB);have V:=qH (qA hP (qA O hB));clear hI hP O hB;go_wp2_with fail;refine HC.o.mono ?_;rintro e w2 ⟨H,h⟩;rcases h with ⟨x,y,rfl,hp⟩ | ⟨c,rfl,O⟩
   ·have U:=V.o.2.1.below H;obtain⟨⟨q0,q1⟩,qf⟩:=U.at hi;have ah:=qf (l.length*2);have ai:=qf (l.length*2+1);have J:=qH (qA (U.set hi (x,y)) (qA (((V.o.2.2.trans (H.mono V.o.2.2.size)).setCell (p:=⟨w.heap.size,l.length*2,none⟩) qN (.string x)).setCell (p:=⟨w.heap.size,l.length*2+1,none⟩) qN (.string y)) hp));clear U qf H hp;go_wp2;go_roundw
    case rel =>
     refine⟨l.length+1,by go_num,hi,qH ⟨l++[(x,y)],by simp,fun j hj=>?_,J.o.1,J.o.2.1⟩⟩;rcases qaB j l.length with hj2 | hj2
     ·rw [qaa,qax hj2,<-qaa];exact V.o.1 j hj2
     ·have:j=l.length:=by omega
      subst this;rw [qaa,qau qN,qaJ];exact J.o.2.2
    case measure=>simp [intOf];omega
   ·have J:=qH (qA (V.o.2.2.trans (H.mono V.o.2.2.size)) O);clear H O;unfold thrown;go_wp2_with fail;exact⟨rfl,J.o.1,qam ⟨_,c,hi,rfl,J.o.2⟩⟩
  ·obtain rfl:i=n:=by omega
   have J:=qH (qA hl (qA hP (qA (O.cells hl) hB)));clear hI hl hP O hB;go_wp2;go_ret;obtain⟨h1,h2,h3,h4⟩:=J.o;exact⟨h4,qaw ⟨l,_,h1,h2,rfl,h3,qad _⟩⟩
def VRow (W:World) (g n:Nat) (z:Value) (e:TypeId) (E:List Value):Prop:=W.heap[g]? = some (.cells (E++List.replicate (n-E.length) z).toArray e (0,0))/\E.length<=n
theorem VRow.below {W W':World} {g n:Nat} {z:Value} {e:TypeId} {E:List Value} (h:VRow W g n z e E) (F:Below W.heap.size W W'):VRow W' g n z e E :=
 ⟨(F.block _ (qG h.1).1).trans h.1,h.2⟩
theorem VRow.at {W:World} {g n:Nat} {z:Value} {e:TypeId} {E:List Value} (h:VRow W g n z e E) (F:E.length<n):W.cell? ⟨g,E.length,none⟩=some z/\∀j,W.frozen? ⟨g,j,none⟩=false:=by
 refine⟨(qC _ _ _ _ _ _ h.1).trans ((qaz ..).trans ?_),fun j=>qF _ _ _ _ _ h.1⟩;rw [qau qN,qaJ,qbq,if_pos (by omega)]
theorem VRow.set {W:World} {g n:Nat} {z:Value} {e:TypeId} {E:List Value} (h:VRow W g n z e E) (H:E.length<n) (v:Value):VRow (W.setCell ⟨g,E.length,none⟩ v) g n z e (E++[v]):=by
 refine⟨?_,by rw [qaf,qaH];omega⟩;rw [heap_setCell_same _ g E.length _ _ _ h.1]
 congr 3
 obtain⟨m,F⟩:∃m,n-E.length=m+1:=⟨n-E.length-1,by omega⟩;rw [qaQ,F,qby,qaf,qaH,show n-(E.length+1)=m by omega,qbi _ _ qN,qaJ,qbx,qaG]
 rfl
theorem VRow.made (W:World) (n:Nat) (z:Value) (e:TypeId):VRow (W.alloc (.cells (Array.replicate n z) e)) W.heap.size n z e []:=by
 refine⟨?_,qaj _⟩;rw [qM _ _ _ rfl,qbp,List.length_nil,Nat.sub_zero,List.toArray_replicate]
theorem VRow.cells {W:World} {g n:Nat} {z:Value} {e:TypeId} {E:List Value} (h:VRow W g n z e E) (I:E.length=n):VCells W (some ⟨g,0,none⟩) g 0 E:=by
 have F:=h.1;rw [I,qaJ,List.replicate_zero,qbj] at F;refine⟨fun _=>rfl,fun k H=>?_⟩;rw [qaT];refine (qC _ _ _ _ _ _ F).trans ((qaz ..).trans ?_);rw [qaa,qac H];rfl
theorem VRow.made' (W:World) (n:Nat) (z:Value) (e:TypeId):VRow (W.alloc (.cells (madeCells #[z] n) e)) W.heap.size n z e []:=by
 have:madeCells #[z] n=Array.replicate n z:=by
  apply Array.ext
  ·simp [madeCells]
  ·intro i E F;simp [madeCells,Nat.mod_one]
 rw [this];exact VRow.made W n z e
def RVals (W:World) (F:List Value) (t:Tbl):Prop:=F.length=t.length/\∀k,k<t.length->∃(E:Option Addr) (rb H rc:Nat),F.getD k undef=.slice E (t.getD k []).length rc/\FCells W E rb H (t.getD k [])
theorem RVals.below {W W':World} {E:List Value} {t:Tbl} (h:RVals W E t) (I:Below W.heap.size W W'):RVals W' E t :=
 ⟨h.1,fun k J=>by
  obtain⟨ra,rb,ro,rc,F,H⟩:=h.2 k J;exact⟨ra,rb,ro,rc,F,H.below I⟩⟩
theorem RVals.tcells {W:World} {E:Option Addr} {b off:Nat} {I:List Value} {t:Tbl} (h:RVals W I t) (H:VCells W E b off I):TCells W E b off t :=
 ⟨fun J=>H.addr (by rw [h.1];exact J),fun k F=>by
  obtain⟨ra,rb,ro,rc,O,U⟩:=h.2 k F;exact⟨ra,rb,ro,rc,(H.cell k (by rw [h.1];exact F)).trans (by rw [O]),U⟩⟩
theorem RVals.append {W:World} {F E:List Value} {t t2:Tbl} (h:RVals W F t) (J:RVals W E t2):RVals W (F++E) (t++t2):=by
 refine⟨by rw [qaf,qaf,h.1,J.1],fun k O=>?_⟩;rw [qaf] at O
 by_cases e:k<t.length
 ·have H:(F++E).getD k undef=F.getD k undef:=by rw [qaa,qax (by rw [h.1];exact e),<-qaa]
  have I:(t++t2).getD k []=t.getD k []:=by rw [qaa,qax e,<-qaa]
  rw [H,I];exact h.2 k e
 ·have H:(F++E).getD k undef=E.getD (k-t.length) undef:=by rw [qaa,qau (by rw [h.1];omega),h.1,<-qaa]
  have I:(t++t2).getD k []=t2.getD (k-t.length) []:=by rw [qaa,qau (by omega),<-qaa]
  rw [H,I];exact J.2 _ (by omega)
theorem RVals.one {W:World} {E:Option Addr} {rb F m rc:Nat} {l:List FT} (I:l.length=m) (h:FCells W E rb F l):RVals W [.slice E m rc] [l] :=
 ⟨rfl,fun k H=>by
  obtain rfl:k=0:=by simp at H;omega
  exact⟨E,rb,F,rc,by rw [show ([l]:Tbl).getD 0 []=l from rfl,I];rfl,h⟩⟩
theorem FCells.kept {W W':World} {E:Option Addr} {b off:Nat} {l:List FT} (h:FCells W E b off l) (H:∀a s,W.cell? a=some (.string s)->W'.cell? a=some (.string s)):FCells W' E b off l :=
 ⟨h.addr,fun k F=>⟨H _ _ (h.cell k F).1,H _ _ (h.cell k F).2⟩⟩
theorem RVals.kept {W W':World} {E:List Value} {t:Tbl} (h:RVals W E t) (J:∀a s,W.cell? a=some (.string s)->W'.cell? a=some (.string s)):RVals W' E t :=
 ⟨h.1,fun k H=>by
  obtain⟨a,b,o,c,F,I⟩:=h.2 k H;exact⟨a,b,o,c,F,I.kept J⟩⟩
theorem qlK {W:World} {p:Addr} {v u:Value} (E:W.cell? p=some v) (F:∀s,v≠.string s):∀a s,W.cell? a=some (.string s)->(W.setCell p u).cell? a=some (.string s):=fun a s h=>by
 have hne:p≠a:=by rintro rfl;rw [E] at h;exact F s (qag h)
 rw [World.cell?_setCell_other (h:=hne)];exact h
def GivesL (H:FuncId) (E:Array Value) (w:World) (n:Nat) (P:Nat->List FT->Prop) (F:Nat->Int->Prop):Prop :=
 ∀i,i<n->∀W,Below w.heap.size w W->Calls prog H (#[.int .i64 (i:Int)]++E) W fun e w'=>Below W.heap.size W w'/\((∃(l:List FT) (a:Option Addr) (g m c:Nat),e=.returned (.slice a m c)/\l.length=m/\FCells w' a g 0 l/\P i l)\/∃c,e=thrown c/\F i c)
def RowsTo (W:World) (g n:Nat) (P:Nat->List FT->Prop) (i:Nat) (e:TypeId):Prop:=∃(E:List Value) (t:Tbl),E.length=i/\VRow W g n (.slice none 0 0) e E/\RVals W E t/\∀j,j<i->P j (t.getD j [])
theorem qky (fc:FuncId) (E:Array Value) (n:Nat) (hn:n<=1000) (P:Nat->List FT->Prop) (F:Nat->Int->Prop) (w:World) (ag:∀a W,(callFunc fc (#[a]++E)).run prog W=.ok (.enter fc (#[a]++E)) W) (hf:GivesL fc E w n P F) :
  Calls prog 65 #[.int .i64 (n:Int),.func (.func fc) #[] E] w fun e w'=>Below w.heap.size w w' /\
   ((∃(t:Tbl) (g:Nat),t.length=n/\(∀i,i<n->P i (t.getD i []))/\e=.returned (.slice (some ⟨g,0,none⟩) n n)/\TCells w' (some ⟨g,0,none⟩) g 0 t/\w.heap.size<=g)\/∃i c,i<n/\e=thrown c/\F i c):=by
 have af:=run_make_row' (P:=prog) 131 22 (.slice none 0 0) 24 underlying131 infoFs rfl .i64 .i64 n (by omega) (by omega) w;obtain⟨W5,J⟩:=qY (w.alloc (.cells (madeCells #[.slice none 0 0] n) 22));rw [<-J] at af;have aa:VRow W5 w.heap.size n (.slice none 0 0) 22 []:=J▸VRow.made' w n _ _;have Z:Below w.heap.size w W5:=J▸qB.alloc qN _;have H0:=qH (qA aa (qA Z hf));clear aa Z hf J;go_enter func65,ntmps65;go_wp2_with fail
 go_loopw [10] (fun x10 W=>∃i:Nat,x10=.int .i64 i/\i<=n/\Hu (RowsTo W w.heap.size n P i 22/\Below w.heap.size w W)) (fun x10 _=>n-(intOf x10).toNat)
 case atStart=>exact⟨0,rfl,qaj _,qH ⟨⟨[],[],rfl,H0.o.1,⟨rfl,fun k hk=>absurd hk (qb1 _)⟩,fun j hj=>absurd hj (by omega)⟩,H0.o.2.1⟩⟩
 case round =>
  obtain⟨i,rfl,ai,hI⟩:=hrel;obtain⟨⟨vs,t,hl,hV,Y,hP⟩,hB⟩:=hI.o
  by_cases hi:i<n
  ·subst hl;have ah:(vs.length:Int)<n:=by omega
   have HC:=qH (H0.o.2.2 vs.length hi _ hB);have O:=qH (qA hP (qA hV (qA Y hB)));clear hI hP hV Y hB;go_wp2_with fail;refine HC.o.mono ?_;rintro e w2 ⟨H,h⟩;rcases h with ⟨l,a,g,m,c,rfl,hm,V,hp⟩ | ⟨c,rfl,V⟩
   ·have U:=O.o.2.1.below H;obtain⟨q0,qf⟩:=U.at hi;have aj:=qf vs.length;have I:=qH (qA (U.set hi (.slice a m c)) (qA ((O.o.2.2.2.trans (H.mono O.o.2.2.2.size)).setCell (p:=⟨w.heap.size,vs.length,none⟩) qN (.slice a m c)) (qA (((O.o.2.2.1.below H).append (RVals.one hm V (rc:=c))).kept (qlK (u:=.slice a m c) q0 (fun s h=>by cases h))) hp)));clear U qf H hp V;go_wp2;go_roundw
    case rel =>
     refine⟨vs.length+1,by go_num,hi,qH ⟨⟨_,_,by simp,I.o.1,I.o.2.2.1,fun j hj=>?_⟩,I.o.2.1⟩⟩;have ae:=O.o.2.2.1.1;rcases qaB j t.length with hj2 | hj2
     ·rw [qaa,qax hj2,<-qaa];exact O.o.1 j (by omega)
     ·have:j=t.length:=by omega
      subst this;rw [qaa,qau qN,qaJ,<-ae];exact I.o.2.2.2
    case measure=>simp [intOf];omega
   ·have I:=qH (qA (O.o.2.2.2.trans (H.mono O.o.2.2.2.size)) V);clear H V;unfold thrown;go_wp2_with fail;exact⟨rfl,I.o.1,qam ⟨_,c,hi,rfl,I.o.2⟩⟩
  ·obtain rfl:i=n:=by omega
   have I:=qH (qA (Y.1.symm.trans hl) (qA hP (qA (Y.tcells (hV.cells hl)) hB)));clear hI hl hP hV Y hB;go_wp2;go_ret;obtain⟨h1,h2,h3,h4⟩:=I.o;exact⟨h4,qaw ⟨t,_,h1,h2,rfl,h3,qad _⟩⟩
def FOwn (W:World) (B:Nat) (v:Value) (l:List FT):Prop:=Rws W B 27 2 v l.length (fflat l)
theorem FOwn.below {W W':World} {B:Nat} {v:Value} {l:List FT} (h:FOwn W B v l) (E:Below W.heap.size W W'):FOwn W' B v l:=Rws.below h E
theorem FOwn.cells {W:World} {B:Nat} {v:Value} {l:List FT} {n:Nat} (h:FOwn W B v l) (J:l.length=n):∃(E:Option Addr) (g cap:Nat),v=.slice E n cap/\FCells W E g 0 l/\n<=cap:=by
 obtain⟨E,g,cap,F,I,H⟩:=qdD h rfl;rw [J] at F H;exact⟨E,g,cap,F,I,H⟩
def ways (a b c:Value):Lit->Value
 | .int .i64 1=>a
 | .int .i64 2=>b
 | .int .i64 3=>c
 | _=>.nilFunc
theorem ways_a (a:Value):∀x,x≠Lit.int .i64 1->ways a .nilFunc .nilFunc x=.nilFunc:=fun x h=>by
 unfold ways;split
 ·exact absurd rfl h
 ·rfl
 ·rfl
 ·rfl
theorem ways_b (a b:Value):∀x,x≠Lit.int .i64 2->ways a b .nilFunc x=ways a .nilFunc .nilFunc x:=fun x h=>by
 unfold ways;split
 ·rfl
 ·exact absurd rfl h
 ·rfl
 ·rfl
theorem ways_c (a b c:Value):∀x,x≠Lit.int .i64 3->ways a b c x=ways a b .nilFunc x:=fun x h=>by
 unfold ways;split
 ·rfl
 ·rfl
 ·exact absurd rfl h
 ·rfl
theorem qj5 (kind:Int) (k:Nat) (hk:qdy kind k) (ao:Option Addr) (b off n c:Nat) (d:List Int) (w:World) (hn:d.length=n) (h1:1<=n) (h4:n<=4) (h3:k=3->n<=3) (hN:NCells w ao b off d) (hV:qfo d) (hT:HasT w) :
  Calls prog 67 #[.int .i64 kind,.slice ao n c] w fun e w'=>∃v,e=.returned v/\FOwn w' w.heap.size v ((termL k d).map ftxt)/\Below w.heap.size w w':=by
 have aQ:=hN.addr (by omega);subst aQ;have Z:=qH (qA hk (qA hn (qA h3 (qA hN (qA hV hT)))));have aR:=qiG n (by omega);have aD:=@run_makeMap prog;have aC:=@hmf_ prog;obtain⟨W1,af⟩:∃W,W=(w.alloc (.cells (madeCells #[.string ⟨#[]⟩,.string ⟨#[]⟩] (n*2)) 27)).alloc (.cells #[.slice (some ⟨w.heap.size,0,none⟩) n n] 22):=⟨_,rfl⟩;have E:Below w.heap.size w W1:=af▸qb4 (qb4 qB qN) qN;have aJ:FRow W1 w.heap.size n []:=by rw [af];exact (FRow.made w n).below (qb4 qB qN)
 have aK:W1.heap[w.heap.size+1]? = some (.cells #[.slice (some ⟨w.heap.size,0,none⟩) n n] 22 (0,0)):=by rw [af];exact qM _ _ _ (by simp)
 have K1:=qH (qA E (qA aJ aK));clear hk hn hN hV hT E aJ aK h3;go_enter func67,ntmps67;go_wp2_with fail;rw [<-af]
 go_loopw [16] (fun x16 W=>∃k:Nat,x16=.int .i64 k/\k<=n/\Hu (Below w.heap.size w W/\FRow W w.heap.size n (told k (dq d))/\W.heap[w.heap.size+1]? = some (.cells #[.slice (some ⟨w.heap.size,0,none⟩) n n] 22 (0,0)))) (fun x16 _=>n-(intOf x16).toNat)
 case atStart=>exact⟨0,rfl,qaj _,K1⟩
 case round =>
  clear aR af K1;have aN:=qH aD;have aM:=qH aC;clear aD aC;obtain⟨j,rfl,hj,K⟩:=hrel
  by_cases aB:j<n
  ·have bf:(j:Int)<n:=by omega
   have d0:=(Z.o.2.2.2.1.below K.o.1).cell j (by have:=Z.o.2.1;omega);obtain⟨x,hx⟩:=qX (d.getD j 0);rw [hx] at d0;have aT:=Z.o.2.2.2.2.1.at j;rw [hx] at aT;obtain⟨t1,t2,ht⟩:=qcW (dq d j);have aa:=fun (W:World) (h:Below w.heap.size w W)=>of_int x 10000 (by decide) (by omega) (by decide) W (Z.o.2.2.2.2.2.below h)
   have aH:(x:Rat) / ((10000:Int):Rat)=dq d j:=by unfold dq;rw [hx];rfl
   rw [aH,ht] at aa;have HO:=qH aa;have aG:=qH ht;have bg:=(qG K.o.2.2).1;have q5:=rowG (g0:=w.heap.size) K.o.2.2 0;have au:(told j (dq d)).length=j:=qcb _ _;have HL:=qH au;clear hx ht aH aa au;go_wp2_with fail;refine wp_region_held_drew (S:=fun W=>wr.grownBy W (some w.heap.size)) (by kernel_rfl) (keepB qB.drew) (fun hS0=>?_);refine hT 0 (h:=hT 1 (h:=hT 2 (h:=?_)));refine hC 3 (HO.o _ (K.o.1.drew)) (h:=?_);rintro e w1 ⟨rfl,E⟩;have az:=qlp (g:=w.heap.size) E;refine⟨_,rfl,az,hN (h:=?_)⟩;refine hT 4 (h:=hT 5 (h:=?_));refine hC 6 (qdY t1 t2 w1) (h:=?_);rintro e J ⟨rfl,O⟩;have aA:=qcl az O;have Y:Below wr.heap.size wr J:=(qcm E).trans (O.mono (qcm E).size);have K2:=qH (qA (K.o.1.trans (Y.mono K.o.1.size)) (qA (K.o.2.1.below Y) (zkeep Y _ _ K.o.2.2)));refine⟨_,rfl,aA,hN (h:=?_)⟩;obtain⟨⟨z0,z1⟩,zf⟩:=K2.o.2.1.at (by rw [HL.o];exact aB);rw [HL.o] at z0 z1;have aU:=zf (j*2);have aV:=zf (j*2+1);have ag:=K2.o.2.1.set (by rw [HL.o];exact aB) (t1,t2);refine hT 7 (h:=?_);refine hSg 8 (h:=⟨qb5 (qb5 aA (qb7 _ _ _ _)) (qb7 _ _ _ _),?_⟩);refine wpAnyH_done (by kernel_rfl) ?_ _;rw [HL.o,show (t1,t2)=ftxt (dq d j) from aG.o.symm,<-qe3] at ag;have K3:Hu (Below w.heap.size w ((J.setCell ⟨w.heap.size,j*2,none⟩ (.string t1)).setCell ⟨w.heap.size,j*2+1,none⟩ (.string t2))/\FRow ((J.setCell ⟨w.heap.size,j*2,none⟩ (.string t1)).setCell ⟨w.heap.size,j*2+1,none⟩ (.string t2)) w.heap.size n (told (j+1) (dq d))/\((J.setCell ⟨w.heap.size,j*2,none⟩ (.string t1)).setCell ⟨w.heap.size,j*2+1,none⟩ (.string t2)).heap[w.heap.size+1]? = some (.cells #[.slice (some ⟨w.heap.size,0,none⟩) n n] 22 (0,0))) :=
    qH ⟨(K2.o.1.setCell (by exact qad _) _).setCell (by exact qad _) _,by have:=ag;rw [aG.o] at this;exact this,(qW _ _ _ _ (show w.heap.size+1≠w.heap.size by omega)).trans ((qW _ _ _ _ (show w.heap.size+1≠w.heap.size by omega)).trans K2.o.2.2)⟩
   obtain⟨W3,ai⟩:∃W,W=(J.setCell ⟨w.heap.size,j*2,none⟩ (.string t1)).setCell ⟨w.heap.size,j*2+1,none⟩ (.string t2):=⟨_,rfl⟩;rw [<-ai] at K3 ⊢;clear ai ag z0 z1 zf aU aV Y aA az O E q5 d0;go_wp2;go_roundw
   case rel=>exact⟨j+1,by go_num,aB,K3⟩
   case measure=>simp [intOf];omega
  ·obtain rfl:j=n:=by omega
   have hP:HasT wr:=Z.o.2.2.2.2.2.below K.o.1;obtain⟨t1,t2,ht⟩:=qcW 1;have aa:=fun (W:World) (h:Below w.heap.size w W)=>of_int 1 1 (by decide) (by decide) (by decide) W (Z.o.2.2.2.2.2.below h)
   rw [show ((1:Int):Rat) / ((1:Int):Rat)=1 by decide +kernel,ht] at aa;have HO:=qH aa;have Ht:=qH ht;clear hP ht aa;go_wp2_with fail;refine (HO.o wr K.o.1).mono ?_;rintro e w1 ⟨rfl,E⟩;go_wp2_with fail;refine (qdY t1 t2 w1).mono ?_;rintro e J ⟨rfl,O⟩;obtain⟨W3,ai,N3⟩:=nw2 J #[.string t1,.string t2] 27 #[.string t1,.string t2] 27;have Y:Below wr.heap.size wr W3:=E.trans ((O.trans (N3.o.1.mono O.size)).mono E.size);have K3:=qH (qA (K.o.1.trans (Y.mono K.o.1.size)) (qA (K.o.2.1.below Y) (qA (zkeep Y _ _ K.o.2.2) N3.o.2)));have aY:w.heap.size<=J.heap.size:=qak K.o.1.size (qak E.size O.size);have aO:=qC W3 _ 0 _ _ _ K3.o.2.2.1;have aW:=qC J _ 0 _ _ _ (zkeep O _ _ (zkeep E _ _ K.o.2.2));have bi:w.heap.size+1<J.heap.size:=(qG (zkeep O _ _ (zkeep E _ _ K.o.2.2))).1;have aX:w.heap.size+1<J.heap.size+1:=by omega
   obtain⟨v',F,hr,aF,U⟩:=qhH (m:=j) (c:=j) 22 (qoQ K3.o.2.2.2.2 (B:=w.heap.size) (by omega)) K3.o.1.size (K3.o.2.1.cells (qcb _ _)) (qcb _ _) (by omega) (by omega);have aZ:W3.heap.size<=F.heap.size:=by rcases U with ⟨_,h⟩ | ⟨_,h⟩ <;> exact h.size
   obtain⟨h5,_⟩:=qdw K3.o.2.2.1 (by intro e;have:J.heap.size+1=w.heap.size+1:=qag e;omega) U;obtain⟨h8,_⟩:=qdw K3.o.2.2.2.1 (by intro e;have:J.heap.size+1=J.heap.size:=qag e;omega) U;obtain⟨hg,aI⟩:=qdw K3.o.2.1.1 (by intro e;have:J.heap.size+1=w.heap.size:=qag e;omega) U;have ax:=qeg (B:=w.heap.size) K3.o.1 (fun k hk=>by have:J.heap.size+1=k:=qag hk;omega) K3.o.1.size U;have aL:FOwn F w.heap.size v' ((lin d).map ftxt):=by
    unfold FOwn;rw [qaD,qn2,Z.o.2.1,lin_told,Z.o.2.1,Ht.o,show j+1=1+j by omega];exact aF
   have K4:=qH (qA ax (qA (show FRow F w.heap.size j (told j (dq d)) from ⟨hg,K3.o.2.1.2⟩) (qA h5 (qA h8 (qA aL aI)))));obtain⟨av,cv,rfl⟩:=aF.shape;clear E O Y N3 aF U h5 h8 hg aI ax aL aO;rw [ai] at hr;have aD:=aN.o;have aC:=aM.o;have bu:w.heap.size+1<F.heap.size:=(qG K4.o.2.2.1).1;have bv:J.heap.size<F.heap.size:=(qG K4.o.2.2.2.1).1;obtain⟨W5,ae⟩:∃W,W=(F.alloc (.cells #[.slice av (1+j) cv] 22)).alloc (.map #[] 0):=⟨_,rfl⟩;have I:Below F.heap.size F W5:=ae▸(qB.alloc qN _).alloc (by simp) _;have h9:W5.heap[F.heap.size]? = some (.cells #[.slice av (1+j) cv] 22 (0,0)):=by rw [ae,qL _ _ _ (by simp only [qab];omega)];exact qM _ _ _ rfl
   have ah:MapAt W5 prog 3 (F.heap.size+1) 0 (.nilFunc) (fun _=>.nilFunc):=by
    have:=MapAt.made (F.alloc (.cells #[.slice av (1+j) cv] 22)) prog 3 .nilFunc;rw [qab] at this;rw [ae];exact this
   have aj:Maps.Keyed prog 3:=Maps.int_keyed underlying3;have ak:Tryz.prog.underlying 183=some (.map 3 157):=underlying183;obtain⟨W6,aS,f6,g6⟩:=ah.store aj ak (by decide) (Maps.keyOf_int_mk (q:=.i64) (a:=1) underlying3 (by decide)) (.func (.func 112) #[] #[.pointer (some ⟨F.heap.size,0,none⟩)]);have m6:=f6 (ways (.func (.func 112) #[] #[.pointer (some ⟨F.heap.size,0,none⟩)]) .nilFunc .nilFunc) rfl (ways_a _);obtain⟨W7,bn,f7,g7⟩:=m6.store aj ak (by decide) (Maps.keyOf_int_mk (q:=.i64) (a:=2) underlying3 (by decide)) (.func (.func 113) #[] #[.pointer (some ⟨w.heap.size+1,0,none⟩),.pointer (some ⟨F.heap.size,0,none⟩)]);have m7:=f7 (ways (.func (.func 112) #[] #[.pointer (some ⟨F.heap.size,0,none⟩)]) (.func (.func 113) #[] #[.pointer (some ⟨w.heap.size+1,0,none⟩),.pointer (some ⟨F.heap.size,0,none⟩)]) .nilFunc) rfl (ways_b _ _);obtain⟨V,bq,f8,g8⟩:=m7.store aj ak (by decide) (Maps.keyOf_int_mk (q:=.i64) (a:=3) underlying3 (by decide)) (.func (.func 115) #[] #[.pointer (some ⟨J.heap.size,0,none⟩),.pointer (some ⟨w.heap.size+1,0,none⟩)]);have m8:=f8 (ways (.func (.func 112) #[] #[.pointer (some ⟨F.heap.size,0,none⟩)]) (.func (.func 113) #[] #[.pointer (some ⟨w.heap.size+1,0,none⟩),.pointer (some ⟨F.heap.size,0,none⟩)]) (.func (.func 115) #[] #[.pointer (some ⟨J.heap.size,0,none⟩),.pointer (some ⟨w.heap.size+1,0,none⟩)])) rfl (ways_c _ _ _);have hz:(zeroValue 157).run prog V=.ok .nilFunc V:=by kernel_rfl
   have look:=fun (kl:Int) (h:(Lit.int .i64 kl).wf=true)=>m8.look aj ak hz (Maps.keyOf_int_mk (q:=.i64) (a:=kl) underlying3 h)
   have H:W5.grownBy V (some (F.heap.size+1)):=qb5 (qb5 g6 g7) g8;have K8:Hu (Below w.heap.size w V/\FRow V w.heap.size j (told j (dq d))/\V.heap[w.heap.size+1]? = some (.cells #[.slice (some ⟨w.heap.size,0,none⟩) j j] 22 (0,0))/\V.heap[J.heap.size]? = some (.cells #[.string t1,.string t2] 27 (0,0))/\FOwn V w.heap.size (.slice av (1+j) cv) ((lin d).map ftxt)/\V.heap[F.heap.size]? = some (.cells #[.slice av (1+j) cv] 22 (0,0))):=by
    have row:∀g o,W5.heap[g]? = some o->g≠F.heap.size+1->V.heap[g]? = some o:=fun g o h hne=>(H.block g (qG h).1 (fun e=>hne (qag e))).trans h
    have aP:=K4.o.1.trans (I.mono K4.o.1.size);refine qH ⟨qez aP H (by omega),⟨row _ _ (zkeep I _ _ K4.o.2.1.1) (by omega),K4.o.2.1.2⟩,row _ _ (zkeep I _ _ K4.o.2.2.1) (by omega),row _ _ (zkeep I _ _ K4.o.2.2.2.1) (by omega),(K4.o.2.2.2.2.1.below I).kept H (qam fun e=>?_),row _ _ h9 (by omega)⟩;have:=(K4.o.2.2.2.2.1.lt _ e).2;omega
   have Hn:=qH K4.o.2.2.2.2.2;rw [ae] at aS;rcases qib Z.o.1 with ⟨rfl,rfl⟩ | ⟨rfl,rfl⟩ | ⟨rfl,rfl⟩
   ·have hl:(Instr.lookup 183 (.map (some (F.heap.size+1))) (.int .i64 1) false).run prog V=.ok (.func (.func 112) #[] #[.pointer (some ⟨F.heap.size,0,none⟩)]) V:=look 1 (by decide);have hc:=qmV F.heap.size _ V K8.o.2.2.2.2.2 ⟨_,_,_,rfl⟩;have HC:=qH hc;clear hc look m8 m7 m6 f6 f7 f8 g6 g7 g8 ah h9 I ae H hz
    go_wp2_with ((with_reducible refine qdn rfl (.tmp 35) (.tmp 36) 22 rfl ?_ ?_ hr ?_);(next=>rfl);(next=>rfl))
    refine HC.o.mono ?_;rintro e w9 ⟨rfl,hw⟩;have hw:=hw.symm;subst hw;have HR:=qH (qA K8.o.2.2.2.2.1 K8.o.1);go_wp2;go_ret;exact⟨_,rfl,HR.o.1,HR.o.2⟩
   ·have hl:(Instr.lookup 183 (.map (some (F.heap.size+1))) (.int .i64 2) false).run prog V=.ok (.func (.func 113) #[] #[.pointer (some ⟨w.heap.size+1,0,none⟩),.pointer (some ⟨F.heap.size,0,none⟩)]) V:=look 2 (by decide);have hc:=qmW w.heap.size (w.heap.size+1) F.heap.size w.heap.size j j d (.slice av (1+j) cv) V K8.o.1.size (by omega) (by omega) Z.o.2.1 (by omega) Z.o.2.2.2.2.1 (fun W h=>Z.o.2.2.2.2.2.below (K8.o.1.trans h)) ⟨Below.refl _ _,K8.o.2.2.1,K8.o.2.2.2.2.2,K8.o.2.1,by have h:=K8.o.2.2.2.2.1;unfold FOwn at h;rw [qaD,qn2,Z.o.2.1] at h;rw [show sqs d 0=[] from rfl,qbj,show 1+j=j+1 by omega];rw [show 1+j=j+1 by omega] at h;exact h,Hn.o⟩;have HC:=qH hc;clear hc look m8 m7 m6 f6 f7 f8 g6 g7 g8 ah h9 I ae H hz
    go_wp2_with ((with_reducible refine qdn rfl (.tmp 35) (.tmp 36) 22 rfl ?_ ?_ hr ?_);(next=>rfl);(next=>rfl))
    refine HC.o.mono ?_;rintro e w9 ⟨y,rfl,hy,hb⟩;have HR:Hu (FOwn w9 w.heap.size y ((termL 2 d).map ftxt)/\Below w.heap.size w w9):=qH ⟨by
     unfold FOwn;have hl:((termL 2 d).map ftxt).length=j+1+j:=by
      have h:=hy.1;rw [qcK] at h;omega
     rw [hl];exact hy,K8.o.1.trans hb⟩
    obtain⟨ay,cy,rfl⟩:=hy.shape;clear hy hb;go_wp2;go_ret;exact⟨_,rfl,HR.o.1,HR.o.2⟩
   ·have hl:(Instr.lookup 183 (.map (some (F.heap.size+1))) (.int .i64 3) false).run prog V=.ok (.func (.func 115) #[] #[.pointer (some ⟨J.heap.size,0,none⟩),.pointer (some ⟨w.heap.size+1,0,none⟩)]) V:=look 3 (by decide);have hc:=qmX w.heap.size (w.heap.size+1) J.heap.size w.heap.size j j d V K8.o.1.size Z.o.2.1 (Z.o.2.2.1 rfl) Z.o.2.2.2.2.1 (fun W h=>Z.o.2.2.2.2.2.below (K8.o.1.trans h)) K8.o.2.2.1 (by rw [Ht.o];exact K8.o.2.2.2.1) K8.o.2.1;have HC:=qH hc;clear hc look m8 m7 m6 f6 f7 f8 g6 g7 g8 ah h9 I ae H hz
    go_wp2_with ((with_reducible refine qdn rfl (.tmp 35) (.tmp 36) 22 rfl ?_ ?_ hr ?_);(next=>rfl);(next=>rfl))
    refine HC.o.mono ?_;rintro e w9 ⟨y,rfl,hy,hb⟩;have HR:Hu (FOwn w9 w.heap.size y ((termL 3 d).map ftxt)/\Below w.heap.size w w9):=qH ⟨by
     unfold FOwn;have hl:((termL 3 d).map ftxt).length=2 ^ j:=by
      have h:=hy.1;rw [qcK] at h;omega
     rw [hl];exact hy,K8.o.1.trans hb⟩
    obtain⟨ay,cy,rfl⟩:=hy.shape;clear hy hb;go_wp2;go_ret;exact⟨_,rfl,HR.o.1,HR.o.2⟩
theorem qn0 (k E R pb ib b off c:Nat) (ao:Option Addr) (l:List Pt) (ty aj:TypeId) (w:World) (hR:l.length=R) (hk:k<R) (ak:R<=40) (af:E<3) (O:w.heap[pb]? = some (.cells #[.slice ao R c] ty (0,0))) (J:w.heap[ib]? = some (.cells #[.int .i64 (E:Int)] aj (0,0)))
  (hP:PCells w ao b off l) (hl:-9223372036854775808<=(l.getD k pt0).lab E/\(l.getD k pt0).lab E<=9223372036854775807) (hT:HasT w) :
  Calls prog 191 #[.int .i64 (k:Int),.pointer (some ⟨pb,0,none⟩),.pointer (some ⟨ib,0,none⟩)] w fun e w'=>Below w.heap.size w w'/\e=.returned (.agg #[.string (ftxt (labq l E k)).1,.string (ftxt (labq l E k)).2]):=by
 have ai:=hP.addr (by omega);subst ai;obtain⟨t1,t2,ht⟩:=qcW (labq l E k);rw [ht];obtain⟨U,Z,F⟩:=nw1 w #[.string ⟨#[]⟩,.string ⟨#[]⟩] 27;have d0:U.cell? ⟨b,off+k*5+2+E,none⟩=some (.int .i64 ((l.getD k pt0).lab E)):=by
  obtain⟨_,_,d2,d3,d4⟩:=(hP.below F.o.1).cell k (by omega);rcases (show E=0\/E=1\/E=2 by omega) with rfl | rfl | rfl
  ·exact d2
  ·exact d3
  ·exact d4
 have aB:=qae _ _ d0;have au:b<w.heap.size:=by
  obtain⟨h1,_⟩:=hP.cell k (by omega);exact qae _ _ h1
 have az:=(qG O).1;have aA:=(qG J).1;have q1:=rowG (g0:=w.heap.size) (zkeep F.o.1 _ _ O) 0;have q2:=rowG (g0:=w.heap.size) (zkeep F.o.1 _ _ J) 0;obtain⟨x,hx⟩:=qX ((l.getD k pt0).lab E);have H:=of_int x 100 (by decide) (by rw [<-hx];exact hl) (by decide) U.drew (((hT.below F.o.1)).below qB.drew);have ah:(x:Rat) / ((100:Int):Rat)=labq l E k:=by unfold labq;rw [hx];rfl
 rw [ah,ht] at H;rw [hx] at d0;have q3:∀W,U.grownBy W (some w.heap.size)->W.cell? ⟨b,off+k*5+2+E,none⟩=some (.int .i64 x):=fun W hg=>hg.cell d0 (fun e=>by have:=qag e;simp at this;omega)
 have HO:=qH H;have ay:(k:Int)<R:=by omega
 have ax:(E:Int)<3:=by omega
 have av:E<3:=af;clear H ah hx hP O J hT ht hl;go_enter func191,ntmps191;go_upto_region 1 with fail;rw [<-Z];clear Z;refine wp_region_held_drew (S:=fun W=>U.grownBy W (some w.heap.size)) (by kernel_rfl) (keepB qB.drew) (fun hS0=>?_);refine hT 0 (h:=?_);refine hT 1 (h:=?_);refine hT 2 (h:=?_);refine hT 3 (h:=?_);refine hT 4 (h:=?_);refine hT 5 (h:=?_);refine hT 6 (h:=?_);refine hC 7 HO.o (h:=?_);rintro e w1 ⟨rfl,I⟩;have V:=qlp (g:=w.heap.size) I;refine⟨_,rfl,V,hN (h:=?_)⟩;refine hT 8 (h:=?_);refine hT 9 (h:=?_);refine hC 10 (qdY t1 t2 w1) (h:=?_);rintro e w2 ⟨rfl,aa⟩;have Y:=qcl V aa;have ae:Below U.heap.size U w2:=(qcm I).trans (aa.mono (qcm I).size);have ag:=zkeep ae _ _ F.o.2;refine⟨_,rfl,Y,hN (h:=?_)⟩;have HE:=qH (qA (qT _ _ _ #[.string t1,.string t2] _ _ ag) (qS ((F.o.1).trans (ae.mono F.o.1.size)) qN #[.string t1,.string t2]));refine hSt 11 2 ag (h:=⟨qb5 Y ?_,?_⟩)
 ·exact⟨rfl,rfl,rfl,by simp [World.setRow],fun k hk hne=>setRow_other _ _ _ _ (fun e=>hne (by rw [e]))⟩
 go_wp2_with fail;exact qR (v:=.agg #[.string t1,.string t2]) (rA_ rfl (w.heap.size) HE.o.1 underlying27 2) rfl ⟨HE.o.2,rfl⟩
theorem enters {P:Program} {f:FuncId} {E:Func} (H:P.funcs[f]? = some E) (I:(E.name == "runtime.NumGoroutine")=false) (F:E.body.isNone=false) (args:Array Value) (W:World):(callFunc f args).run P W=.ok (.enter f args) W:=by
 simp only [callFunc,Sem.run_bind,run_program,Result.andThen,H,I,F]
 rfl
theorem qiZ {l:List FT} {n:Nat} {x:Nat->Rat} (J:l.length=n) (h:∀i,i<n->l.getD i fd0=ftxt (x i)):l=told n x:=by
 refine List.ext_getElem (by rw [qcb,J]) fun i H I=>?_
 have E:=h i (by omega);have F:=qed (x:=x) (show i<n by omega);rw [qaa,qac H] at E;rw [qaa,qac I] at F;exact E.trans F.symm
theorem labs_any (E R b off c:Nat) (O:Option Addr) (l:List Pt) (w:World) (hR:l.length=R) (V:R<=40) (J:E<3) (hP:PCells w O b off l) (hl:∀k,k<R->-9223372036854775808<=(l.getD k pt0).lab E/\(l.getD k pt0).lab E<=9223372036854775807) (hT:HasT w) :
  Calls prog 118 #[.slice O R c,.int .i64 (E:Int)] w fun e w'=>Below w.heap.size w w'/\∃g,e=.returned (.slice (some ⟨g,0,none⟩) R R)/\FCells w' (some ⟨g,0,none⟩) g 0 (told R (labq l E)):=by
 obtain⟨W2,I,F⟩:=nw2 w #[.slice O R c] 138 #[.int .i64 (E:Int)] 3;have aa:=@hmf_ prog;have HG:=qH (qeE 191 #[.pointer (some ⟨w.heap.size,0,none⟩),.pointer (some ⟨w.heap.size+1,0,none⟩)] R (by omega) (fun i x=>x=ftxt (labq l E i)) (fun _ _=>False) W2 (fun a W=>enters func191 (by kernel_rfl) (by kernel_rfl) _ W)
  (fun i hi W H=>(qn0 i E R w.heap.size (w.heap.size+1) b off c O l _ _ W hR hi V J (zkeep H _ _ F.o.2.1) (zkeep H _ _ F.o.2.2) (hP.below (F.o.1.trans (H.mono F.o.1.size))) (hl i hi) (hT.below (F.o.1.trans (H.mono F.o.1.size)))).mono fun e w' h=>⟨h.1,qaw ⟨_,_,h.2,rfl⟩⟩))
 clear hP hl hT;go_enter func118,ntmps118;go_upto_region 1 with fail;rw [<-I];clear I;have c0:=qC W2 _ 0 _ _ _ F.o.2.1;go_wp2_with fail;refine HG.o.mono ?_;rintro e w' ⟨H,h⟩;rcases h with ⟨l',g,Y,hv,rfl,U,_⟩ | ⟨_,_,_,_,U⟩
 ·have Z:=qH (qA (F.o.1.trans (H.mono F.o.1.size)) (qiZ Y hv▸U));clear H hv U;go_wp2;go_ret;exact⟨Z.o.1,_,rfl,Z.o.2⟩
 ·exact U.elim
theorem qnw (i R k pb kb b off c:Nat) (kind:Int) (ao:Option Addr) (l:List Pt) (ty af:TypeId) (w:World) (hk:qdy kind k) (hR:l.length=R) (hi:i<R) (h3:¬(k=3/\chans l=4)) (F:PtsOk l) (J:w.heap[pb]? = some (.cells #[.slice ao R c] ty (0,0))) (H:w.heap[kb]? = some (.cells #[.int .i64 kind] af (0,0)))
  (hP:PCells w ao b off l) (hT:HasT w) :
  Calls prog 66 #[.int .i64 (i:Int),.pointer (some ⟨kb,0,none⟩),.pointer (some ⟨pb,0,none⟩)] w fun e w'=>Below w.heap.size w w'/\∃v,e=.returned v/\FOwn w' w.heap.size v (told (many k (chans l)) (tqf l k i)):=by
 have aa:=hP.addr (by omega);subst aa;obtain⟨_,⟨ra,rb,ro,rc,d1,hN⟩,_⟩:=hP.cell i (by omega);have E:=(F.rows i (by omega)).2;have U:=(F.rows i (by omega)).1;obtain⟨n,Y⟩:=qX (chans l);rw [Y] at E h3 ⊢;rw [E] at d1;have I:1<=n/\n<=4:=⟨Y▸F.n1,Y▸F.n4⟩;have HO:=qH (qj5 kind k hk ra rb ro n rc (l.getD i pt0).dev w.drew E I.1 I.2 (fun e=>by have:=I.2;omega) (hN.below qB.drew) U.vals (hT.below qB.drew));have V:(termL k (l.getD i pt0).dev).map ftxt=told (many k n) (tqf l k i):=by
  rw [<-E];exact (qiu k (l.getD i pt0).dev).symm
 rw [V] at HO;have ah:=(qG J).1;have ai:=(qG H).1;have ae:=qae _ _ d1;have q1:=rowC (B:=w.heap.size) J 0;have q2:=rowC (B:=w.heap.size) H 0;have q3:∀W,Below w.heap.size w W->W.cell? ⟨b,off+i*5+1,none⟩=some (.slice ra n rc):=fun W O=>(O.cell ae).trans d1
 have ag:(i:Int)<R:=by omega
 clear hP J H hT hN U F Y V hk h3 E;go_enter func66,ntmps66;go_upto_region 1 with fail;refine wp_region_held_drew (S:=fun W=>Below w.heap.size w W) (by kernel_rfl) qB.drew (fun hS0=>?_);refine hT 0 (h:=?_);refine hT 1 (h:=?_);refine hT 2 (h:=?_);refine hT 3 (h:=?_);refine hT 4 (h:=?_);refine hT 5 (h:=?_);refine hC 6 HO.o (h:=?_);rintro e w1 ⟨v,rfl,hv,O⟩;have Z:=qH (qA (qcm O) hv);refine⟨_,rfl,qcm O,hN (h:=?_)⟩;refine hT 7 (hS:=Z.o.1) (h:=?_);refine wpAnyH_done (by kernel_rfl) ?_ _;clear hv O;go_wp2;go_ret;exact⟨Z.o.1,v,rfl,Z.o.2⟩
theorem qnx (i R wb b off c:Nat) (ao:Option Addr) (E:List Int) (ty:TypeId) (w:World) (hR:E.length=R) (hi:i<R) (hr:-9223372036854775808<=E.getD i 0/\E.getD i 0<=9223372036854775807) (V:w.heap[wb]? = some (.cells #[.slice ao R c] ty (0,0)))
  (hN:NCells w ao b off E) (hT:HasT w) :
  Calls prog 69 #[.int .i64 (i:Int),.pointer (some ⟨wb,0,none⟩)] w fun e w'=>Below w.heap.size w w'/\e=.returned (.agg #[.string (ftxt (wq E i)).1,.string (ftxt (wq E i)).2]):=by
 have Z:=hN.addr (by omega);subst Z;obtain⟨t1,t2,ht⟩:=qcW (wq E i);rw [ht];obtain⟨W1,I,H⟩:=nw1 w #[.string ⟨#[]⟩,.string ⟨#[]⟩] 27;have d0:=(hN.below H.o.1).cell i (by omega);have q1:=qC W1 _ 0 _ _ _ (zkeep H.o.1 _ _ V);obtain⟨x,hx⟩:=qX (E.getD i 0);have F:=of_int x 1 (by decide) (by rw [<-hx];exact hr) (by decide) W1 (hT.below H.o.1);have U:(x:Rat) / ((1:Int):Rat)=wq E i:=by unfold wq;rw [hx];rw [show ((1:Int):Rat)=1 from rfl,Rat.div_def,show (1:Rat)⁻¹=1 by decide +kernel,Rat.mul_one]
 rw [U,ht] at F;rw [hx] at d0;have HO:=qH F;have aa:(i:Int)<R:=by omega
 clear F U hx hN V hT ht hr;go_enter func69,ntmps69;go_upto_region 1 with fail;rw [<-I];clear I;go_wp2_with fail;refine HO.o.mono ?_;rintro e w1 ⟨rfl,J⟩;have K2:Kn (fun W=>Below w.heap.size w W/\W.heap[w.heap.size]? = some (.cells #[.string ⟨#[]⟩,.string ⟨#[]⟩] 27 (0,0))) w1:=H.below J;clear H J;go_wp2_with fail;refine (qdY t1 t2 w1).mono ?_;rintro e w2 ⟨rfl,O⟩;have Y:=K2.below O;clear K2 O;have HE:=qH (qA (qT _ _ _ #[.string t1,.string t2] _ _ Y.o.2) (qS Y.o.1 qN #[.string t1,.string t2]));rename_i hK;dsimp only;refine hK _ _ ?_
 go_wp2_with ((with_reducible refine sR_ rfl 27 _ _ rfl (w.heap.size) #[.string t1,.string t2] Y.o.2 2 ?_))
 exact qR (v:=.agg #[.string t1,.string t2]) (rA_ rfl (w.heap.size) HE.o.1 underlying27 2) rfl ⟨HE.o.2,rfl⟩
def RowAs (w:World) (R n:Nat) (f:Nat->Nat->Rat) (b v:Nat->Rat) (e:Ending) (w':World):Prop :=
 ((Sing n (normR R n f b v)/\e=thrown 7)\/(¬Sing n (normR R n f b v)/\∃x,qcZ n (normR R n f b v) (fun r=>normR R n f b v r n) x /\
  ((qb9 n x/\∃g,e=.returned (.slice (some ⟨g,0,none⟩) n n)/\FCells w' (some ⟨g,0,none⟩) g 0 (told n x))\/(¬qb9 n x/\e=thrown 6))))/\Below w.heap.size w w'
theorem row_any (H R n b off c g1 c1 g2 c2:Nat) (ao a1 a2:Option Addr) (l:List Pt) (f:Nat->Nat->Rat) (v:Nat->Rat) (w:World) (hR:l.length=R) (ak:1<=R) (aa:R<=40) (au:1<=n) (av:n<=10) (ah:H<3) (hP:PCells w ao b off l) (hl:∀k,k<R->-9223372036854775808<=(l.getD k pt0).lab H/\(l.getD k pt0).lab H<=9223372036854775807)
  (hf:∀i,i<R->qb9 n (f i)) (hb:qb9 R (labq l H)) (hv:qb9 R v) (ai:∀i,i<R->0<=v i) (hC:TCells w a1 g1 0 (ttab R n f)) (hF:FCells w a2 g2 0 (told R v)) (hT:HasT w) :
  Calls prog 71 #[.agg #[.slice ao R c,.slice a1 R c1,.slice a2 R c2],.int .i64 (H:Int)] w fun e w'=>RowAs w R n f (labq l H) v e w':=by
 obtain⟨V,ae,F⟩:=nw1 w #[.slice ao R c,.slice a1 R c1,.slice a2 R c2] 140;have HX:=qH (qA (hC.below F.o.1) (qA (hF.below F.o.1) (hT.below F.o.1)));have HL:=qH (labs_any H R b off c ao l V.drew hR aa ah ((hP.below F.o.1).below qB.drew) hl ((hT.below F.o.1).below qB.drew));have HM:=qH (qA hf (qA hb (qA hv ai)));have ax:=(qG F.o.2).1;have q0:=rowC (B:=V.heap.size) F.o.2 0;have q1:=rowC (B:=V.heap.size) F.o.2 1;have q2:=rowC (B:=V.heap.size) F.o.2 2;clear hP hl hT hf hb hv ai hC hF;go_enter func71,ntmps71;go_upto_region 1 with fail;rw [<-ae];clear ae;refine wp_region_held_drew (S:=fun W=>Below V.heap.size V W) (by kernel_rfl) qB.drew (fun hS0=>?_);refine hT 0 (h:=?_);refine hT 1 (h:=?_);refine hT 2 (h:=?_);refine hT 3 (h:=?_);refine hT 4 (h:=?_);refine hT 6 (h:=?_);refine hT 7 (h:=?_);refine hC 5 HL.o (h:=?_);rintro e w1 ⟨af,g,rfl,Y⟩;have HB:=qH (qcm af);have I:=qH (qA HB.o Y);refine⟨_,rfl,HB.o,hN (h:=?_)⟩;have aj:=qH (qn1 (c:=c1) (c2:=R) (c3:=c2) ak aa au av HM.o.1 HM.o.2.1 HM.o.2.2.1 HM.o.2.2.2 (HX.o.1.below I.o.1) I.o.2 (HX.o.2.1.below I.o.1) (HX.o.2.2.below I.o.1));clear af Y;refine hC 8 aj.o (h:=?_);rintro e w2 ⟨h,ag⟩;have E:=qH (I.o.1.trans (ag.mono I.o.1.size));clear ag;rcases h with ⟨U,rfl⟩ | ⟨U,x,hx,⟨J,g5,rfl,Z⟩ | ⟨J,rfl⟩⟩
 ·refine⟨_,rfl,E.o,hN (h:=?_)⟩;have O:=qH U;refine hT 9 (hS:=E.o) (h:=?_);refine hT 10 (hS:=E.o) (h:=?_);refine hCx 11 (qjF none 0 0 7 (by decide) w2) (h:=?_);rintro e w3 ⟨rfl,rfl⟩;refine qam ⟨_,rfl,?_⟩;clear U;go_wp2_with fail;exact⟨rfl,qaw ⟨O.o,rfl⟩,F.o.1.trans (E.o.mono F.o.1.size)⟩
 ·refine⟨_,rfl,E.o,hN (h:=?_)⟩;have O:=qH (qA U (qA hx (qA J Z)));refine hT 9 (hS:=E.o) (h:=?_);refine hT 10 (hS:=E.o) (h:=?_);refine hC 11 (needL_ok _ n n w2) (h:=?_);rintro e w3 ⟨rfl,rfl⟩;refine⟨_,rfl,E.o,hN (h:=?_)⟩;refine hT 12 (hS:=E.o) (h:=?_);refine wpAnyH_done (by kernel_rfl) ?_ _;clear U hx J Z;go_wp2;go_ret;exact⟨qam ⟨O.o.1,x,O.o.2.1,qaw ⟨O.o.2.2.1,g5,rfl,O.o.2.2.2⟩⟩,F.o.1.trans (E.o.mono F.o.1.size)⟩
 ·refine⟨_,rfl,E.o,hN (h:=?_)⟩;have O:=qH (qA U (qA hx J));refine hT 9 (hS:=E.o) (h:=?_);refine hT 10 (hS:=E.o) (h:=?_);refine hCx 11 (qjF none 0 0 6 (by decide) w2) (h:=?_);rintro e w3 ⟨rfl,rfl⟩;refine qam ⟨_,rfl,?_⟩;clear U hx J;go_wp2_with fail;exact⟨rfl,qam ⟨O.o.1,x,O.o.2.1,qam ⟨O.o.2.2,rfl⟩⟩,F.o.1.trans (E.o.mono F.o.1.size)⟩
theorem ttab_of {t:Tbl} {n m:Nat} {f:Nat->Nat->Rat} (J:t.length=n) (h:∀i,i<n->t.getD i []=told m (f i)):t=ttab n m f:=by
 refine List.ext_getElem (by rw [qc6,J]) fun i H I=>?_
 have E:=h i (by omega);have F:=qe4 (m:=m) (f:=f) (show i<n by omega);rw [qaa,qac H] at E;rw [qaa,qac I] at F;exact E.trans F.symm
def SlT (n m:Nat) (f:Nat->Nat->Rat) (z:Value) (W:World):Prop:=∃g,z=.slice (some ⟨g,0,none⟩) n n/\TCells W (some ⟨g,0,none⟩) g 0 (ttab n m f)
def SlF (n:Nat) (f:Nat->Rat) (z:Value) (W:World):Prop:=∃g,z=.slice (some ⟨g,0,none⟩) n n/\FCells W (some ⟨g,0,none⟩) g 0 (told n f)
instance stays_slt {n m:Nat} {f:Nat->Nat->Rat} {z:Value}:Stays (SlT n m f z):=⟨fun⟨g,E,F⟩ hb=>⟨g,E,F.below hb⟩⟩
instance stays_slf {n:Nat} {f:Nat->Rat} {z:Value}:Stays (SlF n f z):=⟨fun⟨g,E,F⟩ hb=>⟨g,E,F.below hb⟩⟩
theorem qgn {W:World} {g:Nat} {F cs:Array Value} {t:TypeId} (hg:W.heap[g]? = some (.cells F t (0,0))) (I:∀x∈F.toList,x=.slice none 0 0) {a:Addr} {v:Value} (E:W.cell? a=some v) (H:v≠.slice none 0 0):(W.setRow g cs).cell? a=some v:=by
 have hne:a.block≠g:=by
  intro e;unfold World.cell? at E;rw [e,hg] at E;simp only at E;split at E
  ·cases E
  ·exact H (I v (by rw [<-Array.mem_def];exact Array.mem_of_getElem? E))
 exact (cell_setRow_other _ _ _ _ hne).trans E
theorem qeH {W:World} {g:Nat} {F cs:Array Value} {t:TypeId} (hg:W.heap[g]? = some (.cells F t (0,0))) (H:∀b,.string b∉F.toList):∀a s,W.cell? a=some (.string s)->(W.setRow g cs).cell? a=some (.string s):=fun a s E=>by
 have hne:a.block≠g:=by
  intro e;unfold World.cell? at E;rw [e,hg] at E;simp only at E;split at E
  ·cases E
  ·exact H s (by rw [<-Array.mem_def];exact Array.mem_of_getElem? E)
 exact (cell_setRow_other _ _ _ _ hne).trans E
theorem SlF.keepZ {W:World} {g n:Nat} {E cs:Array Value} {t:TypeId} {f:Nat->Rat} {z:Value} (h:SlF n f z W) (hg:W.heap[g]? = some (.cells E t (0,0))) (J:∀x∈E.toList,x=.slice none 0 0):SlF n f z (W.setRow g cs):=by
 obtain⟨g1,F,H⟩:=h;exact⟨g1,F,H.kept fun a s I=>qgn hg J I (fun e=>by cases e)⟩
theorem SlT.keepZ {W:World} {g n m:Nat} {I cs:Array Value} {t:TypeId} {f:Nat->Nat->Rat} {z:Value} (h:SlT n m f z W) (Y:1<=m) (hg:W.heap[g]? = some (.cells I t (0,0))) (H:∀x∈I.toList,x=.slice none 0 0):SlT n m f z (W.setRow g cs):=by
 obtain⟨g1,J,F⟩:=h;refine⟨g1,J,F.addr,fun k E=>?_⟩;obtain⟨ra,rb,ro,rc,O,U⟩:=F.row k E;refine⟨ra,rb,ro,rc,qgn hg H O (fun e=>?_),U.kept fun a s V=>qgn hg H V (fun e=>by cases e)⟩;rw [qc6] at E;have:=(Value.slice.inj e).2.1;rw [qe4 E,qcb] at this;omega
theorem qpe (R k H F b off c:Nat) (kind:Int) (O:Option Addr) (l:List Pt) (ty I:TypeId) (w:World) (hk:qdy kind k) (hR:l.length=R) (Y:¬(k=3/\chans l=4)) (E:PtsOk l) (ae:w.heap[H]? = some (.cells #[.slice O R c] ty (0,0))) (aa:w.heap[F]? = some (.cells #[.int .i64 kind] I (0,0)))
  (hP:PCells w O b off l) (hT:HasT w) :
  Calls prog 65 #[.int .i64 (R:Int),.func (.func 66) #[] #[.pointer (some ⟨F,0,none⟩),.pointer (some ⟨H,0,none⟩)]] w fun e w'=>Below w.heap.size w w'/\∃v,e=.returned v/\SlT R (many k (chans l)) (tqf l k) v w':=by
 have hg:GivesL 66 #[.pointer (some ⟨F,0,none⟩),.pointer (some ⟨H,0,none⟩)] w R (fun i r=>r=told (many k (chans l)) (tqf l k i)) (fun _ _=>False):=by
  intro i hi W J;refine (qnw i R k H F b off c kind O l ty I W hk hR hi Y E (zkeep J _ _ ae) (zkeep J _ _ aa) (hP.below J) (hT.below J)).mono ?_;rintro e w' ⟨U,v,V,Z⟩;obtain⟨a,g,cap,rfl,hF,_⟩:=Z.cells (qcb _ _);exact⟨U,qaw ⟨_,a,g,_,cap,V,qcb _ _,hF,rfl⟩⟩
 have HG:=qky 66 #[.pointer (some ⟨F,0,none⟩),.pointer (some ⟨H,0,none⟩)] R (by have:=E.r2;omega) (fun i r=>r=told (many k (chans l)) (tqf l k i)) (fun _ _=>False) w (fun a W=>enters func66 (by kernel_rfl) (by kernel_rfl) _ W) hg;refine HG.mono ?_;rintro e w' ⟨U,V⟩;rcases V with ⟨t,g,Y,Z,rfl,h5,_⟩ | ⟨_,_,_,_,h⟩
 ·exact⟨U,_,rfl,g,rfl,ttab_of Y Z▸h5⟩
 ·exact h.elim
theorem qk1 (R F b off c:Nat) (H:Option Addr) (E:List Int) (V:TypeId) (w:World) (hR:E.length=R) (aa:R<=40) (hW:WOk E) (U:w.heap[F]? = some (.cells #[.slice H R c] V (0,0))) (hN:NCells w H b off E) (hT:HasT w) :
  Calls prog 68 #[.int .i64 (R:Int),.func (.func 69) #[] #[.pointer (some ⟨F,0,none⟩)]] w fun e w'=>Below w.heap.size w w'/\∃v,e=.returned v/\SlF R (wq E) v w':=by
 have hg:qk3 69 #[.pointer (some ⟨F,0,none⟩)] w R (fun i x=>x=ftxt (wq E i)) (fun _ _=>False):=by
  intro i hi W O;refine (qnx i R F b off c H E V W hR hi (by have:=hW i (by omega);omega) (zkeep O _ _ U) (hN.below O) (hT.below O)).mono ?_;rintro e w' ⟨I,J⟩;exact⟨I,qaw ⟨_,_,J,rfl⟩⟩
 have Y:=qeE 69 #[.pointer (some ⟨F,0,none⟩)] R (by omega) (fun i x=>x=ftxt (wq E i)) (fun _ _=>False) w (fun a W=>enters func69 (by kernel_rfl) (by kernel_rfl) _ W) hg;refine Y.mono ?_;rintro e w' ⟨I,J⟩;rcases J with ⟨t,g,Z,h4,rfl,h5,_⟩ | ⟨_,_,_,_,h⟩
 ·exact⟨I,_,rfl,g,rfl,qiZ Z h4▸h5⟩
 ·exact h.elim
