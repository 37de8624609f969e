import Derived.Lib.ParseIntBCases
import Derived.Test.YtjalhnlhcdfncaaGreatDoorBu19
set_option maxRecDepth 100000
set_option maxHeartbeats 0
namespace Go.Proofs.YtjalhnlhcdfncaaGreatDoor
open Go.RowKit Go.Lib
theorem cmp_lt (p q:Rat):cmp3 (p.num*(q.den:Int) + -(q.num*(p.den:Int))) 0<0↔p<q:=by
 rw [Rat.lt_iff];unfold cmp3;generalize p.num*(q.den:Int)=A;generalize q.num*(p.den:Int)=B;split
 ·constructor <;> intro h <;> omega
 ·split
  ·constructor <;> intro h <;> omega
  ·constructor <;> intro h <;> omega
end Go.Proofs.YtjalhnlhcdfncaaGreatDoor
namespace Go.Proofs.YtjalhnlhcdfncaaGreatDoor
open Go.RowKit Go.Proofs.Tryz
theorem str_ext {s t:ByteArray} (h:s.data.toList=t.data.toList):s=t:=by
 have:s.data=t.data:=Array.toList_inj.1 h;cases s;cases t;simp at this;subst this;rfl
def qeZ (l:List Pt) (k:Nat):Lit->Value
 | .string s=>.bool (decide (∃j,j<k/\(l.getD j pt0).name.data.toList=s))
 | _=>.bool false
theorem qjT (l:List Pt):∀E,(Value.bool false)=qeZ l 0 E:=fun E=>by
 unfold qeZ;split
 ·rw [qU (by rintro ⟨j,h,_⟩;omega)]
 ·rfl
theorem qiS (l:List Pt) (k:Nat):∀x,x≠Lit.string (l.getD k pt0).name.data.toList->qeZ l (k+1) x=qeZ l k x:=fun x hx=>by
 unfold qeZ;split
 ·rename_i s
  congr 1
  rw [decide_eq_decide]
  constructor
  ·rintro ⟨j,h,e⟩;rcases (show j<k\/j=k by omega) with E | rfl
   ·exact⟨j,E,e⟩
   ·exact absurd (by rw [e]) hx
  ·rintro ⟨j,h,e⟩;exact⟨j,by omega,e⟩
 ·rfl
theorem qlp (l:List Pt) (k:Nat):qeZ l (k+1) (.string (l.getD k pt0).name.data.toList)=.bool true:=by
 unfold qeZ;exact congrArg Value.bool (qV ⟨k,by omega,rfl⟩)
structure PtsTo (l:List Pt) (k:Nat):Prop where
 rows:∀j,j<k->PtOk (l.getD j pt0)/\(l.getD j pt0).dev.length=chans l
 apart:∀i j,j<i->i<k->(l.getD j pt0).name≠(l.getD i pt0).name
theorem PtsTo.zero (l:List Pt):PtsTo l 0:=⟨fun j h=>absurd h (by omega),fun i j _ h=>absurd h (by omega)⟩
theorem PtsTo.next {l:List Pt} {k:Nat} (h:PtsTo l k) (F:PtOk (l.getD k pt0)) (G:(l.getD k pt0).dev.length=chans l) (H:¬∃j,j<k/\(l.getD j pt0).name.data.toList=(l.getD k pt0).name.data.toList):PtsTo l (k+1) :=
 ⟨fun j J=>by
  rcases (show j<k\/j=k by omega) with h4 | rfl
  ·exact h.rows j h4
  ·exact⟨F,G⟩,fun i j E I=>by
  rcases (show i<k\/i=k by omega) with h4 | rfl
  ·exact h.apart i j E h4
  ·exact fun e=>H ⟨j,E,by rw [e]⟩⟩
theorem qfU (ao:Option Addr) (b Y R c:Nat) (l:List Pt) (w:World) (hR:l.length=R) (hl:R<=4611686018427387904) (hs:∀k,k<R->(l.getD k pt0).name.size<=4611686018427387904/\(l.getD k pt0).dev.length<=4611686018427387904) (hP:PCells w ao b Y l) :
  Calls prog 55 #[.slice ao R c] w fun e w'=>qfb w (PtsOk l) 310 e w':=by
 by_cases h1:1<=R
 case neg =>
  have hi:(R:Int)<1:=by omega
  have HR:=qH hR;clear hP hR;go_enter func55,ntmps55;go_wp2;go_ret;exact⟨310,rfl,qam ⟨rfl,fun h=>by have:=h.r1;have:=HR.o;omega⟩,Below.refl _ _⟩
 have aQ:¬(R:Int)<1:=by omega
 by_cases h2:R<=40
 case neg =>
  have hi:(40:Int)<R:=by omega
  have HR:=qH hR;clear hP hR;go_enter func55,ntmps55;go_wp2;go_ret;exact⟨310,rfl,qam ⟨rfl,fun h=>by have:=h.r2;have:=HR.o;omega⟩,Below.refl _ _⟩
 have aR:¬(40:Int)<R:=by omega
 have aJ:=hP.addr (by omega);subst aJ;have I:=qH (qA hP (qA hR hs));have aL:=@run_makeMap prog;have au:MapAt (w.alloc (.map #[] 0)) prog 9 w.heap.size 0 (.bool false) (qeZ l 0):=(MapAt.made w prog 9 (.bool false)).congr fun kl _=>qjT l kl
 have aF:=qH au;have aC:=qH (show Below w.heap.size w (w.alloc (.map #[] 0)) from qB.alloc qN _);clear hP hR hs au;go_enter func55,ntmps55;go_wp2_with fail;clear aL
 go_loopw [17] (fun x17 W=>∃k:Nat,x17=.int .i64 k/\k<=R/\Hu (PtsTo l k)/\Hu (Below w.heap.size w W/\MapAt W prog 9 w.heap.size k (.bool false) (qeZ l k))) (fun x17 _=>R-(intOf x17).toNat)
 case atStart=>exact⟨0,rfl,qaj _,qH (PtsTo.zero l),qH ⟨aC.o,aF.o⟩⟩
 case round =>
  obtain⟨k,rfl,hk,hJ,K⟩:=hrel
  by_cases ax:k<R
  ·have aS:(k:Int)<R:=by omega
   obtain⟨d0,⟨ra,rb,ro,rc,d1,hN⟩,d2,d3,d4⟩:=(I.o.1.below K.o.1).cell k (by have:=I.o.2.1;omega);obtain⟨_,⟨aM,aW,aX,aN,f1,_⟩,_⟩:=(I.o.1.below K.o.1).cell 0 (by have:=I.o.2.1;omega);rw [Nat.zero_mul,qbA] at f1;obtain⟨p,hp⟩:=qX (l.getD k pt0);obtain⟨n0,ah⟩:∃n,(l.getD 0 pt0).dev.length=n:=⟨_,rfl⟩;have V:=I.o.2.2 k ax;rw [ah] at f1;rw [hp] at d0 d1 d2 d3 d4 hN V;obtain⟨nm,dev,l0,l1,l2⟩:=p;simp only [] at d0 d1 d2 d3 d4 hN V;obtain⟨n,hn⟩:=qX dev.length;rw [hn] at d1;have E:=qH (qA hp (qA ah (qA hn (qA V hN))));have az:b<wr.heap.size:=qac wr _ f1;obtain⟨H,av,J⟩:=nw1 wr #[.string nm,.slice ra n rc,.int .i64 l0,.int .i64 l1,.int .i64 l2] 72;have aA:=qnG (.agg #[.string nm,.slice ra n rc,.int .i64 l0,.int .i64 l1,.int .i64 l2]) ⟨nm,dev,l0,l1,l2⟩;have aH:=qH (fun (W:World) (h:Below wr.heap.size wr W)=>aA W ⟨ra,rb,ro,rc,by rw [E.o.2.2.1],E.o.2.2.2.2.below h⟩ E.o.2.2.2.1.1 E.o.2.2.2.1.2);have aU:w.heap.size<wr.heap.size:=K.o.2.lt;have KM:=qH (qA J.o.1 (K.o.2.below J.o.1));have ae:∀W,Below H.heap.size H W->W.cell? ⟨b,Y+1,none⟩=some (.slice aM n0 aN):=fun W h=>(h.cell (p:=⟨b,Y+1,none⟩) (qak az J.o.1.size)).trans ((J.o.1.cell (p:=⟨b,Y+1,none⟩) az).trans f1)
   have aT:=(qG J.o.2).1;have c0:=rowC (B:=H.heap.size) J.o.2 0;have c1:=rowC (B:=H.heap.size) J.o.2 1;have c2:=rowC (B:=H.heap.size) J.o.2 2;have c3:=rowC (B:=H.heap.size) J.o.2 3;have c4:=rowC (B:=H.heap.size) J.o.2 4;have aP:(0:Int)<R:=by omega
   have aO:0<R:=by omega
   clear aA hp ah hn V hN;go_wp2_with fail;rw [<-av];clear av d0 d1 d2 d3 d4 f1;refine wp_region_held_drew (S:=fun W=>Below H.heap.size H W) (by kernel_rfl) qB.drew (fun hS0=>?_);refine hT 0 (h:=?_);refine hC 1 (aH.o _ ((J.o.1).drew)) (h:=?_);rintro e w6 ⟨bb,rfl,U,af⟩;have F:Below H.heap.size H w6:=qcg af;have K6:=qH (qA (K.o.1.trans ((KM.o.1.trans (F.mono KM.o.1.size)).mono K.o.1.size)) (qA (KM.o.2.below F) (zkeep F _ _ J.o.2)));refine⟨_,rfl,F,hN (h:=?_)⟩;cases bb with
   | false =>
    have aG:=qH (show ¬PtOk ⟨nm,dev,l0,l1,l2⟩ from fun h=>by have:=U.2 h;cases this);clear U af;refine hT 2 (h:=hT 3 (h:=hU 4 (h:=hU 5 (h:=hU 6 (h:=hU 7 (h:=hU 8 (h:=hU 9 (h:=hU 10 (h:=hU 11 (h:=hU 12 (h:=hT 13 (h:=hT 14 (h:=hU 15 (h:=hU 16 (h:=hU 17 (h:=hU 18 (h:=hT 19 (h:=?_))))))))))))))))));refine wpAnyH_done (by kernel_rfl) ?_ _;clear F hS0 c0 c1 c2 c3 c4 ae;go_wp2;go_ret;exact⟨310,rfl,qam ⟨rfl,fun h=>aG.o (by rw [<-E.o.1];exact (h.rows k (by have:=I.o.2.1;omega)).1)⟩,K6.o.1⟩
   | true =>
    have aI:=qH (U.1 rfl);clear U af
    by_cases O:n=n0
    case neg =>
     have hne:((n:Int) != (n0:Int))=true:=by rw [bne_iff_ne];omega
     have aa:=qH O;clear O;refine hT 2 (h:=hT 3 (h:=hT 4 (h:=hT 5 (h:=hT 6 (h:=hT 7 (h:=hT 8 (h:=hT 9 (h:=hT 10 (h:=hT 11 (h:=hT 12 (h:=hT 13 (h:=hT 14 (h:=hU 15 (h:=hU 16 (h:=hU 17 (h:=hU 18 (h:=hT 19 (h:=?_))))))))))))))))));refine wpAnyH_done (by kernel_rfl) ?_ _;clear F hS0 c0 c1 c2 c3 c4 ae;go_wp2;go_ret;exact⟨310,rfl,qam ⟨rfl,fun h=>aa.o (by
      have:=(h.rows k (by have:=I.o.2.1;omega)).2;rw [E.o.1] at this;unfold chans at this;rw [E.o.2.1] at this;exact E.o.2.2.1.symm.trans this)⟩,K6.o.1⟩
    have hne:((n:Int) != (n0:Int))=false:=by simp [O]
    have aa:=qH O;clear O;have ay:Maps.Keyed prog 9:=Maps.string_keyed underlying9;have aB:Tryz.prog.underlying 172=some (.map 9 4):=underlying172;have Z:keyOf prog 9 (.string nm)=some (.string nm.data.toList):=WideMaps.keyOf_string_mk underlying9 (by have:=E.o.2.2.2.1.1;unfold maxLen;omega);obtain⟨seen,G⟩:∃s,decide (∃j,j<k/\(l.getD j pt0).name.data.toList=nm.data.toList)=s:=⟨_,rfl⟩;have ag:∀W,Below H.heap.size H W->(Instr.lookup 172 (.map (some w.heap.size)) (.string nm) false).run prog W=.ok (.bool seen) W:=fun W h=>by
     rw [<-G];exact (KM.o.2.below h).look ay aB (by kernel_rfl) Z
    have aj:=qH G;clear G;refine hT 2 (h:=hT 3 (h:=hT 4 (h:=hT 5 (h:=hT 6 (h:=hT 7 (h:=hT 8 (h:=hT 9 (h:=hT 10 (h:=hT 11 (h:=hT 12 (h:=hT 13 (h:=hT 14 (h:=hT 15 (h:=hT 16 (h:=hT 17 (h:=hT 18 (h:=hT 19 (h:=?_))))))))))))))))));refine wpAnyH_done (by kernel_rfl) ?_ _;clear F hS0 c0 c1 c2 c3 c4 ae ag;cases seen with
    | true =>
     go_wp2;go_ret;exact⟨310,rfl,qam ⟨rfl,fun h=>by
      obtain⟨j,hj,e⟩:=of_decide_eq_true aj.o;refine h.apart k j hj (by have:=I.o.2.1;omega) ?_;rw [E.o.1];exact str_ext e⟩,K6.o.1⟩
    | false =>
     have ak:PtsTo l (k+1):=by
      refine hJ.o.next (by rw [E.o.1];exact aI.o) ?_ (by rw [E.o.1];exact of_decide_eq_false aj.o)
      rw [E.o.1];unfold chans;rw [E.o.2.1];exact E.o.2.2.1.trans aa.o
     have aD:=qH ak;obtain⟨W7,aV,f7,g7⟩:=K6.o.2.1.store ay aB (by unfold maxLen;omega) Z (.bool true);have ai:l.getD k pt0=⟨nm,dev,l0,l1,l2⟩:=E.o.1;have m7:=f7 (qeZ l (k+1)) (by have:=qlp l k;rw [ai] at this;exact this) (by have:=qiS l k;rw [ai] at this;exact this);have K7:=qH (qA (qec K6.o.1 g7 qN) m7);have q0:=qC w6 _ 0 _ _ _ K6.o.2.2;clear ak ai m7 f7 g7;go_wp2;go_roundw
     case rel=>exact⟨k+1,by go_num,ax,aD,K7⟩
     case measure=>simp [intOf];omega
  ·obtain rfl:k=R:=by omega
   go_wp2;go_ret;exact⟨0,rfl,qax ⟨rfl,⟨by have:=I.o.2.1;omega,by have:=I.o.2.1;omega,fun j hj=>hJ.o.rows j (by have:=I.o.2.1;omega),fun i j aK hi=>hJ.o.apart i j aK (by have:=I.o.2.1;omega)⟩⟩,K.o.1⟩
theorem chan_any (O:Option Addr) (b H R c:Nat) (l:List Pt) (w:World) (V:l.length=R) (hl:R<=4611686018427387904) (hs:∀k,k<R->(l.getD k pt0).name.size<=4611686018427387904/\(l.getD k pt0).dev.length<=4611686018427387904) (U:PCells w O b H l) :
  Calls prog 144 #[.slice O R c] w fun e w'=>((PtsOk l/\e=.returned (.tuple #[.int .i64 (chans l:Nat),.int .i64 0]))\/(¬PtsOk l/\e=.returned (.tuple #[.int .i64 0,.int .i64 310])))/\Below w.heap.size w w':=by
 have HC:=qH (qfU O b H R c l w V hl hs U);have F:=qH (qA U V);clear U V hs;go_enter func144,ntmps144;go_wp2_with fail;refine HC.o.mono ?_;rintro e w2 ⟨cc,rfl,Z,J⟩;have HB:=qH J;rcases Z with ⟨rfl,E⟩ | ⟨rfl,G⟩
 ·have h1:1<=R:=by have:=E.r1;have:=F.o.2;omega
  have Y:=F.o.1.addr (by have:=F.o.2;omega);subst Y;obtain⟨_,⟨ra,rb,ro,rc,f1,_⟩,_⟩:=(F.o.1.below J).cell 0 (by have:=F.o.2;omega);rw [Nat.zero_mul,qbA] at f1;obtain⟨n,hn⟩:=qX ((l.getD 0 pt0).dev.length);rw [hn] at f1;have ae:(0:Int)<R:=by omega
  have aa:0<R:=by omega
  have I:=qH (qA E (show chans l=n from hn));clear E hn J;go_wp2_with fail
  go_ret2
  exact⟨qax ⟨I.o.1,by rw [I.o.2];rfl⟩,HB.o⟩
 ·have I:=qH G;clear G J;go_wp2_with fail
  go_ret2
  exact⟨qam ⟨I.o,rfl⟩,HB.o⟩
def qj9 (G:FuncId) (E:Array Value) (w:World) (n:Nat) (P:Nat->FT->Prop) (F:Nat->Int->Prop):Prop :=
 ∀i,i<n->∀W,Below w.heap.size w W->Calls prog G (#[.int .i64 (i:Int)]++E) W fun e H=>Below W.heap.size W H/\((∃x y,e=.returned (.agg #[.string x,.string y])/\P i (x,y))\/∃c,e=thrown c/\F i c)
theorem qei (fc:FuncId) (E:Array Value) (n:Nat) (hn:n<=1000) (P:Nat->FT->Prop) (F:Nat->Int->Prop) (w:World) (ae:∀a W,(callFunc fc (#[a]++E)).run prog W=.ok (.enter fc (#[a]++E)) W) (hf:qj9 fc E w n P F) :
  Calls prog 68 #[.int .i64 (n:Int),.func (.func fc) #[] E] w fun e w'=>Below w.heap.size w w' /\
   ((∃(l:List FT) (g:Nat),l.length=n/\(∀i,i<n->P i (l.getD i fd0))/\e=.returned (.slice (some ⟨g,0,none⟩) n n)/\FCells w' (some ⟨g,0,none⟩) g 0 l/\w.heap.size<=g)\/∃i c,i<n/\e=thrown c/\F i c):=by
 have aa:=qhX n (by omega) w;obtain⟨W5,H⟩:=qY (w.alloc (.cells (madeCells #[.string ⟨#[]⟩,.string ⟨#[]⟩] (n*2)) 27));rw [<-H] at aa;have Y:FRow W5 w.heap.size n []:=H▸FRow.made w n;have V:Below w.heap.size w W5:=H▸qB.alloc qN _;have H0:=qH (qA Y (qA V hf));clear Y V hf H;go_enter func68,ntmps68;go_wp2_with fail
 go_loopw [10] (fun x10 W=>∃i:Nat,x10=.int .i64 i/\i<=n/\Hu (∃l:List FT,l.length=i/\(∀j,j<i->P j (l.getD j fd0))/\FRow W w.heap.size n l/\Below w.heap.size w W)) (fun x10 _=>n-(intOf x10).toNat)
 case atStart=>exact⟨0,rfl,qaj _,qH ⟨[],rfl,fun j hj=>absurd hj (by omega),H0.o.1,H0.o.2.1⟩⟩
 case round =>
  obtain⟨i,rfl,ag,hI⟩:=hrel;obtain⟨l,hl,hP,J,hB⟩:=hI.o
  by_cases Z:i<n
  ·subst hl;have af:(l.length:Int)<n:=by omega
   have HC:=qH (H0.o.2.2 l.length Z _ hB);have U:=qH (qA hP (qA J hB));clear hI hP J hB;go_wp2_with fail;refine HC.o.mono ?_;rintro e w2 ⟨G,h⟩;rcases h with ⟨x,y,rfl,hp⟩ | ⟨c,rfl,J⟩
   ·have O:=U.o.2.1.below G;obtain⟨⟨q0,q1⟩,qf⟩:=O.at Z;have ah:=qf (l.length*2);have ai:=qf (l.length*2+1);have I:=qH (qA (O.set Z (x,y)) (qA (((U.o.2.2.trans (G.mono U.o.2.2.size)).setCell (p:=⟨w.heap.size,l.length*2,none⟩) qN (.string x)).setCell (p:=⟨w.heap.size,l.length*2+1,none⟩) qN (.string y)) hp));clear O qf G hp;go_wp2;go_roundw
    case rel =>
     refine⟨l.length+1,by go_num,Z,qH ⟨l++[(x,y)],by simp,fun j hj=>?_,I.o.1,I.o.2.1⟩⟩;rcases qaB j l.length with hj2 | hj2
     ·rw [qaa,qaz hj2,<-qaa];exact U.o.1 j hj2
     ·have:j=l.length:=by omega
      subst this;rw [qaa,qau qN,qaM];exact I.o.2.2
    case measure=>simp [intOf];omega
   ·have I:=qH (qA (U.o.2.2.trans (G.mono U.o.2.2.size)) J);clear G J;unfold thrown;go_wp2_with fail;exact⟨rfl,I.o.1,qam ⟨_,c,Z,rfl,I.o.2⟩⟩
  ·obtain rfl:i=n:=by omega
   have I:=qH (qA hl (qA hP (qA (J.cells hl) hB)));clear hI hl hP J hB;go_wp2;go_ret;obtain⟨h1,h2,h3,h4⟩:=I.o;exact⟨h4,qax ⟨l,_,h1,h2,rfl,h3,qae _⟩⟩
def VRow (W:World) (g n:Nat) (z:Value) (e:TypeId) (E:List Value):Prop:=W.heap[g]? = some (.cells (E++List.replicate (n-E.length) z).toArray e (0,0))/\E.length<=n
theorem VRow.below {W W':World} {g n:Nat} {z:Value} {e:TypeId} {E:List Value} (h:VRow W g n z e E) (F:Below W.heap.size W W'):VRow W' g n z e E :=
 ⟨(F.block _ (qG h.1).1).trans h.1,h.2⟩
theorem VRow.at {W:World} {g n:Nat} {z:Value} {e:TypeId} {E:List Value} (h:VRow W g n z e E) (F:E.length<n):W.cell? ⟨g,E.length,none⟩=some z/\∀j,W.frozen? ⟨g,j,none⟩=false:=by
 refine⟨(qC _ _ _ _ _ _ h.1).trans ((qaC ..).trans ?_),fun j=>qF _ _ _ _ _ h.1⟩;rw [qau qN,qaM,qbk,if_pos (by omega)]
theorem VRow.set {W:World} {g n:Nat} {z:Value} {e:TypeId} {E:List Value} (h:VRow W g n z e E) (G:E.length<n) (v:Value):VRow (W.setCell ⟨g,E.length,none⟩ v) g n z e (E++[v]):=by
 refine⟨?_,by rw [qaf,qaG];omega⟩;rw [heap_setCell_same _ g E.length _ _ _ h.1]
 congr 3
 obtain⟨m,F⟩:∃m,n-E.length=m+1:=⟨n-E.length-1,by omega⟩;rw [qaL,F,qbr,qaf,qaG,show n-(E.length+1)=m by omega,qbb _ _ qN,qaM,qbp,qaE]
 rfl
theorem VRow.made (W:World) (n:Nat) (z:Value) (e:TypeId):VRow (W.alloc (.cells (Array.replicate n z) e)) W.heap.size n z e []:=by
 refine⟨?_,qaj _⟩;rw [qM _ _ _ rfl,qbj,List.length_nil,Nat.sub_zero,List.toArray_replicate]
theorem VRow.cells {W:World} {g n:Nat} {z:Value} {e:TypeId} {E:List Value} (h:VRow W g n z e E) (H:E.length=n):VCells W (some ⟨g,0,none⟩) g 0 E:=by
 have F:=h.1;rw [H,qaM,List.replicate_zero,qbw] at F;refine⟨fun _=>rfl,fun k G=>?_⟩;rw [qaR];refine (qC _ _ _ _ _ _ F).trans ((qaC ..).trans ?_);rw [qaa,qad G];rfl
theorem VRow.made' (W:World) (n:Nat) (z:Value) (e:TypeId):VRow (W.alloc (.cells (madeCells #[z] n) e)) W.heap.size n z e []:=by
 have:madeCells #[z] n=Array.replicate n z:=by
  apply Array.ext
  ·simp [madeCells]
  ·intro i E F;simp [madeCells,Nat.mod_one]
 rw [this];exact VRow.made W n z e
def RVals (W:World) (F:List Value) (t:Tbl):Prop:=F.length=t.length/\∀k,k<t.length->∃(E:Option Addr) (rb G rc:Nat),F.getD k undef=.slice E (t.getD k []).length rc/\FCells W E rb G (t.getD k [])
theorem RVals.below {W W':World} {E:List Value} {t:Tbl} (h:RVals W E t) (H:Below W.heap.size W W'):RVals W' E t :=
 ⟨h.1,fun k I=>by
  obtain⟨ra,rb,ro,rc,F,G⟩:=h.2 k I;exact⟨ra,rb,ro,rc,F,G.below H⟩⟩
theorem RVals.tcells {W:World} {F:Option Addr} {b E:Nat} {I:List Value} {t:Tbl} (h:RVals W I t) (H:VCells W F b E I):TCells W F b E t :=
 ⟨fun J=>H.addr (by rw [h.1];exact J),fun k G=>by
  obtain⟨ra,rb,ro,rc,O,U⟩:=h.2 k G;exact⟨ra,rb,ro,rc,(H.cell k (by rw [h.1];exact G)).trans (by rw [O]),U⟩⟩
theorem RVals.append {W:World} {F E:List Value} {t t2:Tbl} (h:RVals W F t) (I:RVals W E t2):RVals W (F++E) (t++t2):=by
 refine⟨by rw [qaf,qaf,h.1,I.1],fun k J=>?_⟩;rw [qaf] at J
 by_cases e:k<t.length
 ·have G:(F++E).getD k undef=F.getD k undef:=by rw [qaa,qaz (by rw [h.1];exact e),<-qaa]
  have H:(t++t2).getD k []=t.getD k []:=by rw [qaa,qaz e,<-qaa]
  rw [G,H];exact h.2 k e
 ·have G:(F++E).getD k undef=E.getD (k-t.length) undef:=by rw [qaa,qau (by rw [h.1];omega),h.1,<-qaa]
  have H:(t++t2).getD k []=t2.getD (k-t.length) []:=by rw [qaa,qau (by omega),<-qaa]
  rw [G,H];exact I.2 _ (by omega)
theorem RVals.one {W:World} {E:Option Addr} {rb F m rc:Nat} {l:List FT} (H:l.length=m) (h:FCells W E rb F l):RVals W [.slice E m rc] [l] :=
 ⟨rfl,fun k G=>by
  obtain rfl:k=0:=by simp at G;omega
  exact⟨E,rb,F,rc,by rw [show ([l]:Tbl).getD 0 []=l from rfl,H];rfl,h⟩⟩
theorem FCells.kept {W W':World} {F:Option Addr} {b E:Nat} {l:List FT} (h:FCells W F b E l) (H:∀a s,W.cell? a=some (.string s)->W'.cell? a=some (.string s)):FCells W' F b E l :=
 ⟨h.addr,fun k G=>⟨H _ _ (h.cell k G).1,H _ _ (h.cell k G).2⟩⟩
theorem RVals.kept {W W':World} {E:List Value} {t:Tbl} (h:RVals W E t) (I:∀a s,W.cell? a=some (.string s)->W'.cell? a=some (.string s)):RVals W' E t :=
 ⟨h.1,fun k G=>by
  obtain⟨a,b,o,c,F,H⟩:=h.2 k G;exact⟨a,b,o,c,F,H.kept I⟩⟩
theorem qkL {W:World} {p:Addr} {v u:Value} (E:W.cell? p=some v) (F:∀s,v≠.string s):∀a s,W.cell? a=some (.string s)->(W.setCell p u).cell? a=some (.string s):=fun a s h=>by
 have hne:p≠a:=by rintro rfl;rw [E] at h;exact F s (qag h)
 rw [World.cell?_setCell_other (h:=hne)];exact h
def GivesL (H:FuncId) (E:Array Value) (w:World) (n:Nat) (P:Nat->List FT->Prop) (F:Nat->Int->Prop):Prop :=
 ∀i,i<n->∀W,Below w.heap.size w W->Calls prog H (#[.int .i64 (i:Int)]++E) W fun e G=>Below W.heap.size W G/\((∃(l:List FT) (a:Option Addr) (g m c:Nat),e=.returned (.slice a m c)/\l.length=m/\FCells G a g 0 l/\P i l)\/∃c,e=thrown c/\F i c)
def RowsTo (W:World) (g n:Nat) (P:Nat->List FT->Prop) (i:Nat) (e:TypeId):Prop:=∃(E:List Value) (t:Tbl),E.length=i/\VRow W g n (.slice none 0 0) e E/\RVals W E t/\∀j,j<i->P j (t.getD j [])
theorem qjF (fc:FuncId) (E:Array Value) (n:Nat) (hn:n<=1000) (P:Nat->List FT->Prop) (F:Nat->Int->Prop) (w:World) (af:∀a W,(callFunc fc (#[a]++E)).run prog W=.ok (.enter fc (#[a]++E)) W) (hf:GivesL fc E w n P F) :
  Calls prog 65 #[.int .i64 (n:Int),.func (.func fc) #[] E] w fun e w'=>Below w.heap.size w w' /\
   ((∃(t:Tbl) (g:Nat),t.length=n/\(∀i,i<n->P i (t.getD i []))/\e=.returned (.slice (some ⟨g,0,none⟩) n n)/\TCells w' (some ⟨g,0,none⟩) g 0 t/\w.heap.size<=g)\/∃i c,i<n/\e=thrown c/\F i c):=by
 have ae:=run_make_row' (P:=prog) 131 22 (.slice none 0 0) 24 underlying131 infoFs rfl .i64 .i64 n (by omega) (by omega) w;obtain⟨W5,I⟩:=qY (w.alloc (.cells (madeCells #[.slice none 0 0] n) 22));rw [<-I] at ae;have Z:VRow W5 w.heap.size n (.slice none 0 0) 22 []:=I▸VRow.made' w n _ _;have Y:Below w.heap.size w W5:=I▸qB.alloc qN _;have H0:=qH (qA Z (qA Y hf));clear Z Y hf I;go_enter func65,ntmps65;go_wp2_with fail
 go_loopw [10] (fun x10 W=>∃i:Nat,x10=.int .i64 i/\i<=n/\Hu (RowsTo W w.heap.size n P i 22/\Below w.heap.size w W)) (fun x10 _=>n-(intOf x10).toNat)
 case atStart=>exact⟨0,rfl,qaj _,qH ⟨⟨[],[],rfl,H0.o.1,⟨rfl,fun k hk=>absurd hk (Nat.not_lt_zero _)⟩,fun j hj=>absurd hj (by omega)⟩,H0.o.2.1⟩⟩
 case round =>
  obtain⟨i,rfl,ah,hI⟩:=hrel;obtain⟨⟨vs,t,hl,hV,V,hP⟩,hB⟩:=hI.o
  by_cases hi:i<n
  ·subst hl;have ag:(vs.length:Int)<n:=by omega
   have HC:=qH (H0.o.2.2 vs.length hi _ hB);have J:=qH (qA hP (qA hV (qA V hB)));clear hI hP hV V hB;go_wp2_with fail;refine HC.o.mono ?_;rintro e w2 ⟨G,h⟩;rcases h with ⟨l,a,g,m,c,rfl,hm,U,hp⟩ | ⟨c,rfl,U⟩
   ·have O:=J.o.2.1.below G;obtain⟨q0,qf⟩:=O.at hi;have ai:=qf vs.length;have H:=qH (qA (O.set hi (.slice a m c)) (qA ((J.o.2.2.2.trans (G.mono J.o.2.2.2.size)).setCell (p:=⟨w.heap.size,vs.length,none⟩) qN (.slice a m c)) (qA (((J.o.2.2.1.below G).append (RVals.one hm U (rc:=c))).kept (qkL (u:=.slice a m c) q0 (fun s h=>by cases h))) hp)));clear O qf G hp U;go_wp2;go_roundw
    case rel =>
     refine⟨vs.length+1,by go_num,hi,qH ⟨⟨_,_,by simp,H.o.1,H.o.2.2.1,fun j hj=>?_⟩,H.o.2.1⟩⟩;have aa:=J.o.2.2.1.1;rcases qaB j t.length with hj2 | hj2
     ·rw [qaa,qaz hj2,<-qaa];exact J.o.1 j (by omega)
     ·have:j=t.length:=by omega
      subst this;rw [qaa,qau qN,qaM,<-aa];exact H.o.2.2.2
    case measure=>simp [intOf];omega
   ·have H:=qH (qA (J.o.2.2.2.trans (G.mono J.o.2.2.2.size)) U);clear G U;unfold thrown;go_wp2_with fail;exact⟨rfl,H.o.1,qam ⟨_,c,hi,rfl,H.o.2⟩⟩
  ·obtain rfl:i=n:=by omega
   have H:=qH (qA (V.1.symm.trans hl) (qA hP (qA (V.tcells (hV.cells hl)) hB)));clear hI hl hP hV V hB;go_wp2;go_ret;obtain⟨h1,h2,h3,h4⟩:=H.o;exact⟨h4,qax ⟨t,_,h1,h2,rfl,h3,qae _⟩⟩
def FOwn (W:World) (B:Nat) (v:Value) (l:List FT):Prop:=Rws W B 27 2 v l.length (fflat l)
theorem FOwn.below {W W':World} {B:Nat} {v:Value} {l:List FT} (h:FOwn W B v l) (E:Below W.heap.size W W'):FOwn W' B v l:=Rws.below h E
theorem FOwn.cells {W:World} {B:Nat} {v:Value} {l:List FT} {n:Nat} (h:FOwn W B v l) (I:l.length=n):∃(E:Option Addr) (g cap:Nat),v=.slice E n cap/\FCells W E g 0 l/\n<=cap:=by
 obtain⟨E,g,cap,F,H,G⟩:=qdI h rfl;rw [I] at F G;exact⟨E,g,cap,F,H,G⟩
def ways (a b c:Value):Lit->Value
 | .int .i64 1=>a
 | .int .i64 2=>b
 | .int .i64 3=>c
 | _=>.nilFunc
theorem ways_a (a:Value):∀x,x≠Lit.int .i64 1->ways a .nilFunc .nilFunc x=.nilFunc:=fun x h=>by
 unfold ways;split
 ·exact absurd rfl h
 ·rfl
 ·rfl
 ·rfl
theorem ways_b (a b:Value):∀x,x≠Lit.int .i64 2->ways a b .nilFunc x=ways a .nilFunc .nilFunc x:=fun x h=>by
 unfold ways;split
 ·rfl
 ·exact absurd rfl h
 ·rfl
 ·rfl
theorem ways_c (a b c:Value):∀x,x≠Lit.int .i64 3->ways a b c x=ways a b .nilFunc x:=fun x h=>by
 unfold ways;split
 ·rfl
 ·rfl
 ·exact absurd rfl h
 ·rfl
theorem qji (kind:Int) (k:Nat) (hk:qdi kind k) (ao:Option Addr) (b aU n c:Nat) (d:List Int) (w:World) (hn:d.length=n) (h1:1<=n) (h4:n<=4) (h3:k=3->n<=3) (hN:NCells w ao b aU d) (hV:qeV d) (hT:HasT w) :
  Calls prog 67 #[.int .i64 kind,.slice ao n c] w fun e w'=>∃v,e=.returned v/\FOwn w' w.heap.size v ((termL k d).map ftxt)/\Below w.heap.size w w':=by
 have aQ:=hN.addr (by omega);subst aQ;have Y:=qH (qA hk (qA hn (qA h3 (qA hN (qA hV hT)))));have aR:=qhX n (by omega);have aD:=@run_makeMap prog;have aC:=@hmf_ prog;obtain⟨W1,af⟩:∃W,W=(w.alloc (.cells (madeCells #[.string ⟨#[]⟩,.string ⟨#[]⟩] (n*2)) 27)).alloc (.cells #[.slice (some ⟨w.heap.size,0,none⟩) n n] 22):=⟨_,rfl⟩;have E:Below w.heap.size w W1:=af▸qbY (qbY qB qN) qN;have aJ:FRow W1 w.heap.size n []:=by rw [af];exact (FRow.made w n).below (qbY qB qN)
 have aK:W1.heap[w.heap.size+1]? = some (.cells #[.slice (some ⟨w.heap.size,0,none⟩) n n] 22 (0,0)):=by rw [af];exact qM _ _ _ (by simp)
 have K1:=qH (qA E (qA aJ aK));clear hk hn hN hV hT E aJ aK h3;go_enter func67,ntmps67;go_wp2_with fail;rw [<-af]
 go_loopw [16] (fun x16 W=>∃k:Nat,x16=.int .i64 k/\k<=n/\Hu (Below w.heap.size w W/\FRow W w.heap.size n (told k (dq d))/\W.heap[w.heap.size+1]? = some (.cells #[.slice (some ⟨w.heap.size,0,none⟩) n n] 22 (0,0)))) (fun x16 _=>n-(intOf x16).toNat)
 case atStart=>exact⟨0,rfl,qaj _,K1⟩
 case round =>
  clear aR af K1;have aN:=qH aD;have aM:=qH aC;clear aD aC;obtain⟨j,rfl,hj,K⟩:=hrel
  by_cases aB:j<n
  ·have bg:(j:Int)<n:=by omega
   have d0:=(Y.o.2.2.2.1.below K.o.1).cell j (by have:=Y.o.2.1;omega);obtain⟨x,hx⟩:=qX (d.getD j 0);rw [hx] at d0;have aT:=Y.o.2.2.2.2.1.at j;rw [hx] at aT;obtain⟨t1,t2,ht⟩:=qcF (dq d j);have aa:=fun (W:World) (h:Below w.heap.size w W)=>of_int x 10000 (by decide) (by omega) (by decide) W (Y.o.2.2.2.2.2.below h)
   have aH:(x:Rat) / ((10000:Int):Rat)=dq d j:=by unfold dq;rw [hx];rfl
   rw [aH,ht] at aa;have HO:=qH aa;have aG:=qH ht;have bi:=(qG K.o.2.2).1;have q5:=rowG (g0:=w.heap.size) K.o.2.2 0;have au:(told j (dq d)).length=j:=qb1 _ _;have HL:=qH au;clear hx ht aH aa au;go_wp2_with fail;refine wp_region_held_drew (S:=fun W=>wr.grownBy W (some w.heap.size)) (by kernel_rfl) (keepB qB.drew) (fun hS0=>?_);refine hT 0 (h:=hT 1 (h:=hT 2 (h:=?_)));refine hC 3 (HO.o _ (K.o.1.drew)) (h:=?_);rintro e w1 ⟨rfl,E⟩;have az:=qks (g:=w.heap.size) E;refine⟨_,rfl,az,hN (h:=?_)⟩;refine hT 4 (h:=hT 5 (h:=?_));refine hC 6 (qdF t1 t2 w1) (h:=?_);rintro e I ⟨rfl,J⟩;have aA:=qco az J;have V:Below wr.heap.size wr I:=(qcg E).trans (J.mono (qcg E).size);have K2:=qH (qA (K.o.1.trans (V.mono K.o.1.size)) (qA (K.o.2.1.below V) (zkeep V _ _ K.o.2.2)));refine⟨_,rfl,aA,hN (h:=?_)⟩;obtain⟨⟨z0,z1⟩,zf⟩:=K2.o.2.1.at (by rw [HL.o];exact aB);rw [HL.o] at z0 z1;have aV:=zf (j*2);have aW:=zf (j*2+1);have ag:=K2.o.2.1.set (by rw [HL.o];exact aB) (t1,t2);refine hT 7 (h:=?_);refine hSg 8 (h:=⟨qbX (qbX aA (qb0 _ _ _ _)) (qb0 _ _ _ _),?_⟩);refine wpAnyH_done (by kernel_rfl) ?_ _;rw [HL.o,show (t1,t2)=ftxt (dq d j) from aG.o.symm,<-qeC] at ag;have K3:Hu (Below w.heap.size w ((I.setCell ⟨w.heap.size,j*2,none⟩ (.string t1)).setCell ⟨w.heap.size,j*2+1,none⟩ (.string t2))/\FRow ((I.setCell ⟨w.heap.size,j*2,none⟩ (.string t1)).setCell ⟨w.heap.size,j*2+1,none⟩ (.string t2)) w.heap.size n (told (j+1) (dq d))/\((I.setCell ⟨w.heap.size,j*2,none⟩ (.string t1)).setCell ⟨w.heap.size,j*2+1,none⟩ (.string t2)).heap[w.heap.size+1]? = some (.cells #[.slice (some ⟨w.heap.size,0,none⟩) n n] 22 (0,0))) :=
    qH ⟨(K2.o.1.setCell (by exact qae _) _).setCell (by exact qae _) _,by have:=ag;rw [aG.o] at this;exact this,(qW _ _ _ _ (show w.heap.size+1≠w.heap.size by omega)).trans ((qW _ _ _ _ (show w.heap.size+1≠w.heap.size by omega)).trans K2.o.2.2)⟩
   obtain⟨W3,ai⟩:∃W,W=(I.setCell ⟨w.heap.size,j*2,none⟩ (.string t1)).setCell ⟨w.heap.size,j*2+1,none⟩ (.string t2):=⟨_,rfl⟩;rw [<-ai] at K3 ⊢;clear ai ag z0 z1 zf aV aW V aA az J E q5 d0;go_wp2;go_roundw
   case rel=>exact⟨j+1,by go_num,aB,K3⟩
   case measure=>simp [intOf];omega
  ·obtain rfl:j=n:=by omega
   have hP:HasT wr:=Y.o.2.2.2.2.2.below K.o.1;obtain⟨t1,t2,ht⟩:=qcF 1;have aa:=fun (W:World) (h:Below w.heap.size w W)=>of_int 1 1 (by decide) (by decide) (by decide) W (Y.o.2.2.2.2.2.below h)
   rw [show ((1:Int):Rat) / ((1:Int):Rat)=1 by decide +kernel,ht] at aa;have HO:=qH aa;have Ht:=qH ht;clear hP ht aa;go_wp2_with fail;refine (HO.o wr K.o.1).mono ?_;rintro e w1 ⟨rfl,E⟩;go_wp2_with fail;refine (qdF t1 t2 w1).mono ?_;rintro e I ⟨rfl,J⟩;obtain⟨W3,ai,N3⟩:=nw2 I #[.string t1,.string t2] 27 #[.string t1,.string t2] 27;have V:Below wr.heap.size wr W3:=E.trans ((J.trans (N3.o.1.mono J.size)).mono E.size);have K3:=qH (qA (K.o.1.trans (V.mono K.o.1.size)) (qA (K.o.2.1.below V) (qA (zkeep V _ _ K.o.2.2) N3.o.2)));have aZ:w.heap.size<=I.heap.size:=qal K.o.1.size (qal E.size J.size);have aO:=qC W3 _ 0 _ _ _ K3.o.2.2.1;have aX:=qC I _ 0 _ _ _ (zkeep J _ _ (zkeep E _ _ K.o.2.2));have bn:w.heap.size+1<I.heap.size:=(qG (zkeep J _ _ (zkeep E _ _ K.o.2.2))).1;have aY:w.heap.size+1<I.heap.size+1:=by omega
   obtain⟨v',F,hr,aF,O⟩:=qgX (m:=j) (c:=j) 22 (qnw K3.o.2.2.2.2 (B:=w.heap.size) (by omega)) K3.o.1.size (K3.o.2.1.cells (qb1 _ _)) (qb1 _ _) (by omega) (by omega);have bf:W3.heap.size<=F.heap.size:=by rcases O with ⟨_,h⟩ | ⟨_,h⟩ <;> exact h.size
   obtain⟨h5,_⟩:=qdg K3.o.2.2.1 (by intro e;have:I.heap.size+1=w.heap.size+1:=qag e;omega) O;obtain⟨h8,_⟩:=qdg K3.o.2.2.2.1 (by intro e;have:I.heap.size+1=I.heap.size:=qag e;omega) O;obtain⟨hg,aI⟩:=qdg K3.o.2.1.1 (by intro e;have:I.heap.size+1=w.heap.size:=qag e;omega) O;have ax:=qdV (B:=w.heap.size) K3.o.1 (fun k hk=>by have:I.heap.size+1=k:=qag hk;omega) K3.o.1.size O;have aL:FOwn F w.heap.size v' ((lin d).map ftxt):=by
    unfold FOwn;rw [qaD,qmP,Y.o.2.1,lin_told,Y.o.2.1,Ht.o,show j+1=1+j by omega];exact aF
   have K4:=qH (qA ax (qA (show FRow F w.heap.size j (told j (dq d)) from ⟨hg,K3.o.2.1.2⟩) (qA h5 (qA h8 (qA aL aI)))));obtain⟨av,cv,rfl⟩:=aF.shape;clear E J V N3 aF O h5 h8 hg aI ax aL aO;rw [ai] at hr;have aD:=aN.o;have aC:=aM.o;have bv:w.heap.size+1<F.heap.size:=(qG K4.o.2.2.1).1;have bz:I.heap.size<F.heap.size:=(qG K4.o.2.2.2.1).1;obtain⟨W5,ae⟩:∃W,W=(F.alloc (.cells #[.slice av (1+j) cv] 22)).alloc (.map #[] 0):=⟨_,rfl⟩;have H:Below F.heap.size F W5:=ae▸(qB.alloc qN _).alloc (by simp) _;have h9:W5.heap[F.heap.size]? = some (.cells #[.slice av (1+j) cv] 22 (0,0)):=by rw [ae,qL _ _ _ (by simp only [qab];omega)];exact qM _ _ _ rfl
   have ah:MapAt W5 prog 3 (F.heap.size+1) 0 (.nilFunc) (fun _=>.nilFunc):=by
    have:=MapAt.made (F.alloc (.cells #[.slice av (1+j) cv] 22)) prog 3 .nilFunc;rw [qab] at this;rw [ae];exact this
   have aj:Maps.Keyed prog 3:=Maps.int_keyed underlying3;have ak:Tryz.prog.underlying 183=some (.map 3 157):=underlying183;obtain⟨W6,aS,f6,g6⟩:=ah.store aj ak (by decide) (Maps.keyOf_int_mk (q:=.i64) (a:=1) underlying3 (by decide)) (.func (.func 112) #[] #[.pointer (some ⟨F.heap.size,0,none⟩)]);have m6:=f6 (ways (.func (.func 112) #[] #[.pointer (some ⟨F.heap.size,0,none⟩)]) .nilFunc .nilFunc) rfl (ways_a _);obtain⟨W7,bq,f7,g7⟩:=m6.store aj ak (by decide) (Maps.keyOf_int_mk (q:=.i64) (a:=2) underlying3 (by decide)) (.func (.func 113) #[] #[.pointer (some ⟨w.heap.size+1,0,none⟩),.pointer (some ⟨F.heap.size,0,none⟩)]);have m7:=f7 (ways (.func (.func 112) #[] #[.pointer (some ⟨F.heap.size,0,none⟩)]) (.func (.func 113) #[] #[.pointer (some ⟨w.heap.size+1,0,none⟩),.pointer (some ⟨F.heap.size,0,none⟩)]) .nilFunc) rfl (ways_b _ _);obtain⟨U,bu,f8,g8⟩:=m7.store aj ak (by decide) (Maps.keyOf_int_mk (q:=.i64) (a:=3) underlying3 (by decide)) (.func (.func 115) #[] #[.pointer (some ⟨I.heap.size,0,none⟩),.pointer (some ⟨w.heap.size+1,0,none⟩)]);have m8:=f8 (ways (.func (.func 112) #[] #[.pointer (some ⟨F.heap.size,0,none⟩)]) (.func (.func 113) #[] #[.pointer (some ⟨w.heap.size+1,0,none⟩),.pointer (some ⟨F.heap.size,0,none⟩)]) (.func (.func 115) #[] #[.pointer (some ⟨I.heap.size,0,none⟩),.pointer (some ⟨w.heap.size+1,0,none⟩)])) rfl (ways_c _ _ _);have hz:(zeroValue 157).run prog U=.ok .nilFunc U:=by kernel_rfl
   have look:=fun (kl:Int) (h:(Lit.int .i64 kl).wf=true)=>m8.look aj ak hz (Maps.keyOf_int_mk (q:=.i64) (a:=kl) underlying3 h)
   have G:W5.grownBy U (some (F.heap.size+1)):=qbX (qbX g6 g7) g8;have Z:Hu (Below w.heap.size w U/\FRow U w.heap.size j (told j (dq d))/\U.heap[w.heap.size+1]? = some (.cells #[.slice (some ⟨w.heap.size,0,none⟩) j j] 22 (0,0))/\U.heap[I.heap.size]? = some (.cells #[.string t1,.string t2] 27 (0,0))/\FOwn U w.heap.size (.slice av (1+j) cv) ((lin d).map ftxt)/\U.heap[F.heap.size]? = some (.cells #[.slice av (1+j) cv] 22 (0,0))):=by
    have row:∀g o,W5.heap[g]? = some o->g≠F.heap.size+1->U.heap[g]? = some o:=fun g o h hne=>(G.block g (qG h).1 (fun e=>hne (qag e))).trans h
    have aP:=K4.o.1.trans (H.mono K4.o.1.size);refine qH ⟨qec aP G (by omega),⟨row _ _ (zkeep H _ _ K4.o.2.1.1) (by omega),K4.o.2.1.2⟩,row _ _ (zkeep H _ _ K4.o.2.2.1) (by omega),row _ _ (zkeep H _ _ K4.o.2.2.2.1) (by omega),(K4.o.2.2.2.2.1.below H).kept G (qam fun e=>?_),row _ _ h9 (by omega)⟩;have:=(K4.o.2.2.2.2.1.lt _ e).2;omega
   have Hn:=qH K4.o.2.2.2.2.2;rw [ae] at aS;rcases qhr Y.o.1 with ⟨rfl,rfl⟩ | ⟨rfl,rfl⟩ | ⟨rfl,rfl⟩
   ·have hl:(Instr.lookup 183 (.map (some (F.heap.size+1))) (.int .i64 1) false).run prog U=.ok (.func (.func 112) #[] #[.pointer (some ⟨F.heap.size,0,none⟩)]) U:=look 1 (by decide);have hc:=qlL F.heap.size _ U Z.o.2.2.2.2.2 ⟨_,_,_,rfl⟩;have HC:=qH hc;clear hc look m8 m7 m6 f6 f7 f8 g6 g7 g8 ah h9 H ae G hz
    go_wp2_with ((with_reducible refine qea rfl (.tmp 35) (.tmp 36) 22 rfl ?_ ?_ hr ?_);(next=>rfl);(next=>rfl))
    refine HC.o.mono ?_;rintro e w9 ⟨rfl,hw⟩;have hw:=hw.symm;subst hw;have HR:=qH (qA Z.o.2.2.2.2.1 Z.o.1);go_wp2;go_ret;exact⟨_,rfl,HR.o.1,HR.o.2⟩
   ·have hl:(Instr.lookup 183 (.map (some (F.heap.size+1))) (.int .i64 2) false).run prog U=.ok (.func (.func 113) #[] #[.pointer (some ⟨w.heap.size+1,0,none⟩),.pointer (some ⟨F.heap.size,0,none⟩)]) U:=look 2 (by decide);have hc:=qlM w.heap.size (w.heap.size+1) F.heap.size w.heap.size j j d (.slice av (1+j) cv) U Z.o.1.size (by omega) (by omega) Y.o.2.1 (by omega) Y.o.2.2.2.2.1 (fun W h=>Y.o.2.2.2.2.2.below (Z.o.1.trans h)) ⟨Below.refl _ _,Z.o.2.2.1,Z.o.2.2.2.2.2,Z.o.2.1,by have h:=Z.o.2.2.2.2.1;unfold FOwn at h;rw [qaD,qmP,Y.o.2.1] at h;rw [show sqs d 0=[] from rfl,qbw,show 1+j=j+1 by omega];rw [show 1+j=j+1 by omega] at h;exact h,Hn.o⟩;have HC:=qH hc;clear hc look m8 m7 m6 f6 f7 f8 g6 g7 g8 ah h9 H ae G hz
    go_wp2_with ((with_reducible refine qea rfl (.tmp 35) (.tmp 36) 22 rfl ?_ ?_ hr ?_);(next=>rfl);(next=>rfl))
    refine HC.o.mono ?_;rintro e w9 ⟨y,rfl,hy,hb⟩;have HR:Hu (FOwn w9 w.heap.size y ((termL 2 d).map ftxt)/\Below w.heap.size w w9):=qH ⟨by
     unfold FOwn;have hl:((termL 2 d).map ftxt).length=j+1+j:=by
      have h:=hy.1;rw [qcv] at h;omega
     rw [hl];exact hy,Z.o.1.trans hb⟩
    obtain⟨ay,cy,rfl⟩:=hy.shape;clear hy hb;go_wp2;go_ret;exact⟨_,rfl,HR.o.1,HR.o.2⟩
   ·have hl:(Instr.lookup 183 (.map (some (F.heap.size+1))) (.int .i64 3) false).run prog U=.ok (.func (.func 115) #[] #[.pointer (some ⟨I.heap.size,0,none⟩),.pointer (some ⟨w.heap.size+1,0,none⟩)]) U:=look 3 (by decide);have hc:=qlN w.heap.size (w.heap.size+1) I.heap.size w.heap.size j j d U Z.o.1.size Y.o.2.1 (Y.o.2.2.1 rfl) Y.o.2.2.2.2.1 (fun W h=>Y.o.2.2.2.2.2.below (Z.o.1.trans h)) Z.o.2.2.1 (by rw [Ht.o];exact Z.o.2.2.2.1) Z.o.2.1;have HC:=qH hc;clear hc look m8 m7 m6 f6 f7 f8 g6 g7 g8 ah h9 H ae G hz
    go_wp2_with ((with_reducible refine qea rfl (.tmp 35) (.tmp 36) 22 rfl ?_ ?_ hr ?_);(next=>rfl);(next=>rfl))
    refine HC.o.mono ?_;rintro e w9 ⟨y,rfl,hy,hb⟩;have HR:Hu (FOwn w9 w.heap.size y ((termL 3 d).map ftxt)/\Below w.heap.size w w9):=qH ⟨by
     unfold FOwn;have hl:((termL 3 d).map ftxt).length=2 ^ j:=by
      have h:=hy.1;rw [qcv] at h;omega
     rw [hl];exact hy,Z.o.1.trans hb⟩
    obtain⟨ay,cy,rfl⟩:=hy.shape;clear hy hb;go_wp2;go_ret;exact⟨_,rfl,HR.o.1,HR.o.2⟩
theorem qmN (k E R pb ib b O c:Nat) (ao:Option Addr) (l:List Pt) (ty aj:TypeId) (w:World) (hR:l.length=R) (hk:k<R) (ak:R<=40) (af:E<3) (J:w.heap[pb]? = some (.cells #[.slice ao R c] ty (0,0))) (I:w.heap[ib]? = some (.cells #[.int .i64 (E:Int)] aj (0,0)))
  (hP:PCells w ao b O l) (hl:-9223372036854775808<=(l.getD k pt0).lab E/\(l.getD k pt0).lab E<=9223372036854775807) (hT:HasT w) :
  Calls prog 191 #[.int .i64 (k:Int),.pointer (some ⟨pb,0,none⟩),.pointer (some ⟨ib,0,none⟩)] w fun e w'=>Below w.heap.size w w'/\e=.returned (.agg #[.string (ftxt (labq l E k)).1,.string (ftxt (labq l E k)).2]):=by
 have ai:=hP.addr (by omega);subst ai;obtain⟨t1,t2,ht⟩:=qcF (labq l E k);rw [ht];obtain⟨U,Z,F⟩:=nw1 w #[.string ⟨#[]⟩,.string ⟨#[]⟩] 27;have d0:U.cell? ⟨b,O+k*5+2+E,none⟩=some (.int .i64 ((l.getD k pt0).lab E)):=by
  obtain⟨_,_,d2,d3,d4⟩:=(hP.below F.o.1).cell k (by omega);rcases (show E=0\/E=1\/E=2 by omega) with rfl | rfl | rfl
  ·exact d2
  ·exact d3
  ·exact d4
 have aB:=qac _ _ d0;have au:b<w.heap.size:=by
  obtain⟨h1,_⟩:=hP.cell k (by omega);exact qac _ _ h1
 have az:=(qG J).1;have aA:=(qG I).1;have q1:=rowG (g0:=w.heap.size) (zkeep F.o.1 _ _ J) 0;have q2:=rowG (g0:=w.heap.size) (zkeep F.o.1 _ _ I) 0;obtain⟨x,hx⟩:=qX ((l.getD k pt0).lab E);have G:=of_int x 100 (by decide) (by rw [<-hx];exact hl) (by decide) U.drew (((hT.below F.o.1)).below qB.drew);have ah:(x:Rat) / ((100:Int):Rat)=labq l E k:=by unfold labq;rw [hx];rfl
 rw [ah,ht] at G;rw [hx] at d0;have q3:∀W,U.grownBy W (some w.heap.size)->W.cell? ⟨b,O+k*5+2+E,none⟩=some (.int .i64 x):=fun W hg=>hg.cell d0 (fun e=>by have:=qag e;simp at this;omega)
 have HO:=qH G;have ay:(k:Int)<R:=by omega
 have ax:(E:Int)<3:=by omega
 have av:E<3:=af;clear G ah hx hP J I hT ht hl;go_enter func191,ntmps191;go_upto_region 1 with fail;rw [<-Z];clear Z;refine wp_region_held_drew (S:=fun W=>U.grownBy W (some w.heap.size)) (by kernel_rfl) (keepB qB.drew) (fun hS0=>?_);refine hT 0 (h:=?_);refine hT 1 (h:=?_);refine hT 2 (h:=?_);refine hT 3 (h:=?_);refine hT 4 (h:=?_);refine hT 5 (h:=?_);refine hT 6 (h:=?_);refine hC 7 HO.o (h:=?_);rintro e w1 ⟨rfl,H⟩;have V:=qks (g:=w.heap.size) H;refine⟨_,rfl,V,hN (h:=?_)⟩;refine hT 8 (h:=?_);refine hT 9 (h:=?_);refine hC 10 (qdF t1 t2 w1) (h:=?_);rintro e w2 ⟨rfl,aa⟩;have Y:=qco V aa;have ae:Below U.heap.size U w2:=(qcg H).trans (aa.mono (qcg H).size);have ag:=zkeep ae _ _ F.o.2;refine⟨_,rfl,Y,hN (h:=?_)⟩;have HE:=qH (qA (qT _ _ _ #[.string t1,.string t2] _ _ ag) (qS ((F.o.1).trans (ae.mono F.o.1.size)) qN #[.string t1,.string t2]));refine hSt 11 2 ag (h:=⟨qbX Y ?_,?_⟩)
 ·exact⟨rfl,rfl,rfl,by simp [World.setRow],fun k hk hne=>setRow_other _ _ _ _ (fun e=>hne (by rw [e]))⟩
 go_wp2_with fail;exact qR (v:=.agg #[.string t1,.string t2]) (rA_ rfl (w.heap.size) HE.o.1 underlying27 2) rfl ⟨HE.o.2,rfl⟩
theorem enters {P:Program} {f:FuncId} {E:Func} (G:P.funcs[f]? = some E) (H:(E.name == "runtime.NumGoroutine")=false) (F:E.body.isNone=false) (args:Array Value) (W:World):(callFunc f args).run P W=.ok (.enter f args) W:=by
 simp only [callFunc,Sem.run_bind,run_program,Result.andThen,G,H,F]
 rfl
theorem qic {l:List FT} {n:Nat} {x:Nat->Rat} (I:l.length=n) (h:∀i,i<n->l.getD i fd0=ftxt (x i)):l=told n x:=by
 refine List.ext_getElem (by rw [qb1,I]) fun i G H=>?_
 have E:=h i (by omega);have F:=qdr (x:=x) (show i<n by omega);rw [qaa,qad G] at E;rw [qaa,qad H] at F;exact E.trans F.symm
theorem labs_any (E R b J c:Nat) (O:Option Addr) (l:List Pt) (w:World) (hR:l.length=R) (Y:R<=40) (I:E<3) (hP:PCells w O b J l) (hl:∀k,k<R->-9223372036854775808<=(l.getD k pt0).lab E/\(l.getD k pt0).lab E<=9223372036854775807) (hT:HasT w) :
  Calls prog 118 #[.slice O R c,.int .i64 (E:Int)] w fun e V=>Below w.heap.size w V/\∃g,e=.returned (.slice (some ⟨g,0,none⟩) R R)/\FCells V (some ⟨g,0,none⟩) g 0 (told R (labq l E)):=by
 obtain⟨W2,H,F⟩:=nw2 w #[.slice O R c] 138 #[.int .i64 (E:Int)] 3;have aa:=@hmf_ prog;have HG:=qH (qei 191 #[.pointer (some ⟨w.heap.size,0,none⟩),.pointer (some ⟨w.heap.size+1,0,none⟩)] R (by omega) (fun i x=>x=ftxt (labq l E i)) (fun _ _=>False) W2 (fun a W=>enters func191 (by kernel_rfl) (by kernel_rfl) _ W)
  (fun i hi W G=>(qmN i E R w.heap.size (w.heap.size+1) b J c O l _ _ W hR hi Y I (zkeep G _ _ F.o.2.1) (zkeep G _ _ F.o.2.2) (hP.below (F.o.1.trans (G.mono F.o.1.size))) (hl i hi) (hT.below (F.o.1.trans (G.mono F.o.1.size)))).mono fun e V h=>⟨h.1,qax ⟨_,_,h.2,rfl⟩⟩))
 clear hP hl hT;go_enter func118,ntmps118;go_upto_region 1 with fail;rw [<-H];clear H;have c0:=qC W2 _ 0 _ _ _ F.o.2.1;go_wp2_with fail;refine HG.o.mono ?_;rintro e V ⟨G,h⟩;rcases h with ⟨l',g,Z,hv,rfl,U,_⟩ | ⟨_,_,_,_,U⟩
 ·have HE:=qH (qA (F.o.1.trans (G.mono F.o.1.size)) (qic Z hv▸U));clear G hv U;go_wp2;go_ret;exact⟨HE.o.1,_,rfl,HE.o.2⟩
 ·exact U.elim
theorem qmj (i R k pb kb b V c:Nat) (kind:Int) (ao:Option Addr) (l:List Pt) (ty af:TypeId) (w:World) (hk:qdi kind k) (hR:l.length=R) (hi:i<R) (h3:¬(k=3/\chans l=4)) (F:PtsOk l) (I:w.heap[pb]? = some (.cells #[.slice ao R c] ty (0,0))) (G:w.heap[kb]? = some (.cells #[.int .i64 kind] af (0,0)))
  (hP:PCells w ao b V l) (hT:HasT w) :
  Calls prog 66 #[.int .i64 (i:Int),.pointer (some ⟨kb,0,none⟩),.pointer (some ⟨pb,0,none⟩)] w fun e w'=>Below w.heap.size w w'/\∃v,e=.returned v/\FOwn w' w.heap.size v (told (many k (chans l)) (tqf l k i)):=by
 have aa:=hP.addr (by omega);subst aa;obtain⟨_,⟨ra,rb,ro,rc,d1,hN⟩,_⟩:=hP.cell i (by omega);have E:=(F.rows i (by omega)).2;have O:=(F.rows i (by omega)).1;obtain⟨n,Y⟩:=qX (chans l);rw [Y] at E h3 ⊢;rw [E] at d1;have H:1<=n/\n<=4:=⟨Y▸F.n1,Y▸F.n4⟩;have HO:=qH (qji kind k hk ra rb ro n rc (l.getD i pt0).dev w.drew E H.1 H.2 (fun e=>by have:=H.2;omega) (hN.below qB.drew) O.vals (hT.below qB.drew));have U:(termL k (l.getD i pt0).dev).map ftxt=told (many k n) (tqf l k i):=by
  rw [<-E];exact (qhJ k (l.getD i pt0).dev).symm
 rw [U] at HO;have ah:=(qG I).1;have ai:=(qG G).1;have ae:=qac _ _ d1;have q1:=rowC (B:=w.heap.size) I 0;have q2:=rowC (B:=w.heap.size) G 0;have q3:∀W,Below w.heap.size w W->W.cell? ⟨b,V+i*5+1,none⟩=some (.slice ra n rc):=fun W J=>(J.cell ae).trans d1
 have ag:(i:Int)<R:=by omega
 clear hP I G hT hN O F Y U hk h3 E;go_enter func66,ntmps66;go_upto_region 1 with fail;refine wp_region_held_drew (S:=fun W=>Below w.heap.size w W) (by kernel_rfl) qB.drew (fun hS0=>?_);refine hT 0 (h:=?_);refine hT 1 (h:=?_);refine hT 2 (h:=?_);refine hT 3 (h:=?_);refine hT 4 (h:=?_);refine hT 5 (h:=?_);refine hC 6 HO.o (h:=?_);rintro e w1 ⟨v,rfl,hv,J⟩;have Z:=qH (qA (qcg J) hv);refine⟨_,rfl,qcg J,hN (h:=?_)⟩;refine hT 7 (hS:=Z.o.1) (h:=?_);refine wpAnyH_done (by kernel_rfl) ?_ _;clear hv J;go_wp2;go_ret;exact⟨Z.o.1,v,rfl,Z.o.2⟩
theorem qmk (i R wb b aa c:Nat) (ao:Option Addr) (E:List Int) (ty:TypeId) (w:World) (hR:E.length=R) (hi:i<R) (hr:-9223372036854775808<=E.getD i 0/\E.getD i 0<=9223372036854775807) (U:w.heap[wb]? = some (.cells #[.slice ao R c] ty (0,0)))
  (hN:NCells w ao b aa E) (hT:HasT w) :
  Calls prog 69 #[.int .i64 (i:Int),.pointer (some ⟨wb,0,none⟩)] w fun e w'=>Below w.heap.size w w'/\e=.returned (.agg #[.string (ftxt (wq E i)).1,.string (ftxt (wq E i)).2]):=by
 have Y:=hN.addr (by omega);subst Y;obtain⟨t1,t2,Z⟩:=qcF (wq E i);rw [Z];obtain⟨W1,H,G⟩:=nw1 w #[.string ⟨#[]⟩,.string ⟨#[]⟩] 27;have d0:=(hN.below G.o.1).cell i (by omega);have q1:=qC W1 _ 0 _ _ _ (zkeep G.o.1 _ _ U);obtain⟨x,hx⟩:=qX (E.getD i 0);have F:=of_int x 1 (by decide) (by rw [<-hx];exact hr) (by decide) W1 (hT.below G.o.1);have O:(x:Rat) / ((1:Int):Rat)=wq E i:=by unfold wq;rw [hx];rw [show ((1:Int):Rat)=1 from rfl,Rat.div_def,show (1:Rat)⁻¹=1 by decide +kernel,Rat.mul_one]
 rw [O,Z] at F;rw [hx] at d0;have HO:=qH F;have ae:(i:Int)<R:=by omega
 clear F O hx hN U hT Z hr;go_enter func69,ntmps69;go_upto_region 1 with fail;rw [<-H];clear H;go_wp2_with fail;refine HO.o.mono ?_;rintro e w1 ⟨rfl,I⟩;have K2:Kn (fun W=>Below w.heap.size w W/\W.heap[w.heap.size]? = some (.cells #[.string ⟨#[]⟩,.string ⟨#[]⟩] 27 (0,0))) w1:=G.below I;clear G I;go_wp2_with fail;refine (qdF t1 t2 w1).mono ?_;rintro e w2 ⟨rfl,J⟩;have V:=K2.below J;clear K2 J;have HE:=qH (qA (qT _ _ _ #[.string t1,.string t2] _ _ V.o.2) (qS V.o.1 qN #[.string t1,.string t2]));rename_i hK;dsimp only;refine hK _ _ ?_
 go_wp2_with ((with_reducible refine sR_ rfl 27 _ _ rfl (w.heap.size) #[.string t1,.string t2] V.o.2 2 ?_))
 exact qR (v:=.agg #[.string t1,.string t2]) (rA_ rfl (w.heap.size) HE.o.1 underlying27 2) rfl ⟨HE.o.2,rfl⟩
def RowAs (w:World) (R n:Nat) (f:Nat->Nat->Rat) (b v:Nat->Rat) (e:Ending) (E:World):Prop :=
 ((Sing n (normR R n f b v)/\e=thrown 7)\/(¬Sing n (normR R n f b v)/\∃x,qcO n (normR R n f b v) (fun r=>normR R n f b v r n) x /\
  ((qb3 n x/\∃g,e=.returned (.slice (some ⟨g,0,none⟩) n n)/\FCells E (some ⟨g,0,none⟩) g 0 (told n x))\/(¬qb3 n x/\e=thrown 6))))/\Below w.heap.size w E
theorem row_any (G R n b ai c g1 c1 g2 c2:Nat) (ao a1 a2:Option Addr) (l:List Pt) (f:Nat->Nat->Rat) (v:Nat->Rat) (w:World) (hR:l.length=R) (ak:1<=R) (Z:R<=40) (au:1<=n) (av:n<=10) (ag:G<3) (hP:PCells w ao b ai l) (hl:∀k,k<R->-9223372036854775808<=(l.getD k pt0).lab G/\(l.getD k pt0).lab G<=9223372036854775807)
  (hf:∀i,i<R->qb3 n (f i)) (hb:qb3 R (labq l G)) (hv:qb3 R v) (ah:∀i,i<R->0<=v i) (hC:TCells w a1 g1 0 (ttab R n f)) (hF:FCells w a2 g2 0 (told R v)) (hT:HasT w) :
  Calls prog 71 #[.agg #[.slice ao R c,.slice a1 R c1,.slice a2 R c2],.int .i64 (G:Int)] w fun e w'=>RowAs w R n f (labq l G) v e w':=by
 obtain⟨U,aa,F⟩:=nw1 w #[.slice ao R c,.slice a1 R c1,.slice a2 R c2] 140;have HX:=qH (qA (hC.below F.o.1) (qA (hF.below F.o.1) (hT.below F.o.1)));have HL:=qH (labs_any G R b ai c ao l U.drew hR Z ag ((hP.below F.o.1).below qB.drew) hl ((hT.below F.o.1).below qB.drew));have HM:=qH (qA hf (qA hb (qA hv ah)));have ax:=(qG F.o.2).1;have q0:=rowC (B:=U.heap.size) F.o.2 0;have q1:=rowC (B:=U.heap.size) F.o.2 1;have q2:=rowC (B:=U.heap.size) F.o.2 2;clear hP hl hT hf hb hv ah hC hF;go_enter func71,ntmps71;go_upto_region 1 with fail;rw [<-aa];clear aa;refine wp_region_held_drew (S:=fun W=>Below U.heap.size U W) (by kernel_rfl) qB.drew (fun hS0=>?_);refine hT 0 (h:=?_);refine hT 1 (h:=?_);refine hT 2 (h:=?_);refine hT 3 (h:=?_);refine hT 4 (h:=?_);refine hT 6 (h:=?_);refine hT 7 (h:=?_);refine hC 5 HL.o (h:=?_);rintro e w1 ⟨ae,g,rfl,V⟩;have HB:=qH (qcg ae);have H:=qH (qA HB.o V);refine⟨_,rfl,HB.o,hN (h:=?_)⟩;have aj:=qH (qmO (c:=c1) (c2:=R) (c3:=c2) ak Z au av HM.o.1 HM.o.2.1 HM.o.2.2.1 HM.o.2.2.2 (HX.o.1.below H.o.1) H.o.2 (HX.o.2.1.below H.o.1) (HX.o.2.2.below H.o.1));clear ae V;refine hC 8 aj.o (h:=?_);rintro e w2 ⟨h,af⟩;have E:=qH (H.o.1.trans (af.mono H.o.1.size));clear af;rcases h with ⟨O,rfl⟩ | ⟨O,x,hx,⟨I,g5,rfl,Y⟩ | ⟨I,rfl⟩⟩
 ·refine⟨_,rfl,E.o,hN (h:=?_)⟩;have J:=qH O;refine hT 9 (hS:=E.o) (h:=?_);refine hT 10 (hS:=E.o) (h:=?_);refine hCx 11 (qiT none 0 0 7 (by decide) w2) (h:=?_);rintro e w3 ⟨rfl,rfl⟩;refine qam ⟨_,rfl,?_⟩;clear O;go_wp2_with fail;exact⟨rfl,qax ⟨J.o,rfl⟩,F.o.1.trans (E.o.mono F.o.1.size)⟩
 ·refine⟨_,rfl,E.o,hN (h:=?_)⟩;have J:=qH (qA O (qA hx (qA I Y)));refine hT 9 (hS:=E.o) (h:=?_);refine hT 10 (hS:=E.o) (h:=?_);refine hC 11 (needL_ok _ n n w2) (h:=?_);rintro e w3 ⟨rfl,rfl⟩;refine⟨_,rfl,E.o,hN (h:=?_)⟩;refine hT 12 (hS:=E.o) (h:=?_);refine wpAnyH_done (by kernel_rfl) ?_ _;clear O hx I Y;go_wp2;go_ret;exact⟨qam ⟨J.o.1,x,J.o.2.1,qax ⟨J.o.2.2.1,g5,rfl,J.o.2.2.2⟩⟩,F.o.1.trans (E.o.mono F.o.1.size)⟩
 ·refine⟨_,rfl,E.o,hN (h:=?_)⟩;have J:=qH (qA O (qA hx I));refine hT 9 (hS:=E.o) (h:=?_);refine hT 10 (hS:=E.o) (h:=?_);refine hCx 11 (qiT none 0 0 6 (by decide) w2) (h:=?_);rintro e w3 ⟨rfl,rfl⟩;refine qam ⟨_,rfl,?_⟩;clear O hx I;go_wp2_with fail;exact⟨rfl,qam ⟨J.o.1,x,J.o.2.1,qam ⟨J.o.2.2,rfl⟩⟩,F.o.1.trans (E.o.mono F.o.1.size)⟩
theorem ttab_of {t:Tbl} {n m:Nat} {f:Nat->Nat->Rat} (I:t.length=n) (h:∀i,i<n->t.getD i []=told m (f i)):t=ttab n m f:=by
 refine List.ext_getElem (by rw [qcS,I]) fun i G H=>?_
 have E:=h i (by omega);have F:=qeD (m:=m) (f:=f) (show i<n by omega);rw [qaa,qad G] at E;rw [qaa,qad H] at F;exact E.trans F.symm
def SlT (n m:Nat) (f:Nat->Nat->Rat) (z:Value) (W:World):Prop:=∃g,z=.slice (some ⟨g,0,none⟩) n n/\TCells W (some ⟨g,0,none⟩) g 0 (ttab n m f)
def SlF (n:Nat) (f:Nat->Rat) (z:Value) (W:World):Prop:=∃g,z=.slice (some ⟨g,0,none⟩) n n/\FCells W (some ⟨g,0,none⟩) g 0 (told n f)
instance stays_slt {n m:Nat} {f:Nat->Nat->Rat} {z:Value}:Stays (SlT n m f z):=⟨fun⟨g,E,F⟩ hb=>⟨g,E,F.below hb⟩⟩
instance stays_slf {n:Nat} {f:Nat->Rat} {z:Value}:Stays (SlF n f z):=⟨fun⟨g,E,F⟩ hb=>⟨g,E,F.below hb⟩⟩
theorem qfM {W:World} {g:Nat} {F cs:Array Value} {t:TypeId} (hg:W.heap[g]? = some (.cells F t (0,0))) (H:∀x∈F.toList,x=.slice none 0 0) {a:Addr} {v:Value} (E:W.cell? a=some v) (G:v≠.slice none 0 0):(W.setRow g cs).cell? a=some v:=by
 have hne:a.block≠g:=by
  intro e;unfold World.cell? at E;rw [e,hg] at E;simp only at E;split at E
  ·cases E
  ·exact G (H v (by rw [<-Array.mem_def];exact Array.mem_of_getElem? E))
 exact (cell_setRow_other _ _ _ _ hne).trans E
theorem qel {W:World} {g:Nat} {F cs:Array Value} {t:TypeId} (hg:W.heap[g]? = some (.cells F t (0,0))) (G:∀b,.string b∉F.toList):∀a s,W.cell? a=some (.string s)->(W.setRow g cs).cell? a=some (.string s):=fun a s E=>by
 have hne:a.block≠g:=by
  intro e;unfold World.cell? at E;rw [e,hg] at E;simp only at E;split at E
  ·cases E
  ·exact G s (by rw [<-Array.mem_def];exact Array.mem_of_getElem? E)
 exact (cell_setRow_other _ _ _ _ hne).trans E
theorem SlF.keepZ {W:World} {g n:Nat} {E cs:Array Value} {t:TypeId} {f:Nat->Rat} {z:Value} (h:SlF n f z W) (hg:W.heap[g]? = some (.cells E t (0,0))) (I:∀x∈E.toList,x=.slice none 0 0):SlF n f z (W.setRow g cs):=by
 obtain⟨g1,F,G⟩:=h;exact⟨g1,F,G.kept fun a s H=>qfM hg I H (fun e=>by cases e)⟩
theorem SlT.keepZ {W:World} {g n m:Nat} {H cs:Array Value} {t:TypeId} {f:Nat->Nat->Rat} {z:Value} (h:SlT n m f z W) (V:1<=m) (hg:W.heap[g]? = some (.cells H t (0,0))) (G:∀x∈H.toList,x=.slice none 0 0):SlT n m f z (W.setRow g cs):=by
 obtain⟨g1,I,F⟩:=h;refine⟨g1,I,F.addr,fun k E=>?_⟩;obtain⟨ra,rb,ro,rc,J,O⟩:=F.row k E;refine⟨ra,rb,ro,rc,qfM hg G J (fun e=>?_),O.kept fun a s U=>qfM hg G U (fun e=>by cases e)⟩;rw [qcS] at E;have:=(Value.slice.inj e).2.1;rw [qeD E,qb1] at this;omega
theorem qnT (R k H F b G c:Nat) (kind:Int) (U:Option Addr) (l:List Pt) (ty I:TypeId) (w:World) (hk:qdi kind k) (hR:l.length=R) (Z:¬(k=3/\chans l=4)) (E:PtsOk l) (ae:w.heap[H]? = some (.cells #[.slice U R c] ty (0,0))) (aa:w.heap[F]? = some (.cells #[.int .i64 kind] I (0,0)))
  (hP:PCells w U b G l) (hT:HasT w) :
  Calls prog 65 #[.int .i64 (R:Int),.func (.func 66) #[] #[.pointer (some ⟨F,0,none⟩),.pointer (some ⟨H,0,none⟩)]] w fun e O=>Below w.heap.size w O/\∃v,e=.returned v/\SlT R (many k (chans l)) (tqf l k) v O:=by
 have hg:GivesL 66 #[.pointer (some ⟨F,0,none⟩),.pointer (some ⟨H,0,none⟩)] w R (fun i r=>r=told (many k (chans l)) (tqf l k i)) (fun _ _=>False):=by
  intro i hi W J;refine (qmj i R k H F b G c kind U l ty I W hk hR hi Z E (zkeep J _ _ ae) (zkeep J _ _ aa) (hP.below J) (hT.below J)).mono ?_;rintro e O ⟨V,v,Y,h4⟩;obtain⟨a,g,cap,rfl,hF,_⟩:=h4.cells (qb1 _ _);exact⟨V,qax ⟨_,a,g,_,cap,Y,qb1 _ _,hF,rfl⟩⟩
 have HG:=qjF 66 #[.pointer (some ⟨F,0,none⟩),.pointer (some ⟨H,0,none⟩)] R (by have:=E.r2;omega) (fun i r=>r=told (many k (chans l)) (tqf l k i)) (fun _ _=>False) w (fun a W=>enters func66 (by kernel_rfl) (by kernel_rfl) _ W) hg;refine HG.mono ?_;rintro e O ⟨V,Y⟩;rcases Y with ⟨t,g,Z,h4,rfl,h5,_⟩ | ⟨_,_,_,_,h⟩
 ·exact⟨V,_,rfl,g,rfl,ttab_of Z h4▸h5⟩
 ·exact h.elim
theorem qj6 (R G b F c:Nat) (I:Option Addr) (E:List Int) (Y:TypeId) (w:World) (hR:E.length=R) (aa:R<=40) (hW:WOk E) (V:w.heap[G]? = some (.cells #[.slice I R c] Y (0,0))) (hN:NCells w I b F E) (hT:HasT w) :
  Calls prog 68 #[.int .i64 (R:Int),.func (.func 69) #[] #[.pointer (some ⟨G,0,none⟩)]] w fun e H=>Below w.heap.size w H/\∃v,e=.returned v/\SlF R (wq E) v H:=by
 have hg:qj9 69 #[.pointer (some ⟨G,0,none⟩)] w R (fun i x=>x=ftxt (wq E i)) (fun _ _=>False):=by
  intro i hi W U;refine (qmk i R G b F c I E Y W hR hi (by have:=hW i (by omega);omega) (zkeep U _ _ V) (hN.below U) (hT.below U)).mono ?_;rintro e H ⟨J,O⟩;exact⟨J,qax ⟨_,_,O,rfl⟩⟩
 have Z:=qei 69 #[.pointer (some ⟨G,0,none⟩)] R (by omega) (fun i x=>x=ftxt (wq E i)) (fun _ _=>False) w (fun a W=>enters func69 (by kernel_rfl) (by kernel_rfl) _ W) hg;refine Z.mono ?_;rintro e H ⟨J,O⟩;rcases O with ⟨t,g,h3,h4,rfl,h5,_⟩ | ⟨_,_,_,_,h⟩
 ·exact⟨J,_,rfl,g,rfl,qic h3 h4▸h5⟩
 ·exact h.elim
