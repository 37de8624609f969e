import Derived.Deep.DrawnRows
import Derived.Deep.RegionWith
import Derived.Test.YtplkdeknjghobaaGreatDoorBb12
set_option maxRecDepth 100000
set_option maxHeartbeats 0
namespace Go.Proofs.YtplkdeknjghobaaGreatDoor
open Go.RowKit Go.Proofs.Tryz
theorem FOk.dpos {n d:List UInt8} (h:FOk n d):0<(ival d).natAbs:=by have:=h.pos;omega
theorem qfi (a:Option Addr) (n c:Nat) (b:Bool) (w:World):(Instr.field 242 (.agg #[.slice a n c,.bool b]) 0).run prog w=.ok (.slice a n c) w:=by kernel_rfl
theorem qn1 (n d:ByteArray) (hf:FOk n.data.toList d.data.toList) (pb:Nat) (a2:Option Addr) (n2 c2:Nat) (Bv K:Nat) (hK:K<=68719476736) (aj:67<=K) (w:World) (J:w.heap[pb]? = some (.cells #[.slice a2 n2 c2] 238 (0,0))) (hm:MagAt w (.slice a2 n2 c2) Bv) (hB:Fit Bv K) :
  Calls prog 227 #[.agg #[.string n,.string d],.pointer (some ⟨pb,0,none⟩)] w fun e w'=>∃v,e=.returned v/\Below w.heap.size w w'/\IntAt w' v (ival n.data.toList*((Bv / (ival d.data.toList).natAbs:Nat):Int)):=by
 obtain⟨F,I⟩:=qY ((w.alloc (.cells #[.string n,.string d] 44)).alloc (.cells #[.slice none 0 0,.bool false] 242));have O:Below w.heap.size w F:=I▸qbU (qbU qB qN) qN;have H:F.heap[w.heap.size]? = some (.cells #[.string n,.string d] 44 (0,0)):=by rw [I,qL _ _ _ (by simp only [qab];omega)];exact qM _ _ _ rfl
 have az:F.heap[w.heap.size+1]? = some (.cells #[.slice none 0 0,.bool false] 242 (0,0)):=by rw [I];exact qM _ _ _ (by simp)
 have ah:=(O.block _ (qG J).1).trans J;have C0:∀W,Below F.heap.size F W->W.cell? ⟨pb,0,none⟩=some (.slice a2 n2 c2):=fun W h=>(h.cell (p:=⟨pb,0,none⟩) (qG ah).1).trans (qC _ _ 0 _ _ _ ah)
 have C1:∀W,Below F.heap.size F W->W.cell? ⟨w.heap.size,1,none⟩=some (.string d):=fun W h=>(h.cell (p:=⟨w.heap.size,1,none⟩) (qG H).1).trans (qC _ _ 1 _ _ _ H)
 have C2:∀W,Below F.heap.size F W->W.cell? ⟨w.heap.size,0,none⟩=some (.string n):=fun W h=>(h.cell (p:=⟨w.heap.size,0,none⟩) (qG H).1).trans (qC _ _ 0 _ _ _ H)
 have aB:=qH (fun W=>(qcn .l) d hf.vd W);have aC:=qH (fun W=>(qcn .l) n hf.vn W);have HR:=qH (qA O (qA az (hm.below O)));have U:=qH (qA hf (qA hB (qA hK aj)));have aG:=qfi;have aA:Below F.heap.size F F:=Below.refl _ _;have V:Below F.heap.size F F.drew:=aA.drew;have HC:=qH (qA C2 H);clear O H az ah hm hf hB J C2;go_enter func227,ntmps227;go_wp2_with fail;rw [<-I];clear I
 go_cut [4] (fun x4 W=>∃(a4:Option Addr) (n4 c4:Nat),x4=.slice a4 n4 c4/\Hu (MagAt W (.slice a4 n4 c4) (Bv / (ival d.data.toList).natAbs))/\Hu (Below F.heap.size F W))
 case first =>
  go_region_held3 (fun W=>Below F.heap.size F W) (first | with_reducible exact aA | with_reducible exact V | with_reducible exact ai | with_reducible exact Y) (first | (go_at_call 167;refine (aB.o _).mono ?_;rintro e w2 ⟨p2,rfl,ak,aF⟩;have Y:Below F.heap.size F w2:=V.trans ak;obtain⟨m2,rfl,ax⟩:=aF;have G2:=qH ax;obtain⟨s2,_,_,u2,t2,_,rfl,_,_⟩:=ax;clear ak) | (go_at_call 178;refine ((qb3 .l) Bv (ival d.data.toList).natAbs K (by have:=U.o.2.2.1;omega) _ _ _ (HR.o.2.2.below Y) G2.o U.o.2.1 (U.o.1.vd.fit.mono U.o.2.2.2) U.o.1.dpos).mono ?_;rintro e w3 ⟨q3,r3,rfl,au,ay,_⟩;have ai:Below F.heap.size F w3:=bjoin Y au;have G3:=qH ay;obtain⟨s3,_,_,u3,t3,_,rfl,_,_⟩:=ay;clear au))
  all_goals go_wp2_with fail
  all_goals go_meet
  all_goals exact⟨_,_,_,rfl,G3,qH ai⟩
 case rest =>
  obtain⟨a4,n4,c4,rfl,aD,Z⟩:=hcut;have k0:=HC.o.1 wc Z.o;clear C0 C1;go_wp2_with fail;refine (aC.o _).mono ?_;rintro e w5 ⟨p5,rfl,aa,ae⟩;have I5:=qH ae;have G5:=qH (aD.o.below aa);have H5:=qH (Z.o.trans (aa.mono Z.o.size));obtain⟨a6,n6,c6,b6,rfl⟩:=qbV ae;clear aa ae k0;go_wp2_with fail;refine ((qct .l) (ival n.data.toList) (Bv / (ival d.data.toList).natAbs) 67 K (by have:=U.o.2.2.1;omega) _ _ w5 I5.o G5.o U.o.1.vn.fit (U.o.2.1.le (qaR _ _))).mono ?_;rintro e w6 ⟨p6,rfl,av,af⟩;obtain⟨a9,n9,c9,b9,rfl⟩:=qbV af;have h6:=H5.o.trans (av.mono H5.o.size);have ag:=(h6.block _ (qG HR.o.2.1).1).trans HR.o.2.1;have H6:=qH (qA ag (qA (HR.o.1.trans (h6.mono HR.o.1.size)) (qcs (cs':=#[.slice a9 n9 c9,.bool b9]) af ag qdm)));clear av af h6 ag
  go_wp2_with (with_reducible refine sR_ rfl 242 _ _ rfl (w.heap.size+1) #[.slice a9 n9 c9,.bool b9] H6.o.1 2 ?_)
  exact qR (v:=.agg #[.slice a9 n9 c9,.bool b9]) (rA_ rfl (w.heap.size+1) (qT _ _ _ _ _ _ H6.o.1) underlying242 2) rfl ⟨_,rfl,qS H6.o.2.1 (by omega) _,H6.o.2.2⟩
abbrev zs0:Value:=.slice none 0 0
def PRow (W:World) (g n:Nat) (F:List Value):Prop :=
 W.heap[g]? = some (.cells (F++List.replicate (n-F.length) zs0).toArray 238 (0,0))/\(∀v∈F,∀d,v≠.int .u32 d)/\F.length<=n
theorem qjL {W:World} {v:Value} {x:Nat} (h:MagAt W v x):∀d,v≠.int .u32 d:=by
 obtain⟨_,_,_,_,_,_,rfl,_,_⟩:=h;intro d e;cases e
theorem PRow.below {W W':World} {g n:Nat} {F:List Value} (h:PRow W g n F) (H:Below W.heap.size W W'):PRow W' g n F :=
 ⟨(H.block _ (qG h.1).1).trans h.1,h.2⟩
theorem PRow.made (W:World) (n:Nat):PRow (W.alloc (.cells (madeCells #[zs0] n) 238)) W.heap.size n []:=by
 refine⟨?_,(fun _ F=>absurd F (by simp)),qal _⟩;rw [qM _ _ _ rfl,qbq,List.length_nil,Nat.sub_zero,<-toList_madeCells_one,Array.toArray_toList]
theorem PRow.nope {W:World} {g n:Nat} {F:List Value} (h:PRow W g n F):∀x∈(F++List.replicate (n-F.length) zs0).toArray.toList,∀d,x≠.int .u32 d:=by
 intro x hx d;rcases qaK.1 (show x∈F++List.replicate (n-F.length) zs0 from hx) with hx | hx
 ·exact h.2.1 x hx d
 ·rw [(List.mem_replicate.1 hx).2];intro e;cases e
theorem PRow.at {W:World} {g n:Nat} {F:List Value} (h:PRow W g n F) (H:F.length<n):W.cell? ⟨g,F.length,none⟩=some zs0/\W.frozen? ⟨g,F.length,none⟩=false:=by
 refine⟨(qC _ _ _ _ _ _ h.1).trans ?_,qF _ _ _ _ _ h.1⟩;rw [qau,qaq qN,qaG,qbc,if_pos (by omega)]
theorem PRow.set {W:World} {g n:Nat} {F:List Value} (h:PRow W g n F) (J:F.length<n) (v:Value) (I:∀d,v≠.int .u32 d):PRow (W.setCell ⟨g,F.length,none⟩ v) g n (F++[v]):=by
 refine⟨?_,fun x hx d=>?_,by rw [qaf,qaz];omega⟩
 ·rw [heap_setCell_same _ g F.length _ _ v h.1]
  congr 3
  obtain⟨m,H⟩:∃m,n-F.length=m+1:=⟨n-F.length-1,by omega⟩;rw [qaA,H,qbn,qa8 _ _ qN,qaG,qbk,qaf,qaz,show n-(F.length+1)=m by omega,qaI];rfl
 ·rcases qaK.1 hx with hx | hx
  ·exact h.2.1 x hx d
  ·rw [qap.1 hx];exact I d
theorem PRow.cells {W:World} {g n:Nat} {F:List Value} (h:PRow W g n F) (_hn:F.length=n):VCells W (some ⟨g,0,none⟩) g 0 F:=by
 refine⟨fun _=>rfl,fun k H=>?_⟩;rw [qaM,qC _ _ _ _ _ _ h.1,qau,qas H,qaa,qad H];rfl
theorem qdD.keep {W W':World} {g:Nat} {cs:Array Value} {t:TypeId} {J:Nat×Nat} {H:List Value} {I:List Nat} (h:qdD W H I) (O:W.grownBy W' (some g)) (hg:W.heap[g]? = some (.cells cs t J)) (hne:∀x∈cs.toList,∀d,x≠.int .u32 d):qdD W' H I :=
 ⟨h.1,fun k F=>qcp (h.2 k F) O hg hne⟩
theorem qdD.snoc {W:World} {I:List Value} {H:List Nat} {v:Value} {x:Nat} (h:qdD W I H) (O:MagAt W v x):qdD W (I++[v]) (H++[x]):=by
 refine⟨by rw [qaf,qaf,h.1];rfl,fun k J=>?_⟩;rw [qaf,qaz] at J
 by_cases F:k<H.length
 ·rw [qaa,qaa,qas (by rw [h.1];exact F),qas F,<-qaa,<-qaa];exact h.2 k F
 ·obtain rfl:k=H.length:=by omega
  rw [qaa,qaa,qaq (by rw [h.1];exact qae _),qaq qN,h.1,qaG];exact O
def iflat (F:List (Value×Bool)):List Value:=F.flatMap fun p=>[p.1,.bool p.2]
theorem qd9 (F:List (Value×Bool)):(iflat F).length=F.length*2:=by
 induction F with
 | nil=>rfl
 | cons p F ih=>rw [iflat,List.flatMap_cons,qaf,<-iflat,ih,qbM];simp;omega
theorem qfm (a b:List (Value×Bool)):iflat (a++b)=iflat a++iflat b:=by unfold iflat;rw [List.flatMap_append]
def IRow (W:World) (g n:Nat) (F:List (Value×Bool)):Prop :=
 W.heap[g]? = some (.cells (iflat (F++List.replicate (n-F.length) (zs0,false))).toArray 242 (0,0))/\(∀p∈F,∀d,p.1≠.int .u32 d)/\F.length<=n
theorem IRow.below {W W':World} {g n:Nat} {F:List (Value×Bool)} (h:IRow W g n F) (H:Below W.heap.size W W'):IRow W' g n F :=
 ⟨(H.block _ (qG h.1).1).trans h.1,h.2⟩
theorem qmx {F:List (Value×Bool)} (h:∀p∈F,∀d,p.1≠.int .u32 d):∀x∈iflat F,∀d,x≠.int .u32 d:=by
 intro x hx d;unfold iflat at hx;obtain⟨p,H,hx⟩:=List.mem_flatMap.1 hx;rcases qaJ.1 hx with rfl | hx
 ·exact h p H d
 ·rw [qap.1 hx];intro e;cases e
theorem IRow.nope {W:World} {g n:Nat} {H:List (Value×Bool)} (h:IRow W g n H):∀x∈(iflat (H++List.replicate (n-H.length) (zs0,false))).toArray.toList,∀d,x≠.int .u32 d:=by
 refine qmx fun p F d=>?_
 rcases qaK.1 F with F | F
 ·exact h.2.1 p F d
 ·rw [(List.mem_replicate.1 F).2];intro e;cases e
theorem qfn (F:List (Value×Bool)):∀(k:Nat) (p:Value×Bool),F[k]? = some p->(iflat F)[k*2]? = some p.1/\(iflat F)[k*2+1]? = some (.bool p.2):=by
 induction F with
 | nil=>intro k p h;cases h
 | cons q F ih =>
  intro k p h;have e:iflat (q :: F)=q.1 :: .bool q.2 :: iflat F:=rfl;rw [e];cases k with
  | zero =>
   have:q=p:=qah h;subst this;exact⟨rfl,rfl⟩
  | succ k =>
   have H:=ih k p h;rw [show (k+1)*2=k*2+1+1 by omega];exact H
theorem IRow.at {W:World} {g n:Nat} {F:List (Value×Bool)} (h:IRow W g n F) (O:F.length<n):(W.cell? ⟨g,F.length*2,none⟩=some zs0/\W.cell? ⟨g,F.length*2+1,none⟩=some (.bool false))/\∀j,W.frozen? ⟨g,j,none⟩=false:=by
 have H:(F++List.replicate (n-F.length) (zs0,false))[F.length]? = some (zs0,false):=by
  rw [qaq qN,qaG,qbc,if_pos (by omega)]
 obtain⟨I,J⟩:=qfn _ _ _ H;exact⟨⟨(qC _ _ _ _ _ _ h.1).trans ((qau ..).trans I),(qC _ _ _ _ _ _ h.1).trans ((qau ..).trans J)⟩,fun j=>qF _ _ _ _ _ h.1⟩
theorem IRow.set {W:World} {g n:Nat} {F:List (Value×Bool)} (h:IRow W g n F) (U:F.length<n) (v:Value) (b:Bool) (O:∀d,v≠.int .u32 d) :
  IRow ((W.setCell ⟨g,F.length*2,none⟩ v).setCell ⟨g,F.length*2+1,none⟩ (.bool b)) g n (F++[(v,b)]):=by
 refine⟨?_,fun x hx d=>?_,by rw [qaf,qaz];omega⟩
 ·rw [heap_setCell_same _ g (F.length*2+1) _ _ _ (heap_setCell_same _ g (F.length*2) _ _ v h.1)]
  congr 3
  obtain⟨m,J⟩:∃m,n-F.length=m+1:=⟨n-F.length-1,by omega⟩;have H:iflat (F++List.replicate (m+1) (zs0,false))=iflat F++(zs0 :: .bool false :: iflat (List.replicate m (zs0,false))):=by
   rw [qfm,qbn];rfl
  have I:iflat (F++[(v,b)]++List.replicate m (zs0,false))=iflat F++(v :: .bool b :: iflat (List.replicate m (zs0,false))):=by
   rw [qfm,qfm,qaI];rfl
  rw [qaA,qaA,J,qaf,qaz,show n-(F.length+1)=m by omega,H,I];rw [qa8 _ _ (by rw [qd9];exact qae _),qd9,qaG,qbk,qa8 _ _ (by rw [qd9];omega),qd9,show F.length*2+1-F.length*2=1 by omega]
  rfl
 ·rcases qaK.1 hx with hx | hx
  ·exact h.2.1 x hx d
  ·rw [qap.1 hx];exact O d
theorem qmy (n:Nat):∀i,i<n*2->(iflat (List.replicate n (zs0,false)))[i]? = some (if i % 2=0 then zs0 else .bool false):=by
 intro i F;have h:=qfn (List.replicate n (zs0,false)) (i / 2) (zs0,false) (by rw [qbc,if_pos (by omega)])
 by_cases e:i % 2=0
 ·rw [if_pos e];have:=h.1
  rwa [show i / 2*2=i by omega] at this
 ·rw [if_neg e];have:=h.2
  rwa [show i / 2*2+1=i by omega] at this
theorem qmM (n:Nat):madeCells #[zs0,.bool false] (n*2)=(iflat (List.replicate n (zs0,false))).toArray:=by
 apply Array.ext';apply List.ext_getElem?;intro i;rw [Array.getElem?_toList]
 show _=(iflat (List.replicate n (zs0,false)))[i]?
 by_cases F:i<n*2
 ·rw [qmy n i F];have H:(madeCells #[zs0,.bool false] (n*2))[i]? = some ((#[zs0,.bool false]:Array Value)[i % 2]!):=by simp [madeCells,F]
  rw [H]
  congr 1
  rcases (show i % 2=0\/i % 2=1 by omega) with e | e
  ·rw [if_pos e,e];rfl
  ·rw [if_neg (by omega),e];rfl
 ·rw [Array.getElem?_eq_none (by rw [size_madeCells];omega),qaS (by rw [qd9,qaO];omega)]
theorem IRow.made (W:World) (n:Nat):IRow (W.alloc (.cells (madeCells #[zs0,.bool false] (n*2)) 242)) W.heap.size n []:=by
 refine⟨?_,(fun _ F=>absurd F (by simp)),qal _⟩;rw [qM _ _ _ rfl,qbq,List.length_nil,Nat.sub_zero,qmM]
theorem infoI:(Tryz.prog.info? 242).map (fun i=>(i.zero,i.size,i.bytes))=some (some (.agg #[zs0,.bool false]),2,32):=by kernel_rfl
theorem qgJ (n:Nat) (O:n<=1048576) (w:World):(Instr.makeSlice 237 (.int .i64 (n:Int)) (.int .i64 (n:Int))).run prog w=.ok (.slice (some ⟨w.heap.size,0,none⟩) n n) (w.alloc (.cells (madeCells #[zs0,.bool false] (n*2)) 242)):=by
 obtain⟨i,J,F,H,I⟩:=info_parts infoI;have h:=run_make (P:=prog) w 237 242 i _ underlying237 J F .i64 .i64 (n:Int) (n:Int) (by omega) (Int.le_refl _) (by rw [I];omega) (by omega);rw [h,H,Int.toNat_natCast];rfl
abbrev FT:=ByteArray×ByteArray
def fd0:FT:=(⟨#[]⟩,⟨#[]⟩)
structure FCells (W:World) (ao:Option Addr) (b off:Nat) (l:List FT):Prop where
 addr:0<l.length->ao=some ⟨b,off,none⟩
 cell:∀k,k<l.length->W.cell? ⟨b,off+k*2,none⟩=some (.string (l.getD k fd0).1)/\W.cell? ⟨b,off+k*2+1,none⟩=some (.string (l.getD k fd0).2)
theorem FCells.below {W W':World} {H:Option Addr} {b off:Nat} {l:List FT} (h:FCells W H b off l) (I:Below W.heap.size W W'):FCells W' H b off l :=
 ⟨h.addr,fun k F=>⟨(I.cell (qac W _ (h.cell k F).1)).trans (h.cell k F).1,(I.cell (qac W _ (h.cell k F).2)).trans (h.cell k F).2⟩⟩
def FAll (l:List FT):Prop:=∀k,k<l.length->FOk (l.getD k fd0).1.data.toList (l.getD k fd0).2.data.toList
def fden (x:FT):Nat:=(ival x.2.data.toList).natAbs
theorem infoM:(Tryz.prog.info? 238).map (fun i=>(i.zero,i.size,i.bytes))=some (some (.slice none 0 0),1,24):=by kernel_rfl
theorem qd6 {l:List FT} (h:FAll l) {k:Nat} (F:k<l.length):0<fden (l.getD k fd0)/\Fit (fden (l.getD k fd0)) 67:=⟨(h k F).dpos,(h k F).vd.fit⟩
theorem ql1 (l:List FT) (k:Nat) (F:k<l.length):(l.take (k+1)).map fden=(l.take k).map fden++[fden (l.getD k fd0)]:=by
 rw [List.take_add_one,qad F,qa3,qaa,qad F];rfl
def flcd (l:List FT):Nat:=lcms (l.map fden)
def ftop (l:List FT) (k:Nat):Int:=ival (l.getD k fd0).1.data.toList*((flcd l / fden (l.getD k fd0):Nat):Int)
def qcv (W:World) (F:List (Value×Bool)) (z:Nat->Int):Prop:=∀k,k<F.length->(F.getD k (zs0,false)).2=decide (z k<0)/\MagAt W (F.getD k (zs0,false)).1 (z k).natAbs
theorem qcv.below {W W':World} {H:List (Value×Bool)} {z:Nat->Int} (h:qcv W H z) (I:Below W.heap.size W W'):qcv W' H z:=fun k F=>⟨(h k F).1,(h k F).2.below I⟩
theorem qcv.keep {W W':World} {g:Nat} {cs:Array Value} {t:TypeId} {I:Nat×Nat} {H:List (Value×Bool)} {z:Nat->Int} (h:qcv W H z) (J:W.grownBy W' (some g)) (hg:W.heap[g]? = some (.cells cs t I)) (hne:∀x∈cs.toList,∀d,x≠.int .u32 d):qcv W' H z :=
 fun k F=>⟨(h k F).1,qcp (h k F).2 J hg hne⟩
theorem qcv.snoc {W:World} {F:List (Value×Bool)} {z:Nat->Int} {v:Value} (h:qcv W F z) (J:MagAt W v (z F.length).natAbs):qcv W (F++[(v,decide (z F.length<0))]) z:=by
 intro k I;rw [qaf,qaz] at I
 by_cases H:k<F.length
 ·rw [qaa,qas H,<-qaa];exact h k H
 ·obtain rfl:k=F.length:=by omega
  rw [qaa,qaq qN,qaG];exact⟨rfl,J⟩
theorem qlv {P:Program} {V:Func} {p u:Tmp} {I:TypeId} (h:V.results=#[.tmp u,.cell p I]) (F:Array Value) (w:World) (g:Nat) (d:TypeDesc) (hu:P.underlying I=some d) (hd:(match d with | .struct _ | .array _ _=>true | _=>false)=false)
  (hp:F.getD p undef=.pointer (some ⟨g,0,none⟩)) (U v:Value) (Y:F.getD u undef=U) (Z:w.cell? ⟨g,0,none⟩=some v) :
  (results V F).run P w=.ok (.tuple #[U,v]) w:=by
 have H:(isAgg I).run P w=.ok false w:=by
  unfold isAgg;rw [Sem.run_bind,run_underlying hu w];cases d <;> simp_all
 have hl:(loadVar I ⟨g,0,none⟩).run P w=.ok v w:=by
  simp [loadVar,Sem.run_bind,H,Z]
 have O:F[p]?.getD undef=.pointer (some ⟨g,0,none⟩):=by simpa using hp
 have J:F[u]?.getD undef=U:=by simpa using Y
 simp [results,h,O,J,asAddr,hl,Result.andThen]
theorem qiA (ao:Option Addr) (b off n c:Nat) (l:List FT) (w:World) (hl:l.length=n) (hn:n<=64) (ae:FCells w ao b off l) (hf:FAll l) :
  Calls prog 166 #[.slice ao n c] w fun e w'=>∃g v ps,e=.returned (.tuple #[.slice (some ⟨g,0,none⟩) n n,v])/\w.heap.size<=g/\Below w.heap.size w w'/\MagAt w' v (flcd l)/\ps.length=n/\IRow w' g n ps/\qcv w' ps (ftop l):=by
 have bD:=run_make_row' (P:=prog) 313 238 (.slice none 0 0) 24 underlying313 infoM rfl .i64 .i64 n (by omega) (by omega);have HC:=qH (qA ae (qA hf hl));have bI:=qfi;clear ae hf hl;go_enter func166,ntmps166;go_wp2
 go_loopw [15] (fun x15 W=>∃(k:Nat) (vs:List Value),k<=n/\x15=.int .i64 k/\Hu (vs.length=k/\PRow W (w.heap.size+1) n vs/\qdD W vs ((l.take k).map fden)/\W.heap[w.heap.size]? = some (.cells #[zs0] 238 (0,0)))/\Hu (Below w.heap.size w W)) (fun x15 _=>n-(intOf x15).toNat)
 case atStart =>
  have h1:=PRow.made (w.alloc (.cells #[zs0] 238)) n;rw [qab] at h1;exact⟨0,[],qal _,rfl,qH ⟨rfl,h1,⟨by simp,fun k hk=>absurd hk (by simp)⟩,(qL _ _ _ (by simp only [qab];omega)).trans (qM _ _ _ rfl)⟩,qH (qbU (qbU qB qN) qN)⟩
 case round =>
  clear bD;obtain⟨k,vs,hk,rfl,V,hB⟩:=hrel
  by_cases bC:k<n
  ·have bK:(k:Int)<n:=by omega
   have aL:k<l.length:=by have:=HC.o.2.2;omega
   have aB:=HC.o.1.addr (by omega);subst aB;have hc:=(HC.o.1.below hB.o).cell k aL;have Z:=HC.o.2.1 k aL;have ay:=ql1 l k aL;have aY:fden (l.getD k fd0)=(ival (l.getD k fd0).2.data.toList).natAbs:=rfl;rw [aY] at ay;obtain⟨N,hN⟩:=qX ((l.getD k fd0).1);obtain⟨D,hD⟩:=qX ((l.getD k fd0).2);rw [hN,hD] at hc;rw [hD] at ay Z;obtain⟨aF,aG⟩:=hc;have HN:=qH (fun W=>(qcn .l) D Z.vd W);have HD:=qH ay;clear Z ay aY hN hD;go_wp2_with fail;refine (HN.o _).mono ?_;rintro e I ⟨v2,rfl,af,az⟩;obtain⟨m2,rfl,aJ⟩:=az;have O:Below wr.heap.size wr I:=(qB.alloc qN _).trans (af.mono (by simp only [qab];omega));have ak:=V.o.2.1.below O;have aj:=ak.at (by have:=V.o.1;omega);rw [V.o.1] at aj;obtain⟨aS,aT⟩:=aj;have H:=ak.set (by have:=V.o.1;omega) m2 (qjL aJ);rw [V.o.1] at H;have aP:=(((V.o.2.2.1.below O).snoc aJ).keep (qbW I (w.heap.size+1) k m2) ak.1 ak.nope);rw [<-HD.o] at aP;have ai:=(qW I ⟨w.heap.size+1,k,none⟩ m2 w.heap.size (by show w.heap.size≠w.heap.size+1;omega)).trans ((O.block _ (qG V.o.2.2.2).1).trans V.o.2.2.2);have aW:=(hB.o.trans (O.mono hB.o.size)).setCell (p:=⟨w.heap.size+1,k,none⟩) (by show w.heap.size<=w.heap.size+1;omega) m2;have H3:=qH (qA H (qA aP (qA ai aW)));obtain⟨s2,_,_,u2,t2,_,rfl,_,_⟩:=aJ;clear af O ak H aP ai aW aF aG;go_wp2;go_roundw
   case rel=>exact⟨k+1,_,bC,by go_num,qH ⟨by rw [qaf,V.o.1];rfl,H3.o.1,H3.o.2.1,H3.o.2.2.1⟩,qH H3.o.2.2.2⟩
   case measure=>simp [intOf];omega
  ·obtain rfl:k=n:=by omega
   have bi:=HC.o.2.2;have aO:=V.o.2.2.1;rw [qak (by omega)] at aO;have bA:∀j,j<k->0<(l.map fden).getD j 0/\Fit ((l.map fden).getD j 0) 67:=by
    intro j hj;have e:(l.map fden).getD j 0=fden (l.getD j fd0):=by
     rw [qaa,qay,qaa,qad (by omega)];rfl
    rw [e];exact qd6 HC.o.2.1 (by omega)
   have aX:=qhs (some ⟨w.heap.size+1,0,none⟩) (w.heap.size+1) 0 k k vs (l.map fden) 67 wr (by rw [qav];exact bi) (V.o.2.1.cells V.o.1) aO bA (by omega) (by decide) (by omega);have aR:=qH aX;clear aX bA aO bi;go_wp2_with fail;refine aR.o.mono ?_;rintro e I ⟨v2,rfl,af,az⟩;obtain⟨W3,ax⟩:=qY (I.setCell ⟨w.heap.size,0,none⟩ v2);have ah:=(af.block _ (qG V.o.2.2.2).1).trans V.o.2.2.2;have bF:=qC _ _ 0 _ _ _ ah;have bG:=qF _ _ 0 _ _ ah;have aM:=qcp az (qbW I w.heap.size 0 v2) ah (by intro x hx d;rw [qap.1 hx];intro e;cases e);have ai:(I.setCell ⟨w.heap.size,0,none⟩ v2).heap[w.heap.size]? = some (.cells #[v2] 238 (0,0)):=heap_setCell_same I w.heap.size 0 _ _ v2 ah;have aC:=(hB.o.trans (af.mono hB.o.size)).setCell (p:=⟨w.heap.size,0,none⟩) qN v2;rw [<-ax] at aM ai aC;have aA:Fit (flcd l) 4289:=by
    have:=qfr (l.map fden) 67 (by
     intro j hj;have bf:j<l.length:=by rw [qav] at hj;exact hj
     have e:(l.map fden).getD j 0=fden (l.getD j fd0):=by
      rw [qaa,qay,qaa,qad bf];rfl
     rw [e];exact qd6 HC.o.2.1 bf) k (by rw [qav];have:=HC.o.2.2;omega)
    rw [qak (by rw [qav];have:=HC.o.2.2;omega)] at this;exact this.mono (by omega)
   have bv:=(qG ah).1;have H3:=qH (qA aM (qA ai (qA aC aA)));have HS:=qH bv;obtain⟨s2,_,_,u2,t2,_,bE,_,_⟩:=az;subst bE;have aN:=qgJ k (by omega) W3;clear af ah aM ai aC V hB aR aA bv;go_wp2_with fail;rw [<-ax];have bz:W3.heap.size=I.heap.size:=by rw [ax];exact qbt ..
   rw [bz] at aN;rw [aN];clear ax;go_wp2_with fail
   go_loopw [36] (fun x36 W=>∃(j:Nat) (ps:List (Value×Bool)),j<=k/\x36=.int .i64 j/\Hu (ps.length=j/\IRow W I.heap.size k ps/\qcv W ps (ftop l)/\W.heap[w.heap.size]? = some (.cells #[.slice s2 t2 u2] 238 (0,0))/\MagAt W (.slice s2 t2 u2) (flcd l))/\Hu (Below w.heap.size w W)) (fun x36 _=>k-(intOf x36).toNat)
   case atStart =>
    have h0:=IRow.made W3 k;rw [bz] at h0;have aD:Below W3.heap.size W3 (W3.alloc (.cells (madeCells #[zs0,.bool false] (k*2)) 242)):=qbU qB qN;exact⟨0,[],qal _,rfl,qH ⟨rfl,h0,(fun i hi=>absurd hi (by simp)),(aD.block _ (qG H3.o.2.1).1).trans H3.o.2.1,H3.o.1.below aD⟩,qH (H3.o.2.2.1.trans (aD.mono H3.o.2.2.1.size))⟩
   case round =>
    clear aN;obtain⟨j,ps,hj,rfl,F,av⟩:=hrel
    by_cases bB:j<k
    ·have bJ:(j:Int)<k:=by omega
     have bg:j<l.length:=by have:=HC.o.2.2;omega
     have aB:=HC.o.1.addr (by omega);subst aB;have hc:=(HC.o.1.below av.o).cell j bg;have Z:=HC.o.2.1 j bg;have aH:ftop l j=ival (l.getD j fd0).1.data.toList*((flcd l / (ival (l.getD j fd0).2.data.toList).natAbs:Nat):Int):=rfl;obtain⟨N,hN⟩:=qX ((l.getD j fd0).1);obtain⟨D,hD⟩:=qX ((l.getD j fd0).2);rw [hN,hD] at hc Z aH;obtain⟨aF,aG⟩:=hc;have HW:=qH (qA Z aH);clear Z aH hN hD;go_wp2_with fail;have U:Below wr.heap.size wr (wr.alloc (.cells #[.string N,.string D] 44)):=qbU qB qN;refine (qn1 N D HW.o.1 w.heap.size s2 t2 u2 (flcd l) 4289 (by omega) (by omega) _ ((U.block _ (qG F.o.2.2.2.1).1).trans F.o.2.2.2.1) (F.o.2.2.2.2.below U) H3.o.2.2.2).mono ?_;rintro e w5 ⟨v5,rfl,aU,aZ⟩;rw [<-HW.o.2] at aZ;have J:Below wr.heap.size wr w5:=U.trans (aU.mono U.size);have aa:=F.o.2.1.below J;have ag:=F.o.1;obtain⟨v6,rfl,aK⟩:=aZ;have aj:=aa.at (by omega);rw [ag] at aj;obtain⟨⟨aS,aT⟩,aI⟩:=aj;have bL:=aI (j*2);have bM:=aI (j*2+1);have H:=aa.set (by omega) v6 (decide (ftop l j<0)) (qjL aK);rw [ag] at H;have Y:=qbZ (qbW w5 I.heap.size (j*2) v6) (qbW _ I.heap.size (j*2+1) (.bool (decide (ftop l j<0))));have au:=((F.o.2.2.1.below J).snoc (by rw [ag];exact aK)).keep Y aa.1 aa.nope;rw [ag] at au;have hne:w.heap.size≠I.heap.size:=Nat.ne_of_lt HS.o;have bq:=(qW (w5.setCell ⟨I.heap.size,j*2,none⟩ v6) ⟨I.heap.size,j*2+1,none⟩ (.bool (decide (ftop l j<0))) w.heap.size hne).trans ((qW w5 ⟨I.heap.size,j*2,none⟩ v6 w.heap.size hne).trans ((J.block _ (qG F.o.2.2.2.1).1).trans F.o.2.2.2.1));have bn:=qcp (F.o.2.2.2.2.below J) Y aa.1 aa.nope;have aV:=((av.o.trans (J.mono av.o.size)).setCell (p:=⟨I.heap.size,j*2,none⟩) (qar HS.o) v6).setCell (p:=⟨I.heap.size,j*2+1,none⟩) (qar HS.o) (.bool (decide (ftop l j<0)));have H6:=qH (qA H (qA au (qA bq (qA bn aV))));have HP:=qH ag;obtain⟨s6,_,_,u6,t6,_,rfl,_,_⟩:=aK;clear H au bq bn aV Y aa J aU U ag aI aF aG;go_wp2;go_roundw
     case rel=>exact⟨j+1,_,bB,by go_num,qH ⟨by rw [qaf,HP.o];rfl,H6.o.1,H6.o.2.1,H6.o.2.2.1,H6.o.2.2.2.1⟩,qH H6.o.2.2.2.2⟩
     case measure=>simp [intOf];omega
    ·obtain rfl:j=k:=by omega
     have hne:I.heap.size≠w.heap.size:=qbl HS.o;have bu:=heap_setCell_same wr w.heap.size 0 _ _ (.slice s2 t2 u2) F.o.2.2.2.1;have Y:=qbW wr w.heap.size 0 (.slice s2 t2 u2);have aQ:∀x∈(#[.slice s2 t2 u2]:Array Value).toList,∀d,x≠.int .u32 d:=by intro x hx d;rw [qap.1 hx];intro e;cases e
     have HE:Hu (((wr.setCell ⟨w.heap.size,0,none⟩ (.slice s2 t2 u2)).drew).heap[w.heap.size]? = some (.cells #[.slice s2 t2 u2] 238 (0,0))/\qcv (wr.setCell ⟨w.heap.size,0,none⟩ (.slice s2 t2 u2)).drew ps (ftop l)/\MagAt (wr.setCell ⟨w.heap.size,0,none⟩ (.slice s2 t2 u2)).drew (.slice s2 t2 u2) (flcd l)/\Below w.heap.size w (wr.setCell ⟨w.heap.size,0,none⟩ (.slice s2 t2 u2)).drew/\ps.length=j/\IRow (wr.setCell ⟨w.heap.size,0,none⟩ (.slice s2 t2 u2)).drew I.heap.size j ps):=qH ⟨bu,(F.o.2.2.1.keep Y F.o.2.2.2.1 aQ).below qB.drew,(qcp F.o.2.2.2.2 Y F.o.2.2.2.1 aQ).below qB.drew,(av.o.setCell (p:=⟨w.heap.size,0,none⟩) qN _).drew,F.o.1,⟨(qW wr ⟨w.heap.size,0,none⟩ (.slice s2 t2 u2) I.heap.size hne).trans F.o.2.1.1,F.o.2.1.2⟩⟩;clear bu Y aQ hne;have bN:=qC _ _ 0 _ _ _ F.o.2.2.2.1;have bH:=qF _ _ 0 _ _ F.o.2.2.2.1;go_wp2_with fail
     go_region
     all_goals go_wp2_with fail
     all_goals refine qR (v:=.tuple #[.slice (some ⟨I.heap.size,0,none⟩) j j,.slice s2 t2 u2]) (qlv rfl _ _ w.heap.size _ underlying238 rfl rfl _ _ rfl (qC _ _ 0 _ _ _ HE.o.1)) rfl ⟨I.heap.size,_,ps,rfl,qar HS.o,HE.o.2.2.2.1,HE.o.2.2.1,HE.o.2.2.2.2.1,HE.o.2.2.2.2.2,HE.o.2.1⟩
theorem qiu {P:Program} (w:World) (dT sT ty I:TypeId) (m g H O:Nat) (a:Addr) (J Y:Nat) (F:Array Value) (t:TypeId) (cs:List Value)
  (hu:P.underlying dT=some (.slice I)) (hs:(P.info? I).map (·.size)=some m)
  (hg:w.heap[g]? = some (.cells F t (0,0))) (hn:cs.length=Nat.min J H*m)
  (V:∀j v,cs[j]? = some v->w.cell? (a.add j)=some v) (U:0+cs.length<=F.size) (h1:∀v∈cs,v.oneCell'=true) :
  (Builtin.copy_ #[dT,sT] ty #[.slice (some ⟨g,0,none⟩) H O,.slice (some a) J Y]).run P w =
   .ok (goInt (Nat.min J H:Nat)) (w.setRow g (F.toList.take 0++cs++F.toList.drop (0+cs.length)).toArray):=by
 have hl:=run_loadCells_list (P:=P) w a cs V;have aa:=run_storeCells_at P g 0 t cs 0 F w hg (by simpa using U) h1;cases Z:P.info? I with
 | none=>simp [Z] at hs
 | some i =>
  have hi:i.size=m:=by simpa [Z] using hs
  rw [hn] at hl;simp [Builtin.copy_,run_underlying hu,Builtin.lenOf,Builtin.firstCells,sizeOf,typeInfo,Z,hi,hl,aa]
def fflat (l:List FT):List Value:=l.flatMap fun x=>[.string x.1,.string x.2]
theorem qce (l:List FT):(fflat l).length=l.length*2:=by
 induction l with
 | nil=>rfl
 | cons p l ih=>rw [fflat,List.flatMap_cons,qaf,<-fflat,ih,qbM];simp;omega
theorem qcM (a b:List FT):fflat (a++b)=fflat a++fflat b:=by unfold fflat;rw [List.flatMap_append]
theorem qd5 (l:List FT):∀(k:Nat) (x:FT),l[k]? = some x->(fflat l)[k*2]? = some (.string x.1)/\(fflat l)[k*2+1]? = some (.string x.2):=by
 induction l with
 | nil=>intro k p h;cases h
 | cons q l ih =>
  intro k p h;have e:fflat (q :: l)=.string q.1 :: .string q.2 :: fflat l:=rfl;rw [e];cases k with
  | zero =>
   have:q=p:=qah h;subst this;exact⟨rfl,rfl⟩
  | succ k =>
   have F:=ih k p h;rw [show (k+1)*2=k*2+1+1 by omega];exact F
theorem qiy (l:List FT):∀v∈fflat l,v.oneCell'=true:=by
 intro v F;obtain⟨x,_,hx⟩:=List.mem_flatMap.1 F;rcases qaJ.1 hx with rfl | hx
 ·rfl
 ·rw [qap.1 hx];rfl
theorem getD_some {l:List FT} {k:Nat} (F:k<l.length):l[k]? = some (l.getD k fd0):=by rw [qaa,qad F];rfl
theorem FCells.src {W:World} {O:Option Addr} {b off:Nat} {l:List FT} (h:FCells W O b off l):∀j v,(fflat l)[j]? = some v->W.cell? ((⟨b,off,none⟩:Addr).add j)=some v:=by
 intro j v F;have U:j<(fflat l).length:=(List.getElem?_eq_some_iff.1 F).1;rw [qce] at U;have J:j / 2<l.length:=by omega
 obtain⟨H,I⟩:=qd5 l (j / 2) _ (getD_some J);obtain⟨c1,c2⟩:=h.cell (j / 2) J;rw [Addr.add_mid]
 by_cases e:j % 2=0
 ·rw [show j / 2*2=j by omega] at H c1;rw [H] at F;rw [c1];exact F
 ·rw [show j / 2*2+1=j by omega] at I;rw [show off+j / 2*2+1=off+j by omega] at c2;rw [I] at F;rw [c2];exact F
theorem FCells.ofRow {W:World} {g:Nat} {l:List FT} {t:TypeId} {F:Nat×Nat} (h:W.heap[g]? = some (.cells (fflat l).toArray t F)):FCells W (some ⟨g,0,none⟩) g 0 l:=by
 refine⟨fun _=>rfl,fun k J=>?_⟩;obtain⟨H,I⟩:=qd5 l k _ (getD_some J);rw [qaM];exact⟨(qC _ _ _ _ _ _ h).trans ((qau ..).trans H),(qC _ _ _ _ _ _ h).trans ((qau ..).trans I)⟩
theorem infoF:(Tryz.prog.info? 44).map (fun i=>(i.zero,i.size,i.bytes))=some (some (.agg #[.string ⟨#[]⟩,.string ⟨#[]⟩]),2,32):=by kernel_rfl
theorem qlh (n:Nat) (O:n<=1048576) (w:World):(Instr.makeSlice 35 (.int .i64 ((n:Int)+1)) (.int .i64 ((n:Int)+1))).run prog w=.ok (.slice (some ⟨w.heap.size,0,none⟩) (n+1) (n+1)) (w.alloc (.cells (madeCells #[.string ⟨#[]⟩,.string ⟨#[]⟩] ((n+1)*2)) 44)):=by
 obtain⟨i,J,F,H,I⟩:=info_parts infoF;have h:=run_make (P:=prog) w 35 44 i _ underlying35 J F .i64 .i64 ((n+1:Nat):Int) ((n+1:Nat):Int) (by omega) (Int.le_refl _) (by rw [I];omega) (by omega);rw [H,Int.toNat_natCast] at h;exact h
theorem qnB (l:List FT) (x:FT) (r:List Value) (F:r.length=2):(((fflat l++r).toArray.setIfInBounds (l.length*2) (.string x.1)).setIfInBounds (l.length*2+1) (.string x.2))=(fflat (l++[x])).toArray:=by
 obtain⟨a,b,rfl⟩:∃a b,r=[a,b]:=by
  match r,F with
  | [a,b],_=>exact⟨a,b,rfl⟩
 rw [qcM,qaA,qaA,qa8 _ _ (by rw [qce];exact qae _),qce,qaG,qbk,qa8 _ _ (by rw [qce];omega),qce,show l.length*2+1-l.length*2=1 by omega]
 rfl
theorem qhr (ao:Option Addr) (b off n c:Nat) (l:List FT) (x:FT) (w:World) (hl:l.length=n) (aD:0<n) (hn:n<=63) (F:FCells w ao b off l) :
  Calls prog 169 #[.slice ao n c,.agg #[.string x.1,.string x.2]] w fun e w'=>∃g,e=.returned (.slice (some ⟨g,0,none⟩) ((n+1:Nat)) (n+1))/\Below w.heap.size w w'/\FCells w' (some ⟨g,0,none⟩) g 0 (l++[x]):=by
 obtain⟨s1,s2⟩:=x;have ay:=F.addr (by omega);subst ay;obtain⟨Y,H⟩:=qY (w.alloc (.cells #[.string s1,.string s2] 44));have av:=qlh n (by omega) Y;obtain⟨W2,I⟩:=qY (Y.alloc (.cells (madeCells #[.string ⟨#[]⟩,.string ⟨#[]⟩] ((n+1)*2)) 44));have ax:Y.heap.size=w.heap.size+1:=by rw [H,qab]
 rw [<-I,ax] at av;have ag:W2.heap[w.heap.size+1]? = some (.cells (madeCells #[.string ⟨#[]⟩,.string ⟨#[]⟩] ((n+1)*2)) 44 (0,0)):=by rw [I];exact qM _ _ _ ax
 have ah:Below w.heap.size w Y:=H▸qbU qB qN;have aa:Below w.heap.size w W2:=I▸qbU ah qN;have ak:=qiu (P:=prog) W2 35 35 3 44 2 (w.heap.size+1) (n+1) (n+1) ⟨b,off,none⟩ n c _ 44 (fflat l) underlying35 (by kernel_rfl) ag (by rw [qce,hl];show n*2=(min n (n+1))*2;rw [qa9 (by omega)]) (F.below aa).src (by rw [qce,hl,size_madeCells];omega) (qiy l);obtain⟨R,hR⟩:=qY (((madeCells #[.string ⟨#[]⟩,.string ⟨#[]⟩] ((n+1)*2):Array Value)).toList.drop (0+(fflat l).length));have Z:R.length=2:=by rw [hR,qbd,qbm,size_madeCells,qce];omega
 rw [<-hR,List.take_zero,qbq] at ak;obtain⟨W3,O⟩:=qY (W2.setRow (w.heap.size+1) (fflat l++R).toArray);rw [<-O] at ak;have J:W3.heap[w.heap.size+1]? = some (.cells (fflat l++R).toArray 44 (0,0)):=by rw [O];exact qT _ _ _ _ _ _ ag
 have ai:Below w.heap.size w W3:=O▸qS aa (by omega) _;have af:Y.heap[w.heap.size]? = some (.cells #[.string s1,.string s2] 44 (0,0)):=by rw [H];exact qM _ _ _ rfl
 have V:Below Y.heap.size Y W3:=O▸qS (I▸qbU qB qN) (by omega) _;have ae:=(V.block _ (qG af).1).trans af;have aF:=qC _ _ 0 _ _ _ ae;have aG:=qC _ _ 1 _ _ _ ae;have au:(fflat l++R).length=n*2+2:=by rw [qaf,qce,Z,hl]
 obtain⟨d0,az⟩:∃d0,W3.cell? ⟨w.heap.size+1,n*2,none⟩=some d0:=⟨_,(qC _ _ _ _ _ _ J).trans ((qau ..).trans (qad (by omega)))⟩;obtain⟨d1,aA⟩:∃d1,W3.cell? ⟨w.heap.size+1,n*2+1,none⟩=some d1:=⟨_,(qC _ _ _ _ _ _ J).trans ((qau ..).trans (qad (by omega)))⟩;have aB:=qF _ _ (n*2) _ _ J;have aC:=qF _ _ (n*2+1) _ _ J;have U:=heap_setCell_same _ _ (n*2+1) _ _ (.string s2) (heap_setCell_same _ _ (n*2) _ _ (.string s1) J);rw [<-hl,qnB l (s1,s2) R Z,hl] at U;have aj:=(ai.setCell (p:=⟨w.heap.size+1,n*2,none⟩) (by show w.heap.size<=w.heap.size+1;omega) (.string s1)).setCell (p:=⟨w.heap.size+1,n*2+1,none⟩) (by show w.heap.size<=w.heap.size+1;omega) (.string s2);have HE:=qH (qA aj (FCells.ofRow U));have HN:=qH (qA I H);clear F ag ah aa hR Z O J ai af V ae au U aj I;go_enter func169,ntmps169;go_wp2_with fail;rw [<-H];clear H;rw [av];go_wp2;go_ret;exact⟨_,rfl,HE.o.1,HE.o.2⟩
theorem qgk {W:World} {g:Nat} {t:TypeId} (h:W.heap[g]? = some (.cells #[.slice none 0 0,.bool false] t (0,0))) (a:Option Addr) (n c:Nat) (b:Bool) :
  ((W.setCell ⟨g,0,none⟩ (.slice a n c)).setCell ⟨g,1,none⟩ (.bool b)).heap[g]? = some (.cells #[.slice a n c,.bool b] t (0,0)) /\
  (∀k,k≠g->((W.setCell ⟨g,0,none⟩ (.slice a n c)).setCell ⟨g,1,none⟩ (.bool b)).heap[k]? = W.heap[k]?) /\
  (∀m F z,IntAt W (.agg #[m,.bool F]) z->IntAt ((W.setCell ⟨g,0,none⟩ (.slice a n c)).setCell ⟨g,1,none⟩ (.bool b)) (.agg #[m,.bool F]) z) :=
 ⟨qda h a n c b,fun _k H=>(qW _ _ _ _ H).trans (qW _ _ _ _ H),fun _ _ _ I=>qc9 I h a n c b⟩
def LTwo (F W:World) (H g4:Nat) (v3:Option Addr×Nat×Nat×Bool) (v4:Option Addr×Nat×Nat×Bool) (z3 z4:Int):Prop :=
 W.heap[H]? = some (.cells #[.slice v3.1 v3.2.1 v3.2.2.1,.bool v3.2.2.2] 242 (0,0))/\W.heap[g4]? = some (.cells #[.slice v4.1 v4.2.1 v4.2.2.1,.bool v4.2.2.2] 242 (0,0)) /\
  IntAt W (.agg #[.slice v3.1 v3.2.1 v3.2.2.1,.bool v3.2.2.2]) z3/\IntAt W (.agg #[.slice v4.1 v4.2.1 v4.2.2.1,.bool v4.2.2.2]) z4/\Below F.heap.size F W/\F.heap.size<=H/\F.heap.size<=g4
section
variable {W2 W:World} {a3:Option Addr} {n3 c3:Nat} {b3:Bool} {a4:Option Addr} {n4 c4:Nat} {b4:Bool} {z3 z4:Int}
theorem ltwo_aa (h:IntAt W (.agg #[.slice a3 n3 c3,.bool b3]) z3/\IntAt W (.agg #[.slice a4 n4 c4,.bool b4]) z4) (F:Below W2.heap.size W2 W) :
  LTwo W2 ((W.alloc (.cells #[.slice a3 n3 c3,.bool b3] 242)).alloc (.cells #[.slice a4 n4 c4,.bool b4] 242)) W.heap.size (W.heap.size+1) (a3,n3,c3,b3) (a4,n4,c4,b4) z3 z4 :=
 have k:=qbU (qbU (Below.refl W.heap.size W) qN) qN
 ⟨(qL _ _ _ (by simp only [qab];omega)).trans (qM _ _ _ rfl),qM _ _ _ (by simp only [qab]),h.1.below k,h.2.below k,qbU (qbU F qN) qN,F.size,qao F.size⟩
theorem ltwo_bb (h:IntAt W (.agg #[.slice a3 n3 c3,.bool b3]) z3/\IntAt W (.agg #[.slice a4 n4 c4,.bool b4]) z4) (F:Below W2.heap.size W2 W) :
  LTwo W2 ((W.alloc (.cells #[.slice a4 n4 c4,.bool b4] 242)).alloc (.cells #[.slice a3 n3 c3,.bool b3] 242)) (W.heap.size+1) W.heap.size (a3,n3,c3,b3) (a4,n4,c4,b4) z3 z4 :=
 have k:=qbU (qbU (Below.refl W.heap.size W) qN) qN
 ⟨qM _ _ _ (by simp only [qab]),(qL _ _ _ (by simp only [qab];omega)).trans (qM _ _ _ rfl),h.1.below k,h.2.below k,qbU (qbU F qN) qN,qao F.size,F.size⟩
theorem ltwo_pa {g:Nat} (h:IntAt W (.agg #[.slice a3 n3 c3,.bool b3]) z3/\IntAt W (.agg #[.slice a4 n4 c4,.bool b4]) z4) (F:Below W2.heap.size W2 W) (hg:W2.heap.size<=g) (H:W.heap[g]? = some (.cells #[.slice none 0 0,.bool false] 242 (0,0))) :
  LTwo W2 (((W.setCell ⟨g,0,none⟩ (.slice a3 n3 c3)).setCell ⟨g,1,none⟩ (.bool b3)).alloc (.cells #[.slice a4 n4 c4,.bool b4] 242)) g W.heap.size (a3,n3,c3,b3) (a4,n4,c4,b4) z3 z4:=by
 obtain⟨p1,p2,p3⟩:=qgk H a3 n3 c3 b3;have lt:=(qG H).1;have k:∀V:World,Below V.heap.size V (V.alloc (.cells #[.slice a4 n4 c4,.bool b4] 242)):=fun V=>qbU qB qN
 exact⟨(qL _ _ _ (by simp only [qbt];exact lt)).trans p1,qM _ _ _ (by simp only [qbt]),(p3 _ _ _ h.1).below (k _),(p3 _ _ _ h.2).below (k _),qbU ((F.setCell (by exact hg) _).setCell (by exact hg) _) qN,hg,F.size⟩
theorem ltwo_pb {g:Nat} (h:IntAt W (.agg #[.slice a3 n3 c3,.bool b3]) z3/\IntAt W (.agg #[.slice a4 n4 c4,.bool b4]) z4) (F:Below W2.heap.size W2 W) (hg:W2.heap.size<=g) (H:W.heap[g]? = some (.cells #[.slice none 0 0,.bool false] 242 (0,0))) :
  LTwo W2 (((W.setCell ⟨g,0,none⟩ (.slice a4 n4 c4)).setCell ⟨g,1,none⟩ (.bool b4)).alloc (.cells #[.slice a3 n3 c3,.bool b3] 242)) W.heap.size g (a3,n3,c3,b3) (a4,n4,c4,b4) z3 z4:=by
 obtain⟨p1,p2,p3⟩:=qgk H a4 n4 c4 b4;have lt:=(qG H).1;have k:∀V:World,Below V.heap.size V (V.alloc (.cells #[.slice a3 n3 c3,.bool b3] 242)):=fun V=>qbU qB qN
 exact⟨qM _ _ _ (by simp only [qbt]),(qL _ _ _ (by simp only [qbt];exact lt)).trans p1,(p3 _ _ _ h.1).below (k _),(p3 _ _ _ h.2).below (k _),qbU ((F.setCell (by exact hg) _).setCell (by exact hg) _) qN,F.size,hg⟩
theorem ltwo_pp {g F:Nat} (h:IntAt W (.agg #[.slice a3 n3 c3,.bool b3]) z3/\IntAt W (.agg #[.slice a4 n4 c4,.bool b4]) z4) (J:Below W2.heap.size W2 W) (hg:W2.heap.size<=g) (H:W2.heap.size<=F) (hne:g≠F) (O:W.heap[g]? = some (.cells #[.slice none 0 0,.bool false] 242 (0,0))) (I:W.heap[F]? = some (.cells #[.slice none 0 0,.bool false] 242 (0,0))) :
  LTwo W2 ((((W.setCell ⟨g,0,none⟩ (.slice a3 n3 c3)).setCell ⟨g,1,none⟩ (.bool b3)).setCell ⟨F,0,none⟩ (.slice a4 n4 c4)).setCell ⟨F,1,none⟩ (.bool b4)) g F (a3,n3,c3,b3) (a4,n4,c4,b4) z3 z4:=by
 obtain⟨p1,p2,p3⟩:=qgk O a3 n3 c3 b3;obtain⟨q1,q2,q3⟩:=qgk ((p2 F (Ne.symm hne)).trans I) a4 n4 c4 b4;exact⟨(q2 g hne).trans p1,q1,q3 _ _ _ (p3 _ _ _ h.1),q3 _ _ _ (p3 _ _ _ h.2),(((J.setCell (by exact hg) _).setCell (by exact hg) _).setCell (by exact H) _).setCell (by exact H) _,hg,H⟩
end
theorem qdo {W:World} {F:List (Value×Bool)} {H:Nat->Int} (h:qcv W F H) {k:Nat} (O:k<F.length):∃(a:Option Addr) (n c:Nat) (b:Bool),F.getD k (zs0,false)=(.slice a n c,b)/\IntAt W (.agg #[.slice a n c,.bool b]) (H k):=by
 obtain⟨J,I⟩:=h k O;have hg:=I;obtain⟨a,_,_,c,n,_,e,_,_⟩:=I;refine⟨a,n,c,decide (H k<0),Prod.ext e J,_,rfl,e▸hg⟩
theorem qc4 {a b:World} {g k:Nat} {cs:Array Value} {t:TypeId} (h:a.grownBy b (some g)) (hg:a.heap[k]? = some (.cells cs t (0,0))) (hne:k≠g) (i:Nat):b.cell? ⟨k,i,none⟩=cs[i]? :=
 qC _ _ i _ _ _ ((h.block _ (qG hg).1 (fun e=>hne (qah e))).trans hg)
theorem qb5 {a b:World} (g:Nat) (h:Below a.heap.size a b):a.grownBy b (some g):=qck (qc5 a _) h
def qho (W:World) (b n:Nat) (F:List (Value×Bool)):Prop:=∀k,k<n->W.cell? ⟨b,k*2,none⟩=some (F.getD k (zs0,false)).1/\W.cell? ⟨b,k*2+1,none⟩=some (.bool (F.getD k (zs0,false)).2)
theorem qho.below {W W':World} {b n:Nat} {I:List (Value×Bool)} (h:qho W b n I) (H:Below W.heap.size W W'):qho W' b n I :=
 fun k F=>⟨(H.cell (qac W _ (h k F).1)).trans (h k F).1,(H.cell (qac W _ (h k F).2)).trans (h k F).2⟩
theorem qkG {W:World} {g n j:Nat} {F:List (Value×Bool)} {z:Nat->Int} {a:Option Addr} {m c:Nat} {b:Bool} (I:IRow W g n F) (V:qcv W F z) (Z:F.length=j) (J:j<n) (Y:IntAt W (.agg #[.slice a m c,.bool b]) (z j)) :
  IRow ((W.setCell ⟨g,j*2,none⟩ (.slice a m c)).setCell ⟨g,j*2+1,none⟩ (.bool b)) g n (F++[(.slice a m c,b)])/\qcv ((W.setCell ⟨g,j*2,none⟩ (.slice a m c)).setCell ⟨g,j*2+1,none⟩ (.bool b)) (F++[(.slice a m c,b)]) z:=by
 subst Z;obtain⟨v,H,hg⟩:=Y;have O:v=.slice a m c:=by simp only [qaP,qaV,qaN] at H;exact H.1.symm
 have U:b=decide (z F.length<0):=by simp only [qaP,qaV,qaN,qbw] at H;exact H.2.1
 subst O;refine⟨I.set J _ b (qjL hg),?_⟩;rw [U];exact (V.snoc hg).keep (qbZ (qbW W g (F.length*2) _) (qbW _ g (F.length*2+1) _)) I.1 I.nope
theorem qit (br bp n cr cp J:Nat) (ps qs:List (Value×Bool)) (V U:Nat->Int) (K:Nat) (hK:K<=34359738368) (v0:Value) (z0:Int) (w:World) (hn:n<=64) (hc:J<n) (bN:ps.length=n) (bO:qs.length=n) (bi:qho w br n ps) (bg:qho w bp n qs) (hz:qcv w ps V) (hy:qcv w qs U) (bv:∀k,k<n->Fit (V k).natAbs K) (bu:∀k,k<n->Fit (U k).natAbs K) (h0:IntAt w v0 z0) (bn:Fit z0.natAbs K) (bP:z0≠0) :
  Calls prog 276 #[.slice (some ⟨br,0,none⟩) n cr,.slice (some ⟨bp,0,none⟩) n cp,.int .i64 J,v0] w fun e w'=>∃g rs,e=.returned (.slice (some ⟨g,0,none⟩) n n)/\w.heap.size<=g/\Below w.heap.size w w'/\rs.length=n/\IRow w' g n rs/\qcv w' rs (fun j=>(U J*V j-V J*U j).tdiv z0):=by
 obtain⟨a0,n0,c0,b0,rfl⟩:=qbV h0;obtain⟨W1,ak⟩:=qY (w.alloc (.cells #[.slice a0 n0 c0,.bool b0] 242));have bE:W1.heap.size=w.heap.size+1:=by rw [ak,qab]
 have aM:=qgJ n (by omega) W1;rw [bE] at aM;have aW:Below w.heap.size w W1:=ak▸qbU qB qN;have aX:=qbU (o:=.cells (madeCells #[zs0,.bool false] (n*2)) 242) aW qN;have aJ:=IRow.made W1 n;rw [bE] at aJ;have bC:W1.heap[w.heap.size]? = some (.cells #[.slice a0 n0 c0,.bool b0] 242 (0,0)):=by rw [ak];exact qM _ _ _ rfl
 have bD:(W1.alloc (.cells (madeCells #[zs0,.bool false] (n*2)) 242)).heap[w.heap.size]? = some (.cells #[.slice a0 n0 c0,.bool b0] 242 (0,0)):=(qL _ _ _ (by omega)).trans bC;have bW:(J:Int)<n:=by omega
 have H2:=qH (qA aX (qA aJ bD));have O:=qH (qA bi (qA bg (qA hz (qA hy (qA bv (qA bu (qA h0 (qA bn (qA bN bO)))))))));have bX:=qfi;clear bi bg hz hy bv bu h0 bn aW aX aJ bC bD;go_enter func276,ntmps276;go_wp2_with fail;rw [<-ak];rw [aM];clear ak aM;go_wp2_with fail
 go_loopw [18] (fun x18 W=>∃(j:Nat) (rs:List (Value×Bool)),j<=n/\x18=.int .i64 j/\Hu (rs.length=j/\IRow W (w.heap.size+1) n rs/\qcv W rs (fun j=>(U J*V j-V J*U j).tdiv z0)/\W.heap[w.heap.size]? = some (.cells #[.slice a0 n0 c0,.bool b0] 242 (0,0)))/\Hu (Below w.heap.size w W)) (fun x18 _=>n-(intOf x18).toNat)
 case atStart=>exact⟨0,[],qal _,rfl,qH ⟨rfl,H2.o.2.1,(fun i hi=>absurd hi (by simp)),H2.o.2.2⟩,qH H2.o.1⟩
 case round =>
  obtain⟨j,rs,hj,rfl,hI,hB⟩:=hrel
  by_cases Y:j<n
  ·have bY:(j:Int)<n:=by omega
   obtain⟨a1,n1,c1,b1,e1,i1⟩:=qdo (O.o.2.2.2.1.below hB.o) (k:=J) (by have:=O.o.2.2.2.2.2.2.2.2.2;omega);obtain⟨a2,n2,c2,b2,e2,i2⟩:=qdo (O.o.2.2.1.below hB.o) (k:=j) (by have:=O.o.2.2.2.2.2.2.2.2.1;omega);obtain⟨a5,n5,c5,b5,e5,i5⟩:=qdo (O.o.2.2.1.below hB.o) (k:=J) (by have:=O.o.2.2.2.2.2.2.2.2.1;omega);obtain⟨a6,n6,c6,b6,e6,i6⟩:=qdo (O.o.2.2.2.1.below hB.o) (k:=j) (by have:=O.o.2.2.2.2.2.2.2.2.2;omega);have k1:=(O.o.2.1.below hB.o) J hc;have k2:=(O.o.1.below hB.o) j Y;have k5:=(O.o.1.below hB.o) J hc;have k6:=(O.o.2.1.below hB.o) j Y;rw [e1] at k1;rw [e2] at k2;rw [e5] at k5;rw [e6] at k6;have bF:∀W,Below wr.heap.size wr W->W.cell? ⟨bp,J*2,none⟩=some (.slice a1 n1 c1):=fun W h=>(h.cell (qac wr _ k1.1)).trans k1.1
   have bG:∀W,Below wr.heap.size wr W->W.cell? ⟨bp,J*2+1,none⟩=some (.bool b1):=fun W h=>(h.cell (qac wr _ k1.2)).trans k1.2
   have bH:∀W,Below wr.heap.size wr W->W.cell? ⟨br,j*2,none⟩=some (.slice a2 n2 c2):=fun W h=>(h.cell (qac wr _ k2.1)).trans k2.1
   have bI:∀W,Below wr.heap.size wr W->W.cell? ⟨br,j*2+1,none⟩=some (.bool b2):=fun W h=>(h.cell (qac wr _ k2.2)).trans k2.2
   have bJ:∀W,Below wr.heap.size wr W->W.cell? ⟨br,J*2,none⟩=some (.slice a5 n5 c5):=fun W h=>(h.cell (qac wr _ k5.1)).trans k5.1
   have bK:∀W,Below wr.heap.size wr W->W.cell? ⟨br,J*2+1,none⟩=some (.bool b5):=fun W h=>(h.cell (qac wr _ k5.2)).trans k5.2
   have bL:∀W,Below wr.heap.size wr W->W.cell? ⟨bp,j*2,none⟩=some (.slice a6 n6 c6):=fun W h=>(h.cell (qac wr _ k6.1)).trans k6.1
   have bM:∀W,Below wr.heap.size wr W->W.cell? ⟨bp,j*2+1,none⟩=some (.bool b6):=fun W h=>(h.cell (qac wr _ k6.2)).trans k6.2
   have aS:=qH (fun W (h:Below wr.heap.size wr W)=>qcC (U J) (V j) K K (by omega) _ _ W (i1.below h) (i2.below h) (O.o.2.2.2.2.2.1 J hc) (O.o.2.2.2.2.1 j Y));have aT:=qH (fun W (h:Below wr.heap.size wr W)=>qcC (V J) (U j) K K (by omega) _ _ W (i5.below h) (i6.below h) (O.o.2.2.2.2.1 J hc) (O.o.2.2.2.2.2.1 j Y));clear k1 k2 k5 k6 e1 e2 e5 e6 i1 i2 i5 i6;have ai:Below wr.heap.size wr wr:=Below.refl _ _;have aD:Below wr.heap.size wr wr.drew:=ai.drew;have aC:wr.drew.heap.size=wr.heap.size:=rfl;have F:∀W:World,W.drew.heap.size=W.heap.size:=fun _=>rfl
   go_wp2_with fail
   go_cut [11,12] (fun x11 x12 W=>∃(g3 g4:Nat) (a3:Option Addr) (n3 c3:Nat) (b3:Bool) (a4:Option Addr) (n4 c4:Nat) (b4:Bool),x11=.pointer (some ⟨g3,0,none⟩)/\x12=.pointer (some ⟨g4,0,none⟩)/\LTwo wr W g3 g4 (a3,n3,c3,b3) (a4,n4,c4,b4) (U J*V j) (V J*U j))
   case first =>
    go_region_held3 (fun W=>Below wr.heap.size wr W) (first | with_reducible exact ai | with_reducible exact aD | with_reducible exact I | with_reducible exact H | ((repeat (first | refine Below.setCell ?_ (by first | exact qae _ | exact H.size | exact I.size | exact qao qN | exact qao H.size | exact qao I.size) _ | refine qbU ?_ qN | refine Below.drew ?_));first | exact I | exact H | exact ai)) (first | (go_at_call_of 172 (Value.agg #[.slice a1 n1 c1,.bool b1]);refine (aS.o _ (by ((repeat (first | refine Below.setCell ?_ (by first | exact qae _ | exact H.size | exact I.size | exact qao qN | exact qao H.size | exact qao I.size) _ | refine qbU ?_ qN | refine Below.drew ?_));first | exact ai))).mono ?_;rintro e w3 ⟨p3,rfl,au,aN⟩;have H:Below wr.heap.size wr w3:=bjoin (by ((repeat (first | refine Below.setCell ?_ (by first | exact qae _ | exact H.size | exact I.size | exact qao qN | exact qao H.size | exact qao I.size) _ | refine qbU ?_ qN | refine Below.drew ?_));first | exact ai)) au;obtain⟨a3,n3,c3,b3,rfl⟩:=qbV aN;have aF:=qH aN;obtain⟨k3,bZ⟩:=bcell au;have Z3:=qH (zkeep au);have s3:_<=_:=au.size;(try simp only [qab,aC,F] at s3);(try have q3:wr.heap.size<w3.heap.size:=by omega);(try have r3:wr.heap.size+1<w3.heap.size:=by omega);clear au aN) | (go_at_call_of 172 (Value.agg #[.slice a5 n5 c5,.bool b5]);refine (aT.o _ (by ((repeat (first | refine Below.setCell ?_ (by first | exact qae _ | exact H.size | exact I.size | exact qao qN | exact qao H.size | exact qao I.size) _ | refine qbU ?_ qN | refine Below.drew ?_));first | exact H))).mono ?_;rintro e w4 ⟨p4,rfl,aa,aO⟩;have I:Below wr.heap.size wr w4:=bjoin (by ((repeat (first | refine Below.setCell ?_ (by first | exact qae _ | exact H.size | exact I.size | exact qao qN | exact qao H.size | exact qao I.size) _ | refine qbU ?_ qN | refine Below.drew ?_));first | exact H)) aa;obtain⟨a4,n4,c4,b4,rfl⟩:=qbV aO;have aj:=qH (qA (show IntAt w4 _ _ from (by first | exact aF.o.below aa | exact (aF.o.below (qbU qB qN)).below aa | exact (aF.o.below (qbU (qbU qB qN) qN)).below aa)) aO);obtain⟨k4,cu⟩:=bcell aa;have Z4:=qH (zkeep aa);have s4:_<=_:=aa.size;(try simp only [qab] at s4);(try have q4:wr.heap.size<w4.heap.size:=by omega);(try have r4:wr.heap.size+1<w4.heap.size:=by omega);(try have t4:w3.heap.size<w4.heap.size:=by omega);(try have u4:w3.heap.size+1<w4.heap.size:=by omega);clear aa aO))
    all_goals go_wp2_with fail
    all_goals go_meet
    all_goals refine⟨_,_,a3,n3,c3,b3,a4,n4,c4,b4,rfl,rfl,?_⟩
    all_goals first
     | with_reducible exact ltwo_aa aj.o I
     | with_reducible exact ltwo_bb aj.o I
     | (with_reducible refine ltwo_pa aj.o I ?_ ?_;(first | exact qae _ | exact H.size | exact I.size | exact qbB _ | exact qao H.size);(refine Z4.o _ _ ?_;((try with_reducible refine zdrew ?_);first | (refine qM _ _ _ ?_;((try simp only) <;> omega)) | (refine Z3.o _ _ ?_;((try with_reducible refine zdrew ?_);first | (refine qM _ _ _ ?_;((try simp only) <;> omega)) | (refine (qL _ _ _ ?_).trans ?_;((try simp only [qab,F]);omega);(refine qM _ _ _ ?_;((try simp only [qab,F]) <;> omega))))) | (refine (qL _ _ _ ?_).trans ?_;((try simp only [qab,F]);omega);(first | (refine qM _ _ _ ?_;((try simp only [qab,F]) <;> omega)) | (refine Z3.o _ _ ?_;((try with_reducible refine zdrew ?_);first | (refine qM _ _ _ ?_;((try simp only [qab,F]) <;> omega)) | (refine (qL _ _ _ ?_).trans ?_;((try simp only [qab,F]);omega);(refine qM _ _ _ ?_;((try simp only [qab,F]) <;> omega))))))) | (refine (qL _ _ _ ?_).trans ?_;((try simp only [qab,F]);omega);refine (qL _ _ _ ?_).trans ?_;((try simp only [qab,F]);omega);(refine Z3.o _ _ ?_;((try with_reducible refine zdrew ?_);first | (refine qM _ _ _ ?_;((try simp only [qab,F]) <;> omega)) | (refine (qL _ _ _ ?_).trans ?_;((try simp only [qab,F]);omega);(refine qM _ _ _ ?_;((try simp only [qab,F]) <;> omega)))))))))
     | (with_reducible refine ltwo_pb aj.o I ?_ ?_;(first | exact qae _ | exact H.size | exact I.size | exact qbB _ | exact qao H.size);(refine Z4.o _ _ ?_;((try with_reducible refine zdrew ?_);first | (refine qM _ _ _ ?_;((try simp only) <;> omega)) | (refine Z3.o _ _ ?_;((try with_reducible refine zdrew ?_);first | (refine qM _ _ _ ?_;((try simp only) <;> omega)) | (refine (qL _ _ _ ?_).trans ?_;((try simp only [qab,F]);omega);(refine qM _ _ _ ?_;((try simp only [qab,F]) <;> omega))))) | (refine (qL _ _ _ ?_).trans ?_;((try simp only [qab,F]);omega);(first | (refine qM _ _ _ ?_;((try simp only [qab,F]) <;> omega)) | (refine Z3.o _ _ ?_;((try with_reducible refine zdrew ?_);first | (refine qM _ _ _ ?_;((try simp only [qab,F]) <;> omega)) | (refine (qL _ _ _ ?_).trans ?_;((try simp only [qab,F]);omega);(refine qM _ _ _ ?_;((try simp only [qab,F]) <;> omega))))))) | (refine (qL _ _ _ ?_).trans ?_;((try simp only [qab,F]);omega);refine (qL _ _ _ ?_).trans ?_;((try simp only [qab,F]);omega);(refine Z3.o _ _ ?_;((try with_reducible refine zdrew ?_);first | (refine qM _ _ _ ?_;((try simp only [qab,F]) <;> omega)) | (refine (qL _ _ _ ?_).trans ?_;((try simp only [qab,F]);omega);(refine qM _ _ _ ?_;((try simp only [qab,F]) <;> omega)))))))))
     | (with_reducible refine ltwo_pp aj.o I ?_ ?_ ?_ ?_ ?_;(first | exact qae _ | exact H.size | exact I.size | exact qbB _ | exact qao H.size);(first | exact qae _ | exact H.size | exact I.size | exact qbB _ | exact qao H.size);omega;(refine Z4.o _ _ ?_;((try with_reducible refine zdrew ?_);first | (refine qM _ _ _ ?_;((try simp only [qab]) <;> omega)) | (refine Z3.o _ _ ?_;((try with_reducible refine zdrew ?_);first | (refine qM _ _ _ ?_;((try simp only [qab]) <;> omega)) | (refine (qL _ _ _ ?_).trans ?_;((try simp only [qab]);omega);(refine qM _ _ _ ?_;((try simp only) <;> omega))))) | (refine (qL _ _ _ ?_).trans ?_;((try simp only [qab]);omega);(first | (refine qM _ _ _ ?_;((try simp only) <;> omega)) | (refine Z3.o _ _ ?_;((try with_reducible refine zdrew ?_);first | (refine qM _ _ _ ?_;((try simp only) <;> omega)) | (refine (qL _ _ _ ?_).trans ?_;((try simp only [qab,F]);omega);(refine qM _ _ _ ?_;((try simp only [qab,F]) <;> omega))))))) | (refine (qL _ _ _ ?_).trans ?_;((try simp only [qab,F]);omega);refine (qL _ _ _ ?_).trans ?_;((try simp only [qab,F]);omega);(refine Z3.o _ _ ?_;((try with_reducible refine zdrew ?_);first | (refine qM _ _ _ ?_;((try simp only [qab,F]) <;> omega)) | (refine (qL _ _ _ ?_).trans ?_;((try simp only [qab,F]);omega);(refine qM _ _ _ ?_;((try simp only [qab,F]) <;> omega))))))));(refine Z4.o _ _ ?_;((try with_reducible refine zdrew ?_);first | (refine qM _ _ _ ?_;((try simp only [qab]) <;> omega)) | (refine Z3.o _ _ ?_;((try with_reducible refine zdrew ?_);first | (refine qM _ _ _ ?_;((try simp only [qab]) <;> omega)) | (refine (qL _ _ _ ?_).trans ?_;((try simp only [qab]);omega);(refine qM _ _ _ ?_;((try simp only) <;> omega))))) | (refine (qL _ _ _ ?_).trans ?_;((try simp only [qab]);omega);(first | (refine qM _ _ _ ?_;((try simp only) <;> omega)) | (refine Z3.o _ _ ?_;((try with_reducible refine zdrew ?_);first | (refine qM _ _ _ ?_;((try simp only) <;> omega)) | (refine (qL _ _ _ ?_).trans ?_;((try simp only [qab,F]);omega);(refine qM _ _ _ ?_;((try simp only [qab,F]) <;> omega))))))) | (refine (qL _ _ _ ?_).trans ?_;((try simp only [qab,F]);omega);refine (qL _ _ _ ?_).trans ?_;((try simp only [qab,F]);omega);(refine Z3.o _ _ ?_;((try with_reducible refine zdrew ?_);first | (refine qM _ _ _ ?_;((try simp only [qab,F]) <;> omega)) | (refine (qL _ _ _ ?_).trans ?_;((try simp only [qab,F]);omega);(refine qM _ _ _ ?_;((try simp only [qab,F]) <;> omega)))))))))
   case rest =>
    obtain⟨g3,g4,a3,n3,c3,b3,a4,n4,c4,b4,rfl,rfl,h3,h4,aK,aL,hb,l3,l4⟩:=hcut;dsimp only at h3 h4 aK aL;have lr:=(qG hI.o.2.1.1).1;have bA:g3≠w.heap.size+1:=by omega
    have bB:g4≠w.heap.size+1:=by omega
    have az:w.heap.size≠w.heap.size+1:=by omega
    have aB:=(hb.block _ (qG hI.o.2.2.2).1).trans hI.o.2.2.2;have bS:∀W,wc.grownBy W (some (w.heap.size+1))->W.cell? ⟨g3,0,none⟩=some (.slice a3 n3 c3):=fun W h=>qc4 h h3 bA 0
    have bT:∀W,wc.grownBy W (some (w.heap.size+1))->W.cell? ⟨g3,1,none⟩=some (.bool b3):=fun W h=>qc4 h h3 bA 1
    have bU:∀W,wc.grownBy W (some (w.heap.size+1))->W.cell? ⟨g4,0,none⟩=some (.slice a4 n4 c4):=fun W h=>qc4 h h4 bB 0
    have bV:∀W,wc.grownBy W (some (w.heap.size+1))->W.cell? ⟨g4,1,none⟩=some (.bool b4):=fun W h=>qc4 h h4 bB 1
    have bQ:∀W,wc.grownBy W (some (w.heap.size+1))->W.cell? ⟨w.heap.size,0,none⟩=some (.slice a0 n0 c0):=fun W h=>qc4 h aB az 0
    have bR:∀W,wc.grownBy W (some (w.heap.size+1))->W.cell? ⟨w.heap.size,1,none⟩=some (.bool b0):=fun W h=>qc4 h aB az 1
    have aG:=hB.o.trans (hb.mono hB.o.size);have bz:=O.o.2.2.2.2.2.2.1.below (W':=wc) (aG.mono (by omega));have hP:=O.o.2.2.2.2.1 j Y;have ay:=(O.o.2.2.2.2.2.1 J hc).mul (O.o.2.2.2.2.1 j Y);have aI:=(O.o.2.2.2.2.1 J hc).mul (O.o.2.2.2.2.2.1 j Y);rw [<-qaF] at ay aI;have aH:Fit (-(V J*U j)).natAbs (K+K):=by rw [qbj];exact aI
    have bq:Fit (U J*V j + -(V J*U j)).natAbs (K+K+1):=(ay.add aH).le (qbF _ _);have HA:=qH (fun W (h:Below wc.heap.size wc W)=>(qdR .l) (V J*U j) _ W (aL.below h));have HS:=qH (fun W (u:Value) (h:Below wc.heap.size wc W) (hu:IntAt W u (-(V J*U j)))=>(qde .l) (U J*V j) (-(V J*U j)) (K+K) (by omega) _ u W (aK.below h) hu ay aH);have HQ:=qH (fun W (u:Value) (h:Below wc.heap.size wc W) (hu:IntAt W u (U J*V j + -(V J*U j)))=>qgL (U J*V j + -(V J*U j)) z0 (K+K+1) (by omega) u _ W hu (bz.below h) bq (O.o.2.2.2.2.2.2.2.1.mono (by omega)) bP);have ah:=qH (qA (hI.o.2.1.below hb) (qA (hI.o.2.2.1.below hb) (qA aB aG)));have av:Below wc.heap.size wc wc:=Below.refl _ _;have ae:Below wc.heap.size wc wc.drew:=av.drew;clear h3 h4 aK aL hb aB aG bz hP ay aI aH bq ai aD aC bF bG bH bI bJ bK bL bM aS aT;go_wp2_with fail
    go_region_held3 (fun W=>wc.grownBy W (some (w.heap.size+1))) (first | with_reducible exact qc5 _ _ | with_reducible exact qb5 _ ae | with_reducible exact qb5 _ Z | with_reducible exact qb5 _ ag | with_reducible exact qb5 _ af | with_reducible exact qb5 _ Z.drew | with_reducible exact qb5 _ ag.drew | with_reducible exact qb5 _ af.drew | exact qbZ (qbZ (qb5 _ Z) (qbW _ _ _ _)) (qbW _ _ _ _) | exact qbZ (qbZ (qb5 _ Z.drew) (qbW _ _ _ _)) (qbW _ _ _ _)) (first | (go_at_call 175;refine (HA.o _ (by first | with_reducible exact av | with_reducible exact ae)).mono ?_;rintro e w5 ⟨p5,rfl,aY,aP⟩;have af:Below wc.heap.size wc w5:=bjoin (by first | with_reducible exact av | with_reducible exact ae) aY;obtain⟨a7,n7,c7,b7,rfl⟩:=qbV aP;have G5:=qH aP;clear aY aP) | (go_at_call 173;refine (HS.o _ _ (by first | with_reducible exact af | with_reducible exact af.drew) (by first | exact G5.o | exact G5.o.below qB.drew)).mono ?_;rintro e w6 ⟨p6,rfl,aZ,aQ⟩;have ag:Below wc.heap.size wc w6:=bjoin (by first | with_reducible exact af | with_reducible exact af.drew) aZ;obtain⟨a8,n8,c8,b8,rfl⟩:=qbV aQ;have G6:=qH aQ;clear aZ aQ) | (go_at_call 291;refine (HQ.o _ _ (by first | with_reducible exact ag | with_reducible exact ag.drew) (by first | exact G6.o | exact G6.o.below qB.drew)).mono ?_;rintro e w7 ⟨p7,rfl,bf,aA⟩;have Z:Below wc.heap.size wc w7:=bjoin (by first | with_reducible exact ag | with_reducible exact ag.drew) bf;obtain⟨a9,n9,c9,b9,rfl⟩:=qbV aA;have G7:=qH aA;have R7:=ah.o.1.below Z;have aU:=hI.o.1;have aV:=R7.at (by omega);rw [aU] at aV;obtain⟨⟨cz,cB⟩,aR⟩:=aV;have cK:=aR (j*2);have cO:=aR (j*2+1);have ax:=qH (qA (qkG R7 (ah.o.2.1.below Z) hI.o.1 Y (a:=a9) (m:=n9) (c:=c9) (b:=b9) (by rw [Int.sub_eq_add_neg];exact aA)) (qA ((qW (w7.setCell ⟨w.heap.size+1,j*2,none⟩ (.slice a9 n9 c9)) ⟨w.heap.size+1,j*2+1,none⟩ (.bool b9) w.heap.size az).trans ((qW w7 ⟨w.heap.size+1,j*2,none⟩ (.slice a9 n9 c9) w.heap.size az).trans ((Z.block _ (qG ah.o.2.2.1).1).trans ah.o.2.2.1))) (((ah.o.2.2.2.trans (Z.mono ah.o.2.2.2.size)).setCell (p:=⟨w.heap.size+1,j*2,none⟩) (by show w.heap.size<=w.heap.size+1;omega) (.slice a9 n9 c9)).setCell (p:=⟨w.heap.size+1,j*2+1,none⟩) (by show w.heap.size<=w.heap.size+1;omega) (.bool b9))));clear bf aA R7 aU aR))
    all_goals go_wp2_with fail
    all_goals go_roundw
    case rel=>exact⟨j+1,_,Y,by go_num,qH ⟨by rw [qaf,hI.o.1];rfl,ax.o.1.1,ax.o.1.2,ax.o.2.1⟩,qH ax.o.2.2⟩
    case measure=>simp [intOf];omega
  ·obtain rfl:j=n:=by omega
   go_wp2;go_ret;exact⟨_,rs,rfl,qbB _,hB.o,hI.o.1,hI.o.2.1,hI.o.2.2.1⟩
abbrev zi0:Value:=.agg #[.slice none 0 0,.bool false]
def isum (t:Nat->Int):Nat->Int
 | 0=>0
 | n+1=>isum t n+t n
theorem qfq (t:Nat->Int) (K:Nat):∀k,(∀j,j<k->Fit (t j).natAbs K)->Fit (isum t k).natAbs (K+k+1)
 | 0,_=>Nat.pow_pos (by decide)
 | k+1,h=>by
  have F:=qfq t K k (fun j I=>h j (by omega));have H:=(h k (by omega)).mono (show K<=K+k+1 by omega);exact (F.add H).le (qbF _ _)
theorem qji {w wr F:World} {U a9:Option Addr} {n1 c1 I c9:Nat} {V H:Bool} {z:Int} {o:Obj} (J:IntAt F (.agg #[.slice a9 I c9,.bool H]) z) (z3:F.heap[w.heap.size+1+1]? = some (.cells #[.slice U n1 c1,.bool V] 242 (0,0))) (O:Below (w.heap.size+1+1) wr F) (Z:wr.heap[w.heap.size+1]? = some o) (Y:Below w.heap.size w wr) :
  ((F.setCell ⟨w.heap.size+1+1,0,none⟩ (.slice a9 I c9)).setCell ⟨w.heap.size+1+1,1,none⟩ (.bool H)).heap[w.heap.size+1+1]? = some (.cells #[.slice a9 I c9,.bool H] 242 (0,0)) /\
   IntAt ((F.setCell ⟨w.heap.size+1+1,0,none⟩ (.slice a9 I c9)).setCell ⟨w.heap.size+1+1,1,none⟩ (.bool H)) (.agg #[.slice a9 I c9,.bool H]) z /\
   ((F.setCell ⟨w.heap.size+1+1,0,none⟩ (.slice a9 I c9)).setCell ⟨w.heap.size+1+1,1,none⟩ (.bool H)).heap[w.heap.size+1]? = some o /\
   Below w.heap.size w ((F.setCell ⟨w.heap.size+1+1,0,none⟩ (.slice a9 I c9)).setCell ⟨w.heap.size+1+1,1,none⟩ (.bool H)):=by
 have hne:w.heap.size+1≠w.heap.size+1+1:=by omega
 refine⟨heap_setCell_same _ _ 1 _ _ _ (heap_setCell_same _ _ 0 _ _ _ z3),?_,(qW _ ⟨_,1,none⟩ _ _ hne).trans ((qW _ ⟨_,0,none⟩ _ _ hne).trans ((O.block _ (by omega)).trans Z)),((Y.trans (O.mono (by omega))).setCell (p:=⟨_,0,none⟩) (by show w.heap.size<=w.heap.size+1+1;omega) _).setCell (p:=⟨_,1,none⟩) (by show w.heap.size<=w.heap.size+1+1;omega) _⟩;obtain⟨m,e,hg⟩:=J;refine⟨m,e,qcp hg (qbZ (qbW F _ 0 _) (qbW _ _ 1 _)) z3 ?_⟩;intro x hx d;rcases qaJ.1 hx with rfl | hx
 ·intro h;cases h
 ·rw [qap.1 hx];intro h;cases h
theorem qlE (n:Nat) (p1 p2:Value) (t:Nat->Int) (K:Nat) (hK:K<=34359738368) (w:World) (hn:n<=64)
  (I:∀W (j:Nat),j<n->Below w.heap.size w W->Calls prog 171 #[.int .i64 j,p1,p2] W fun e W'=>∃u,e=.returned u/\Below W.heap.size W W'/\IntAt W' u (t j)) (Y:∀j,j<n->Fit (t j).natAbs K) :
  Calls prog 170 #[.int .i64 n,zi0,.func (.func 171) #[] #[p1,p2],.func (.func 173) #[] #[]] w fun e w'=>∃u,e=.returned u/\Below w.heap.size w w'/\IntAt w' u (isum t n):=by
 have HT:=qH I;have HF:=qH Y;have av:=qfi;clear I Y;go_enter func170,ntmps170;go_wp2_with fail
 go_loopw [13] (fun x13 W=>∃(k:Nat) (a:Option Addr) (m c:Nat) (b:Bool),k<=n/\x13=.int .i64 k/\Hu (W.heap[w.heap.size+1+1]? = some (.cells #[.slice a m c,.bool b] 242 (0,0))/\IntAt W (.agg #[.slice a m c,.bool b]) (isum t k)/\W.heap[w.heap.size+1]? = some (.cells #[.slice none 0 0,.bool false] 242 (0,0)))/\Hu (Below w.heap.size w W)) (fun x13 _=>n-(intOf x13).toNat)
 case atStart =>
  refine⟨0,none,0,0,false,qal _,rfl,qH ⟨qM _ _ _ (by simp),?_,(qL _ _ _ (by simp)).trans (qM _ _ _ (by simp))⟩,qH (qbU (qbU (qbU qB qN) qN) qN)⟩;exact⟨_,rfl,MagAt.nil _⟩
 case round =>
  obtain⟨k,a1,n1,c1,b1,hk,rfl,J,hB⟩:=hrel
  by_cases af:k<n
  ·have ax:(k:Int)<n:=by omega
   have e0:=qC wr _ 0 _ _ _ J.o.1;have e1:=qC wr _ 1 _ _ _ J.o.1;have au:Below (w.heap.size+1+1) wr wr:=Below.refl _ _;have Z:Below (w.heap.size+1+1) wr wr.drew:=au.drew;have aj:=(qG J.o.1).1;have U:=qH aj;clear aj;have ai:=qH (qA (qfq t K k (fun j hj=>HF.o j (by omega))) ((HF.o k af).mono (show K<=K+k+1 by omega)));go_wp2_with fail
   go_region_with (first | (go_at_call 173;refine ((qde .l) (isum t k) (t k) (K+k+1) (by omega) _ _ _ (by first | exact F.o.1 | exact F.o.1.below qB.drew) (by first | exact F.o.2.1 | exact F.o.2.1.below qB.drew) ai.o.1 ai.o.2).mono ?_;rintro e w3 ⟨p3,rfl,ae,ag⟩;have ak:Below (w.heap.size+1+1) wr w3:=aa.trans (ae.mono (qaj (qar U.o) aa.size));obtain⟨a9,n9,c9,b9,rfl⟩:=qbV ag;have z3:=(ae.block _ (qai U.o aa.size)).trans F.o.2.2;have q0:=qC w3 _ 0 _ _ _ z3;have q1:=qC w3 _ 1 _ _ _ z3;have f0:=qF w3 _ 0 _ _ z3;have f1:=qF w3 _ 1 _ _ z3;have O:=qH (qji ag z3 ak J.o.2.2 hB.o);clear ae ag z3) | (go_at_call 171;refine (HT.o _ k af (hB.o.trans (Z.mono (by omega)))).mono ?_;rintro e w2 ⟨u2,rfl,V,ah⟩;have aa:Below (w.heap.size+1+1) wr w2:=Z.trans (V.mono (qar U.o));have z2:w2.heap[w.heap.size+1+1]? = some (.cells #[.slice a1 n1 c1,.bool b1] 242 (0,0)):=(V.block _ U.o).trans J.o.1;have g0:=qC w2 _ 0 _ _ _ z2;have g1:=qC w2 _ 1 _ _ _ z2;obtain⟨a2,n2,c2,b2,rfl⟩:=qbV ah;have F:=qH (qA (J.o.2.1.below (W':=w2) ((Below.refl wr.heap.size wr).drew.trans V)) (qA ah z2));clear V ah z2))
   all_goals go_wp2_with fail
   all_goals go_roundw
   all_goals first
    | exact⟨k+1,a9,n9,c9,b9,af,by go_num,qH ⟨O.o.1,O.o.2.1,O.o.2.2.1⟩,qH O.o.2.2.2⟩
    | (simp [intOf];omega)
  ·obtain rfl:k=n:=by omega
   have e0:=qC wr _ 0 _ _ _ J.o.1;have e1:=qC wr _ 1 _ _ _ J.o.1;have H:=J.o.2.2;have HR:=qH (qA H (qA (qS hB.o (show w.heap.size<=w.heap.size+1 by omega) #[.slice a1 n1 c1,.bool b1]) (qcs (cs':=#[.slice a1 n1 c1,.bool b1]) J.o.2.1 H qdm)));clear H
   go_wp2_with (with_reducible refine sR_ rfl 242 _ _ rfl (w.heap.size+1) #[.slice a1 n1 c1,.bool b1] HR.o.1 2 ?_)
   exact qR (v:=.agg #[.slice a1 n1 c1,.bool b1]) (rA_ rfl (w.heap.size+1) (qT _ _ _ _ _ _ HR.o.1) underlying242 2) rfl ⟨_,rfl,HR.o.2.1,HR.o.2.2⟩
theorem qic (n:Nat) (y1 y2 y3 y4:Value) (t:Nat->Int) (K:Nat) (hK:K<=34359738368) (w:World) (hn:n<=64)
  (I:∀W (j:Nat),j<n->Below w.heap.size w W->Calls prog 252 #[.int .i64 j,y1,y2,y3,y4] W fun e W'=>∃u,e=.returned u/\Below W.heap.size W W'/\IntAt W' u (t j)) (Y:∀j,j<n->Fit (t j).natAbs K) :
  Calls prog 170 #[.int .i64 n,zi0,.func (.func 252) #[] #[y1,y2,y3,y4],.func (.func 173) #[] #[]] w fun e w'=>∃u,e=.returned u/\Below w.heap.size w w'/\IntAt w' u (isum t n):=by
 have HT:=qH I;have HF:=qH Y;have av:=qfi;clear I Y;go_enter func170,ntmps170;go_wp2_with fail
 go_loopw [13] (fun x13 W=>∃(k:Nat) (a:Option Addr) (m c:Nat) (b:Bool),k<=n/\x13=.int .i64 k/\Hu (W.heap[w.heap.size+1+1]? = some (.cells #[.slice a m c,.bool b] 242 (0,0))/\IntAt W (.agg #[.slice a m c,.bool b]) (isum t k)/\W.heap[w.heap.size+1]? = some (.cells #[.slice none 0 0,.bool false] 242 (0,0)))/\Hu (Below w.heap.size w W)) (fun x13 _=>n-(intOf x13).toNat)
 case atStart =>
  refine⟨0,none,0,0,false,qal _,rfl,qH ⟨qM _ _ _ (by simp),?_,(qL _ _ _ (by simp)).trans (qM _ _ _ (by simp))⟩,qH (qbU (qbU (qbU qB qN) qN) qN)⟩;exact⟨_,rfl,MagAt.nil _⟩
 case round =>
  obtain⟨k,a1,n1,c1,b1,hk,rfl,J,hB⟩:=hrel
  by_cases af:k<n
  ·have ax:(k:Int)<n:=by omega
   have e0:=qC wr _ 0 _ _ _ J.o.1;have e1:=qC wr _ 1 _ _ _ J.o.1;have au:Below (w.heap.size+1+1) wr wr:=Below.refl _ _;have Z:Below (w.heap.size+1+1) wr wr.drew:=au.drew;have aj:=(qG J.o.1).1;have U:=qH aj;clear aj;have ai:=qH (qA (qfq t K k (fun j hj=>HF.o j (by omega))) ((HF.o k af).mono (show K<=K+k+1 by omega)));go_wp2_with fail
   go_region_with (first | (go_at_call 173;refine ((qde .l) (isum t k) (t k) (K+k+1) (by omega) _ _ _ (by first | exact F.o.1 | exact F.o.1.below qB.drew) (by first | exact F.o.2.1 | exact F.o.2.1.below qB.drew) ai.o.1 ai.o.2).mono ?_;rintro e w3 ⟨p3,rfl,ae,ag⟩;have ak:Below (w.heap.size+1+1) wr w3:=aa.trans (ae.mono (qaj (qar U.o) aa.size));obtain⟨a9,n9,c9,b9,rfl⟩:=qbV ag;have z3:=(ae.block _ (qai U.o aa.size)).trans F.o.2.2;have q0:=qC w3 _ 0 _ _ _ z3;have q1:=qC w3 _ 1 _ _ _ z3;have f0:=qF w3 _ 0 _ _ z3;have f1:=qF w3 _ 1 _ _ z3;have O:=qH (qji ag z3 ak J.o.2.2 hB.o);clear ae ag z3) | (go_at_call 252;refine (HT.o _ k af (hB.o.trans (Z.mono (by omega)))).mono ?_;rintro e w2 ⟨u2,rfl,V,ah⟩;have aa:Below (w.heap.size+1+1) wr w2:=Z.trans (V.mono (qar U.o));have z2:w2.heap[w.heap.size+1+1]? = some (.cells #[.slice a1 n1 c1,.bool b1] 242 (0,0)):=(V.block _ U.o).trans J.o.1;have g0:=qC w2 _ 0 _ _ _ z2;have g1:=qC w2 _ 1 _ _ _ z2;obtain⟨a2,n2,c2,b2,rfl⟩:=qbV ah;have F:=qH (qA (J.o.2.1.below (W':=w2) ((Below.refl wr.heap.size wr).drew.trans V)) (qA ah z2));clear V ah z2))
   all_goals go_wp2_with fail
   all_goals go_roundw
   all_goals first
    | exact⟨k+1,a9,n9,c9,b9,af,by go_num,qH ⟨O.o.1,O.o.2.1,O.o.2.2.1⟩,qH O.o.2.2.2⟩
    | (simp [intOf];omega)
  ·obtain rfl:k=n:=by omega
   have e0:=qC wr _ 0 _ _ _ J.o.1;have e1:=qC wr _ 1 _ _ _ J.o.1;have H:=J.o.2.2;have HR:=qH (qA H (qA (qS hB.o (show w.heap.size<=w.heap.size+1 by omega) #[.slice a1 n1 c1,.bool b1]) (qcs (cs':=#[.slice a1 n1 c1,.bool b1]) J.o.2.1 H qdm)));clear H
   go_wp2_with (with_reducible refine sR_ rfl 242 _ _ rfl (w.heap.size+1) #[.slice a1 n1 c1,.bool b1] HR.o.1 2 ?_)
   exact qR (v:=.agg #[.slice a1 n1 c1,.bool b1]) (rA_ rfl (w.heap.size+1) (qT _ _ _ _ _ _ HR.o.1) underlying242 2) rfl ⟨_,rfl,HR.o.2.1,HR.o.2.2⟩
abbrev rowv (g n:Nat):Value:=.slice (some ⟨g,0,none⟩) n n
def rowvs (R n:Nat) (F:Nat->Nat):List Value:=(List.range R).map fun i=>rowv (F i) n
theorem qcI (R n:Nat) (F:Nat->Nat):(rowvs R n F).length=R:=by rw [rowvs,qav,qbx]
theorem qec {R n i:Nat} {F:Nat->Nat} (H:i<R):(rowvs R n F)[i]? = some (rowv (F i) n):=by
 rw [rowvs,qay,qbb H];rfl
theorem qny {R n i:Nat} {H:Nat->Nat} (g:Nat):(rowvs R n H).set i (rowv g n)=rowvs R n (fun j=>if j=i then g else H j):=by
 apply List.ext_getElem?;intro j
 by_cases F:j<R
 ·rw [qec F,List.getElem?_set]
  by_cases e:i=j
  ·subst e;rw [if_pos rfl,if_pos (by rw [qcI];exact F),if_pos rfl]
  ·rw [if_neg e,qec F,if_neg (fun h=>e h.symm)]
 ·rw [qaS (by rw [qa6,qcI];omega),qaS (by rw [qcI];omega)]
def qco (W:World) (g n:Nat) (m:Nat->Int):Prop:=∃F:List (Value×Bool),F.length=n/\IRow W g n F/\qcv W F m
theorem qco.below {W W':World} {g n:Nat} {m:Nat->Int} (h:qco W g n m) (F:Below W.heap.size W W'):qco W' g n m:=by
 obtain⟨ps,H,I,J⟩:=h;exact⟨ps,H,I.below F,J.below F⟩
theorem qco.cells {W:World} {g n:Nat} {F:List (Value×Bool)} (J:F.length=n) (H:IRow W g n F):qho W g n F:=by
 intro k O;have I:(F++List.replicate (n-F.length) (zs0,false))[k]? = some (F.getD k (zs0,false)):=by
  rw [qas (by omega),qaa,qad (by omega)];rfl
 obtain⟨e1,e2⟩:=qfn _ _ _ I;exact⟨(qC _ _ _ _ _ _ H.1).trans ((qau ..).trans e1),(qC _ _ _ _ _ _ H.1).trans ((qau ..).trans e2)⟩
structure MatAt (W:World) (tb R n:Nat) (gs:Nat->Nat) (M:Nat->Nat->Int):Prop where
 row:W.heap[tb]? = some (.cells (rowvs R n gs).toArray 237 (0,0))
 rows:∀i,i<R->qco W (gs i) n (M i)
theorem MatAt.below {W W':World} {I R n:Nat} {F:Nat->Nat} {M:Nat->Nat->Int} (h:MatAt W I R n F M) (H:Below W.heap.size W W'):MatAt W' I R n F M :=
 ⟨(H.block _ (qG h.row).1).trans h.row,fun i J=>(h.rows i J).below H⟩
theorem MatAt.cell {W:World} {F R n:Nat} {H:Nat->Nat} {M:Nat->Nat->Int} (h:MatAt W F R n H M) {i:Nat} (I:i<R):W.cell? ⟨F,i,none⟩=some (rowv (H i) n)/\W.frozen? ⟨F,i,none⟩=false :=
 ⟨(qC _ _ _ _ _ _ h.row).trans ((qau ..).trans (qec I)),qF _ _ _ _ _ h.row⟩
theorem qgZ {R n:Nat} {F:Nat->Nat}:∀x∈(rowvs R n F).toArray.toList,∀d,x≠.int .u32 d:=by
 intro x hx d e;obtain⟨i,_,h⟩:=qbp.1 (show x∈rowvs R n F from hx);rw [e] at h;cases h
theorem qco.keep {W W':World} {H R n g O:Nat} {U:Nat->Nat} {m:Nat->Int} (h:qco W g O m) (I:W.grownBy W' (some H)) (J:W.heap[H]? = some (.cells (rowvs R n U).toArray 237 (0,0))):qco W' g O m:=by
 obtain⟨ps,V,F,Y⟩:=h;have hne:g≠H:=by
  intro e;subst e;have:=F.1.symm.trans J;simp at this
 exact⟨ps,V,⟨(I.block _ (qG F.1).1 (fun e=>hne (qah e))).trans F.1,F.2⟩,Y.keep I J qgZ⟩
theorem MatAt.set {W:World} {F R n:Nat} {H:Nat->Nat} {M:Nat->Nat->Int} (h:MatAt W F R n H M) (i g:Nat) (m:Nat->Int) (hg:qco W g n m) :
  MatAt (W.setCell ⟨F,i,none⟩ (rowv g n)) F R n (fun j=>if j=i then g else H j) (fun j=>if j=i then m else M j):=by
 have I:=qbW W F i (rowv g n);refine⟨?_,fun j J=>?_⟩
 ·rw [heap_setCell_same _ F i _ _ _ h.row,qaA,qny]
 ·by_cases e:j=i
  ·simp only [if_pos e];exact hg.keep I h.row
  ·simp only [if_neg e];exact (h.rows j J).keep I h.row
theorem MatAt.congr {W:World} {O R n:Nat} {J F:Nat->Nat} {M I:Nat->Nat->Int} (h:MatAt W O R n J M) (hg:∀i,i<R->J i=F i) (U:∀i,i<R->M i=I i):MatAt W O R n F I:=by
 refine⟨?_,fun i H=>by rw [<-hg i H,<-U i H];exact h.rows i H⟩;rw [h.row]
 congr 3
 exact List.map_congr_left fun i H=>by rw [hg i (qbg.1 H)]
def PivAs (w:World) (I R n k c:Nat) (F:Nat->Nat) (M:Nat->Nat->Int) (e:Ending) (H:World):Prop :=
 (e=.returned (.bool false)/\H=w/\∀i,k<=i->i<R->M i c=0) \/
 (e=.returned (.bool true)/\w.grownBy H (some I)/\∃a,k<=a/\a<R/\M a c≠0/\MatAt H I R n (fun j=>if j=k then F a else if j=a then F k else F j) (fun j=>if j=k then M a else if j=a then M k else M j))
theorem qnn (tb R n k c:Nat) (I:Nat->Nat) (M:Nat->Nat->Int) (w:World) (hR:R<=1024) (hk:k<R) (hc:c<n) (_hn:n<=1024) (hM:MatAt w tb R n I M) :
  Calls prog 275 #[.slice (some ⟨tb,0,none⟩) R R,.int .i64 k,.int .i64 c] w fun e w'=>PivAs w tb R n k c I M e w':=by
 have H:=qH hM;have ai:(k:Int)<R:=by omega
 have af:(c:Int)<n:=by omega
 clear hM;go_enter func275,ntmps275;go_wp2
 go_step3
 go_wp2
 go_step3
 go_wp2
 go_loopw [7,8] (fun x7 x8 W=>∃i:Nat,k<=i/\i<=R/\x7=.int .i64 (-1)/\x8=.int .i64 i/\W=w/\Hu (∀j,k<=j->j<i->M j c=0)) (fun _ x8 _=>R-(intOf x8).toNat)
 case atStart=>exact⟨k,qae _,qar hk,rfl,rfl,rfl,qH (fun j J Z=>absurd J (by omega))⟩
 case round =>
  obtain⟨i,aa,ag,rfl,rfl,rfl,hI⟩:=hrel
  by_cases O:i<R
  ·have ah:(i:Int)<R:=by omega
   obtain⟨ps,V,F,U⟩:=H.o.rows i O;obtain⟨c0,f0⟩:=H.o.cell O;obtain⟨d0,d1⟩:=qco.cells V F c hc;obtain⟨J,Z⟩:=U c (by omega);have hz:=(qcw .l) (M i c).natAbs _ wr Z;have HZ:=qH hz;obtain⟨a,_,_,cc,m,_,e,_,_⟩:=Z;rw [e] at d0;rw [e] at HZ;clear hz e d1 J V F U;go_wp2_with fail;refine HZ.o.mono ?_;rintro e w2 ⟨rfl,ae⟩;subst ae
   by_cases Y:(M i c).natAbs=0
   ·rw [qV Y];go_wp2;go_roundw
    case rel =>
     refine⟨i+1,by omega,O,rfl,by go_num,trivial,qH (fun j J Z=>?_)⟩
     by_cases e:j=i
     ·subst e;omega
     ·exact hI.o j J (by omega)
    case measure=>simp [intOf];omega
   ·rw [qU Y];obtain⟨c1,f1⟩:=H.o.cell hk;have m1:=H.o.set i (I k) (M k) (H.o.rows k hk);have m2:=m1.set k (I i) (M i) ((H.o.rows i O).keep (qbW w2 tb i (rowv (I k) n)) H.o.row);obtain⟨c2,f2⟩:=m1.cell hk;have H2:=qH m2;have H0:=qH Y;clear m1 m2 Y hR;go_wp2_with fail
    go_region
    all_goals go_wp2_with fail
    all_goals rw [Exit.noGoto_ret]
    all_goals go_ret
    all_goals exact qag ⟨rfl,qck (qbZ (qbW _ _ _ _) (qbW _ _ _ _)) qB.drew,i,aa,O,fun h=>H0.o (by rw [h];rfl),H2.o.below qB.drew⟩
  ·obtain rfl:i=R:=by omega
   go_wp2_with fail;rw [Exit.noGoto_ret];go_ret;exact qan ⟨rfl,rfl,hI.o⟩
def KK (K k:Nat):Nat:=(K+1)*2 ^ k-1
theorem qlM (K:Nat):KK K 0=K:=by unfold KK;rw [Nat.pow_zero,qbO];omega
theorem qlL (K k:Nat):KK K (k+1)=KK K k+KK K k+1:=by
 unfold KK;have h:0<(K+1)*2 ^ k:=qbT (by omega) (Nat.pow_pos (by decide));rw [qaB,<-qaw];omega
theorem KK_le {K k:Nat} (O:K<=33554430) (J:k<=10):KK K k<=34359738368:=by
 unfold KK;have F:2 ^ k<=2 ^ 10:=qa4 (by decide) J;have H:(K+1)*2 ^ k<=(K+1)*2 ^ 10:=qaC _ F;have I:(2:Nat) ^ 10=1024:=by decide
 rw [I] at H;omega
theorem fit_step {a b c d z:Int} {K:Nat} (I:Fit a.natAbs K) (J:Fit b.natAbs K) (O:Fit c.natAbs K) (U:Fit d.natAbs K):Fit ((a*b-c*d).tdiv z).natAbs (K+K+1):=by
 have F:=I.mul J;have H:=O.mul U;rw [<-qaF] at F H;refine ((F.add H).le ?_);refine qaj ?_ (show (a*b-c*d).natAbs<=_ by omega);rw [Int.natAbs_tdiv];exact qaR _ _
theorem swap_fit {M:Nat->Nat->Int} {k a R n K:Nat} (J:k<R) (H:a<R) (h:∀i,i<R->∀j,j<n->Fit (M i j).natAbs K):∀i,i<R->∀j,j<n->Fit (qcg M k a i j).natAbs K:=by
 intro i I j F;unfold qcg;split
 ·exact h a H j F
 ·split
  ·exact h k J j F
  ·exact h i I j F
def qcm (W:World) (g:Nat) (z:Int):Prop:=∃(a:Option Addr) (m c:Nat) (b:Bool),W.heap[g]? = some (.cells #[.slice a m c,.bool b] 242 (0,0))/\IntAt W (.agg #[.slice a m c,.bool b]) z
theorem qcm.below {W W':World} {g:Nat} {z:Int} (h:qcm W g z) (H:Below W.heap.size W W'):qcm W' g z:=by
 obtain⟨a,m,c,b,F,I⟩:=h;exact⟨a,m,c,b,(H.block _ (qG F).1).trans F,I.below H⟩
theorem qcm.keep {W W':World} {g H R n:Nat} {O:Nat->Nat} {z:Int} (h:qcm W g z) (I:W.grownBy W' (some H)) (J:W.heap[H]? = some (.cells (rowvs R n O).toArray 237 (0,0))):qcm W' g z:=by
 obtain⟨a,m,c,b,F,x,e,U⟩:=h;have hne:g≠H:=by
  intro e;subst e;have:=F.symm.trans J;simp at this
 exact⟨a,m,c,b,(I.block _ (qG F).1 (fun e=>hne (qah e))).trans F,x,e,qcp U I J qgZ⟩
theorem qkn {a:Option Addr} {m c:Nat} {b:Bool}:∀x∈(#[.slice a m c,.bool b]:Array Value).toList,∀d,x≠.int .u32 d:=by
 intro x hx d e;rcases qaJ.1 hx with h | h
 ·rw [h] at e;cases e
 ·rw [qap.1 h] at e;cases e
theorem qed (W:World) (g:Nat) (u v:Value):W.grownBy ((W.setCell ⟨g,0,none⟩ u).setCell ⟨g,1,none⟩ v) (some g):=qbZ (qbW W g 0 u) (qbW _ g 1 v)
theorem qcm.put {W:World} {g:Nat} {z0 z:Int} {a:Option Addr} {m c:Nat} {b:Bool} (h:qcm W g z0) (H:IntAt W (.agg #[.slice a m c,.bool b]) z):qcm ((W.setCell ⟨g,0,none⟩ (.slice a m c)).setCell ⟨g,1,none⟩ (.bool b)) g z:=by
 obtain⟨a0,m0,c0,b0,F,_⟩:=h;obtain⟨x,e,I⟩:=H;exact⟨a,m,c,b,heap_setCell_same _ g 1 _ _ _ (heap_setCell_same _ g 0 _ _ _ F),x,e,qcp I (qed W g _ _) F qkn⟩
theorem qco.put {W W':World} {g F n:Nat} {z0:Int} {m:Nat->Int} (h:qco W F n m) (J:qcm W g z0) (H:W.grownBy W' (some g)) (hne:F≠g):qco W' F n m:=by
 obtain⟨a0,m0,c0,b0,I,_⟩:=J;obtain⟨ps,p1,p2,p3⟩:=h;exact⟨ps,p1,⟨(H.block _ (qG p2.1).1 (fun e=>hne (qah e))).trans p2.1,p2.2⟩,p3.keep H I qkn⟩
theorem MatAt.put {W W':World} {H R n g:Nat} {F:Nat->Nat} {M:Nat->Nat->Int} {z0:Int} (h:MatAt W H R n F M) (I:qcm W g z0) (O:W.grownBy W' (some g)) (hne:∀i,i<R->F i≠g):MatAt W' H R n F M:=by
 refine⟨?_,fun i J=>(h.rows i J).put I O (hne i J)⟩;have:H≠g:=by
  intro e;subst e;obtain⟨_,_,_,_,U,_⟩:=I;have:=h.row.symm.trans U;simp at this
 exact (O.block _ (qG h.row).1 (fun e=>this (qah e))).trans h.row
theorem qcm.cells {W:World} {g:Nat} {z:Int} (h:qcm W g z):∃(a:Option Addr) (m c:Nat) (b:Bool),(W.cell? ⟨g,0,none⟩=some (.slice a m c)/\W.cell? ⟨g,1,none⟩=some (.bool b))/\(W.frozen? ⟨g,0,none⟩=false/\W.frozen? ⟨g,1,none⟩=false)/\IntAt W (.agg #[.slice a m c,.bool b]) z:=by
 obtain⟨a,m,c,b,F,H⟩:=h;exact⟨a,m,c,b,⟨qC _ _ 0 _ _ _ F,qC _ _ 1 _ _ _ F⟩,⟨qF _ _ 0 _ _ F,qF _ _ 1 _ _ F⟩,H⟩
theorem qco.pair {W:World} {g n:Nat} {m:Nat->Int} (h:qco W g n m) {c:Nat} (J:c<n):∃(a:Option Addr) (l k:Nat) (b:Bool),W.cell? ⟨g,c*2,none⟩=some (.slice a l k)/\W.cell? ⟨g,c*2+1,none⟩=some (.bool b)/\IntAt W (.agg #[.slice a l k,.bool b]) (m c):=by
 obtain⟨ps,F,H,I⟩:=h;obtain⟨d0,d1⟩:=qco.cells F H c J;obtain⟨a,l,k,b,e,O⟩:=qdo I (k:=c) (by omega);rw [e] at d0 d1;exact⟨a,l,k,b,d0,d1,O⟩
theorem qcm.lt {W:World} {g:Nat} {z:Int} (h:qcm W g z):g<W.heap.size:=by
 obtain⟨_,_,_,_,F,_⟩:=h;exact (qG F).1
theorem qeP {a b:World} {row:Option Nat} (h:a.grownBy b row) {p:Addr} (H:a.heap.size<=p.block) (v:Value):a.grownBy (b.setCell p v) row :=
 ⟨h.os,h.tape,h.output,by simpa [World.setCell] using h.size,fun i F hne=>(qW b p v i (by omega)).trans (h.block i F hne)⟩
theorem gs_set {R i g x:Nat} {F:Nat->Nat} (h:∀j,j<R->F j≠x) (hg:g≠x):∀j,j<R->(fun j=>if j=i then g else F j) j≠x:=by
 intro j H
 by_cases e:j=i
 ·simp only [if_pos e];exact hg
 ·simp only [if_neg e];exact h j H
theorem qmq {R k a x:Nat} {F:Nat->Nat} (O:k<R) (I:a<R) (h:∀i,i<R->F i≠x):∀i,i<R->(fun j=>if j=k then F a else if j=a then F k else F j) i≠x:=by
 intro i J
 by_cases e:i=k
 ·simp only [if_pos e];exact h a I
 ·by_cases H:i=a
  ·simp only [if_neg e,if_pos H];exact h k O
  ·simp only [if_neg e,if_neg H];exact h i J
theorem qhO {W:World} {J O n c K:Nat} {H I:Nat->Int} {v0:Value} {z0:Int} (hK:K<=34359738368) (hn:n<=64) (hc:c<n) (hi:qco W J n H) (hk:qco W O n I) (V:∀j,j<n->Fit (H j).natAbs K) (Y:∀j,j<n->Fit (I j).natAbs K) (h0:IntAt W v0 z0) (U:Fit z0.natAbs K) (ae:z0≠0) :
  Calls prog 276 #[rowv J n,rowv O n,.int .i64 c,v0] W fun e W'=>∃g,e=.returned (rowv g n)/\W.heap.size<=g/\Below W.heap.size W W'/\qco W' g n (fun j=>(I c*H j-H c*I j).tdiv z0):=by
 obtain⟨ps,p1,p2,p3⟩:=hi;obtain⟨qs,q1,q2,q3⟩:=hk;refine (qit J O n n n c ps qs H I K hK v0 z0 W hn hc p1 q1 (qco.cells p1 p2) (qco.cells q1 q2) p3 q3 V Y h0 U ae).mono ?_;rintro e W' ⟨g,rs,rfl,hg,hb,aa,F,Z⟩;exact⟨g,rfl,hg,hb,rs,aa,F,Z⟩
def epart (M:Nat->Nat->Int) (k:Nat) (D:Int) (i:Nat):Nat->Nat->Int:=qb9 (fun j=>decide (j<i)) M k k D
theorem qjD (M:Nat->Nat->Int) (k:Nat) (D:Int):epart M k D 0=M:=by
 funext j
 unfold epart qb9;rw [if_neg];intro h;have:=of_decide_eq_true h.1;omega
theorem qfh (M:Nat->Nat->Int) (k:Nat) (D:Int) (i:Nat):epart M k D i i=M i/\epart M k D i k=M k:=by
 unfold epart qb9
 constructor
 ·rw [if_neg];intro h;have:=of_decide_eq_true h.1;omega
 ·rw [if_neg];intro h;exact h.2 rfl
theorem qkW (M:Nat->Nat->Int) (k:Nat) (D:Int) (i:Nat) (F:i≠k):(fun j=>if j=i then (fun x=>(M k k*M i x-M i k*M k x).tdiv D) else epart M k D i j)=epart M k D (i+1):=by
 funext j
 by_cases e:j=i
 ·subst e;rw [if_pos rfl];unfold epart qb9;rw [if_pos ⟨qV (by omega),F⟩]
 ·rw [if_neg e];unfold epart qb9;have h:decide (j<i)=decide (j<i+1):=decide_eq_decide.2 (by omega);simp only [h]
theorem qkX (M:Nat->Nat->Int) (k:Nat) (D:Int):epart M k D k=epart M k D (k+1):=by
 funext j
 unfold epart qb9
 by_cases e:j=k
 ·rw [if_neg (fun h=>h.2 e),if_neg (fun h=>h.2 e)]
 ·have h:decide (j<k)=decide (j<k+1):=decide_eq_decide.2 (by omega);simp only [h]
theorem ql5 (M:Nat->Nat->Int) (k:Nat) (D:Int) (R:Nat):∀j,j<R->epart M k D R j=qb9 (fun _=>true) M k k D j:=by
 intro j F;unfold epart qb9;simp only [qV F]
theorem ql6 {M:Nat->Nat->Int} {k:Nat} {D:Int} {R n K:Nat} (J:k<R) (I:k<n) (h:∀i,i<R->∀j,j<n->Fit (M i j).natAbs K):∀i,i<R->∀j,j<n->Fit (qb9 (fun _=>true) M k k D i j).natAbs (K+K+1):=by
 intro i F j H;unfold qb9;split
 ·exact fit_step (h k J k I) (h i F j H) (h i F k I) (h k J j H)
 ·exact (h i F j H).mono (by omega)
theorem ql7 {W:World} {F R n k i g:Nat} {D:Int} {H:Nat->Nat} {M:Nat->Nat->Int} (h:MatAt W F R n H (epart M k D i)) (I:i≠k) (hg:qco W g n (fun j=>(epart M k D i k k*epart M k D i i j-epart M k D i i k*epart M k D i k j).tdiv D)) :
  MatAt (W.setCell ⟨F,i,none⟩ (rowv g n)) F R n (fun j=>if j=i then g else H j) (epart M k D (i+1)):=by
 rw [(qfh M k D i).1,(qfh M k D i).2] at hg;have:=h.set i g _ hg;rw [qkW M k D i I] at this;exact this
theorem qcm.other {W:World} {g F:Nat} {z z0:Int} {u v:Value} (h:qcm W g z) (J:qcm W F z0) (hne:g≠F):qcm ((W.setCell ⟨F,0,none⟩ u).setCell ⟨F,1,none⟩ v) g z:=by
 obtain⟨a,m,c,b,H,x,e,O⟩:=h;obtain⟨_,_,_,_,k1,_⟩:=J;have I:=qed W F u v;exact⟨a,m,c,b,(I.block _ (qG H).1 (fun e=>hne (qah e))).trans H,x,e,qcp O I k1 qkn⟩
theorem qcm.row2 {W:World} {g:Nat} {z0 z:Int} {a:Option Addr} {m c:Nat} {b:Bool} (h:qcm W g z0) (H:IntAt W (.agg #[.slice a m c,.bool b]) z):((W.setCell ⟨g,0,none⟩ (.slice a m c)).setCell ⟨g,1,none⟩ (.bool b)).heap[g]? = some (.cells #[.slice a m c,.bool b] 242 (0,0))/\IntAt ((W.setCell ⟨g,0,none⟩ (.slice a m c)).setCell ⟨g,1,none⟩ (.bool b)) (.agg #[.slice a m c,.bool b]) z:=by
 obtain⟨a0,m0,c0,b0,F,_⟩:=h;obtain⟨x,e,I⟩:=H;exact⟨heap_setCell_same _ g 1 _ _ _ (heap_setCell_same _ g 0 _ _ _ F),x,e,qcp I (qed W g _ _) F qkn⟩
theorem qcm.zero {W:World} {g:Nat} {z0:Int} (h:qcm W g z0):((W.setCell ⟨g,0,none⟩ (.slice none 0 0)).setCell ⟨g,1,none⟩ (.bool false)).heap[g]? = some (.cells #[.slice none 0 0,.bool false] 242 (0,0)) :=
 (h.row2 (z:=0) ⟨_,rfl,MagAt.nil _⟩).1
def ElmAs (w:World) (H R n K:Nat) (A:Nat->Nat->Int) (e:Ending) (F:World):Prop :=
  ∃(v:Value) (z:Int),e=.returned v/\IntAt F v z/\w.grownBy F (some H) /\
    ((z=0/\∃(k:Nat) (D:Int) (M:Nat->Nat->Int),k<R/\ElimSt R n k D M A/\∀i,k<=i->i<R->M i k=0) \/
     (Fit z.natAbs (KK K R)/\∃(I:Nat->Nat) (M:Nat->Nat->Int),MatAt F H R n I M/\ElimSt R n R z M A/\∀i,i<R->∀j,j<n->Fit (M i j).natAbs (KK K R)))
theorem elim_any (tb R n K:Nat) (gs:Nat->Nat) (A:Nat->Nat->Int) (w:World) (aT:0<R) (hR:R<=10) (aU:R<=n) (hn:n<=11) (hK:K<=33554430) (aO:0<K) (hM:MatAt w tb R n gs A) (aG:∀i,i<R->gs i<w.heap.size) (hF:∀i,i<R->∀j,j<n->Fit (A i j).natAbs K) :
  Calls prog 253 #[.slice (some ⟨tb,0,none⟩) R R] w fun e w'=>ElmAs w tb R n K A e w':=by
 have HM:=qH (qA hM (qA aG hF));have aX:tb<w.heap.size:=(qG hM.row).1;have aR:(0:Int)<R:=by omega
 clear hM hF aG;go_enter func253,ntmps253;go_wp2_with fail
 go_loopw [10] (fun x10 W=>∃(k:Nat) (D:Int) (gs:Nat->Nat) (M:Nat->Nat->Int),k<=R/\x10=.int .i64 k/\Hu (ElimSt R n k D M A)/\Hu (MatAt W tb R n gs M/\(∀i,i<R->gs i≠w.heap.size+1+1)/\∀i,i<R->gs i≠w.heap.size)/\Hu (qcm W (w.heap.size+1+1) D/\qcm W w.heap.size 0)/\Hu (w.grownBy W (some tb))/\Hu (Fit D.natAbs (KK K k)/\∀i,i<R->∀j,j<n->Fit (M i j).natAbs (KK K k))) (fun x10 _=>R-(intOf x10).toNat)
 case atStart =>
  have hb:Below w.heap.size w (((w.alloc (.cells #[.slice none 0 0,.bool false] 242)).alloc (.cells #[.int .u32 1] 232)).alloc (.cells #[.slice (some ⟨w.heap.size+1,0,none⟩) 1 1,.bool false] 242)):=qbU (qbU (qbU qB qN) qN) qN;refine⟨0,1,gs,A,qal _,rfl,qH (ElimSt.start _ _ _),qH ⟨HM.o.1.below hb,fun i hi=>by have:=HM.o.2.1 i hi;omega,fun i hi=>by have:=HM.o.2.1 i hi;omega⟩,qH ⟨⟨_,_,_,_,qM _ _ _ (by simp),_,rfl,?_⟩,⟨_,_,_,_,(qL _ _ _ (by simp only [qab];omega)).trans ((qL _ _ _ (by simp only [qab];omega)).trans (qM _ _ _ rfl)),_,rfl,MagAt.nil _⟩⟩,qH (qb5 _ hb),qH ⟨?_,fun i hi j hj=>by rw [qlM];exact HM.o.2.2 i hi j hj⟩⟩
  ·have:=(qeD (w.alloc (.cells #[.slice none 0 0,.bool false] 242)) 232 (s:=1) (by decide) (by decide)).below (qbU (o:=.cells #[.slice (some ⟨w.heap.size+1,0,none⟩) 1 1,.bool false] 242) qB qN);rw [qab] at this;exact this
  ·rw [qlM];exact Fit.mono (show Fit 1 1 by show 1<1000000000 ^ 1;decide) aO
 case round =>
  obtain⟨k,D,gs1,M,hk,rfl,hS,U,hI,hG,aa⟩:=hrel
  by_cases H:k<R
  ·have aS:(k:Int)<R:=by omega
   have Z:k<n:=by omega
   go_wp2_with fail;refine (qnn tb R n k k gs1 M _ (by omega) H Z (by omega) U.o.1).mono ?_;rintro e w2 (⟨rfl,hw,h0⟩ | ⟨rfl,aj,a,aQ,ai,hne,az⟩)
   ·subst hw;have H0:=qH h0;obtain⟨a,m,d,b,⟨e0,e1⟩,⟨z0,z1⟩,_⟩:=hI.o.2.cells;have V:=hI.o.2.zero;have ah:=qeP (qeP hG.o qN (p:=⟨w.heap.size,0,none⟩) (.slice none 0 0)) qN (p:=⟨w.heap.size,1,none⟩) (.bool false);have J:=qH (qA V ah);clear h0 V ah;go_wp2_with fail;exact qR (v:=.agg #[.slice none 0 0,.bool false]) (rA_ rfl w.heap.size J.o.1 underlying242 2) rfl ⟨_,0,rfl,⟨_,rfl,MagAt.nil _⟩,J.o.2,qan ⟨rfl,k,D,M,H,hS.o,H0.o⟩⟩
   ·have ax:=qH (hS.o.swap aQ ai);have aL:=qH (qA (hI.o.1.keep aj U.o.1.row) (hI.o.2.keep aj U.o.1.row));have aK:=qH (qbZ hG.o aj);have Y:=qH (qA aa.o.1 (swap_fit H ai aa.o.2));have aC:=qH (show qcg M k a k k≠0 by unfold qcg;rw [if_pos rfl];exact hne);obtain⟨gs2,au⟩:=qY (fun j=>if j=k then gs1 a else if j=a then gs1 k else gs1 j);have aA:=qmq H ai U.o.2.1;have af:=qmq H ai U.o.2.2;rw [<-au] at az aA af;have ae:MatAt w2 tb R n gs2 (qcg M k a):=az;obtain⟨M2,ak⟩:=qY (qcg M k a);rw [<-ak] at ae ax Y aC;have aB:=qH (qA ae (qA aA af));clear az ae au ak hne aj aA af hS U hI hG aa;go_wp2_with fail
    go_loopw [21] (fun x21 W=>∃(i:Nat) (gs:Nat->Nat),i<=R/\x21=.int .i64 i/\Hu (MatAt W tb R n gs (epart M2 k D i)/\(∀i,i<R->gs i≠w.heap.size+1+1)/\∀i,i<R->gs i≠w.heap.size)/\Hu (qcm W (w.heap.size+1+1) D/\qcm W w.heap.size 0)/\Hu (w.grownBy W (some tb))) (fun x21 _=>R-(intOf x21).toNat)
    case atStart=>exact⟨0,gs2,qal _,rfl,qH ⟨by rw [qjD];exact aB.o.1,aB.o.2⟩,aL,aK⟩
    case round =>
     obtain⟨i,aD,aV,rfl,F,I,ay⟩:=hrel
     by_cases hi:i<R
     ·have aW:(i:Int)<R:=by omega
      by_cases ag:i=k
      ·have aH:((i:Int) != (k:Int))=false:=by simp [ag]
       have aN:=qH (show epart M2 k D i=epart M2 k D (i+1) by rw [ag];exact qkX M2 k D);clear ag;go_wp2;go_roundw
       case rel=>exact⟨i+1,aD,hi,by go_num,qH ⟨by rw [<-aN.o];exact F.o.1,F.o.2⟩,I,ay⟩
       case measure=>simp [intOf];omega
      ·have aH:((i:Int) != (k:Int))=true:=by rw [bne_iff_ne];omega
       have aM:=qH ag;clear ag;obtain⟨ci,fi⟩:=F.o.1.cell hi;obtain⟨ck,fk⟩:=F.o.1.cell H;obtain⟨a,m,d,b,⟨e0,e1⟩,_,O⟩:=I.o.1.cells;have HC:=qH (fun W (h:Below wr.heap.size wr W)=>qhO (KK_le hK (show k<=10 by omega)) (show n<=64 by omega) Z ((F.o.1.below h).rows i hi) ((F.o.1.below h).rows k H) (by rw [(qfh M2 k D i).1];exact Y.o.2 i hi) (by rw [(qfh M2 k D i).2];exact Y.o.2 k H) (O.below h) Y.o.1 ax.o.nz);have av:Below wr.heap.size wr wr.drew:=qB.drew;clear O;go_wp2_with fail
       go_region_with (first | (go_at_call 276;refine (HC.o _ av).mono ?_;rintro e w4 ⟨g,rfl,aP,aF,aJ⟩;have hb:=av.trans aF;obtain⟨q0,q1⟩:=(F.o.1.below hb).cell hi;have J:=qH (qA (F.o.1.below hb) (qA (qA (I.o.1.below hb) (I.o.2.below hb)) (qA aP (qA aJ (qck ay.o hb)))));clear aF aJ hb))
       all_goals go_wp2_with fail
       all_goals go_roundw
       all_goals first
        | exact⟨i+1,_,hi,by go_num,qH ⟨ql7 J.o.1 aM.o J.o.2.2.2.1,gs_set F.o.2.1 (qbl (qai I.o.1.lt J.o.2.2.1)),gs_set F.o.2.2 (qbl (qai I.o.2.lt J.o.2.2.1))⟩,qH ⟨J.o.2.1.1.keep (qbW _ _ _ _) J.o.1.row,J.o.2.1.2.keep (qbW _ _ _ _) J.o.1.row⟩,qH (qbZ J.o.2.2.2.2 (qbW _ _ _ _))⟩
        | (simp [intOf];omega)
     ·obtain rfl:i=R:=by omega
      obtain⟨ck,fk⟩:=F.o.1.cell H;obtain⟨a,m,d,b,⟨e0,e1⟩,⟨z0,z1⟩,_⟩:=I.o.1.cells;obtain⟨a2,m2,d2,b2,p0,p1,O⟩:=(F.o.1.rows k H).pair Z;rw [(qfh M2 k D i).2] at O;have J:=qH O;clear O;go_wp2;go_roundw
      case rel =>
       refine⟨k+1,M2 k k,aD,qb9 (fun _=>true) M2 k k D,by omega,by go_num,qH (ax.o.next H Z aC.o),qH ⟨(F.o.1.put I.o.1 (qed _ _ _ _) F.o.2.1).congr (fun _ _=>rfl) (ql5 M2 k D i),F.o.2⟩,qH ⟨I.o.1.put J.o,I.o.2.other I.o.1 (by omega)⟩,qH ?_,qH ⟨?_,?_⟩⟩
       ·exact qeP (qeP ay.o (qao (qbB _)) _) (qao (qbB _)) _
       ·rw [qlL];exact (Y.o.2 k H k Z).mono (by omega)
       ·rw [qlL];exact ql6 H Z Y.o.2
      case measure=>simp [intOf];omega
  ·obtain rfl:k=R:=by omega
   obtain⟨a,m,d,b,⟨e0,e1⟩,_,O⟩:=hI.o.1.cells;obtain⟨a2,m2,d2,b2,⟨p0,p1⟩,⟨z0,z1⟩,_⟩:=hI.o.2.cells;have V:=hI.o.2.row2 O;have ah:=qeP (qeP hG.o qN (p:=⟨w.heap.size,0,none⟩) (.slice a m d)) qN (p:=⟨w.heap.size,1,none⟩) (.bool b);have aI:=U.o.1.put hI.o.2 (qed _ _ (.slice a m d) (.bool b)) U.o.2.2;have J:=qH (qA V (qA ah aI));clear O V ah aI;go_wp2_with fail;exact qR (v:=.agg #[.slice a m d,.bool b]) (rA_ rfl w.heap.size J.o.1.1 underlying242 2) rfl ⟨_,D,rfl,J.o.1.2,J.o.2.1,qag ⟨aa.o.1,gs1,M,J.o.2.2,hS.o,aa.o.2⟩⟩
def ftxt (q:Rat):FT:=(qb7 q.num,num q.den)
theorem qem (q:Rat):fstr q=.agg #[.string (ftxt q).1,.string (ftxt q).2]:=rfl
def FRow (W:World) (g n:Nat) (l:List FT):Prop:=W.heap[g]? = some (.cells (fflat (l++List.replicate (n-l.length) fd0)).toArray 44 (0,0))/\l.length<=n
theorem FRow.below {W W':World} {g n:Nat} {l:List FT} (h:FRow W g n l) (F:Below W.heap.size W W'):FRow W' g n l :=
 ⟨(F.block _ (qG h.1).1).trans h.1,h.2⟩
theorem FRow.at {W:World} {g n:Nat} {l:List FT} (h:FRow W g n l) (J:l.length<n):(W.cell? ⟨g,l.length*2,none⟩=some (.string ⟨#[]⟩)/\W.cell? ⟨g,l.length*2+1,none⟩=some (.string ⟨#[]⟩))/\∀j,W.frozen? ⟨g,j,none⟩=false:=by
 have F:(l++List.replicate (n-l.length) fd0)[l.length]? = some fd0:=by
  rw [qaq qN,qaG,qbc,if_pos (by omega)]
 obtain⟨H,I⟩:=qd5 _ _ _ F;exact⟨⟨(qC _ _ _ _ _ _ h.1).trans ((qau ..).trans H),(qC _ _ _ _ _ _ h.1).trans ((qau ..).trans I)⟩,fun j=>qF _ _ _ _ _ h.1⟩
theorem FRow.set {W:World} {g n:Nat} {l:List FT} (h:FRow W g n l) (J:l.length<n) (x:FT) :
  FRow ((W.setCell ⟨g,l.length*2,none⟩ (.string x.1)).setCell ⟨g,l.length*2+1,none⟩ (.string x.2)) g n (l++[x]):=by
 refine⟨?_,by rw [qaf,qaz];omega⟩;rw [heap_setCell_same _ g (l.length*2+1) _ _ _ (heap_setCell_same _ g (l.length*2) _ _ _ h.1)]
 congr 3
 obtain⟨m,I⟩:∃m,n-l.length=m+1:=⟨n-l.length-1,by omega⟩;have F:fflat (l++List.replicate (m+1) fd0)=fflat l++(.string fd0.1 :: .string fd0.2 :: fflat (List.replicate m fd0)):=by
  rw [qcM,qbn];rfl
 have H:fflat (l++[x]++List.replicate m fd0)=fflat l++(.string x.1 :: .string x.2 :: fflat (List.replicate m fd0)):=by
  rw [qcM,qcM,qaI];rfl
 rw [qaA,qaA,I,qaf,qaz,show n-(l.length+1)=m by omega,F,H];rw [qa8 _ _ (by rw [qce];exact qae _),qce,qaG,qbk,qa8 _ _ (by rw [qce];omega),qce,show l.length*2+1-l.length*2=1 by omega]
 rfl
theorem qme (n:Nat):fflat (List.replicate n fd0)=List.replicate (n*2) (.string ⟨#[]⟩):=by
 induction n with
 | zero=>rfl
 | succ n ih =>
  rw [qbn,show (n+1)*2=n*2+1+1 by omega,qbn,qbn,<-ih];rfl
theorem qlf (n:Nat):madeCells #[.string ⟨#[]⟩,.string ⟨#[]⟩] (n*2)=(fflat (List.replicate n fd0)).toArray:=by
 rw [qme];apply Array.ext';apply List.ext_getElem?;intro i;rw [Array.getElem?_toList]
 show _=(List.replicate (n*2) (Value.string ⟨#[]⟩))[i]?
 by_cases F:i<n*2
 ·rw [qbc,if_pos F];have H:(madeCells #[.string ⟨#[]⟩,.string ⟨#[]⟩] (n*2))[i]? = some ((#[.string ⟨#[]⟩,.string ⟨#[]⟩]:Array Value)[i % 2]!):=by simp [madeCells,F]
  rw [H]
  congr 1
  rcases (show i % 2=0\/i % 2=1 by omega) with e | e <;> rw [e] <;> rfl
 ·rw [Array.getElem?_eq_none (by rw [size_madeCells];omega),qaS (by rw [qaO];omega)]
theorem FRow.made (W:World) (n:Nat):FRow (W.alloc (.cells (madeCells #[.string ⟨#[]⟩,.string ⟨#[]⟩] (n*2)) 44)) W.heap.size n []:=by
 refine⟨?_,qal _⟩;rw [qM _ _ _ rfl,qbq,List.length_nil,Nat.sub_zero,qlf]
theorem qhW (n:Nat) (O:n<=1048576) (w:World):(Instr.makeSlice 35 (.int .i64 (n:Int)) (.int .i64 (n:Int))).run prog w=.ok (.slice (some ⟨w.heap.size,0,none⟩) n n) (w.alloc (.cells (madeCells #[.string ⟨#[]⟩,.string ⟨#[]⟩] (n*2)) 44)):=by
 obtain⟨i,J,F,H,I⟩:=info_parts infoF;have h:=run_make (P:=prog) w 35 44 i _ underlying35 J F .i64 .i64 (n:Int) (n:Int) (by omega) (Int.le_refl _) (by rw [I];omega) (by omega);rw [H,Int.toNat_natCast] at h;exact h
theorem FRow.cells {W:World} {g n:Nat} {l:List FT} (h:FRow W g n l) (H:l.length=n):FCells W (some ⟨g,0,none⟩) g 0 l:=by
 have F:=h.1;rw [H,qaG,List.replicate_zero,List.append_nil] at F;exact FCells.ofRow F
theorem HasT.keepRow {W W':World} {I R n:Nat} {J:Nat->Nat} (h:HasT W) (V:W.grownBy W' (some I)) (Y:W.heap[I]? = some (.cells (rowvs R n J).toArray 237 (0,0))):HasT W':=by
 unfold HasT Lib.TabIs World.var? at *;cases hg:(prog).globalNamed "internal/strconv.uint64pow10" with
 | none=>simp [hg] at h
 | some g =>
  simp only [hg,Option.bind_some] at h ⊢;have H:g<W.heap.size:=by
   rcases qaQ g W.heap.size with h' | h'
   ·exact h'
   ·rw [Array.getElem?_eq_none h'] at h;simp at h
  have hne:g≠I:=by
   intro e;subst e;rw [Y] at h;simp only [Option.some.injEq] at h;have F:=congrArg (fun a:Array Value=>a[0]?) h;have O:((Lib.pow10Tab.map fun z=>Value.int .u64 z).toArray)[0]? = some (.int .u64 1):=rfl;have F:(rowvs R n J).toArray[0]? = (Lib.pow10Tab.map fun z=>Value.int .u64 z).toArray[0]?:=F;rw [O,qau] at F
   by_cases U:0<R
   ·rw [qec U] at F;simp at F
   ·rw [qaS (by rw [qcI];omega)] at F;simp at F
  rw [V.block g H (fun e=>hne (qah e))];exact h
def told (n:Nat) (x:Nat->Rat):List FT:=(List.range n).map fun i=>ftxt (x i)
def qb2 (n:Nat) (x:Nat->Rat):Prop:=∀i,i<n->Short (x i)
theorem qb2.snoc {n:Nat} {x:Nat->Rat} (h:qb2 n x) (F:Short (x n)):qb2 (n+1) x:=fun j H=>by
 by_cases e:j=n
 ·rw [e];exact F
 ·exact h j (by omega)
theorem qhf (n:Nat) (x:Nat->Rat):told (n+1) x=told n x++[ftxt (x n)]:=by
 unfold told;rw [List.range_succ,qa3];rfl
theorem qb0 (n:Nat) (x:Nat->Rat):(told n x).length=n:=by unfold told;rw [qav,qbx]
def FOne (F W:World) (g:Nat) (x:FT):Prop:=W.heap[g]? = some (.cells #[.string x.1,.string x.2] 44 (0,0))/\Below F.heap.size F W/\F.heap.size<=g
theorem fone_a {F W:World} {x1 x2:ByteArray} (H:Below F.heap.size F W):FOne F (W.alloc (.cells #[.string x1,.string x2] 44)) W.heap.size (x1,x2) :=
 ⟨qM _ _ _ rfl,qbU H qN,H.size⟩
theorem fone_p {F W:World} {g:Nat} {x1 x2:ByteArray} {c0 c1:Value} (H:Below F.heap.size F W) (hg:F.heap.size<=g) (I:W.heap[g]? = some (.cells #[c0,c1] 44 (0,0))) :
  FOne F ((W.setCell ⟨g,0,none⟩ (.string x1)).setCell ⟨g,1,none⟩ (.string x2)) g (x1,x2) :=
 ⟨heap_setCell_same _ g 1 _ _ _ (heap_setCell_same _ g 0 _ _ _ I),(H.setCell (p:=⟨g,0,none⟩) hg _).setCell (p:=⟨g,1,none⟩) hg _,hg⟩
theorem qf5 {w H:World} {q:Rat} {e:Ending} (h:qgs w q e H):∃(x1 x2:ByteArray) (c:Int),e=.returned (.tuple #[.agg #[.string x1,.string x2],.int .i64 c])/\(Short q/\(x1,x2)=ftxt q/\c=0\/¬Short q/\(x1,x2)=fd0/\c=6)/\Below w.heap.size w H:=by
 obtain⟨h | h,F⟩:=h
 ·exact⟨(ftxt q).1,(ftxt q).2,0,h.2,qan ⟨h.1,rfl,rfl⟩,F⟩
 ·exact⟨_,_,6,h.2,qag ⟨h.1,rfl,rfl⟩,F⟩
def Tells (n:Nat) (x:Nat->Rat) (e:Ending) (F:World):Prop :=
 (qb2 n x/\∃g,e=.returned (.tuple #[.slice (some ⟨g,0,none⟩) n n,.int .i64 0])/\FCells F (some ⟨g,0,none⟩) g 0 (told n x)) \/
 (¬qb2 n x/\e=.returned (.tuple #[.slice none 0 0,.int .i64 6]))
def SolvesAs (w:World) (H R:Nat) (A:Nat->Nat->Int) (e:Ending) (F:World):Prop :=
 w.grownBy F (some H)/\((Sing R (castM A)/\e=.returned (.tuple #[.slice none 0 0,.int .i64 7])) \/
  (¬Sing R (castM A)/\∃x,qcL R (castM A) (fun i=>castM A i R) x/\Tells R x e F))
theorem fit_pos {z:Int} {K:Nat} (h:Fit z.natAbs K) (F:z≠0):0<K:=by
 rcases qaU K with e | e
 ·subst e;have:z.natAbs<1:=h;omega
 ·exact e
theorem qgv (a b:Int):Rat.divInt a b=(a:Rat) / b:=Rat.divInt_eq_div a b
theorem qnF (tb R K:Nat) (gs:Nat->Nat) (A:Nat->Nat->Int) (w:World) (bD:0<R) (hR:R<=10) (hK:K<=33554430) (bC:0<K) (hM:MatAt w tb R (R+1) gs A) (aF:∀i,i<R->gs i<w.heap.size) (hF:∀i,i<R->∀j,j<R+1->Fit (A i j).natAbs K) (hT:HasT w) :
  Calls prog 198 #[.agg #[.slice (some ⟨tb,0,none⟩) R R]] w fun e w'=>SolvesAs w tb R A e w':=by
 have HM:=qH (qA hM (qA aF hF));have HT:=qH hT;have bG:tb<w.heap.size:=(qG hM.row).1;have bH:(0:Int)<R:=by omega
 have ak:Below w.heap.size w (w.alloc (.cells #[.slice (some ⟨tb,0,none⟩) R R] 278)):=qbU qB qN;have HE:=qH (elim_any tb R (R+1) K gs A (w.alloc (.cells #[.slice (some ⟨tb,0,none⟩) R R] 278)) bD hR (by omega) (by omega) hK bC (hM.below ak) (fun i V=>qai (aF i V) ak.size) hF);have ax:=qH ak;have bK:=qfi;clear hM hF aF hT ak;go_enter func198,ntmps198;go_wp2_with fail;refine HE.o.mono ?_;rintro e I ⟨v,z,rfl,hv,U,hz⟩;obtain⟨a,m,d,b,rfl⟩:=qbV hv;have aZ:=(HM.o.1.below ax.o);have aM:=(HT.o.below ax.o).keepRow U aZ.row;have hg:=qbZ (qb5 tb ax.o) U;have bn:=(qcw .l) z.natAbs (.slice a m d);have Hv:=qH hv;have HX:=qH (qA aM (qA hg U));have aX:MagAt I (.slice a m d) z.natAbs:=by
  obtain⟨_,e,h⟩:=hv;simp only [qaP,qaV,qaN] at e;rw [e.1];exact h
 have aA:Below I.heap.size I (I.alloc (.cells #[.slice a m d,.bool b] 242)):=qbU qB qN;have HZ:=qH (bn _ (aX.below aA));have O:=qH aA;have bE:(I.alloc (.cells #[.slice a m d,.bool b] 242)).heap.size=I.heap.size+1:=by rw [qab]
 have bF:w.heap.size<I.heap.size:=by have:=U.size;rw [qab] at this;omega
 have Z:I.heap[w.heap.size]? = some (.cells #[.slice (some ⟨tb,0,none⟩) R R] 278 (0,0)):=(U.block _ (by rw [qab];omega) (fun e=>Nat.lt_irrefl _ (qah e▸bG))).trans (qM _ _ _ rfl);have bq:=qH Z;have bz:=qC _ _ 0 _ _ _ Z;clear hv U aZ aM hg bn aX aA bE Z;go_wp2_with fail;obtain⟨W3,Y⟩:=qY (I.alloc (.cells #[.slice a m d,.bool b] 242));rw [<-Y] at HZ O ⊢;have aD:Hu (w.grownBy W3 (some tb)):=qH (qck HX.o.2.1 O.o);rcases hz with ⟨av,k,D,M,hk,hS,h0⟩ | ⟨aV,gs',M,aL,hS,aR⟩
 ·refine HZ.o.mono ?_;rintro e w4 ⟨rfl,hw⟩;rw [qV (show z.natAbs=0 by omega)];have HS:=qH (qix hS (by omega) hk h0);subst hw;clear hS h0 av Y;go_wp2_with fail
  go_ret2
  exact⟨aD.o,qan ⟨HS.o,rfl⟩⟩
 ·refine HZ.o.mono ?_;rintro e w4 ⟨rfl,hw⟩;have av:=hS.nz;rw [qU (show ¬z.natAbs=0 by omega)];have aY:=qhW R (by omega) W3;obtain⟨W5,aj⟩:=qY (W3.alloc (.cells (madeCells #[.string ⟨#[]⟩,.string ⟨#[]⟩] (R*2)) 44));rw [<-aj] at aY;have aU:FRow W5 W3.heap.size R []:=aj▸FRow.made W3 R;have aB:Below W3.heap.size W3 W5:=aj▸qbU qB qN;clear aj;have bf:W3.heap[I.heap.size]? = some (.cells #[.slice a m d,.bool b] 242 (0,0)):=by rw [Y];exact qM _ _ _ rfl
  have J:=(O.o.block _ (by exact bF)).trans bq.o;have aa:=(aB.block _ (qG J).1).trans J;have bB:=qC _ _ 0 _ _ _ aa;have H5:=qH (qA aU (qA aB aa));have HS:=qH (qA aV (qA (aL.below O.o) (qA hS aR)));have H3:=qH (qA bf (qA J (qA (Hv.o.below O.o) (HX.o.1.below O.o))));have aJ:=qH av;have bg:W3.heap.size=I.heap.size+1:=by rw [Y,qab]
  have bI:=qH bg;subst hw;clear hS av Y aL aR aV bf J bz bg aU aB aa;have bA:=qC _ _ 0 _ _ _ H3.o.2.1;go_wp2_with fail
  go_loopw [26] (fun x26 W=>∃(i:Nat),i<=R/\x26=.int .i64 i/\Hu (qb2 i (fun i=>(M i R:Rat) / z))/\Hu (FRow W w4.heap.size R (told i (fun i=>(M i R:Rat) / z)))/\Hu (Below w4.heap.size w4 W)) (fun x26 _=>R-(intOf x26).toNat)
  case atStart=>exact⟨0,qal _,rfl,qH (fun i V=>absurd V (by omega)),qH H5.o.1,qH H5.o.2.1⟩
  case round =>
   obtain⟨i,bL,rfl,hA,hF,hB⟩:=hrel
   by_cases V:i<R
   ·have bM:(i:Int)<R:=by omega
    have bJ:(R:Int)<R+1:=by omega
    have az:=HS.o.2.1.below hB.o;obtain⟨ci,fi⟩:=az.cell V;obtain⟨a2,m2,d2,b2,p0,p1,aW⟩:=(az.rows i V).pair (show R<R+1 by omega);have hr:=(hB.o.block _ (qG H3.o.1).1).trans H3.o.1;have aC:=(hB.o.block _ (qG H3.o.2.1).1).trans H3.o.2.1;have C0:∀W,Below wr.heap.size wr W->W.cell? ⟨w.heap.size,0,none⟩=some (.slice (some ⟨tb,0,none⟩) R R):=fun W h=>(h.cell (p:=⟨w.heap.size,0,none⟩) (qG aC).1).trans (qC _ _ 0 _ _ _ aC)
    have C1:∀W,Below wr.heap.size wr W->W.cell? ⟨gs' i,R*2,none⟩=some (.slice a2 m2 d2):=fun W h=>(h.cell (qac wr _ p0)).trans p0
    have C2:∀W,Below wr.heap.size wr W->W.cell? ⟨gs' i,R*2+1,none⟩=some (.bool b2):=fun W h=>(h.cell (qac wr _ p1)).trans p1
    have C3:∀W,Below wr.heap.size wr W->W.cell? ⟨I.heap.size,0,none⟩=some (.slice a m d):=fun W h=>(h.cell (p:=⟨I.heap.size,0,none⟩) (qG hr).1).trans (qC _ _ 0 _ _ _ hr)
    have C4:∀W,Below wr.heap.size wr W->W.cell? ⟨I.heap.size,1,none⟩=some (.bool b):=fun W h=>(h.cell (p:=⟨I.heap.size,1,none⟩) (qG hr).1).trans (qC _ _ 1 _ _ _ hr)
    have bi:=H3.o.2.2.1.below hB.o;have aN:=H3.o.2.2.2.below hB.o;have aS:=HS.o.2.2.2 i V R (by omega);have HW:=qH (fun W (h:Below wr.heap.size wr W)=>qhz (M i R) z aJ.o (KK K R) (fit_pos HS.o.1 aJ.o) (KK_le hK hR) _ _ W (aW.below h) (bi.below h) aS HS.o.1 (aN.below h));have aI:Below wr.heap.size wr wr:=Below.refl _ _;have ag:Below wr.heap.size wr wr.drew:=aI.drew;have af:Below wr.heap.size wr (wr.alloc (.cells #[.string ⟨#[]⟩,.string ⟨#[]⟩] 44)).drew:=(qbU aI qN).drew;have aK:=hF.o.at (by rw [qb0];exact V);have HF:=qH aK;clear az aW p0 p1 hr aC bi aN aS aK bA bB aY;go_wp2_with fail
    go_cut [9,10] (fun x9 x10 W=>∃(g9:Nat) (x1 x2:ByteArray) (c:Int),x9=.pointer (some ⟨g9,0,none⟩)/\x10=.int .i64 c/\Hu (Short (Rat.divInt (M i R) z)/\(x1,x2)=ftxt (Rat.divInt (M i R) z)/\c=0\/¬Short (Rat.divInt (M i R) z)/\(x1,x2)=fd0/\c=6)/\FOne wr W g9 (x1,x2))
    case first =>
     go_region_held3 (fun W=>Below wr.heap.size wr W) (first | with_reducible exact aI | with_reducible exact ag | with_reducible exact af | with_reducible exact F | exact qbU F qN | exact (F.setCell qN _).setCell qN _ | exact (F.setCell F.size _).setCell F.size _) (first | (go_at_call 179;refine (HW.o _ (by first | with_reducible exact ag | with_reducible exact af)).mono ?_;rintro e w6 hx;obtain⟨x1,x2,c6,rfl,hx,au⟩:=qf5 hx;have F:Below wr.heap.size wr w6:=bjoin (by first | with_reducible exact ag | with_reducible exact af) au;have bv:=qH hx;obtain⟨k6,bO⟩:=bcell au;have Z6:=qH (zkeep au);clear hx au))
     all_goals go_wp2_with fail
     all_goals go_meet
     all_goals refine⟨_,x1,x2,c6,rfl,rfl,bv,?_⟩
     all_goals first
      | with_reducible exact fone_a F
      | exact fone_p F qN (Z6.o _ _ (qM _ _ _ rfl))
    case rest =>
     obtain⟨g9,x1,x2,c,rfl,rfl,hx,ho⟩:=hcut;obtain⟨aG,aH,bN⟩:=ho;have o0:=qC _ _ 0 _ _ _ aG;have o1:=qC _ _ 1 _ _ _ aG;have ay:=hF.o.below aH;have aO:=ay.at (by rw [qb0];exact V);have ae:=ay.set (by rw [qb0];exact V) (x1,x2);rw [qb0] at aO ae;obtain⟨⟨q0,q1⟩,qf⟩:=aO;have bP:=qf (i*2);have bQ:=qf (i*2+1);have aP:=((hB.o.trans (aH.mono hB.o.size)).setCell (p:=⟨w4.heap.size,i*2,none⟩) qN (.string x1)).setCell (p:=⟨w4.heap.size,i*2+1,none⟩) qN (.string x2);have aQ:=hB.o.trans (aH.mono hB.o.size);have HQ:=qH (qA ae (qA aP aQ));have HX:=qH hx.o;have hq:=qgv (M i R) z;clear ae aP aQ aG ay qf C0 C1 C2 C3 C4 ci fi;rcases hx.o with ⟨H,ah,rfl⟩ | ⟨H,ah,rfl⟩
     ·rw [hq] at H ah;have ai:=qH (qA H ah);clear H ah hq;go_wp2;go_roundw
      case rel=>exact⟨i+1,V,by go_num,qH (hA.o.snoc ai.o.1),qH (by rw [qhf,<-ai.o.2];exact HQ.o.1),qH HQ.o.2.1⟩
      case measure=>simp [intOf];omega
     ·rw [hq] at H;have ai:=qH H;clear H ah hq;go_wp2_with fail
      go_ret2
      exact⟨qck aD.o HQ.o.2.2,qag ⟨(qgi HS.o.2.2.1).2,_,(qgi HS.o.2.2.1).1,qag ⟨fun h=>ai.o (h i V),rfl⟩⟩⟩
   ·obtain rfl:i=R:=by omega
    have aT:=hF.o.cells (qb0 _ _);have bu:=qH aT;clear aT;go_wp2_with fail
    go_ret2
    exact⟨qck aD.o hB.o,qag ⟨(qgi HS.o.2.2.1).2,_,(qgi HS.o.2.2.1).1,qan ⟨hA.o,_,rfl,bu.o⟩⟩⟩
abbrev Tbl:=List (List FT)
structure TCells (W:World) (ao:Option Addr) (b off:Nat) (t:Tbl):Prop where
 addr:0<t.length->ao=some ⟨b,off,none⟩
 row:∀k,k<t.length->∃(ra:Option Addr) (rb ro rc:Nat),W.cell? ⟨b,off+k,none⟩=some (.slice ra (t.getD k []).length rc)/\FCells W ra rb ro (t.getD k [])
theorem TCells.below {W W':World} {F:Option Addr} {b off:Nat} {t:Tbl} (h:TCells W F b off t) (I:Below W.heap.size W W'):TCells W' F b off t :=
 ⟨h.addr,fun k O=>by
  obtain⟨ra,rb,ro,rc,H,J⟩:=h.row k O;exact⟨ra,rb,ro,rc,(I.cell (qac W _ H)).trans H,J.below I⟩⟩
def wid (t:Tbl):Nat:=(t.getD 0 []).length
structure TOk (t:Tbl):Prop where
 r1:1<=t.length
 r2:t.length<=40
 c1:1<=wid t
 c2:wid t<=10
 rows:∀k,k<t.length->(t.getD k []).length=wid t/\FAll (t.getD k [])
theorem qlT (ao:Option Addr) (b off R c:Nat) (t:Tbl) (w:World) (hR:t.length=R) (hl:R<=4611686018427387904) (hw:∀k,k<R->(t.getD k []).length<=4611686018427387904) (hc:TCells w ao b off t) :
  Calls prog 225 #[.slice ao R c] w fun e w'=>qfd w (TOk t) 60 e w':=by
 have I:=qH (qA hc (qA hR hw))
 by_cases h1:1<=R
 case neg =>
  have Z:(R:Int)<1:=by omega
  clear hc hR;go_enter func225,ntmps225;go_wp2;go_ret;exact⟨60,rfl,qag ⟨rfl,fun h=>by have:=h.r1;have:=I.o.2.1;omega⟩,Below.refl _ _⟩
 have aC:¬(R:Int)<1:=by omega
 by_cases h2:R<=40
 case neg =>
  have Z:(40:Int)<R:=by omega
  clear hc hR;go_enter func225,ntmps225;go_wp2;go_ret;exact⟨60,rfl,qag ⟨rfl,fun h=>by have:=h.r2;have:=I.o.2.1;omega⟩,Below.refl _ _⟩
 have aD:¬(40:Int)<R:=by omega
 have aB:(0:Int)<R:=by omega
 have av:=hc.addr (by omega);subst av;obtain⟨aK,aL,aN,aM,U,_⟩:=hc.row 0 (by omega);rw [qbs] at U;obtain⟨n,hn⟩:=qX (wid t);have ak:(t.getD 0 []).length=n:=hn;have ay:=hw 0 (by omega);rw [ak] at U ay;have HN:=qH hn;have az:b<w.heap.size:=qac w _ U;clear hc hR hn ak hw
 by_cases h3:1<=n
 case neg =>
  have Z:(n:Int)<1:=by omega
  go_enter func225,ntmps225;go_wp2;go_ret;exact⟨60,rfl,qag ⟨rfl,fun h=>by have:=h.c1;have:=HN.o;omega⟩,Below.refl _ _⟩
 have aF:¬(n:Int)<1:=by omega
 by_cases h4:n<=10
 case neg =>
  have Z:(10:Int)<n:=by omega
  go_enter func225,ntmps225;go_wp2;go_ret;exact⟨60,rfl,qag ⟨rfl,fun h=>by have:=h.c2;have:=HN.o;omega⟩,Below.refl _ _⟩
 have aG:¬(10:Int)<n:=by omega
 go_enter func225,ntmps225;go_wp2_with fail
 go_loopw [31] (fun x31 W=>∃k:Nat,k<=R/\x31=.int .i64 k/\Hu (∀i,i<k->(t.getD i []).length=n/\FAll (t.getD i []))/\Hu (Below w.heap.size w W)) (fun x31 _=>R-(intOf x31).toNat)
 case atStart=>exact⟨0,qal _,rfl,qH (fun i hi=>absurd hi (by omega)),qH qB⟩
 case round =>
  obtain⟨k,hk,rfl,hI,V⟩:=hrel
  by_cases ai:k<R
  ·have aJ:(k:Int)<R:=by omega
   have aH:=(V.o.cell (p:=⟨b,off,none⟩) az).trans U;obtain⟨ra,rb,ro,rc,af,ag⟩:=(I.o.1.below V.o).row k (by have:=I.o.2.1;omega);have HF:=qH ag;obtain⟨row,H⟩:=qX (t.getD k []);obtain⟨l,Y⟩:=qX row.length;have aj:=I.o.2.2 k ai;rw [H] at af HF aj;rw [Y] at af aj;have J:=qH (qA H Y);clear H Y ag
   by_cases F:l=n
   case neg =>
    have hne:((l:Int) != (n:Int))=true:=by rw [bne_iff_ne];omega
    have HL:=qH F;clear F;go_wp2;go_ret;exact⟨60,rfl,qag ⟨rfl,fun h=>HL.o (by rw [<-J.o.2,<-J.o.1,<-HN.o];exact (h.rows k (by have:=I.o.2.1;omega)).1)⟩,V.o⟩
   have hne:((l:Int) != (n:Int))=false:=by simp [F]
   have HL:=qH F;clear F;obtain⟨wo,aA⟩:=qY wr;subst aA;go_wp2_with fail
   go_loopw [44] (fun x44 W=>∃j:Nat,j<=l/\x44=.int .i64 j/\Hu (∀i,i<j->FOk (row.getD i fd0).1.data.toList (row.getD i fd0).2.data.toList)/\Hu (Below wo.heap.size wo W)) (fun x44 _=>l-(intOf x44).toNat)
   case atStart=>exact⟨0,qal _,rfl,qH (fun i hi=>absurd hi (by omega)),qH qB⟩
   case round =>
    obtain⟨j,hj,rfl,hJ,O⟩:=hrel
    by_cases ah:j<l
    ·have aI:(j:Int)<l:=by omega
     have au:=HF.o.addr (by have:=J.o.2;omega);subst au;obtain⟨d0,d1⟩:=(HF.o.below O.o).cell j (by have:=J.o.2;omega);obtain⟨N,hN⟩:=qX ((row.getD j fd0).1);obtain⟨D,hD⟩:=qX ((row.getD j fd0).2);rw [hN] at d0;rw [hD] at d1;have HX:=qH (qA hN hD);clear hN hD;go_wp2_with fail;refine (qfL N D _).mono ?_;rintro e w2 ⟨cc,rfl,ax,ae⟩;have aa:=qH (O.o.trans ((qB.alloc qN _ |>.trans (ae.mono (by simp only [qab];omega))).mono O.o.size));clear ae;rcases ax with ⟨rfl,hf⟩ | ⟨rfl,hf⟩
     ·have Hf:=qH hf;clear hf;go_wp2;go_roundw
      case rel=>exact⟨j+1,ah,by go_num,qH (fun i hi=>by
       rcases (show i<j\/i=j by omega) with h | h
       ·exact hJ.o i h
       ·rw [h,HX.o.1,HX.o.2];exact Hf.o),aa⟩
      case measure=>simp [intOf];omega
     ·have Hf:=qH hf;clear hf;go_wp2;go_ret;exact⟨60,rfl,qag ⟨rfl,fun h=>Hf.o (by
       have:=(h.rows k (by have:=I.o.2.1;omega)).2 j (by rw [J.o.1,J.o.2];exact ah);rw [J.o.1,HX.o.1,HX.o.2] at this;exact this)⟩,V.o.trans (aa.o.mono V.o.size)⟩
    ·obtain rfl:j=l:=by omega
     go_wp2;go_roundw
     case rel=>exact⟨k+1,ai,by go_num,qH (fun i hi=>by
      rcases (show i<k\/i=k by omega) with h | h
      ·exact hI.o i h
      ·rw [h,J.o.1,J.o.2];exact⟨HL.o,fun x hx=>hJ.o x (by rw [<-J.o.2];exact hx)⟩),qH (V.o.trans (O.o.mono V.o.size))⟩
     case measure=>simp [intOf];omega
  ·obtain rfl:k=R:=by omega
   go_wp2;go_ret;exact⟨0,rfl,qan ⟨rfl,⟨by have:=I.o.2.1;omega,by have:=I.o.2.1;omega,by rw [HN.o];exact h3,by rw [HN.o];exact h4,fun i hi=>by rw [HN.o];exact hI.o i (by have:=I.o.2.1;omega)⟩⟩,V.o⟩
def CLAs (w:World) (t L:Tbl) (e:Ending) (F:World):Prop :=
 ∃c:Int,e=.returned (.int .i64 c)/\(c=60/\¬TOk t\/c=20/\TOk t/\¬(∀k,k<L.length->FAll (L.getD k []))\/c=0/\TOk t/\∀k,k<L.length->FAll (L.getD k []))/\Below w.heap.size w F
theorem qeY (ao:Option Addr) (b off R c:Nat) (t:Tbl) (ae:Option Addr) (b2 ax R2 c2:Nat) (L:Tbl) (w:World) (hR:t.length=R) (hl:R<=4611686018427387904) (hw:∀k,k<R->(t.getD k []).length<=4611686018427387904) (hc:TCells w ao b off t)
  (af:L.length=R2) (J:R2<=4611686018427387904) (av:∀k,k<R2->(L.getD k []).length<=4611686018427387904) (ag:TCells w ae b2 ax L) :
  Calls prog 164 #[.slice ao R c,.slice ae R2 c2] w fun e w'=>CLAs w t L e w':=by
 have HK:=qH (qlT ao b off R c t w hR hl hw hc);have O:=qH (qA ag (qA af av));clear hR hw hc af av ag;go_enter func164,ntmps164;go_wp2_with fail;refine HK.o.mono ?_;rintro e w2 ⟨cc,rfl,V,F⟩;have HB:=qH F;clear F;rcases V with ⟨rfl,hT⟩ | ⟨rfl,hT⟩
 case inr =>
  have HT:=qH hT;clear hT;go_wp2;go_ret;exact⟨60,rfl,qan ⟨rfl,HT.o⟩,HB.o⟩
 have HT:=qH hT;clear hT;go_wp2_with fail
 go_loopw [17] (fun x17 W=>∃k:Nat,k<=R2/\x17=.int .i64 k/\Hu (∀i,i<k->FAll (L.getD i []))/\Hu (Below w.heap.size w W)) (fun x17 _=>R2-(intOf x17).toNat)
 case atStart=>exact⟨0,qal _,rfl,qH (fun i Z=>absurd Z (by omega)),HB⟩
 case round =>
  obtain⟨k,hk,rfl,hI,Y⟩:=hrel
  by_cases ak:k<R2
  ·have aC:(k:Int)<R2:=by omega
   have az:=O.o.1.addr (by have:=O.o.2.1;omega);subst az;obtain⟨ra,rb,ro,rc,ah,ai⟩:=(O.o.1.below Y.o).row k (by have:=O.o.2.1;omega);have HF:=qH ai;obtain⟨row,H⟩:=qX (L.getD k []);obtain⟨l,J⟩:=qX row.length;have au:=O.o.2.2 k ak;rw [H] at ah HF au;rw [J] at ah au;have U:=qH (qA H J);clear H J ai;obtain⟨wo,aA⟩:=qY wr;subst aA;go_wp2_with fail
   go_loopw [23] (fun x23 W=>∃j:Nat,j<=l/\x23=.int .i64 j/\Hu (∀i,i<j->FOk (row.getD i fd0).1.data.toList (row.getD i fd0).2.data.toList)/\Hu (Below wo.heap.size wo W)) (fun x23 _=>l-(intOf x23).toNat)
   case atStart=>exact⟨0,qal _,rfl,qH (fun i Z=>absurd Z (by omega)),qH qB⟩
   case round =>
    obtain⟨j,hj,rfl,hJ,I⟩:=hrel
    by_cases aj:j<l
    ·have aB:(j:Int)<l:=by omega
     have ay:=HF.o.addr (by have:=U.o.2;omega);subst ay;obtain⟨d0,d1⟩:=(HF.o.below I.o).cell j (by have:=U.o.2;omega);obtain⟨N,hN⟩:=qX ((row.getD j fd0).1);obtain⟨D,hD⟩:=qX ((row.getD j fd0).2);rw [hN] at d0;rw [hD] at d1;have HX:=qH (qA hN hD);clear hN hD;go_wp2_with fail;refine (qfL N D _).mono ?_;rintro e w2 ⟨cc,rfl,V,F⟩;have aa:=qH (I.o.trans ((qB.alloc qN _ |>.trans (F.mono (by simp only [qab];omega))).mono I.o.size));clear F;rcases V with ⟨rfl,hf⟩ | ⟨rfl,hf⟩
     ·have Hf:=qH hf;clear hf;go_wp2;go_roundw
      case rel=>exact⟨j+1,aj,by go_num,qH (fun i Z=>by
       rcases (show i<j\/i=j by omega) with h | h
       ·exact hJ.o i h
       ·rw [h,HX.o.1,HX.o.2];exact Hf.o),aa⟩
      case measure=>simp [intOf];omega
     ·have Hf:=qH hf;clear hf;go_wp2;go_ret;exact⟨20,rfl,qag (qan ⟨rfl,HT.o,fun h=>Hf.o (by
       have:=h k (by have:=O.o.2.1;omega) j (by rw [U.o.1,U.o.2];exact aj);rw [U.o.1,HX.o.1,HX.o.2] at this;exact this)⟩),Y.o.trans (aa.o.mono Y.o.size)⟩
    ·obtain rfl:j=l:=by omega
     go_wp2;go_roundw
     case rel=>exact⟨k+1,ak,by go_num,qH (fun i Z=>by
      rcases (show i<k\/i=k by omega) with h | h
      ·exact hI.o i h
      ·rw [h,U.o.1];exact fun x hx=>hJ.o x (by rw [<-U.o.2];exact hx)),qH (Y.o.trans (I.o.mono Y.o.size))⟩
     case measure=>simp [intOf];omega
  ·obtain rfl:k=R2:=by omega
   go_wp2;go_ret;exact⟨0,rfl,qag (qag ⟨rfl,HT.o,fun i Z=>hI.o i (by have:=O.o.2.1;omega)⟩),Y.o⟩
def Neg (l:List FT):Prop:=∃k,k<l.length/\ival (l.getD k fd0).1.data.toList<0
def NegAs (w:World) (l:List FT) (e:Ending) (F:World):Prop:=∃x:Bool,e=.returned (.bool x)/\(x=true↔Neg l)/\Below w.heap.size w F
theorem qgc (ao:Option Addr) (b off n c:Nat) (l:List FT) (w:World) (hn:l.length=n) (hl:n<=4611686018427387904) (hc:FCells w ao b off l) (hf:FAll l) :
  Calls prog 165 #[.slice ao n c] w fun e w'=>NegAs w l e w':=by
 have H:=qH (qA hc (qA hn hf));have ah:=qfi;clear hc hn hf;go_enter func165,ntmps165;go_wp2_with fail
 go_loopw [7] (fun x7 W=>∃j:Nat,j<=n/\x7=.int .i64 j/\Hu (∀i,i<j->0<=ival (l.getD i fd0).1.data.toList)/\Hu (Below w.heap.size w W)) (fun x7 _=>n-(intOf x7).toNat)
 case atStart=>exact⟨0,qal _,rfl,qH (fun i hi=>absurd hi (by omega)),qH qB⟩
 case round =>
  obtain⟨j,hj,rfl,hJ,F⟩:=hrel
  by_cases ae:j<n
  ·have ai:(j:Int)<n:=by omega
   have aa:=H.o.1.addr (by have:=H.o.2.1;omega);subst aa;obtain⟨d0,d1⟩:=(H.o.1.below F.o).cell j (by have:=H.o.2.1;omega);have J:=(H.o.2.2 j (by have:=H.o.2.1;omega)).vn;obtain⟨N,hN⟩:=qX ((l.getD j fd0).1);obtain⟨D,hD⟩:=qX ((l.getD j fd0).2);rw [hN] at d0 J;rw [hD] at d1;have Y:=qH (qA hN J);clear hN hD J;go_wp2_with fail;refine ((qcn .l) N Y.o.2 _).mono ?_;rintro e w2 ⟨v2,rfl,U,af⟩;have O:=qH (F.o.trans ((qB.alloc qN _ |>.trans (U.mono (by simp only [qab];omega))).mono F.o.size));obtain⟨m2,rfl,V⟩:=af;have ag:∀b W,(Instr.field 242 (.agg #[m2,.bool b]) 1).run prog W=.ok (.bool b) W:=by
    obtain⟨_,_,_,_,_,_,rfl,_,_⟩:=V;intro b W;kernel_rfl
   clear U V
   by_cases I:ival N.data.toList<0
   ·rw [qV I];have Z:=qH I;clear I;go_wp2;go_ret;exact⟨true,rfl,⟨fun _=>⟨j,by have:=H.o.2.1;omega,by rw [Y.o.1];exact Z.o⟩,fun _=>rfl⟩,O.o⟩
   ·rw [qU I];have Z:=qH (Int.not_lt.1 I);clear I;go_wp2;go_roundw
    case rel=>exact⟨j+1,ae,by go_num,qH (fun i hi=>by
     rcases (show i<j\/i=j by omega) with h | h
     ·exact hJ.o i h
     ·rw [h,Y.o.1];exact Z.o),O⟩
    case measure=>simp [intOf];omega
  ·obtain rfl:j=n:=by omega
   go_wp2;go_ret;exact⟨false,rfl,⟨fun h=>absurd h (by decide),fun⟨k,hk,I⟩=>absurd I (Int.not_lt.2 (hJ.o k (by have:=H.o.2.1;omega)))⟩,F.o⟩
def lval (l:List FT) (k:Nat):Rat:=fval (l.getD k fd0).1.data.toList (l.getD k fd0).2.data.toList
def tval (t:Tbl) (i:Nat):Nat->Rat:=lval (t.getD i [])
theorem qhR (n d:List UInt8):fval n d=(ival n:Rat) / ((ival d).natAbs:Rat):=by
 unfold fval;rw [<-Rat.divInt_ofNat,Rat.divInt_eq_div];rfl
theorem flcd_dvd {l:List FT} {k:Nat} (F:k<l.length):fden (l.getD k fd0)∣flcd l:=by
 have h:=qhU (l.map fden) (l.map fden).length k (by rw [qav];exact F) qN;rw [qbh] at h;have e:(l.map fden).getD k 0=fden (l.getD k fd0):=by
  rw [qaa,qay,qaa,qad F];rfl
 rw [e] at h;exact h
theorem ql0 {l:List FT} {j:Nat} (H:j<(l.map fden).length):(l.map fden).getD j 0=fden (l.getD j fd0):=by
 have F:j<l.length:=by rw [qav] at H;exact H
 rw [qaa,qay,qaa,qad F];rfl
theorem qkl {l:List FT} (h:FAll l):0<flcd l:=by
 have:=qfs (l.map fden) (fun j F=>by rw [ql0 F];exact (qd6 h (by rw [qav] at F;exact F)).1) (l.map fden).length qN;rw [qbh] at this;exact this
theorem qfj {l:List FT} (h:FAll l) {m:Nat} (H:l.length<=m):Fit (flcd l) (m*67+1):=by
 have:=qfr (l.map fden) 67 (fun j F=>by rw [ql0 F];exact qd6 h (by rw [qav] at F;exact F)) (l.map fden).length qN;rw [qbh,qav] at this;exact this.mono (by omega)
theorem qfk {l:List FT} (h:FAll l) {k:Nat} (H:k<l.length):((ftop l k:Int):Rat)=(flcd l:Rat)*lval l k:=by
 obtain⟨q,I⟩:=flcd_dvd H;have F:=(qd6 h H).1;have e:flcd l / fden (l.getD k fd0)=q:=by rw [I];exact qaY _ F
 unfold ftop lval;rw [qhR,e,I];have J:((fden (l.getD k fd0):Nat):Rat)≠0:=by
  have:=qbl F
  exact_mod_cast this
 show _=_*((ival _:Rat) / ((fden (l.getD k fd0):Nat):Rat))
 push_cast
 grind
theorem qdi {l:List FT} (h:FAll l) {m:Nat} (H:l.length<=m) {k:Nat} (F:k<l.length):Fit (ftop l k).natAbs (67+(m*67+1)):=by
 unfold ftop;rw [qaF,qam];exact (h k F).vn.fit.mul ((qfj h H).le (qaR _ _))
theorem Sing.scale {R:Nat} {A B:Nat->Nat->Rat} (s:Nat->Rat) (O:∀i,i<R->s i≠0) (h:∀i,i<R->∀j,j<R->A i j=s i*B i j):Sing R A↔Sing R B:=by
 have H:∀(y:Nat->Rat) i,i<R->sumQ R (fun j=>A i j*y j)=s i*sumQ R (fun j=>B i j*y j):=fun y i F=>by
  rw [<-qcb];exact qbX fun j J=>by rw [h i F j J];grind
 constructor
 ·rintro ⟨y,hy,I⟩;refine⟨y,hy,fun i F=>?_⟩;have:=I i F;rw [H y i F] at this;rcases Rat.mul_eq_zero.1 this with e | e
  ·exact absurd e (O i F)
  ·exact e
 ·rintro ⟨y,hy,I⟩;exact⟨y,hy,fun i F=>by rw [H y i F,I i F];grind⟩
theorem qcL.scale {R:Nat} {A B:Nat->Nat->Rat} {b c x:Nat->Rat} (s:Nat->Rat) (U:∀i,i<R->s i≠0) (h:∀i,i<R->∀j,j<R->A i j=s i*B i j) (J:∀i,i<R->b i=s i*c i) (hx:qcL R A b x):qcL R B c x:=fun i F=>by
 have H:=hx i F;have I:sumQ R (fun j=>A i j*x j)=s i*sumQ R (fun j=>B i j*x j):=by
  rw [<-qcb];exact qbX fun j O=>by rw [h i F j O];grind
 rw [I,J i F] at H;have:=U i F
 grind
theorem qgC {l:List FT} {x:FT} {k:Nat} (F:k<l.length):(l++[x]).getD k fd0=l.getD k fd0:=by
 rw [qaa,qas F,<-qaa]
theorem qgB {l:List FT} {x:FT}:(l++[x]).getD l.length fd0=x:=by
 rw [qaa,qaq qN,qaG];rfl
theorem FAll.snoc {l:List FT} {x:FT} (h:FAll l) (hx:FOk x.1.data.toList x.2.data.toList):FAll (l++[x]):=fun k F=>by
 rw [qaf,qaz] at F
 by_cases e:k<l.length
 ·rw [qgC e];exact h k e
 ·obtain rfl:k=l.length:=by omega
  rw [qgB];exact hx
theorem qgI {l:List FT} {x:FT} {k:Nat} (F:k<l.length):lval (l++[x]) k=lval l k:=by unfold lval;rw [qgC F]
theorem qgH {l:List FT} {x:FT}:lval (l++[x]) l.length=fval x.1.data.toList x.2.data.toList:=by unfold lval;rw [qgB]
structure MatPart (W:World) (tb R k n:Nat) (gs:Nat->Nat) (M:Nat->Nat->Int):Prop where
 row:W.heap[tb]? = some (.cells (rowvs k n gs++List.replicate (R-k) zs0).toArray 237 (0,0))
 rows:∀i,i<k->qco W (gs i) n (M i)
 le:k<=R
theorem MatPart.below {W W':World} {I R k n:Nat} {F:Nat->Nat} {M:Nat->Nat->Int} (h:MatPart W I R k n F M) (H:Below W.heap.size W W'):MatPart W' I R k n F M :=
 ⟨(H.block _ (qG h.row).1).trans h.row,fun i J=>(h.rows i J).below H,h.le⟩
theorem qh5 {R k n:Nat} {F:Nat->Nat}:∀x∈(rowvs k n F++List.replicate (R-k) zs0).toArray.toList,∀d,x≠.int .u32 d:=by
 intro x hx d e;rcases qaK.1 (show x∈rowvs k n F++List.replicate (R-k) zs0 from hx) with h | h
 ·exact qgZ x h d e
 ·rw [(List.mem_replicate.1 h).2] at e;cases e
theorem qco.keepRows {W W':World} {I g U:Nat} {cs:Array Value} {m:Nat->Int} (h:qco W g U m) (J:W.grownBy W' (some I)) (O:W.heap[I]? = some (.cells cs 237 (0,0))) (hne:∀x∈cs.toList,∀d,x≠.int .u32 d):qco W' g U m:=by
 obtain⟨ps,V,H,Y⟩:=h;have F:g≠I:=by
  intro e;subst e;have:=H.1.symm.trans O;simp at this
 exact⟨ps,V,⟨(J.block _ (qG H.1).1 (fun e=>F (qah e))).trans H.1,H.2⟩,Y.keep J O hne⟩
theorem MatPart.at {W:World} {F R k n:Nat} {H:Nat->Nat} {M:Nat->Nat->Int} (h:MatPart W F R k n H M) (I:k<R):W.cell? ⟨F,k,none⟩=some zs0/\W.frozen? ⟨F,k,none⟩=false:=by
 refine⟨(qC _ _ _ _ _ _ h.row).trans ?_,qF _ _ _ _ _ h.row⟩;rw [qau,qaq (by rw [qcI];exact qae _),qcI,qaG,qbc,if_pos (by omega)]
theorem MatPart.done {W:World} {H R n:Nat} {F:Nat->Nat} {M:Nat->Nat->Int} (h:MatPart W H R R n F M):MatAt W H R n F M:=by
 have:=h.row;rw [qaG,List.replicate_zero,List.append_nil] at this;exact⟨this,h.rows⟩
theorem MatPart.made (W:World) (R n:Nat) (F:Nat->Nat) (M:Nat->Nat->Int):MatPart (W.alloc (.cells (madeCells #[zs0] R) 237)) W.heap.size R 0 n F M:=by
 refine⟨?_,fun i H=>absurd H (by omega),qal _⟩;rw [qM _ _ _ rfl,Nat.sub_zero,show rowvs 0 n F=[] from rfl,qbq,<-toList_madeCells_one,Array.toArray_toList]
theorem qko:(Tryz.prog.info? 237).map (fun i=>(i.zero,i.size,i.bytes))=some (some (.slice none 0 0),1,24):=by kernel_rfl
theorem qmO (n:Nat) (O:n<=1048576) (w:World):(Instr.makeSlice 276 (.int .i64 (n:Int)) (.int .i64 (n:Int))).run prog w=.ok (.slice (some ⟨w.heap.size,0,none⟩) n n) (w.alloc (.cells (madeCells #[zs0] n) 237)):=by
 obtain⟨i,J,F,H,I⟩:=info_parts qko;have h:=run_make (P:=prog) w 276 237 i _ underlying276 J F .i64 .i64 (n:Int) (n:Int) (by omega) (Int.le_refl _) (by rw [I];omega) (by omega);rw [H,Int.toNat_natCast,qbO] at h;exact h
theorem qeh {w a b:World} {g:Nat} (h:Below w.heap.size w a) (k:a.grownBy b (some g)) (hg:w.heap.size<=g:=by omega):Below w.heap.size w b :=
 h.trans ⟨k.os,k.tape,k.output,k.size,fun i F=>k.block i (qai F h.size) (fun e=>by have:=qah e;omega)⟩
theorem qea {a b:World} {g:Nat} (h:a.grownBy b (some g)) {p:Addr} (F:p.block<a.heap.size) (hne:p.block≠g):b.cell? p=a.cell? p:=World.cell?_of_block (h.block _ F (fun e=>hne (qah e)))
theorem qeB {W:World} {H:Option Addr} {b off n c:Nat} {l:List FT} (U:l.length=n) (Y:n<=64) (F:FCells W H b off l) (O:FAll l) :
  Calls prog 166 #[.slice H n c] W fun e W'=>∃g v,e=.returned (.tuple #[rowv g n,v])/\W.heap.size<=g/\Below W.heap.size W W'/\MagAt W' v (flcd l)/\qco W' g n (ftop l):=by
 refine (qiA H b off n c l W U Y F O).mono ?_;rintro e W' ⟨g,v,ps,rfl,hg,J,V,Z,hr,I⟩;exact⟨g,v,rfl,hg,J,V,ps,Z,hr,I⟩
def besides (t:Tbl) (l:List FT) (i:Nat):List FT:=t.getD i []++[l.getD i fd0]
