import Derived.Test.YtjalhnlhcdfncaaGreatDoorBo21
set_option maxRecDepth 100000
set_option maxHeartbeats 0
namespace Go.Proofs.YtjalhnlhcdfncaaGreatDoor
open Go.ChangeShapes Go.WideShapes Go.ChangeAt Go.RowKit Go.Deep Go.Proofs.Tryz
section
variable {H:Type} {enc:TypeId×Value->H} {w:World} {sp:Nat->Bool} {held:Bool} {fuel:Nat} {v:Value} {x:DataW H×List MemPlace}
theorem qos (h:DataW.trod enc prog w 0 sp held fuel 84 [v]=some x):∃(a:Option Addr) (b off c:Nat) (l:List Int),v=.slice a l.length c/\l.length<=maxLen/\KCells w .u16 a b off l/\∀k,0<=l.getD k 0/\l.getD k 0<65536:=by
 rcases open_slice1 underlying84 (by kernel_rfl) h with ⟨H,_⟩ | ⟨a,len,cap,m,n,V,D,Pl,H,_,hl,hm,O,_,hx⟩
 ·exact⟨none,0,0,0,[],by injection H,by decide,⟨fun h=>absurd h (by decide),fun k h=>absurd h (by simp)⟩,fun k=>by simp⟩
 ·have aa:len<=m:=by rw [O];split <;> omega
  have I:∀i,i<len->∃z:Int,V i=.int .u16 z/\0<=z/\z<65536:=fun i hi=>by
   obtain⟨z,e,_,hw⟩:=DataW.trod_int underlying85 (hx i (by omega)).2;have Z:0<=z/\z<=65535:=by simpa [Lit.wf,IntKind.min,IntKind.max,IntKind.signed,IntKind.bits] using hw
   exact⟨z,by injection e,Z.1,by omega⟩
  obtain⟨Y,U⟩:=choose_lt I;have hg:∀k,k<len->((List.range len).map Y).getD k 0=Y k:=fun k F=>by
   rw [qaa,qaP,qbG F];rfl
  have E:((List.range len).map Y).length=len:=by rw [qaD,qbo]
  refine⟨some a,a.block,a.off,cap,(List.range len).map Y,by rw [E];injection H,by rw [E];omega,⟨fun J=>?_,fun k F=>?_⟩,fun k=>?_⟩
  ·rw [E] at J;exact congrArg some (qe0 (hx 0 (by omega)).1)
  ·rw [E] at F;rw [hg k F];have J:=(hx k (by omega)).1;rw [qe0 (a:=a) (hx 0 (by omega)).1,Addr.add_mid,(U k F).1] at J;exact J
  ·rcases qaB k len with F | F
   ·rw [hg k F];exact (U k F).2
   ·rw [qaa,qaR (by rw [E];exact F)];exact⟨Int.le_refl _,by decide⟩
theorem c3Dr:Tryz.prog.cellsOf 87=3:=by kernel_rfl
theorem c6Dr:Tryz.prog.cellsOf 89=6:=by kernel_rfl
theorem c1B:Tryz.prog.cellsOf 4=1:=by kernel_rfl
theorem c1U:Tryz.prog.cellsOf 85=1:=by kernel_rfl
theorem c1S:Tryz.prog.cellsOf 84=1:=by kernel_rfl
theorem qjI {v0 H v2:Value} (h:DataW.trod enc prog w 0 sp held fuel 87 [v0,H,v2]=some x) :
  ∃(bl:Bool) (a:Option Addr) (b off c:Nat) (l:List Int) (z:Int),v0=.bool bl/\H=.slice a l.length c/\v2=.int .u16 z/\l.length<=maxLen/\KCells w .u16 a b off l/\∀k,0<=l.getD k 0/\l.getD k 0<65536:=by
 obtain⟨xs,n,_,_,_,F,E⟩:=DataW.trod_struct underlying87 h
 match xs,F with
 | [y0,y1,y2],_ =>
  have g0:=E 0 _ rfl;have g1:=E 1 _ rfl;have g2:=E 2 _ rfl;simp [c1B,c1U,c1S] at g0 g1 g2;obtain⟨bl,e0,_⟩:=DataW.trod_bool underlying4 g0;obtain⟨a,b,off,c,l,e1,J,I,hr⟩:=qos g1;obtain⟨z,e2,_,_⟩:=DataW.trod_int underlying85 g2;exact⟨bl,a,b,off,c,l,z,by injection e0,e1,by injection e2,J,I,hr⟩
theorem open_dr {cs:List Value} (h:DataW.trod enc prog w 0 sp held fuel 89 cs=some x) {a:Addr} (hc:w.cells? 0 a 6=some cs) (Y:a.spot=none) :
  ∃d,DrAt w a.block a.off d/\DrOk d:=by
 obtain⟨_,F,E⟩:=World.cells?_some hc;obtain⟨xs,n,_,_,_,Z,hf⟩:=DataW.trod_struct underlying89 h
 match xs,Z,cs,F with
 | [y0,y1],_,[v0,v1,v2,v3,v4,v5],_ =>
  have g0:=hf 0 _ rfl;have g1:=hf 1 _ rfl;simp [c3Dr] at g0 g1;obtain⟨bl,a1,b1,o1,c1,l1,z1,rfl,rfl,rfl,J,H,U⟩:=qjI g0;obtain⟨bm,a2,b2,o2,c2,l2,z2,rfl,rfl,rfl,O,I,V⟩:=qjI g1;obtain⟨ab,ao,asp⟩:=a;have Y:asp=none:=Y;subst Y;have e:∀k (u:Value),k<6->w.cell? ((⟨ab,ao,none⟩:Addr).add k)=some u->w.cell? ⟨ab,ao+k,none⟩=some u:=fun k u _ h=>by
   rw [<-Addr.add_mid];exact h
  refine⟨⟨bl,l1,z1,bm,l2,z2⟩,⟨a1,b1,o1,c1,a2,b2,o2,c2,⟨by have:=e 0 _ (by decide) (E 0 (by decide));simpa using this,by have:=e 1 _ (by decide) (E 1 (by decide));simpa using this,by have:=e 2 _ (by decide) (E 2 (by decide));simpa using this,
   by have:=e 3 _ (by decide) (E 3 (by decide));simpa using this,by have:=e 4 _ (by decide) (E 4 (by decide));simpa using this,by have:=e 5 _ (by decide) (E 5 (by decide));simpa using this⟩,H,I⟩,?_⟩
  unfold maxLen at J O;exact⟨by show l1.length<=_;omega,by show l2.length<=_;omega,U,V⟩
theorem open_drs (h:DataW.trod enc prog w 0 sp held fuel 23 [v]=some x):∃(a:Option Addr) (b off c:Nat) (L:List Dr),v=.slice a L.length c/\L.length<=maxLen/\L.length<=c/\DrCells w a b off L:=by
 rcases open_slice underlying23 h with ⟨I,_⟩ | ⟨a,len,cap,m,n,D,Pl,I,_,hl,hm,aa,_,hx⟩
 ·exact⟨none,0,0,0,[],by injection I,by decide,qad _,⟨fun h=>absurd h (by decide),fun k h=>absurd h (by simp),fun k h=>absurd h (by simp)⟩⟩
 ·have af:len<=m:=by rw [aa];split <;> omega
  have V:0<len->a=⟨a.block,a.off,none⟩:=fun Z=>by
   obtain⟨cs',J,_⟩:=hx 0 (by omega);rw [c6Dr] at J;obtain⟨_,ae,H⟩:=World.cells?_some J;have h3:=H 0 (by decide);rw [add_add] at h3;have h4:w.cell? (a.add 0)=cs'[0]?:=h3;rw [qac (by omega)] at h4;exact qe0 h4
  have O:∀i,i<len->∃d,DrAt w a.block (a.off+i*6) d/\DrOk d:=fun i hi=>by
   obtain⟨cs',J,h2⟩:=hx i (by omega);rw [c6Dr] at J;have ha:=V (by omega);have U:a.add (i*6)=⟨a.block,a.off+i*6,none⟩:=by rw [ha,Addr.add_mid]
   rw [U] at J;exact open_dr h2 J rfl
  have:Inhabited Dr:=⟨dr0⟩;obtain⟨Y,hY⟩:=choose_lt O;have hg:∀k,k<len->((List.range len).map Y).getD k dr0=Y k:=fun k F=>by
   rw [qaa,qaP,qbG F];rfl
  have E:((List.range len).map Y).length=len:=by rw [qaD,qbo]
  refine⟨some a,a.block,a.off,cap,(List.range len).map Y,by rw [E];injection I,by rw [E];omega,by rw [E];omega,⟨fun Z=>?_,fun k F=>?_,fun k F=>?_⟩⟩
  ·rw [E] at Z;exact congrArg some (V Z)
  ·rw [E] at F;rw [hg k F];exact (hY k F).1
  ·rw [E] at F;rw [hg k F];exact (hY k F).2
theorem open_ds {r:Reach} {I:Nat} {d:DataW H} {p:List MemPlace} (Y:Value.okWide prog w r I 23 v) (h:DataW.Trod enc prog w 0 sp held 23 v d p) :
  ∃(a:Option Addr) (b off c:Nat) (L:List Dr),v=.slice a L.length c/\L.length<=9223372036854775807/\L.length<=c/\DrCells w a b off L:=by
 obtain⟨fuel,U⟩:=h;have O:=okWide_slice underlying23 Y;obtain⟨a,n,c,rfl⟩:=O;have E:DataW.trod enc prog w 0 sp held fuel 23 [.slice a n c]=some (d,p):=U;obtain⟨a,b,off,c,l,e,V,F,J⟩:=open_drs E;unfold maxLen at V;exact⟨a,b,off,c,l,e,by omega,F,J⟩
end
theorem wf_i64 {z:Int} (h:(Lit.int .i64 z).wf=true):-9223372036854775808<=z/\z<=9223372036854775807:=by
 simpa [Lit.wf,IntKind.min,IntKind.max,IntKind.signed,IntKind.bits] using h
section
variable {H:Type} {enc:TypeId×Value->H} {w:World} {sp:Nat->Bool} {held:Bool} {fuel:Nat} {v:Value} {x:DataW H×List MemPlace}
theorem qmu (h:DataW.trod enc prog w 0 sp held fuel 22 [v]=some x):∃(a:Option Addr) (b off c:Nat) (l:List FT),v=.slice a l.length c/\(l.length<=c/\l.length<=maxLen)/\FCells w a b off l:=by
 rcases open_slice_pairs underlying22 underlying27 (by kernel_rfl) rfl rfl (by kernel_rfl) (by kernel_rfl) h with ⟨F,_⟩ | ⟨a,len,cap,m,n,V0,V1,D0,D1,P0,P1,F,_,hl,hm,U,_,hx⟩
 ·exact⟨none,0,0,0,[],by injection F,⟨qad _,by decide⟩,⟨fun h=>absurd h (by decide),fun k h=>absurd h (by simp)⟩⟩
 ·have aa:len<=m:=by rw [U];split <;> omega
  have J:∀i,i<len->∃y:ByteArray×ByteArray,V0 i=.string y.1/\V1 i=.string y.2:=fun i hi=>by
   obtain⟨_,_,H,O⟩:=hx i (by omega);obtain⟨s,e0,_,_⟩:=DataW.trod_string underlying25 H;obtain⟨s',e1,_,_⟩:=DataW.trod_string underlying25 O;exact⟨(s,s'),by injection e0,by injection e1⟩
  have:Inhabited (ByteArray×ByteArray):=⟨fd0⟩;obtain⟨Y,V⟩:=choose_lt J;have hg:∀k,k<len->((List.range len).map Y).getD k fd0=Y k:=fun k I=>by
   rw [qaa,qaP,qbG I];rfl
  have E:((List.range len).map Y).length=len:=by rw [qaD,qbo]
  refine⟨some a,a.block,a.off,cap,(List.range len).map Y,by rw [E];injection F,⟨by rw [E];exact hl,by rw [E];omega⟩,⟨fun H=>?_,fun k I=>?_⟩⟩
  ·rw [E] at H;have:=qe0 (a:=a) (hx 0 (by omega)).1;exact congrArg some this
  ·rw [E] at I;obtain⟨H,O,_⟩:=hx k (by omega);have Z:=qe0 (a:=a) (hx 0 (by omega)).1;rw [Z,Addr.add_mid] at H;rw [Z,Addr.add_mid] at O;rw [hg k I];exact⟨H.trans (congrArg some (V k I).1),by rw [Nat.add_assoc];exact O.trans (congrArg some (V k I).2)⟩
theorem open_fs {r:Reach} {I:Nat} {d:DataW H} {p:List MemPlace} (Y:Value.okWide prog w r I 22 v) (h:DataW.Trod enc prog w 0 sp held 22 v d p) :
  ∃(a:Option Addr) (b off c:Nat) (l:List FT),v=.slice a l.length c/\l.length<=9223372036854775807/\l.length<=c/\FCells w a b off l:=by
 obtain⟨fuel,U⟩:=h;have O:=okWide_slice underlying22 Y;obtain⟨a,n,c,rfl⟩:=O;have E:DataW.trod enc prog w 0 sp held fuel 22 [.slice a n c]=some (d,p):=U;obtain⟨a,b,off,c,l,e,⟨F,V⟩,J⟩:=qmu E;unfold maxLen at V;exact⟨a,b,off,c,l,e,by omega,F,J⟩
end
end Go.Proofs.YtjalhnlhcdfncaaGreatDoor
namespace Go.Proofs.YtjalhnlhcdfncaaGreatDoor
def Ord {α:Type} (lt:α->α->Prop) (l:List α):Prop:=l.Pairwise fun a b=>¬lt b a
theorem ord_last {α:Type} {lt:α->α->Prop} {A:List α} {y x:α} (H:∀a b c,lt a b->¬lt c b->lt a c) (h:Ord lt (A++[y])) (hy:¬lt x y):∀a∈A++[y],¬lt x a:=fun a F E=>by
 rcases qaL.1 F with F | F
 ·have:=(List.pairwise_append.1 h).2.2 a F y (qap.2 rfl);exact hy (H x a y E this)
 ·rw [qap.1 F] at E;exact hy E
section
variable {α:Type} (lt:α->α->Prop) [DecidableRel lt]
def insR (x:α):List α->List α
 | []=>[x]
 | y :: ys=>if lt x y then x :: y :: ys else y :: insR x ys
def isort (l:List α):List α:=l.foldl (fun E x=>insR lt x E) []
theorem qe9 (l:List α) (x:α):isort lt (l++[x])=insR lt x (isort lt l):=by unfold isort;rw [List.foldl_append];rfl
variable {lt}
theorem qfZ (x:α):∀l:List α,(insR lt x l).Perm (x :: l)
 | []=>List.Perm.refl _
 | y :: ys=>by
  unfold insR;split
  ·exact List.Perm.refl _
  ·exact ((qfZ x ys).cons y).trans (List.Perm.swap x y ys)
theorem qdF (l:List α):(isort lt l).Perm l:=by
 have F:∀(l E:List α),(l.foldl (fun E x=>insR lt x E) E).Perm (l++E):=by
  intro l
  induction l with
  | nil=>exact fun E=>List.Perm.refl _
  | cons x l ih=>exact fun E=>(ih _).trans ((List.Perm.append_left l (qfZ x E)).trans List.perm_middle)
 have:=F l []
 rwa [qbj] at this
theorem qhh (l:List α):(isort lt l).length=l.length:=(qdF l).length_eq
theorem qia (x:α):∀(A B:List α),(∀a∈A,¬lt x a)->(∀b∈B,lt x b)->insR lt x (A++B)=A++x :: B
 | [],[],_,_=>rfl
 | [],b :: B,_,hB=>by show insR lt x (b :: B)=_;unfold insR;rw [if_pos (hB b (qba ..))];rfl
 | a :: A,B,E,hB=>by
  show insR lt x (a :: (A++B))=_
  unfold insR;rw [if_neg (E a (qba ..)),qia x A B (fun c F=>E c (qbn _ F)) hB];rfl
theorem qlm (I:∀a b c,lt a b->¬lt c b->lt a c) (F:∀a b,lt a b->¬lt b a) (x:α):∀{l:List α},Ord lt l->Ord lt (insR lt x l)
 | [],_=>List.pairwise_singleton _ _
 | y :: ys,h=>by
  obtain⟨J,O⟩:=qbF.1 h;unfold insR;split
  ·rename_i E;refine qbF.2 ⟨fun b H=>?_,h⟩;rcases qat.1 H with rfl | H
   ·exact F _ _ E
   ·exact F _ _ (I x y b E (J b H))
  ·rename_i E;refine qbF.2 ⟨fun b H=>?_,qlm I F x O⟩;rcases qat.1 ((qfZ x ys).mem_iff.1 H) with rfl | H
   ·exact E
   ·exact J b H
theorem qhi (H:∀a b c,lt a b->¬lt c b->lt a c) (F:∀a b,lt a b->¬lt b a) (l:List α):Ord lt (isort lt l):=by
 have I:∀(l E:List α),Ord lt E->Ord lt (l.foldl (fun E x=>insR lt x E) E):=by
  intro l
  induction l with
  | nil=>exact fun E h=>h
  | cons x l ih=>exact fun E h=>ih _ (qlm H F x h)
 exact I l [] List.Pairwise.nil
end
def Stab (E:Nat->Rat) (l:List Nat):Prop:=l.Pairwise fun a b=>E a<E b\/(E a=E b/\a<b)
theorem qjl (E:Nat->Rat) (x:Nat):∀{l:List Nat},(∀a∈l,a<x)->Stab E l->Stab E (insR (fun a b=>E a<E b) x l)
 | [],_,_=>List.pairwise_singleton _ _
 | y :: ys,hx,h=>by
  obtain⟨I,J⟩:=qbF.1 h;unfold insR;split
  ·rename_i H;refine qbF.2 ⟨fun b F=>?_,h⟩;rcases qat.1 F with rfl | F
   ·exact .inl H
   ·rcases I b F with e | ⟨e,_⟩
    ·exact .inl (by grind)
    ·exact .inl (by grind)
  ·rename_i H;refine qbF.2 ⟨fun b F=>?_,qjl E x (fun a O=>hx a (qbn _ O)) J⟩;rcases qat.1 ((qfZ x ys).mem_iff.1 F) with rfl | F
   ·have:=hx y (qba ..)
    by_cases e:E y=E b
    ·exact .inr ⟨e,this⟩
    ·exact .inl (by grind)
   ·exact I b F
theorem qfa (E:Nat->Rat):∀n,Stab E (isort (fun a b=>E a<E b) (List.range n))
 | 0=>List.Pairwise.nil
 | n+1=>by
  rw [List.range_succ,qe9];refine qjl E n (fun a F=>?_) (qfa E n);exact qaq.1 ((qdF _).mem_iff.1 F)
section
variable {lt:Nat->Nat->Prop} [DecidableRel lt]
def InsSt (lt:Nat->Nat->Prop) [DecidableRel lt] (l d:List Nat) (i:Nat):Prop:=d=isort lt (l.take i)++l.drop i
def InsIn (lt:Nat->Nat->Prop) [DecidableRel lt] (l d:List Nat) (i j x:Nat):Prop:=∃A B:List Nat,d=A++x :: (B++l.drop (i+1))/\A.length=j/\A++B=isort lt (l.take i)/\(∀b∈B,lt x b)/\l[i]? = some x
theorem InsSt.start:∀l:List Nat,InsSt lt l l 1
 | []=>rfl
 | _ :: _=>rfl
theorem InsSt.done {l d:List Nat} {i:Nat} (h:InsSt lt l d i) (E:l.length<=i):d=isort lt l:=by
 rw [h,qah E,List.drop_eq_nil_of_le E,qbj]
theorem InsSt.inn {l d:List Nat} {i:Nat} (h:InsSt lt l d i) (E:i<l.length):∃x,InsIn lt l d i i x:=by
 refine⟨l[i],isort lt (l.take i),[],?_,by rw [qhh,qao];omega,qbj _,fun b F=>absurd F (by simp),qac E⟩;rw [h,qbp,<-qbg E]
theorem InsIn.cur {l d:List Nat} {i j x:Nat} (h:InsIn lt l d i j x):d[j]? = some x/\j<d.length/\x∈l:=by
 obtain⟨A,B,rfl,rfl,_,_,hx⟩:=h;exact⟨by rw [qau qN,qaJ];rfl,by rw [qaf,qbH];omega,qbC hx⟩
theorem InsIn.stop {l d:List Nat} {i j x:Nat} (h:InsIn lt l d i j x) (F:∀a∈d.take j,¬lt x a):InsSt lt l d (i+1):=by
 obtain⟨A,B,rfl,rfl,E,hB,hx⟩:=h;rw [qb2] at F;have H:=(qbI.1 hx).1;unfold InsSt;rw [qbw,hx]
 show _=isort lt (l.take i++[x])++_
 rw [qe9,<-E,qia x A B F hB,qaG];rfl
theorem InsIn.zero {l d:List Nat} {i x:Nat} (h:InsIn lt l d i 0 x):InsSt lt l d (i+1):=h.stop fun a E=>absurd E (by simp)
theorem InsIn.prev {l d:List Nat} {i j x:Nat} (J:∀a b c,lt a b->¬lt c b->lt a c) (O:∀a b,lt a b->¬lt b a) (h:InsIn lt l d i (j+1) x) :
  ∃y,d[j]? = some y/\y∈l/\(lt x y->InsIn lt l ((d.set (j+1) y).set j x) i j x)/\(¬lt x y->InsSt lt l d (i+1)):=by
 have Y:=h;obtain⟨A,B,rfl,E,H,hB,hx⟩:=h;have hne:A≠[]:=fun e=>by rw [e] at E;cases E
 obtain⟨F,y,rfl⟩:∃F y,A=F++[y]:=⟨_,_,(List.dropLast_concat_getLast hne).symm⟩;have Z:F.length=j:=by rw [qaf] at E;exact Nat.succ.inj E
 subst Z;refine⟨y,?_,?_,fun I=>?_,fun I=>Y.stop fun a V=>?_⟩
 ·rw [qaG,qau qN,qaJ];rfl
 ·have:y∈isort lt (l.take i):=by rw [<-H];simp
  exact qbd ((qdF _).mem_iff.1 this)
 ·refine⟨F,y :: B,?_,rfl,by rw [<-H];simp,fun b U=>?_,hx⟩
  ·rw [qaG,qbi _ _ (by omega),qbi _ _ (by omega),show F.length+1-F.length=1 by omega,qaJ];rfl
  ·rcases qat.1 U with rfl | U
   ·exact I
   ·exact hB b U
 ·rw [<-E,qb2] at V;have ho:Ord lt (F++[y]):=by
   have:=qhi J O (l.take i);rw [<-H] at this;exact (List.pairwise_append.1 this).1
  exact ord_last J ho I a V
end
theorem qh9 {lt E:Nat->Nat->Prop} [DecidableRel lt] [DecidableRel E] (x:Nat):∀{l:List Nat},(∀y∈l,lt x y↔E x y)->insR lt x l=insR E x l
 | [],_=>rfl
 | y :: ys,h=>by
  unfold insR;rw [qh9 x (l:=ys) fun z H=>h z (qbn _ H)]
  by_cases e:lt x y
  ·rw [if_pos e,if_pos ((h y (qba ..)).1 e)]
  ·rw [if_neg e,if_neg fun F=>e ((h y (qba ..)).2 F)]
theorem qhg {lt E:Nat->Nat->Prop} [DecidableRel lt] [DecidableRel E] {l:List Nat} (h:∀a∈l,∀b∈l,lt a b↔E a b):isort lt l=isort E l:=by
 have F:∀i,i<=l.length->isort lt (l.take i)=isort E (l.take i):=by
  intro i
  induction i with
  | zero=>intro _;rfl
  | succ i ih =>
   intro H;rw [qbw,qac (show i<l.length by omega)]
   show isort lt (l.take i++[l[i]])=isort E (l.take i++[l[i]])
   rw [qe9,qe9,ih (by omega)];refine qh9 _ fun y hy=>h _ (qbz _) _ (qbd ((qdF _).mem_iff.1 hy))
 have:=F l.length qN
 rwa [qbl] at this
open Go.RowKit Go.Proofs.Tryz
theorem qc7 {a b c:World} {g:Nat} (h:Below a.heap.size a b) (E:b.grownBy c (some g)) (hg:a.heap.size<=g):Below a.heap.size a c :=
 h.trans ⟨E.os,E.tape,E.output,E.size,fun i F=>E.block i (qai F h.size) fun e=>by have:=qag e;omega⟩
def natI (d:List Nat):List Int:=d.map fun k:Nat=>(k:Int)
theorem qcB (d:List Nat):(natI d).length=d.length:=qaD ..
theorem qiO {d:List Nat} {j x:Nat} (h:d[j]? = some x):(natI d).getD j 0=(x:Int):=by
 unfold natI;rw [qaa,qaP,h];rfl
theorem natI_set (d:List Nat) (j x:Nat):(natI d).set j (x:Int)=natI (d.set j x):=by unfold natI;rw [List.map_set]
structure NatR (W:World) (B g n c:Nat) (d:List Nat):Prop where
 len:d.length=n
 own:IOwn W B (.slice (some ⟨g,0,none⟩) n c) (natI d)
theorem NatR.below {W W':World} {B g n c:Nat} {d:List Nat} (h:NatR W B g n c d) (E:Below W.heap.size W W'):NatR W' B g n c d:=⟨h.len,own_below h.own E⟩
instance stays_natr {B g n c:Nat} {d:List Nat}:Stays fun W=>NatR W B g n c d:=⟨fun h E=>h.below E⟩
theorem NatR.at {W:World} {B g n c:Nat} {d:List Nat} (h:NatR W B g n c d) {j x:Nat} (H:d[j]? = some x):W.cell? ⟨g,j,none⟩=some (.int .i64 (x:Int))/\W.frozen? ⟨g,j,none⟩=false:=by
 have E:=(qbI.1 H).1;obtain⟨g',e,_,⟨F,I⟩,_⟩:=IOwn.set h.own (i:=j) (by rw [qcB];exact E) 0;obtain rfl:g=g':=by injection e with e;injection e
 rw [qiO H] at F;exact⟨F,I⟩
theorem NatR.set {W:World} {B g n c:Nat} {d:List Nat} (h:NatR W B g n c d) {j:Nat} (F:j<n) (x:Nat):NatR (W.setCell ⟨g,j,none⟩ (.int .i64 (x:Int))) B g n c (d.set j x):=by
 obtain⟨g',e,_,_,E⟩:=IOwn.set h.own (i:=j) (by rw [qcB,h.len];exact F) (x:Int);obtain rfl:g=g':=by injection e with e;injection e
 rw [natI_set] at E;exact⟨by rw [qa8];exact h.len,E⟩
def CmpOk (F:Nat) (E:Array Value) (g:Nat) (l:List Nat) (H:Nat->Nat->Int) (w:World):Prop :=
 ∀W,w.grownBy W (some g)->∀x∈l,∀y∈l,Calls prog F (#[.int .i64 (x:Int),.int .i64 (y:Int)]++E) W fun e w'=>e=.returned (.int .i64 (H x y))/\Below W.heap.size W w'
theorem qmc (lt:Nat->Nat->Prop) [DecidableRel lt] (aG:∀a b c,lt a b->¬lt c b->lt a c) (aA:∀a b,lt a b->¬lt b a) (cf:Nat->Nat->Int) (F:Nat) (cb:Array Value) (B g n c:Nat) (l:List Nat) (w:World) (aB:∀x∈l,∀y∈l,cf x y<0↔lt x y) (hn:n<=1000) (O:NatR w B g n c l)
  (Y:∀a b W,(callFunc F (#[a,b]++cb)).run prog W=.ok (.enter F (#[a,b]++cb)) W) (hC:CmpOk F cb g l cf w) :
  Calls prog 203 #[.slice (some ⟨g,0,none⟩) n c,.int .i64 0,.int .i64 (n:Int),.func (.func F) #[] cb] w fun e w'=>e=.returned (.tuple #[])/\w.grownBy w' (some g)/\NatR w' B g n c (isort lt l):=by
 have HC:=qH (qA hC (qA aB (qA aG aA)));have H0:Hu (∃d,InsSt lt l d 1/\NatR w B g n c d/\w.grownBy w (some g)):=qH ⟨l,InsSt.start l,O,qcw _ _⟩;have HL:=qH O.len;clear hC aB aG aA O;go_enter func203,ntmps203;go_wp2_with fail
 go_loopw [8] (fun x8 W=>∃i:Nat,x8=.int .i64 (i:Int)/\1<=i/\i<=n+1/\Hu (∃d,InsSt lt l d i/\NatR W B g n c d/\w.grownBy W (some g))) (fun x8 _=>n+1-(intOf x8).toNat)
 case atStart=>exact⟨1,rfl,qad _,by omega,H0⟩
 case round =>
  obtain⟨i,rfl,aI,aJ,hS⟩:=hrel
  by_cases hi:i<n
  case neg =>
   have aH:¬(i:Int)<(n:Int):=by omega
   have HE:Hu (w.grownBy wr (some g)/\NatR wr B g n c (isort lt l)):=qH (by
    obtain⟨d,h1,h2,h3⟩:=hS.o;rw [<-h1.done (by rw [HL.o];omega)];exact⟨h3,h2⟩)
   go_wp2_with fail
   go_end0
   exact⟨rfl,HE.o⟩
  have aH:(i:Int)<(n:Int):=by omega
  have HI:Hu (∃d x,InsIn lt l d i i x/\NatR wr B g n c d/\w.grownBy wr (some g)):=qH (by
   obtain⟨d,h1,h2,h3⟩:=hS.o;obtain⟨x,hx⟩:=h1.inn (by rw [HL.o];exact hi);exact⟨d,x,hx,h2,h3⟩)
  clear hS;go_wp2_with fail
  go_loopw [9] (fun x9 W=>∃j:Nat,x9=.int .i64 (j:Int)/\j<=i/\Hu (∃d x,InsIn lt l d i j x/\NatR W B g n c d/\w.grownBy W (some g))) (fun x9 _=>(intOf x9).toNat)
  case atStart=>exact⟨i,rfl,qad _,HI⟩
  case round =>
   obtain⟨j,rfl,hj,hI⟩:=hrel;obtain⟨d,x,hd,O,hG⟩:=hI.o;rcases j with _ | E
   ·have HE:=qH (qA hd.zero (qA (O.below qB.drew) (qb5 hG (keepB qB.drew))));clear hI hd O hG;go_wp2_with fail;refine wp_region_held_drew (S:=fun _=>True) (by kernel_rfl) trivial (fun hS0=>?_);refine hT 0 (h:=hT 1 (h:=hT 2 (h:=hT 3 (h:=hU 4 (h:=hU 5 (h:=hU 6 (h:=hU 7 (h:=hU 8 (h:=hU 9 (h:=hU 10 (h:=hU 11 (h:=hU 12 (h:=hU 13 (h:=hU 14 (h:=hU 15 (h:=hT 16 (h:=?_)))))))))))))))));refine wpAnyH_done (by kernel_rfl) ?_ _;go_wp2;go_roundw
    case rel=>exact⟨i+1,by go_num,by omega,by omega,qH ⟨d,HE.o⟩⟩
    case measure=>simp [intOf] <;> omega
   ·obtain⟨y,hy,aj,aF,Z⟩:=hd.prev HC.o.2.2.1 HC.o.2.2.2;obtain⟨hx,aD,ai⟩:=hd.cur;rw [O.len] at aD;obtain⟨cx,fx⟩:=O.at hx;obtain⟨cy,fy⟩:=O.at hy;have aC:=qae wr _ cx;have bx:∀W,Below wr.heap.size wr W->W.cell? ⟨g,E+1,none⟩=some (.int .i64 (x:Int)):=fun W J=>(J.cell (p:=⟨g,E+1,none⟩) aC).trans cx
    have bY:∀W,Below wr.heap.size wr W->W.cell? ⟨g,E,none⟩=some (.int .i64 (y:Int)):=fun W J=>(J.cell (p:=⟨g,E,none⟩) aC).trans cy
    have HK:=qH (HC.o.1 wr.drew (qb5 hG (keepB qB.drew)) x ai y aj);have I:=qH (qA aF (qA Z (qA O (qA hG (qA aD (qA (HC.o.2.1 x ai y aj) (qA hx hy)))))));have aK:IntKind.i64.wrap (E:Int)=(E:Int):=by rw [IntKind.wrap_i64];omega
    have jz:(E:Int)+1<(n:Int):=by omega
    have aL:(E:Int)<(n:Int):=by omega
    have p0:(0:Int)<=(E:Int)+1:=by omega
    have e0:((E:Int)+1).toNat=E+1:=by omega
    have aa:(0:Int)<(E:Int)+1:=by omega
    clear hI hd O hG cx fx cy fy aF Z hy hx aj ai;go_wp2_with fail;refine wp_region_held_drew (S:=fun W=>Below wr.heap.size wr W) (by kernel_rfl) qB.drew (fun hS0=>?_);refine hT 0 (h:=hT 1 (h:=hT 2 (h:=hT 3 (h:=hT 4 (h:=hT 5 (h:=hT 6 (h:=hT 7 (h:=hT 8 (h:=hT 9 (h:=hT 10 (h:=hT 11 (h:=hT 12 (h:=hT 13 (h:=?_))))))))))))));refine hC 14 HK.o (h:=?_);rintro e w2 ⟨rfl,ah⟩;have H:=qcm ah;refine⟨_,rfl,H,hN (h:=?_)⟩;have HR:=qH (qA (I.o.2.2.1.below H) (qb5 I.o.2.2.2.1 (keepB H)))
    by_cases V:cf x y<0
    ·refine hT 15 (hS:=H) (h:=hT 16 (hS:=H) (h:=?_));refine wpAnyH_done (by kernel_rfl) ?_ _;have ae:Hu (InsIn lt l ((d.set (E+1) y).set E x) i E x):=qH (I.o.1 (I.o.2.2.2.2.2.1.1 V));clear H ah hS0 bx bY V HK aa;go_wp2_with fail;refine wp_region_held_drew (S:=fun _=>True) (by kernel_rfl) trivial (fun hS0=>?_);refine hT 0 (h:=hT 1 (h:=hT 2 (h:=hT 3 (h:=hT 4 (h:=hT 5 (h:=hT 6 (h:=hT 7 (h:=hT 8 (h:=hT 10 (h:=hT 11 (h:=hT 12 (h:=?_))))))))))));refine Go.Proofs.YtjalhnlhcdfncaaGreatDoor.gr [(9,46),(13,50),(14,51)] [] [0,1,2,3,4,5,6,7,8,10,11,12] [9,13,14] [] 15 18 (fl2 [(9,fun z _=>z=.int .i64 (y:Int)),(13,fun z _=>z=.int .i64 (x:Int)),(14,fun z _=>z=.pointer (some ⟨g,E+1,none⟩))]) _ 3
      (hS:=fun _ _=>trivial) (hstep:=⟨⟨_,rfl,fun v w3 J Y K hK=>?_⟩,⟨_,rfl,fun v w3 J Y K hK=>?_⟩,⟨_,rfl,fun v w3 J Y K hK=>?_⟩,trivial⟩) (hend:=fun v w3 J Y _ fu=>?_)
     ·have h0:=((HR.o.1.below (qcm J)).at I.o.2.2.2.2.2.2.2).1;exact gV hK rfl
     ·have h0:=((HR.o.1.below (qcm J)).at I.o.2.2.2.2.2.2.1).1;exact gV hK rfl
     ·exact gV hK rfl
     have e9:v 9=_:=Y 9 (by decide) (by decide);have ak:v 13=_:=Y 13 (by decide) (by decide);have au:v 14=_:=Y 14 (by decide) (by decide);rw [e9,ak,au];have ag:=HR.o.1.below (qcm J);have av:=qb5 HR.o.2 (keepB (qcm J));obtain⟨h0,h1⟩:=ag.at I.o.2.2.2.2.2.2.1;have U:=ag.set I.o.2.2.2.2.1 y;have af:=qb5 av (qb7 w3 g (E+1) (.int .i64 (y:Int)));refine hSg 15 (h:=⟨trivial,?_⟩);obtain⟨W5,az⟩:=qY (w3.setCell ⟨g,E+1,none⟩ (.int .i64 (y:Int)));rw [<-az] at U af ⊢;have hne:(d.set (E+1) y)[E]? = some y:=by rw [qbQ (by omega)];exact I.o.2.2.2.2.2.2.2
     obtain⟨h2,h3⟩:=U.at hne;have ay:=U.set (j:=E) (by have:=I.o.2.2.2.2.1;omega) x;have ax:=qb5 af (qb7 W5 g E (.int .i64 (x:Int)));have HE:=qH (qA ay ax);clear az h0 h1 ag av U af ay ax hne e9 ak au J Y;refine hT 16 (hS:=trivial) (h:=?_);refine hSg 17 (h:=⟨trivial,?_⟩);refine wpAnyH_done (by kernel_rfl) ?_ _;clear h2 h3 hS0;go_wp2;go_roundw
     case rel=>exact⟨E,by go_num,by omega,qH ⟨_,x,ae.o,HE.o.1,HE.o.2⟩⟩
     case measure=>simp [intOf] <;> omega
    ·refine hT 15 (hS:=H) (h:=hT 16 (hS:=H) (h:=?_));refine wpAnyH_done (by kernel_rfl) ?_ _;have ae:Hu (InsSt lt l d (i+1)):=qH (I.o.2.1 fun h=>V (I.o.2.2.2.2.2.1.2 h));clear H ah hS0 bx bY V HK aa;go_wp2;go_roundw
     case rel=>exact⟨i+1,by go_num,by omega,by omega,qH ⟨d,ae.o,HR.o.1,HR.o.2⟩⟩
     case measure=>simp [intOf] <;> omega
theorem qmS (lt:Nat->Nat->Prop) [DecidableRel lt] (O:∀a b c,lt a b->¬lt c b->lt a c) (I:∀a b,lt a b->¬lt b a) (U:Nat->Nat->Int) (F:Nat) (E:Array Value) (B g n c:Nat) (l:List Nat) (w:World) (J:∀x∈l,∀y∈l,U x y<0↔lt x y) (hn:n<20) (hO:NatR w B g n c l)
  (hF:∀a b W,(callFunc F (#[a,b]++E)).run prog W=.ok (.enter F (#[a,b]++E)) W) (hC:CmpOk F E g l U w) :
  Calls prog 136 #[.slice (some ⟨g,0,none⟩) n c,.int .i64 (n:Int),.func (.func F) #[] E] w fun e w'=>e=.returned (.tuple #[])/\w.grownBy w' (some g)/\NatR w' B g n c (isort lt l):=by
 have V:=qH (qmc lt O I U F E B g n c l w J (by omega) hO hF hC);have ae:¬(20:Int)<=(n:Int):=by omega
 have aa:¬(20:Int)<(n:Int):=by omega
 clear J hO hF hC O I;go_enter func136,ntmps136;go_wp2_with fail
 go_loopw [7,8] (fun x7 x8 W=>x7=.int .i64 0/\x8=.int .i64 20/\Hu (W=w)) (fun _ _ _=>0)
 case atStart=>exact⟨rfl,rfl,qH rfl⟩
 case round =>
  obtain⟨rfl,rfl,H⟩:=hrel;have e:=H.o;subst e;go_wp2_with fail;refine V.o.mono ?_;rintro e w2 ⟨rfl,Y,Z⟩;have HE:=qH (qA Y Z);clear Y Z V H;go_wp2_with fail
  go_loopw [6] (fun x6 W=>x6=.int .i64 20/\Hu (W=w2)) (fun _ _=>0)
  case atStart=>exact⟨rfl,qH rfl⟩
  case round =>
   obtain⟨rfl,H⟩:=hrel;have e:=H.o;subst e;clear H;go_wp2_with fail
   go_end0
   exact⟨rfl,HE.o⟩
theorem qkW (lt:Nat->Nat->Prop) [DecidableRel lt] (J:∀a b c,lt a b->¬lt c b->lt a c) (H:∀a b,lt a b->¬lt b a) (O:Nat->Nat->Int) (F:Nat) (E:Array Value) (B g n c:Nat) (l:List Nat) (w:World) (I:∀x∈l,∀y∈l,O x y<0↔lt x y) (hn:n<20) (hO:NatR w B g n c l)
  (Z:∀a b W,(callFunc F (#[a,b]++E)).run prog W=.ok (.enter F (#[a,b]++E)) W) (hC:CmpOk F E g l O w) :
  Calls prog 81 #[.slice (some ⟨g,0,none⟩) n c,.func (.func F) #[] E] w fun e w'=>e=.returned (.tuple #[])/\w.grownBy w' (some g)/\NatR w' B g n c (isort lt l):=by
 have U:=qH (qmS lt J H O F E B g n c l w I hn hO Z hC);clear I hO Z hC J H;go_enter func81,ntmps81;go_wp2_with fail;refine U.o.mono ?_;rintro e w2 ⟨rfl,V,Y⟩;have HE:=qH (qA V Y);clear V Y U;go_wp2_with fail
 go_end0
 exact⟨rfl,HE.o⟩
theorem qis (lt:Nat->Nat->Prop) [DecidableRel lt] (ax:∀a b c,lt a b->¬lt c b->lt a c) (aj:∀a b,lt a b->¬lt b a) (cf:Nat->Nat->Int) (F:Nat) (cb:Array Value) (ao:Option Addr) (b off n c:Nat) (l:List Nat) (w:World) (ak:∀x∈l,∀y∈l,cf x y<0↔lt x y) (hn:n<20) (hl:l.length=n) (hN:NCells w ao b off (natI l))
  (hF:∀a b W,(callFunc F (#[a,b]++cb)).run prog W=.ok (.enter F (#[a,b]++cb)) W)
  (hC:∀W,Below w.heap.size w W->∀x∈l,∀y∈l,Calls prog F (#[.int .i64 (x:Int),.int .i64 (y:Int)]++cb) W fun e w'=>e=.returned (.int .i64 (cf x y))/\Below W.heap.size W w') :
  Calls prog 38 #[.slice ao n c,.func (.func F) #[] cb] w fun e w'=>∃g,e=.returned (.slice (some ⟨g,0,none⟩) n n)/\NatR w' w.heap.size g n n (isort lt l)/\Below w.heap.size w w':=by
 have az:=fun W=>qiH n (by omega) W
 obtain⟨W1,ah,N1⟩:=nw1 w (madeCells #[.int .i64 0] n) 3;obtain⟨Z,hZ⟩:=qY ((madeCells #[.int .i64 0] n).toList);obtain⟨C,H⟩:=qY ((natI l).map fun z=>Value.int .i64 z);have ai:Z.length=n:=by
  rw [hZ,toList_madeCells_one,qaZ]
 have Y:C.length=n:=by rw [H,qaD,qcB,hl]
 have au:W1.heap[w.heap.size]? = some (.cells Z.toArray 3 (0,0)):=by rw [hZ,Array.toArray_toList];exact N1.o.2
 have U:0<C.length->some (⟨w.heap.size,0,none⟩:Addr)=some ⟨w.heap.size,0,none⟩/\∃ad,ao=some ad/\∀j v,C[j]? = some v->W1.cell? (ad.add j)=some v:=fun h0=>by
  have ha:=hN.addr (by rw [qcB];omega);refine⟨rfl,⟨b,off,none⟩,ha,fun j v hj=>?_⟩;rw [H,qaP] at hj;have ae:j<(natI l).length:=by
   rcases qaB j (natI l).length with h | h
   ·exact h
   ·rw [qaR h] at hj;cases hj
  rw [qac ae] at hj;have hc:=(hN.below N1.o.1).cell j ae;rw [Addr.add_mid,hc,qaa,qac ae];exact hj
 have O:∀v∈C,v.oneCell'=true:=fun v hv=>by rw [H] at hv;exact qiD _ v hv
 have J:C.length=Nat.min n n:=by rw [Y];exact (Nat.min_self n).symm
 have I:0+C.length<=Z.length:=by omega
 have V:=qH (qA U (qA O (qA J (qA I (qA au N1.o.1)))));have HS:=qH (fun (W:World) (hb:Below w.heap.size w W) (hO:NatR W w.heap.size w.heap.size n n l)=>qkW lt ax aj cf F cb w.heap.size w.heap.size n n l W ak hn hO hF (fun W' hk=>hC W' (qc7 hb hk qN)));have E:=qH (qA H (qA ai (qA Y hl)));clear ak ax aj hN hF hC U O J I au N1 H ai Y hl hZ;go_enter func38,ntmps38;go_upto_region 2 with fail;rw [<-ah];clear ah az
 go_wp2_with (first | (refine wpList_copy_splice rfl (.tmp 9) (.tmp 10) 30 30 rfl 3 underlying30 (by kernel_rfl) (some ⟨w.heap.size,0,none⟩) ao n n n c rfl rfl w.heap.size 0 Z 3 V.o.2.2.2.2.1 C V.o.2.2.1 V.o.1 V.o.2.2.2.1 V.o.2.1 w.heap.size w V.o.2.2.2.2.2 qN ?_) | fail)
 intro w3 av aa;have ag:NatR w3 w.heap.size w.heap.size n n l:=⟨E.o.2.2.2,by
  have h:=Hu.o av;have e:splice Z 0 C=C:=by
   unfold splice;rw [List.take_zero,qbp,qaT,List.drop_eq_nil_of_le (by rw [E.o.2.1,E.o.2.2.1];exact qad _),qbj]
  rw [e] at h;have:=qfB (B:=w.heap.size) (n:=n) h qN (by show C.length=n;exact E.o.2.2.1) (by unfold maxLen;omega);unfold IOwn;rw [qcB,E.o.2.2.2];have e2:C.toArray.toList=(natI l).map fun z=>Value.int .i64 z:=E.o.1
  rw [e2] at this;exact this⟩
 have af:=qH (HS.o w3 aa ag);have ay:=qH aa;clear ag av aa HS V;go_wp2_with fail;refine af.o.mono ?_;rintro e w4 ⟨rfl,h1,h2⟩;have HE:=qH (qA h2 (qc7 ay.o h1 qN));clear h1 h2 af;go_wp2;go_ret;exact⟨_,rfl,HE.o.1,HE.o.2⟩
