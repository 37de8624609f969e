import Derived.Laws.BitsLemmas
import Derived.Laws.Externs
import Derived.Laws.IdiomCopy
import Derived.Lib.AppendIntMem
import Derived.Lib.AppendStr
import Derived.Lib.Builder
import Derived.Lib.MakeNoZero
import Derived.Lib.Slices
import Derived.Lib.Strings
import Derived.Lib.UnsafeStr
import Derived.Lib.Walk
import Derived.Shelf.Abstract
import Derived.Test.YtplkdeknjghobaaGreatDoorBb2
import Derived.Test.YtplkdeknjghobaaGreatDoorBb3
import Derived.Test.YtplkdeknjghobaaGreatDoorBb4
set_option maxRecDepth 100000
set_option maxHeartbeats 0
namespace Go.Proofs.YtplkdeknjghobaaGreatDoor
open Go.RowKit Go.Shelf Go.Proofs.Tryz
theorem qmC:(Tryz.prog.info? 304).map (·.size)=some 2:=by kernel_rfl
theorem qmD:(Tryz.prog.info? 5).map (fun i=>(i.zero,i.size,i.bytes))=some (some (.int .u8 0),1,1):=by kernel_rfl
theorem lies_sb:liesAt prog Tryz.prog.depth 304 (2 / Tryz.prog.cellsOf 304) 0 304 1=true:=by kernel_rfl
theorem qhk (b:Nat) (w:World) (I:w.cell? ⟨b,0,none⟩=some (.pointer (some ⟨b,0,none⟩))) :
  Calls prog 267 #[.pointer (some ⟨b,0,none⟩)] w fun e H=>e=.returned (.tuple #[])/\H=w:=by
 obtain⟨j,F,_⟩:=Option.map_eq_some_iff.1 qmC;go_enter func267,ntmps267;go_wp2;rw [Lib.run_neq_ptr_same w _ underlying301 F];go_wp2
 go_end0
 exact⟨rfl,rfl⟩
theorem qgu (b:Nat) (w:World) (U:w.cell? ⟨b,0,none⟩=some (.pointer none)) (F:w.shape? b=some (304,2)) (J:w.frozen? ⟨b,0,none⟩=false) :
  Calls prog 267 #[.pointer (some ⟨b,0,none⟩)] w fun e O=>e=.returned (.tuple #[])/\O=w.setCell ⟨b,0,none⟩ (.pointer (some ⟨b,0,none⟩)):=by
 obtain⟨j,I,H⟩:=Option.map_eq_some_iff.1 qmC;go_enter func267,ntmps267;go_wp2;rw [Lib.run_to_unsafe w ⟨b,0,none⟩ underlying301 underlying358 I (by rw [H];decide) F (Nat.zero_lt_succ 1)];simp only [Result.andThen];rw [Oper.upon_value];go_wp2;rw [run_callFunc_extern func289 (by kernel_rfl) (by kernel_rfl) (by kernel_rfl) (e:=Extern.AbiNoEscape.same) (by kernel_rfl)];rw [Lib.run_noEscape];simp only [Result.andThen];rw [Oper.upon_value];go_wp2;rw [Lib.run_from_unsafe w ⟨b,0,none⟩ underlying358 underlying301 I F lies_sb];simp only [Result.andThen];rw [Oper.upon_value];go_wp2
 go_end0
 exact⟨rfl,rfl⟩
abbrev Bd (B b:Nat) (p:Value) (F:List Value) (w:World):Prop:=Lib.BuilderAt 304 5 B b p F w
abbrev IsBd (B b:Nat) (F:List Value) (w:World):Prop:=Lib.IsBuilder 304 5 B b F w
theorem qfg (B b:Nat) (H:List Value) (w:World) (h:IsBd B b H w) :
  Calls prog 267 #[.pointer (some ⟨b,0,none⟩)] w fun e F=>e=.returned (.tuple #[])/\(Bd B b (.pointer (some ⟨b,0,none⟩)) H F/\Below B w F):=by
 rcases h with h | h
 ·refine (qgu b w h.cell0 h.shape h.frozen0).mono ?_;rintro e F ⟨rfl,rfl⟩;exact⟨rfl,h.used _,(Below.refl B w).setCell (p:=⟨b,0,none⟩) h.1 _⟩
 ·refine (qhk b w h.cell0).mono ?_;rintro e F ⟨rfl,rfl⟩;exact⟨rfl,h,Below.refl B _⟩
theorem qih (B b:Nat) (V:List Value) (c:Int) (w:World) (h:IsBd B b V w) (ah:V.length+1<=140737488355328) (ai:B<=w.heap.size) :
  Calls prog 221 #[.pointer (some ⟨b,0,none⟩),.int .u8 c] w fun e w'=>e=.returned .nilIface/\(Bd B b (.pointer (some ⟨b,0,none⟩)) (V++[.int .u8 c]) w'/\Below B w w'):=by
 obtain⟨i0,hi,ae,af,ag⟩:=info_parts qmD;go_enter func221,ntmps221
 go_wp2_with (go_at_call 267;refine (qfg B b V _ h).mono ?_)
 rintro e Y ⟨rfl,h1,I⟩;obtain⟨hB,v,O,U,hne⟩:=h1;have c0:Y.cell? ⟨b,0,none⟩=some (.pointer (some ⟨b,0,none⟩)):=by rw [Lib.cell_of_heap O];rfl
 have c1:Y.cell? ⟨b,1,none⟩=some v:=by rw [Lib.cell_of_heap O];rfl
 go_wp2_with (at_builtin;refine wpList_append_own _ rfl _ _ 302 rfl B 5 i0 (.int .u8 0) 1 1 underlying302 hi ae af ag rfl (by decide) _ _ _ rfl (U.alloc _) ⟨Y.heap.size,0,none⟩ 1 1 [.int .u8 c] rfl rfl ?c1 ?c2 ?c3 ?c4 ?c5 ?_)
 case c1 =>
  intro j u Z
  match j,Z with
  | 0,Z=>simp at Z;subst Z;simp [Addr.add]
 case c2=>intro u hu;simp at hu;subst hu;rfl
 case c3=>unfold maxLen;omega
 case c4=>omega
 case c5=>have:=I.size;simp;omega
 intro v' w2 H F _;have aa:b<Y.heap.size:=by
  rcases qaQ b Y.heap.size with h' | h'
  ·exact h'
  ·simp [Array.getElem?_eq_none h'] at O
 have J:w2.heap[b]? = some (.cells #[.pointer (some ⟨b,0,none⟩),v] 304 (0,0)):=by
  rw [F.block b (by simp;omega) (fun e=>hne e.symm),Lib.alloc_old Y _ b aa];exact O
 have d0:w2.cell? ⟨b,0,none⟩=some (.pointer (some ⟨b,0,none⟩)):=by rw [Lib.cell_of_heap J];rfl
 have d1:w2.cell? ⟨b,1,none⟩=some v:=by rw [Lib.cell_of_heap J];rfl
 have f1:w2.frozen? ⟨b,1,none⟩=false:=Lib.frozen_of_heap J 1;obtain⟨g,cap,rfl⟩:∃g cap,v'=.slice (some ⟨g,0,none⟩) (V.length+1) cap:=by
  rcases H.2 with ⟨_,h0⟩ | ⟨g,cap,cur,hv,_⟩
  ·omega
  ·exact⟨g,cap,hv⟩
 go_wp2;go_ret;refine⟨rfl,?_,?_⟩
 ·exact Lib.BuilderAt.put (T:=304) (e:=5) hB J (bs':=V++[.int .u8 c]) (by simpa using H) (by decide)
 ·exact ((I.alloc (by have:=I.size;omega) _).grown F (by have:=I.size;simp;omega) (fun k hk=>(U.lt k hk).1)).setCell (p:=⟨b,1,none⟩) hB _
theorem qhi (B b:Nat) (V:List Value) (s:ByteArray) (w:World) (h:IsBd B b V w) (ah:V.length+s.size<=140737488355328) (ai:B<=w.heap.size) :
  Calls prog 222 #[.pointer (some ⟨b,0,none⟩),.string s] w fun e w'=>e=.returned (.tuple #[.int .i64 s.size,.nilIface])/\(Bd B b (.pointer (some ⟨b,0,none⟩)) (V++Lib.strCells s) w'/\Below B w w'):=by
 obtain⟨i0,hi,ae,af,ag⟩:=info_parts qmD;go_enter func222,ntmps222
 go_wp2_with (go_at_call 267;refine (qfg B b V _ h).mono ?_)
 rintro e Y ⟨rfl,h1,U⟩;obtain⟨hB,v,J,O,hne⟩:=h1;have c0:Y.cell? ⟨b,0,none⟩=some (.pointer (some ⟨b,0,none⟩)):=by rw [Lib.cell_of_heap J];rfl
 have c1:Y.cell? ⟨b,1,none⟩=some v:=by rw [Lib.cell_of_heap J];rfl
 go_wp2_with (at_builtin;refine Lib.wpList_append_own_string _ rfl _ _ 302 9 rfl B 5 i0 underlying302 underlying9 hi ae af ag _ _ _ rfl O s rfl ?c3 ?c4 ?c5 ?_)
 case c3=>unfold maxLen;omega
 case c4=>omega
 case c5=>have:=U.size;omega
 intro v' Z H F _;have aa:b<Y.heap.size:=by
  rcases qaQ b Y.heap.size with h' | h'
  ·exact h'
  ·simp [Array.getElem?_eq_none h'] at J
 have I:Z.heap[b]? = some (.cells #[.pointer (some ⟨b,0,none⟩),v] 304 (0,0)):=by
  rw [F.block b aa (fun e=>hne e.symm)];exact J
 have d0:Z.cell? ⟨b,0,none⟩=some (.pointer (some ⟨b,0,none⟩)):=by rw [Lib.cell_of_heap I];rfl
 have d1:Z.cell? ⟨b,1,none⟩=some v:=by rw [Lib.cell_of_heap I];rfl
 have f1:Z.frozen? ⟨b,1,none⟩=false:=Lib.frozen_of_heap I 1;obtain⟨ao,n',cap,rfl⟩:∃ao n' cap,v'=.slice ao n' cap:=by
  rcases H.2 with ⟨hv,_⟩ | ⟨g,cap,cur,hv,_⟩
  ·exact⟨_,_,_,hv⟩
  ·exact⟨_,_,_,hv⟩
 go_wp2
 go_ret2
 refine⟨rfl,?_,?_⟩
 ·exact Lib.BuilderAt.put (T:=304) (e:=5) hB I (bs':=V++Lib.strCells s) (by simpa [Lib.strCells_length] using H) (by decide)
 ·exact (U.grown F (by have:=U.size;omega) (fun k hk=>(O.lt k hk).1)).setCell (p:=⟨b,1,none⟩) hB _
end Go.Proofs.YtplkdeknjghobaaGreatDoor
namespace Go.Proofs.YtplkdeknjghobaaGreatDoor
open Go.RowKit Go.Proofs.Tryz
def HasT (w:World):Prop:=Lib.TabIs prog w "internal/strconv.uint64pow10" .u64 Lib.pow10Tab
theorem HasT.below {w F:World} (h:HasT w) (H:Below w.heap.size w F):HasT F:=Lib.tabBelow_of_tabIs h F H
def num (x:Nat):ByteArray:=⟨(Lib.decDigits x).toArray⟩
theorem qdF (x:Nat):(num x).size=(Lib.decDigits x).length:=rfl
theorem qkq (n:Nat) (H:n<9223372036854775808) (w:World) (hT:HasT w) :
  Calls prog 150 #[.int .i64 (n:Int)] w fun e F=>e=.returned (.string (num n))/\Below w.heap.size w F:=by
 refine (Tryz.strconv_Itoa (n:Int) (by omega) (by omega) w hT).mono ?_;rintro e F ⟨rfl,k,os,rfl⟩;refine⟨?_,Lib.below_grow _ _ qN _ _⟩;have:Lib.itoa (n:Int)=Lib.decDigits n:=by
  unfold Lib.itoa;rw [if_neg (by omega),Int.toNat_natCast]
 rw [this];rfl
theorem qkb {B b:Nat} {p:Value} {J:List Value} {w I:World} (h:Bd B b p J w) (F:Below w.heap.size w I):Bd B b p J I:=by
 obtain⟨U,v,O,V,Y⟩:=h;have H:=(qG O).1;have hg:w.grownBy I none:=⟨F.os,F.tape,F.output,F.size,fun k Z _=>F.block k Z⟩;refine⟨U,v,(F.block b H).trans O,V.kept hg ?_,Y⟩;cases v.ownBlock with
 | none=>exact qan rfl
 | some k=>exact qag (by simp)
theorem qlb {B b:Nat} {F:List Value} {w I:World} (h:IsBd B b F w) (H:Below w.heap.size w I):IsBd B b F I:=h.elim (fun h=>.inl (qkb h H)) (fun h=>.inr (qkb h H))
open Go.Lib
def body (s:List UInt8):List UInt8:=trimPrefix s [45]
def signd (s:List UInt8):Bool:=hasPrefix s [45]
theorem qhM (s:List UInt8):body (45 :: s)=s/\signd (45 :: s)=true:=⟨rfl,rfl⟩
theorem qhN {s:List UInt8} (h:s.head?≠some 45):body s=s/\signd s=false:=by
 cases s with
 | nil=>exact⟨rfl,rfl⟩
 | cons c t =>
  have H:c≠45:=fun e=>h (by rw [e];rfl)
  have F:hasPrefix (c :: t) [45]=false:=by
   show (45 == c && _)=false
   rw [beq_eq_false_iff_ne.2 (Ne.symm H)];rfl
  refine⟨?_,F⟩
  show trimPrefix (c :: t) [45]=c :: t
  unfold trimPrefix;rw [F];rfl
structure Valid (s:List UInt8):Prop where
 nums:Nums (body s)
 pos:0<(body s).length
 le:(body s).length<=600
 lead:(body s).head? = some 48->(body s).length=1/\signd s=false
def ival (s:List UInt8):Int:=if signd s=true then -(dval (body s):Int) else dval (body s)
theorem Valid.plainly {s:List UInt8} (h:Valid s):qjq (body s):=⟨fun e=>by have:=h.pos;rw [e] at this;exact absurd this (by simp),h.nums,fun e=>(h.lead e).1⟩
theorem Valid.natAbs {s:List UInt8} (_h:Valid s):(ival s).natAbs=dval (body s):=by
 unfold ival;split
 ·rw [qbj,qam]
 ·rw [qam]
theorem Valid.neg {s:List UInt8} (h:Valid s):decide (ival s<0)=signd s:=by
 unfold ival;cases hs:signd s with
 | false=>rw [if_neg (by simp)];exact qU (by omega)
 | true =>
  rw [if_pos rfl];refine qV ?_;rcases qaU (dval (body s)) with h0 | h0
  ·have F:=qhF _ h.plainly;rw [h0,qb1 (by decide)] at F;have:=(h.lead (by rw [F];rfl)).2;rw [hs] at this;cases this
  ·omega
theorem qk3 {v n k:Nat} (h:v<10 ^ n) (F:n<=9*k):Fit v k:=by
 unfold Fit;rw [pow9];exact qai h (qa4 (by decide) F)
theorem Valid.fit {s:List UInt8} (h:Valid s):Fit (ival s).natAbs 67:=by
 rw [h.natAbs];exact qk3 (ql4 _ _ rfl h.nums) (by have:=h.le;omega)
def itxt (z:Int):List UInt8:=if z<0 then 45 :: decDigits z.natAbs else decDigits z.natAbs
theorem qgf (u:Nat):(decDigits u).head?≠some 45:=by
 cases h:decDigits u with
 | nil=>exact absurd h (qdd u)
 | cons c t =>
  intro e;have H:c=45:=qah e;have:=qdt u c (by rw [h];exact qbS);rw [H] at this;have F:(45:UInt8).toNat=45:=rfl;omega
theorem qff (z:Int):body (itxt z)=decDigits z.natAbs/\signd (itxt z)=decide (z<0):=by
 unfold itxt
 by_cases h:z<0
 ·rw [if_pos h,qV h];exact qhM _
 ·rw [if_neg h,qU h];exact qhN (qgf _)
theorem qdP (z:Int):ival (itxt z)=z:=by
 unfold ival;rw [(qff z).1,(qff z).2,qe0]
 by_cases h:z<0
 ·rw [if_pos (qV h)];omega
 ·rw [if_neg (by rw [qU h];simp)];omega
theorem qfW {z:Int} (h:(decDigits z.natAbs).length<=600):Valid (itxt z):=by
 obtain⟨F,I⟩:=qff z;refine⟨by rw [F];exact qdt _,by rw [F];exact List.length_pos_iff.2 (qdd _),by rw [F];exact h,fun e=>?_⟩;rw [F] at e;have H:=qeZ _ e;rw [F,I,H,qb1 (by decide)];exact⟨rfl,qU (by omega)⟩
theorem Valid.eq {s:List UInt8} (h:Valid s):s=itxt (ival s):=by
 have I:=qhF _ h.plainly;have J:=h.natAbs;have F:=h.neg;unfold itxt;rw [J,<-I]
 by_cases H:s.head? = some 45
 ·obtain⟨t,rfl⟩:∃t,s=45 :: t:=by
   cases s with
   | nil=>cases H
   | cons c t=>exact⟨t,by rw [qah H]⟩
  rw [(qhM t).2] at F;rw [if_pos (of_decide_eq_true F),(qhM t).1]
 ·rw [(qhN H).2] at F;rw [if_neg (of_decide_eq_false F),(qhN H).1]
theorem qmF {W:World} {H:Option Addr} {b off c n g:Nat} {L:List Nat} {cs:Array Value} {t:TypeId} {I:Nat×Nat} (h:IsM W H b off c n L) (hg:W.heap[g]? = some (.cells cs t I)) (hne:∀x∈cs.toList,∀d,x≠.int .u32 d) (J:0<n):b≠g:=by
 rintro rfl;have F:=h.cell 0 J;unfold World.cell? at F;simp only [hg] at F;have O:cs[off+0]? = some (.int .u32 ((dg L 0:Nat):Int)):=by
  simpa using F
 exact hne _ (by rw [Array.mem_toList_iff];exact Array.mem_of_getElem? O) _ rfl
theorem qci (W:World) (g:Nat) (cs:Array Value):W.grownBy (W.setRow g cs) (some g):=by
 refine⟨rfl,rfl,rfl,by simp [World.setRow],fun k H F=>?_⟩;exact setRow_other _ _ _ _ (fun e=>F (by rw [e]))
theorem qcp {W W':World} {v:Value} {x g:Nat} {cs:Array Value} {t:TypeId} {H:Nat×Nat} (h:MagAt W v x) (O:W.grownBy W' (some g)) (hg:W.heap[g]? = some (.cells cs t H)) (hne:∀x∈cs.toList,∀d,x≠.int .u32 d):MagAt W' v x:=by
 obtain⟨ao,b,off,c,n,L,rfl,F,J⟩:=h;exact⟨ao,b,off,c,n,L,rfl,⟨F.len,F.cap,qeO O F.cells (fun I=>qmF F hg hne (by rw [<-F.len];exact I)),F.dig,F.nrm⟩,J⟩
theorem qcF {W:World} {v:Value} {x g:Nat} {cs cs':Array Value} {t:TypeId} {F:Nat×Nat} (h:MagAt W v x) (hg:W.heap[g]? = some (.cells cs t F)) (hne:∀x∈cs.toList,∀d,x≠.int .u32 d):MagAt (W.setRow g cs') v x:=qcp h (qci W g cs') hg hne
theorem qdm:∀x∈(#[.slice none 0 0,.bool false]:Array Value).toList,∀d,x≠.int .u32 d:=by
 intro x hx d;rcases qaJ.1 hx with rfl | hx
 ·intro h;cases h
 ·rw [qap.1 hx];intro h;cases h
def IntAt (W:World) (v:Value) (z:Int):Prop:=∃m,v=.agg #[m,.bool (decide (z<0))]/\MagAt W m z.natAbs
theorem IntAt.below {W W':World} {v:Value} {z:Int} (h:IntAt W v z) (I:Below W.heap.size W W'):IntAt W' v z:=by
 obtain⟨m,F,H⟩:=h;exact⟨m,F,H.below I⟩
theorem qlA {W:World} {m:Value} {x:Nat} {neg:Bool} (h:MagAt W m x):IntAt W (.agg #[m,.bool (neg && !decide (x=0))]) (if neg=true then -(x:Int) else x):=by
 have H:(neg && !decide (x=0))=decide ((if neg=true then -(x:Int) else x)<0):=by
  cases neg with
  | false=>rw [Bool.false_and,if_neg (by simp)];exact (qU (by omega)).symm
  | true =>
   rw [if_pos rfl,Bool.true_and]
   by_cases F:x=0
   ·rw [qV F];exact (qU (by omega)).symm
   ·rw [qU F];exact (qV (by omega)).symm
 rw [H];refine⟨m,rfl,?_⟩
 ·cases neg with
  | false=>simpa using h
  | true=>rw [if_pos rfl,qbj,qam];exact h
