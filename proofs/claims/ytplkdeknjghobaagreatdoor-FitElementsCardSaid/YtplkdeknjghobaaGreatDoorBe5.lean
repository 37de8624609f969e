import Derived.Laws.BitsLemmas
import Derived.Laws.Externs
import Derived.Laws.IdiomCopy
import Derived.Lib.AppendIntMem
import Derived.Lib.AppendStr
import Derived.Lib.Builder
import Derived.Lib.MakeNoZero
import Derived.Lib.Slices
import Derived.Lib.Strings
import Derived.Lib.UnsafeStr
import Derived.Lib.Walk
import Derived.Shelf.Abstract
import Derived.Test.YtplkdeknjghobaaGreatDoorBe2
import Derived.Test.YtplkdeknjghobaaGreatDoorBe3
import Derived.Test.YtplkdeknjghobaaGreatDoorBe4
set_option maxRecDepth 100000
set_option maxHeartbeats 0
namespace Go.Proofs.YtplkdeknjghobaaGreatDoor
open Go.RowKit Go.Shelf
theorem ql4:(Tryz.prog.info? 304).map (·.size)=some 2:=by kernel_rfl
theorem ql5:(Tryz.prog.info? 5).map (fun i=>(i.zero,i.size,i.bytes))=some (some (.int .u8 0),1,1):=by kernel_rfl
theorem lies_sb:liesAt Tryz.prog Tryz.prog.depth 304 (2 / Tryz.prog.cellsOf 304) 0 304 1=true:=by kernel_rfl
theorem qhk (b:Nat) (w:World) (h0:w.cell? ⟨b,0,none⟩=some (.pointer (some ⟨b,0,none⟩))) :
  Calls Tryz.prog 267 #[.pointer (some ⟨b,0,none⟩)] w fun e w'=>e=.returned (.tuple #[])/\w'=w:=by
 obtain⟨j,hj,_⟩:=Option.map_eq_some_iff.1 ql4;go_enter Tryz.func267,Tryz.ntmps267;go_wp2;rw [Lib.run_neq_ptr_same w _ Tryz.underlying301 hj];go_wp2
 go_end0
 exact⟨rfl,rfl⟩
theorem qgE (b:Nat) (w:World) (h0:w.cell? ⟨b,0,none⟩=some (.pointer none)) (hsh:w.shape? b=some (304,2)) (hfz:w.frozen? ⟨b,0,none⟩=false) :
  Calls Tryz.prog 267 #[.pointer (some ⟨b,0,none⟩)] w fun e w'=>e=.returned (.tuple #[])/\w'=w.setCell ⟨b,0,none⟩ (.pointer (some ⟨b,0,none⟩)):=by
 obtain⟨j,hj,hjs⟩:=Option.map_eq_some_iff.1 ql4;go_enter Tryz.func267,Tryz.ntmps267;go_wp2;rw [Lib.run_to_unsafe w ⟨b,0,none⟩ Tryz.underlying301 Tryz.underlying358 hj (by rw [hjs];decide) hsh (Nat.zero_lt_succ 1)];simp only [Result.andThen];rw [Oper.upon_value];go_wp2;rw [run_callFunc_extern Tryz.func289 (by kernel_rfl) (by kernel_rfl) (by kernel_rfl) (e:=Extern.AbiNoEscape.same) (by kernel_rfl)];rw [Lib.run_noEscape];simp only [Result.andThen];rw [Oper.upon_value];go_wp2;rw [Lib.run_from_unsafe w ⟨b,0,none⟩ Tryz.underlying358 Tryz.underlying301 hj hsh lies_sb];simp only [Result.andThen];rw [Oper.upon_value];go_wp2
 go_end0
 exact⟨rfl,rfl⟩
abbrev Bd (B b:Nat) (p:Value) (bs:List Value) (w:World):Prop:=Lib.BuilderAt 304 5 B b p bs w
abbrev IsBd (B b:Nat) (bs:List Value) (w:World):Prop:=Lib.IsBuilder 304 5 B b bs w
theorem qfe (B b:Nat) (bs:List Value) (w:World) (h:IsBd B b bs w) :
  Calls Tryz.prog 267 #[.pointer (some ⟨b,0,none⟩)] w fun e w'=>e=.returned (.tuple #[])/\(Bd B b (.pointer (some ⟨b,0,none⟩)) bs w'/\Below B w w'):=by
 rcases h with h | h
 ·refine (qgE b w h.cell0 h.shape h.frozen0).mono ?_;rintro e w' ⟨rfl,rfl⟩;exact⟨rfl,h.used _,(Below.refl B w).setCell (p:=⟨b,0,none⟩) h.1 _⟩
 ·refine (qhk b w h.cell0).mono ?_;rintro e w' ⟨rfl,rfl⟩;exact⟨rfl,h,Below.refl B _⟩
theorem qfN (B b:Nat) (bs:List Value) (c:Int) (w:World) (h:IsBd B b bs w) (hlen:bs.length+1<=140737488355328) (hBw:B<=w.heap.size) :
  Calls Tryz.prog 221 #[.pointer (some ⟨b,0,none⟩),.int .u8 c] w fun e w'=>e=.returned .nilIface/\(Bd B b (.pointer (some ⟨b,0,none⟩)) (bs++[.int .u8 c]) w'/\Below B w w'):=by
 obtain⟨i0,hi,hz0,hz1,hz2⟩:=info_parts ql5;go_enter Tryz.func221,Tryz.ntmps221
 go_wp2_with (go_at_call 267;refine (qfe B b bs _ h).mono ?_)
 rintro e w1 ⟨rfl,h1,hb1⟩;obtain⟨hB,v,hbk,hown,hne⟩:=h1;have c0:w1.cell? ⟨b,0,none⟩=some (.pointer (some ⟨b,0,none⟩)):=by rw [Lib.cell_of_heap hbk];rfl
 have c1:w1.cell? ⟨b,1,none⟩=some v:=by rw [Lib.cell_of_heap hbk];rfl
 go_wp2_with (at_builtin;refine wpList_append_own _ rfl _ _ 302 rfl B 5 i0 (.int .u8 0) 1 1 Tryz.underlying302 hi hz0 hz1 hz2 rfl (by decide) _ _ _ rfl (hown.alloc _) ⟨w1.heap.size,0,none⟩ 1 1 [.int .u8 c] rfl rfl ?c1 ?c2 ?c3 ?c4 ?c5 ?_)
 case c1 =>
  intro j u hj
  match j,hj with
  | 0,hj=>simp at hj;subst hj;simp [Addr.add]
 case c2=>intro u hu;simp at hu;subst hu;rfl
 case c3=>unfold maxLen;omega
 case c4=>omega
 case c5=>have:=hb1.size;simp;omega
 intro v' w2 hown' hgrow _;have hlt:b<w1.heap.size:=by
  rcases qaT b w1.heap.size with h' | h'
  ·exact h'
  ·simp [Array.getElem?_eq_none h'] at hbk
 have hb2:w2.heap[b]? = some (.cells #[.pointer (some ⟨b,0,none⟩),v] 304 (0,0)):=by
  rw [hgrow.block b (by simp;omega) (fun e=>hne e.symm),Lib.alloc_old w1 _ b hlt];exact hbk
 have d0:w2.cell? ⟨b,0,none⟩=some (.pointer (some ⟨b,0,none⟩)):=by rw [Lib.cell_of_heap hb2];rfl
 have d1:w2.cell? ⟨b,1,none⟩=some v:=by rw [Lib.cell_of_heap hb2];rfl
 have f1:w2.frozen? ⟨b,1,none⟩=false:=Lib.frozen_of_heap hb2 1;obtain⟨g,cap,rfl⟩:∃g cap,v'=.slice (some ⟨g,0,none⟩) (bs.length+1) cap:=by
  rcases hown'.2 with ⟨_,h0⟩ | ⟨g,cap,cur,hv,_⟩
  ·omega
  ·exact⟨g,cap,hv⟩
 go_wp2;go_ret;refine⟨rfl,?_,?_⟩
 ·exact Lib.BuilderAt.put (T:=304) (e:=5) hB hb2 (bs':=bs++[.int .u8 c]) (by simpa using hown') (by decide)
 ·exact ((hb1.alloc (by have:=hb1.size;omega) _).grown hgrow (by have:=hb1.size;simp;omega) (fun k hk=>(hown.lt k hk).1)).setCell (p:=⟨b,1,none⟩) hB _
theorem qeI (B b:Nat) (bs:List Value) (s:ByteArray) (w:World) (h:IsBd B b bs w) (hlen:bs.length+s.size<=140737488355328) (hBw:B<=w.heap.size) :
  Calls Tryz.prog 222 #[.pointer (some ⟨b,0,none⟩),.string s] w fun e w'=>e=.returned (.tuple #[.int .i64 s.size,.nilIface])/\(Bd B b (.pointer (some ⟨b,0,none⟩)) (bs++Lib.strCells s) w'/\Below B w w'):=by
 obtain⟨i0,hi,hz0,hz1,hz2⟩:=info_parts ql5;go_enter Tryz.func222,Tryz.ntmps222
 go_wp2_with (go_at_call 267;refine (qfe B b bs _ h).mono ?_)
 rintro e w1 ⟨rfl,h1,hb1⟩;obtain⟨hB,v,hbk,hown,hne⟩:=h1;have c0:w1.cell? ⟨b,0,none⟩=some (.pointer (some ⟨b,0,none⟩)):=by rw [Lib.cell_of_heap hbk];rfl
 have c1:w1.cell? ⟨b,1,none⟩=some v:=by rw [Lib.cell_of_heap hbk];rfl
 go_wp2_with (at_builtin;refine Lib.wpList_append_own_string _ rfl _ _ 302 9 rfl B 5 i0 Tryz.underlying302 Tryz.underlying9 hi hz0 hz1 hz2 _ _ _ rfl hown s rfl ?c3 ?c4 ?c5 ?_)
 case c3=>unfold maxLen;omega
 case c4=>omega
 case c5=>have:=hb1.size;omega
 intro v' w2 hown' hgrow _;have hlt:b<w1.heap.size:=by
  rcases qaT b w1.heap.size with h' | h'
  ·exact h'
  ·simp [Array.getElem?_eq_none h'] at hbk
 have hb2:w2.heap[b]? = some (.cells #[.pointer (some ⟨b,0,none⟩),v] 304 (0,0)):=by
  rw [hgrow.block b hlt (fun e=>hne e.symm)];exact hbk
 have d0:w2.cell? ⟨b,0,none⟩=some (.pointer (some ⟨b,0,none⟩)):=by rw [Lib.cell_of_heap hb2];rfl
 have d1:w2.cell? ⟨b,1,none⟩=some v:=by rw [Lib.cell_of_heap hb2];rfl
 have f1:w2.frozen? ⟨b,1,none⟩=false:=Lib.frozen_of_heap hb2 1;obtain⟨ao,n',cap,rfl⟩:∃ao n' cap,v'=.slice ao n' cap:=by
  rcases hown'.2 with ⟨hv,_⟩ | ⟨g,cap,cur,hv,_⟩
  ·exact⟨_,_,_,hv⟩
  ·exact⟨_,_,_,hv⟩
 go_wp2
 go_ret2
 refine⟨rfl,?_,?_⟩
 ·exact Lib.BuilderAt.put (T:=304) (e:=5) hB hb2 (bs':=bs++Lib.strCells s) (by simpa [Lib.strCells_length] using hown') (by decide)
 ·exact (hb1.grown hgrow (by have:=hb1.size;omega) (fun k hk=>(hown.lt k hk).1)).setCell (p:=⟨b,1,none⟩) hB _
end Go.Proofs.YtplkdeknjghobaaGreatDoor
namespace Go.Proofs.YtplkdeknjghobaaGreatDoor
open Go.RowKit
def HasT (w:World):Prop:=Lib.TabIs Tryz.prog w "internal/strconv.uint64pow10" .u64 Lib.pow10Tab
theorem HasT.below {w w':World} (h:HasT w) (hb:Below w.heap.size w w'):HasT w':=Lib.tabBelow_of_tabIs h w' hb
def num (x:Nat):ByteArray:=⟨(Lib.decDigits x).toArray⟩
theorem qdb (x:Nat):(num x).size=(Lib.decDigits x).length:=rfl
theorem qgt (n:Nat) (hn:n<9223372036854775808) (w:World) (hT:HasT w) :
  Calls Tryz.prog 150 #[.int .i64 (n:Int)] w fun e w'=>e=.returned (.string (num n))/\Below w.heap.size w w':=by
 refine (Tryz.strconv_Itoa (n:Int) (by omega) (by omega) w hT).mono ?_;rintro e w' ⟨rfl,k,os,rfl⟩;refine⟨?_,Lib.below_grow _ _ qN _ _⟩;have:Lib.itoa (n:Int)=Lib.decDigits n:=by
  unfold Lib.itoa;rw [if_neg (by omega),Int.toNat_natCast]
 rw [this];rfl
theorem qjL {B b:Nat} {p:Value} {bs:List Value} {w w':World} (h:Bd B b p bs w) (hb:Below w.heap.size w w'):Bd B b p bs w':=by
 obtain⟨h1,v,h2,h3,h4⟩:=h;have hlt:=(qG h2).1;have hg:w.grownBy w' none:=⟨hb.os,hb.tape,hb.output,hb.size,fun k hk _=>hb.block k hk⟩;refine⟨h1,v,(hb.block b hlt).trans h2,h3.kept hg ?_,h4⟩;cases v.ownBlock with
 | none=>exact qan rfl
 | some k=>exact qah (by simp)
theorem qhs {B b:Nat} {bs:List Value} {w w':World} (h:IsBd B b bs w) (hb:Below w.heap.size w w'):IsBd B b bs w':=h.elim (fun h=>.inl (qjL h hb)) (fun h=>.inr (qjL h hb))
open Go.Lib
def body (s:List UInt8):List UInt8:=trimPrefix s [45]
def signd (s:List UInt8):Bool:=hasPrefix s [45]
theorem qhK (s:List UInt8):body (45 :: s)=s/\signd (45 :: s)=true:=⟨rfl,rfl⟩
theorem qhL {s:List UInt8} (h:s.head?≠some 45):body s=s/\signd s=false:=by
 cases s with
 | nil=>exact⟨rfl,rfl⟩
 | cons c t =>
  have hc:c≠45:=fun e=>h (by rw [e];rfl)
  have hp:hasPrefix (c :: t) [45]=false:=by
   show (45 == c && _)=false
   rw [beq_eq_false_iff_ne.2 (Ne.symm hc)];rfl
  refine⟨?_,hp⟩
  show trimPrefix (c :: t) [45]=c :: t
  unfold trimPrefix;rw [hp];rfl
structure Valid (s:List UInt8):Prop where
 nums:Nums (body s)
 pos:0<(body s).length
 le:(body s).length<=600
 lead:(body s).head? = some 48->(body s).length=1/\signd s=false
def ival (s:List UInt8):Int:=if signd s=true then -(dval (body s):Int) else dval (body s)
theorem Valid.plainly {s:List UInt8} (h:Valid s):qi8 (body s):=⟨fun e=>by have:=h.pos;rw [e] at this;exact absurd this (by simp),h.nums,fun e=>(h.lead e).1⟩
theorem Valid.natAbs {s:List UInt8} (_h:Valid s):(ival s).natAbs=dval (body s):=by
 unfold ival;split
 ·rw [qa9,qal]
 ·rw [qal]
theorem Valid.neg {s:List UInt8} (h:Valid s):decide (ival s<0)=signd s:=by
 unfold ival;cases hs:signd s with
 | false=>rw [if_neg (by simp)];exact qU (by omega)
 | true =>
  rw [if_pos rfl];refine qV ?_;rcases qaK (dval (body s)) with h0 | h0
  ·have h1:=qhA _ h.plainly;rw [h0,qbZ (by decide)] at h1;have:=(h.lead (by rw [h1];rfl)).2;rw [hs] at this;cases this
  ·omega
theorem qkz {v n k:Nat} (h:v<10 ^ n) (hn:n<=9*k):Fit v k:=by
 unfold Fit;rw [pow9];exact qag h (qa3 (by decide) hn)
theorem Valid.fit {s:List UInt8} (h:Valid s):Fit (ival s).natAbs 67:=by
 rw [h.natAbs];exact qkz (qlv _ _ rfl h.nums) (by have:=h.le;omega)
def itxt (z:Int):List UInt8:=if z<0 then 45 :: decDigits z.natAbs else decDigits z.natAbs
theorem qgn (u:Nat):(decDigits u).head?≠some 45:=by
 cases h:decDigits u with
 | nil=>exact absurd h (qdg u)
 | cons c t =>
  intro e;have hc:c=45:=qai e;have:=qdt u c (by rw [h];exact qbQ);rw [hc] at this;have h45:(45:UInt8).toNat=45:=rfl;omega
theorem qfd (z:Int):body (itxt z)=decDigits z.natAbs/\signd (itxt z)=decide (z<0):=by
 unfold itxt
 by_cases h:z<0
 ·rw [if_pos h,qV h];exact qhK _
 ·rw [if_neg h,qU h];exact qhL (qgn _)
theorem qdL (z:Int):ival (itxt z)=z:=by
 unfold ival;rw [(qfd z).1,(qfd z).2,qeY]
 by_cases h:z<0
 ·rw [if_pos (qV h)];omega
 ·rw [if_neg (by rw [qU h];simp)];omega
theorem qf8 {z:Int} (h:(decDigits z.natAbs).length<=600):Valid (itxt z):=by
 obtain⟨h1,h2⟩:=qfd z;refine⟨by rw [h1];exact qdt _,by rw [h1];exact List.length_pos_iff.2 (qdg _),by rw [h1];exact h,fun e=>?_⟩;rw [h1] at e;have h0:=qeX _ e;rw [h1,h2,h0,qbZ (by decide)];exact⟨rfl,qU (by omega)⟩
theorem Valid.eq {s:List UInt8} (h:Valid s):s=itxt (ival s):=by
 have h1:=qhA _ h.plainly;have h2:=h.natAbs;have h3:=h.neg;unfold itxt;rw [h2,<-h1]
 by_cases hs:s.head? = some 45
 ·obtain⟨t,rfl⟩:∃t,s=45 :: t:=by
   cases s with
   | nil=>cases hs
   | cons c t=>exact⟨t,by rw [qai hs]⟩
  rw [(qhK t).2] at h3;rw [if_pos (of_decide_eq_true h3),(qhK t).1]
 ·rw [(qhL hs).2] at h3;rw [if_neg (of_decide_eq_false h3),(qhL hs).1]
theorem ql6 {W:World} {ao:Option Addr} {b off c n g:Nat} {L:List Nat} {cs:Array Value} {t:TypeId} {fz:Nat×Nat} (h:IsM W ao b off c n L) (hg:W.heap[g]? = some (.cells cs t fz)) (hne:∀x∈cs.toList,∀d,x≠.int .u32 d) (h0:0<n):b≠g:=by
 rintro rfl;have h1:=h.cell 0 h0;unfold World.cell? at h1;simp only [hg] at h1;have h2:cs[off+0]? = some (.int .u32 ((dg L 0:Nat):Int)):=by
  simpa using h1
 exact hne _ (by rw [Array.mem_toList_iff];exact Array.mem_of_getElem? h2) _ rfl
theorem qb5 (W:World) (g:Nat) (cs:Array Value):W.grownBy (W.setRow g cs) (some g):=by
 refine⟨rfl,rfl,rfl,by simp [World.setRow],fun k hk hr=>?_⟩;exact setRow_other _ _ _ _ (fun e=>hr (by rw [e]))
theorem qce {W W':World} {v:Value} {x g:Nat} {cs:Array Value} {t:TypeId} {fz:Nat×Nat} (h:MagAt W v x) (hk:W.grownBy W' (some g)) (hg:W.heap[g]? = some (.cells cs t fz)) (hne:∀x∈cs.toList,∀d,x≠.int .u32 d):MagAt W' v x:=by
 obtain⟨ao,b,off,c,n,L,rfl,h1,h2⟩:=h;exact⟨ao,b,off,c,n,L,rfl,⟨h1.len,h1.cap,qeL hk h1.cells (fun h0=>ql6 h1 hg hne (by rw [<-h1.len];exact h0)),h1.dig,h1.nrm⟩,h2⟩
theorem qcx {W:World} {v:Value} {x g:Nat} {cs cs':Array Value} {t:TypeId} {fz:Nat×Nat} (h:MagAt W v x) (hg:W.heap[g]? = some (.cells cs t fz)) (hne:∀x∈cs.toList,∀d,x≠.int .u32 d):MagAt (W.setRow g cs') v x:=qce h (qb5 W g cs') hg hne
theorem qcX:∀x∈(#[.slice none 0 0,.bool false]:Array Value).toList,∀d,x≠.int .u32 d:=by
 intro x hx d;rcases qaP.1 hx with rfl | hx
 ·intro h;cases h
 ·rw [qap.1 hx];intro h;cases h
def IntAt (W:World) (v:Value) (z:Int):Prop:=∃m,v=.agg #[m,.bool (decide (z<0))]/\MagAt W m z.natAbs
theorem IntAt.below {W W':World} {v:Value} {z:Int} (h:IntAt W v z) (hb:Below W.heap.size W W'):IntAt W' v z:=by
 obtain⟨m,h1,h2⟩:=h;exact⟨m,h1,h2.below hb⟩
theorem qhE {W:World} {m:Value} {x:Nat} {neg:Bool} (h:MagAt W m x):IntAt W (.agg #[m,.bool (neg && !decide (x=0))]) (if neg=true then -(x:Int) else x):=by
 have hb:(neg && !decide (x=0))=decide ((if neg=true then -(x:Int) else x)<0):=by
  cases neg with
  | false=>rw [Bool.false_and,if_neg (by simp)];exact (qU (by omega)).symm
  | true =>
   rw [if_pos rfl,Bool.true_and]
   by_cases h0:x=0
   ·rw [qV h0];exact (qU (by omega)).symm
   ·rw [qU h0];exact (qV (by omega)).symm
 rw [hb];refine⟨m,rfl,?_⟩
 ·cases neg with
  | false=>simpa using h
  | true=>rw [if_pos rfl,qa9,qal];exact h
