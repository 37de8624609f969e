import Derived.Below
import Derived.ChangeSame
import Derived.LaidLaws
import Derived.LaidMore
import Derived.Laws.BitsLemmas
import Derived.Laws.Externs
import Derived.Laws.IdiomCopy
import Derived.Lay
import Derived.Lib.AppendIntMem
import Derived.Lib.AppendStr
import Derived.Lib.Builder
import Derived.Lib.LaidTab
import Derived.Lib.MakeNoZero
import Derived.Lib.Slices
import Derived.Lib.SmallJoins
import Derived.Lib.Strings
import Derived.Lib.UnsafeStr
import Derived.Lib.Walk
import Derived.OpenShut
import Derived.ProofKit
import Derived.SevenTiedAt
import Derived.Shelf.Abstract
import Derived.Stop.Joined
import Derived.Test.YtjalhnlhcdfncaaGreatDoorBo2
import Derived.Test.YtjalhnlhcdfncaaGreatDoorBo3
import Derived.Test.YtjalhnlhcdfncaaGreatDoorCards
import Derived.Test.YtjalhnlhcdfncaaGreatDoorRows
import Derived.Test.YtjalhnlhcdfncaaGreatDoorTie
set_option maxRecDepth 100000
set_option maxHeartbeats 0
namespace Go.Proofs.YtjalhnlhcdfncaaGreatDoor
open Go.RowKit Go.Shelf Go.Proofs.Tryz
theorem qnQ:(Tryz.prog.info? 301).map (·.size)=some 2:=by kernel_rfl
theorem qnR:(Tryz.prog.info? 5).map (fun i=>(i.zero,i.size,i.bytes))=some (some (.int .u8 0),1,1):=by kernel_rfl
theorem lies_sb:liesAt prog Tryz.prog.depth 301 (2 / Tryz.prog.cellsOf 301) 0 301 1=true:=by kernel_rfl
theorem qhW (b:Nat) (w:World) (F:w.cell? ⟨b,0,none⟩=some (.pointer (some ⟨b,0,none⟩))) :
  Calls prog 252 #[.pointer (some ⟨b,0,none⟩)] w fun e w'=>e=.returned (.tuple #[])/\w'=w:=by
 obtain⟨j,E,_⟩:=Option.map_eq_some_iff.1 qnQ;go_enter func252,ntmps252;go_wp2;rw [Lib.run_neq_ptr_same w _ underlying298 E];go_wp2
 go_end0
 exact⟨rfl,rfl⟩
theorem qg8 (b:Nat) (w:World) (J:w.cell? ⟨b,0,none⟩=some (.pointer none)) (E:w.shape? b=some (301,2)) (I:w.frozen? ⟨b,0,none⟩=false) :
  Calls prog 252 #[.pointer (some ⟨b,0,none⟩)] w fun e w'=>e=.returned (.tuple #[])/\w'=w.setCell ⟨b,0,none⟩ (.pointer (some ⟨b,0,none⟩)):=by
 obtain⟨j,H,F⟩:=Option.map_eq_some_iff.1 qnQ;go_enter func252,ntmps252;go_wp2;rw [Lib.run_to_unsafe w ⟨b,0,none⟩ underlying298 underlying334 H (by rw [F];decide) E (Nat.zero_lt_succ 1)];simp only [Result.andThen];rw [Oper.upon_value];go_wp2;rw [run_callFunc_extern func264 (by kernel_rfl) (by kernel_rfl) (by kernel_rfl) (e:=Extern.AbiNoEscape.same) (by kernel_rfl)];rw [Lib.run_noEscape];simp only [Result.andThen];rw [Oper.upon_value];go_wp2;rw [Lib.run_from_unsafe w ⟨b,0,none⟩ underlying334 underlying298 H E lies_sb];simp only [Result.andThen];rw [Oper.upon_value];go_wp2
 go_end0
 exact⟨rfl,rfl⟩
abbrev Bd (B b:Nat) (p:Value) (E:List Value) (w:World):Prop:=Lib.BuilderAt 301 5 B b p E w
abbrev IsBd (B b:Nat) (E:List Value) (w:World):Prop:=Lib.IsBuilder 301 5 B b E w
theorem qfM (B b:Nat) (E:List Value) (w:World) (h:IsBd B b E w) :
  Calls prog 252 #[.pointer (some ⟨b,0,none⟩)] w fun e w'=>e=.returned (.tuple #[])/\(Bd B b (.pointer (some ⟨b,0,none⟩)) E w'/\Below B w w'):=by
 rcases h with h | h
 ·refine (qg8 b w h.cell0 h.shape h.frozen0).mono ?_;rintro e w' ⟨rfl,rfl⟩;exact⟨rfl,h.used _,(Below.refl B w).setCell (p:=⟨b,0,none⟩) h.1 _⟩
 ·refine (qhW b w h.cell0).mono ?_;rintro e w' ⟨rfl,rfl⟩;exact⟨rfl,h,Below.refl B _⟩
theorem qi2 (B b:Nat) (U:List Value) (c:Int) (w:World) (h:IsBd B b U w) (ah:U.length+1<=140737488355328) (ai:B<=w.heap.size) :
  Calls prog 229 #[.pointer (some ⟨b,0,none⟩),.int .u8 c] w fun e w'=>e=.returned .nilIface/\(Bd B b (.pointer (some ⟨b,0,none⟩)) (U++[.int .u8 c]) w'/\Below B w w'):=by
 obtain⟨i0,hi,ae,af,ag⟩:=info_parts qnR;go_enter func229,ntmps229
 go_wp2_with (go_at_call 252;refine (qfM B b U _ h).mono ?_)
 rintro e V ⟨rfl,h1,H⟩;obtain⟨hB,v,J,O,hne⟩:=h1;have c0:V.cell? ⟨b,0,none⟩=some (.pointer (some ⟨b,0,none⟩)):=by rw [Lib.cell_of_heap J];rfl
 have c1:V.cell? ⟨b,1,none⟩=some v:=by rw [Lib.cell_of_heap J];rfl
 go_wp2_with (at_builtin;refine wpList_append_own _ rfl _ _ 299 rfl B 5 i0 (.int .u8 0) 1 1 underlying299 hi ae af ag rfl (by decide) _ _ _ rfl (O.alloc _) ⟨V.heap.size,0,none⟩ 1 1 [.int .u8 c] rfl rfl ?c1 ?c2 ?c3 ?c4 ?c5 ?_)
 case c1 =>
  intro j u Y
  match j,Y with
  | 0,Y=>simp at Y;subst Y;simp [Addr.add]
 case c2=>intro u hu;simp at hu;subst hu;rfl
 case c3=>unfold maxLen;omega
 case c4=>omega
 case c5=>have:=H.size;simp;omega
 intro v' Z F E _;have aa:b<V.heap.size:=by
  rcases qaB b V.heap.size with h' | h'
  ·exact h'
  ·simp [Array.getElem?_eq_none h'] at J
 have I:Z.heap[b]? = some (.cells #[.pointer (some ⟨b,0,none⟩),v] 301 (0,0)):=by
  rw [E.block b (by simp;omega) (fun e=>hne e.symm),Lib.alloc_old V _ b aa];exact J
 have d0:Z.cell? ⟨b,0,none⟩=some (.pointer (some ⟨b,0,none⟩)):=by rw [Lib.cell_of_heap I];rfl
 have d1:Z.cell? ⟨b,1,none⟩=some v:=by rw [Lib.cell_of_heap I];rfl
 have f1:Z.frozen? ⟨b,1,none⟩=false:=Lib.frozen_of_heap I 1;obtain⟨g,cap,rfl⟩:∃g cap,v'=.slice (some ⟨g,0,none⟩) (U.length+1) cap:=by
  rcases F.2 with ⟨_,h0⟩ | ⟨g,cap,cur,hv,_⟩
  ·omega
  ·exact⟨g,cap,hv⟩
 go_wp2;go_ret;refine⟨rfl,?_,?_⟩
 ·exact Lib.BuilderAt.put (T:=301) (e:=5) hB I (bs':=U++[.int .u8 c]) (by simpa using F) (by decide)
 ·exact ((H.alloc (by have:=H.size;omega) _).grown E (by have:=H.size;simp;omega) (fun k hk=>(O.lt k hk).1)).setCell (p:=⟨b,1,none⟩) hB _
theorem qhV (B b:Nat) (U:List Value) (s:ByteArray) (w:World) (h:IsBd B b U w) (ag:U.length+s.size<=140737488355328) (ah:B<=w.heap.size) :
  Calls prog 230 #[.pointer (some ⟨b,0,none⟩),.string s] w fun e w'=>e=.returned (.tuple #[.int .i64 s.size,.nilIface])/\(Bd B b (.pointer (some ⟨b,0,none⟩)) (U++Lib.strCells s) w'/\Below B w w'):=by
 obtain⟨i0,hi,aa,ae,af⟩:=info_parts qnR;go_enter func230,ntmps230
 go_wp2_with (go_at_call 252;refine (qfM B b U _ h).mono ?_)
 rintro e V ⟨rfl,h1,O⟩;obtain⟨hB,v,I,J,hne⟩:=h1;have c0:V.cell? ⟨b,0,none⟩=some (.pointer (some ⟨b,0,none⟩)):=by rw [Lib.cell_of_heap I];rfl
 have c1:V.cell? ⟨b,1,none⟩=some v:=by rw [Lib.cell_of_heap I];rfl
 go_wp2_with (at_builtin;refine Lib.wpList_append_own_string _ rfl _ _ 299 9 rfl B 5 i0 underlying299 underlying9 hi aa ae af _ _ _ rfl J s rfl ?c3 ?c4 ?c5 ?_)
 case c3=>unfold maxLen;omega
 case c4=>omega
 case c5=>have:=O.size;omega
 intro v' Y F E _;have Z:b<V.heap.size:=by
  rcases qaB b V.heap.size with h' | h'
  ·exact h'
  ·simp [Array.getElem?_eq_none h'] at I
 have H:Y.heap[b]? = some (.cells #[.pointer (some ⟨b,0,none⟩),v] 301 (0,0)):=by
  rw [E.block b Z (fun e=>hne e.symm)];exact I
 have d0:Y.cell? ⟨b,0,none⟩=some (.pointer (some ⟨b,0,none⟩)):=by rw [Lib.cell_of_heap H];rfl
 have d1:Y.cell? ⟨b,1,none⟩=some v:=by rw [Lib.cell_of_heap H];rfl
 have f1:Y.frozen? ⟨b,1,none⟩=false:=Lib.frozen_of_heap H 1;obtain⟨ao,n',cap,rfl⟩:∃ao n' cap,v'=.slice ao n' cap:=by
  rcases F.2 with ⟨hv,_⟩ | ⟨g,cap,cur,hv,_⟩
  ·exact⟨_,_,_,hv⟩
  ·exact⟨_,_,_,hv⟩
 go_wp2
 go_ret2
 refine⟨rfl,?_,?_⟩
 ·exact Lib.BuilderAt.put (T:=301) (e:=5) hB H (bs':=U++Lib.strCells s) (by simpa [Lib.strCells_length] using F) (by decide)
 ·exact (O.grown E (by have:=O.size;omega) (fun k hk=>(J.lt k hk).1)).setCell (p:=⟨b,1,none⟩) hB _
end Go.Proofs.YtjalhnlhcdfncaaGreatDoor
namespace Go.Proofs.YtjalhnlhcdfncaaGreatDoor
open Go.RowKit Go.Proofs.Tryz
def HasT (w:World):Prop:=Lib.TabIs prog w "internal/strconv.uint64pow10" .u64 Lib.pow10Tab
theorem HasT.below {w w':World} (h:HasT w) (E:Below w.heap.size w w'):HasT w':=Lib.tabBelow_of_tabIs h w' E
def num (x:Nat):ByteArray:=⟨(Lib.decDigits x).toArray⟩
theorem qdZ (x:Nat):(num x).size=(Lib.decDigits x).length:=rfl
theorem qlo (n:Nat) (E:n<9223372036854775808) (w:World) (hT:HasT w) :
  Calls prog 124 #[.int .i64 (n:Int)] w fun e w'=>e=.returned (.string (num n))/\Below w.heap.size w w':=by
 refine (Tryz.strconv_Itoa (n:Int) (by omega) (by omega) w hT).mono ?_;rintro e w' ⟨rfl,k,os,rfl⟩;refine⟨?_,Lib.below_grow _ _ qN _ _⟩;have:Lib.itoa (n:Int)=Lib.decDigits n:=by
  unfold Lib.itoa;rw [if_neg (by omega),qbO]
 rw [this];rfl
theorem qk7 {B b:Nat} {p:Value} {H:List Value} {w w':World} (h:Bd B b p H w) (E:Below w.heap.size w w'):Bd B b p H w':=by
 obtain⟨J,v,I,O,U⟩:=h;have F:=(qG I).1;have hg:w.grownBy w' none:=⟨E.os,E.tape,E.output,E.size,fun k V _=>E.block k V⟩;refine⟨J,v,(E.block b F).trans I,O.kept hg ?_,U⟩;cases v.ownBlock with
 | none=>exact qaw rfl
 | some k=>exact qam (by simp)
theorem qmd {B b:Nat} {E:List Value} {w w':World} (h:IsBd B b E w) (F:Below w.heap.size w w'):IsBd B b E w':=h.elim (fun h=>.inl (qk7 h F)) (fun h=>.inr (qk7 h F))
open Go.ChangeShapes Go.WideShapes Go.ChangeAt
abbrev laidK:List (String×DataW Unit):=[("math/bits.deBruijn32tab", Rows.laid_math_bits_deBruijn32tab),("math/bits.deBruijn64tab", Rows.laid_math_bits_deBruijn64tab),("internal/strconv.uint64pow10", Rows.laid_internal_strconv_uint64pow10)]
theorem Tryz.own:ownKnob Tryz.prog.godebug=none:=by kernel_rfl
theorem datK:(Rows.laid_internal_strconv_uint64pow10:DataW Unit)=Lib.tabData .u64 Lib.pow10Tab:=by kernel_rfl
theorem gK:Tryz.prog.globalNamed "internal/strconv.uint64pow10" = some 0:=by kernel_rfl
theorem tK:(Tryz.prog.globals[0]?).map (·.type)=some 340:=by kernel_rfl
theorem of_laid {W:World} (h:laidMetH prog laidK W):HasT W:=by
 rw [MakeChecks.laidMetH_plain _ _ _ (by kernel_rfl)] at h;obtain⟨ps,⟨_,_,_,_,_,_,_,_,_,_,⟨_,_,_,_,_,_,_,_,_,_,⟨g2,t2,cs2,f2,p2,q2,F,H,I,E,_,_⟩,_⟩,_⟩,_⟩:=h;obtain rfl:=qag (gK.symm.trans F);obtain rfl:=qag (tK.symm.trans H);rw [datK] at E;unfold HasT Lib.TabIs;rw [I,<-Lib.cells_of_tab underlying340 underlying203 (by kernel_rfl) (by kernel_rfl) E]
section
variable {H:Type} {enc:TypeId×Value->H} {P:Program}
theorem qiS {f:Func} {s:ChangeSpec} {apart aa F Z:Bool} {W W':World} {args:Array Value} {v:Value} {ds gs:List (DataW H)} {E pa pv:List MemPlace}
  (hW:DataW.Whole enc P f.params.toList s.vars apart W args.toList ds gs E)
  (Y:∀(b:Nat) (sp:Nat->Bool) (hd:Bool),DataW.TrodAll enc P W' b sp hd f.resultTypes.toList (v.resultList f.resultTypes.size) (s.fn H (ds++gs)).results [])
  (I:∀sp:Nat->Bool,(∀p∈E,sp p.block=true)->DataW.TrodAll enc P W' 0 sp true f.params.toList args.toList (s.fn H (ds++gs)).args pa)
  (O:∀sp:Nat->Bool,(∀p∈E,sp p.block=true)->DataW.TrodVars enc P W' sp s.vars (s.fn H (ds++gs)).vars pv)
  (U:E=pa++pv) (hb:Below W.heap.size W W')
  (ag:∀(j:Nat) (t:TypeId) (r:Value),f.resultTypes[j]? = some t->(v.resultList f.resultTypes.size)[j]? = some r->Value.okWide P W' .any 0 t r) :
  s.post enc P f apart aa F Z W args v W':=by
 have af:∀p∈E,p.block<W.heap.size:=fun p J=>hW.lt p J
 have V:∀p∈E,(fun b=>decide (b<W.heap.size)) p.block=true:=fun p J=>by simpa using af p J
 refine⟨ds,gs,E,[],pa,pv,hW,Y _ _ _,I _ V,O _ V,World.keptBut_mono (fun p J=>⟨J,?_⟩) (hb.frame (·∈E)),fun _=>?_⟩
 ·rw [U,qaL] at J;exact qam J
 ·obtain⟨_,_,_,_,_,hz,hn⟩:=hW;refine⟨ag,_,_,([]++pa)++pv,⟨[]++pa,pv,trodAll_append (I _ (fun _ _=>rfl)) (Y _ _ _),O _ (fun _ _=>rfl),rfl,?_,?_⟩,?_⟩
  ·intro b off J;have ae:MemPlace.cell b off∈E:=by rw [U];simpa using J
   rw [hb.frozen (af _ ae)];exact hz b off ae
  ·intro ha;have:=hn ha;rw [U] at this
   simpa using this
  ·intro p J _;rw [U]
   simpa using J
theorem Tryz.laidOut:laidOutB prog=true:=by kernel_rfl
end
theorem jf1:laidOutB prog=true:=by kernel_rfl
theorem jf2:mapsRowed prog=true:=by kernel_rfl
theorem jf3:Tryz.prog.plainKeys=true:=by kernel_rfl
theorem jf4:Tryz.prog.stopsHeard=true:=by kernel_rfl
theorem jf5:Tryz.prog.mayEnter=true:=by kernel_rfl
theorem jf6:(Rows.robustKnownRow.lifted == Tryz.prog.liftsFinal)=true:=by kernel_rfl
theorem jf7:(Tryz.prog.make == some Rows.robustKnownRow.make)=true:=by kernel_rfl
end Go.Proofs.YtjalhnlhcdfncaaGreatDoor
namespace Go.Proofs.YtjalhnlhcdfncaaGreatDoor
open Go.RowKit Go.Lib
def body (s:List UInt8):List UInt8:=trimPrefix s [45]
def signd (s:List UInt8):Bool:=hasPrefix s [45]
theorem qgO (s:List UInt8):body (45 :: s)=s/\signd (45 :: s)=true:=⟨rfl,rfl⟩
theorem qgP {s:List UInt8} (h:s.head?≠some 45):body s=s/\signd s=false:=by
 cases s with
 | nil=>exact⟨rfl,rfl⟩
 | cons c t =>
  have F:c≠45:=fun e=>h (by rw [e];rfl)
  have E:hasPrefix (c :: t) [45]=false:=by
   show (45 == c && _)=false
   rw [beq_eq_false_iff_ne.2 (Ne.symm F)];rfl
  refine⟨?_,E⟩
  show trimPrefix (c :: t) [45]=c :: t
  unfold trimPrefix;rw [E];rfl
structure Valid (s:List UInt8):Prop where
 nums:Nums (body s)
 pos:0<(body s).length
 le:(body s).length<=600
 lead:(body s).head? = some 48->(body s).length=1/\signd s=false
def ival (s:List UInt8):Int:=if signd s=true then -(dval (body s):Int) else dval (body s)
theorem Valid.plainly {s:List UInt8} (h:Valid s):qkg (body s):=⟨fun e=>by have:=h.pos;rw [e] at this;exact absurd this (by simp),h.nums,fun e=>(h.lead e).1⟩
theorem Valid.natAbs {s:List UInt8} (_h:Valid s):(ival s).natAbs=dval (body s):=by
 unfold ival;split
 ·rw [qbv,qas]
 ·rw [qas]
theorem Valid.neg {s:List UInt8} (h:Valid s):decide (ival s<0)=signd s:=by
 unfold ival;cases hs:signd s with
 | false=>rw [if_neg (by simp)];exact qU (by omega)
 | true =>
  rw [if_pos rfl];refine qV ?_;rcases qaN (dval (body s)) with h0 | h0
  ·have E:=qin _ h.plainly;rw [h0,qcg (by decide)] at E;have:=(h.lead (by rw [E];rfl)).2;rw [hs] at this;cases this
  ·omega
theorem ql2 {v n k:Nat} (h:v<10 ^ n) (E:n<=9*k):Fit v k:=by
 unfold Fit;rw [pow9];exact qai h (qaO (by decide) E)
theorem Valid.fit {s:List UInt8} (h:Valid s):Fit (ival s).natAbs 67:=by
 rw [h.natAbs];exact ql2 (qkv _ _ rfl h.nums) (by have:=h.le;omega)
def itxt (z:Int):List UInt8:=if z<0 then 45 :: decDigits z.natAbs else decDigits z.natAbs
theorem qgL (u:Nat):(decDigits u).head?≠some 45:=by
 cases h:decDigits u with
 | nil=>exact absurd h (qee u)
 | cons c t =>
  intro e;have F:c=45:=qag e;have:=qfr u c (by rw [h];exact qba);rw [F] at this;have E:(45:UInt8).toNat=45:=rfl;omega
theorem qfL (z:Int):body (itxt z)=decDigits z.natAbs/\signd (itxt z)=decide (z<0):=by
 unfold itxt
 by_cases h:z<0
 ·rw [if_pos h,qV h];exact qgO _
 ·rw [if_neg h,qU h];exact qgP (qgL _)
theorem qdr (z:Int):ival (itxt z)=z:=by
 unfold ival;rw [(qfL z).1,(qfL z).2,qhX]
 by_cases h:z<0
 ·rw [if_pos (qV h)];omega
 ·rw [if_neg (by rw [qU h];simp)];omega
theorem qgz {z:Int} (h:(decDigits z.natAbs).length<=600):Valid (itxt z):=by
 obtain⟨E,H⟩:=qfL z;refine⟨by rw [E];exact qfr _,by rw [E];exact List.length_pos_iff.2 (qee _),by rw [E];exact h,fun e=>?_⟩;rw [E] at e;have F:=qfq _ e;rw [E,H,F,qcg (by decide)];exact⟨rfl,qU (by omega)⟩
theorem Valid.eq {s:List UInt8} (h:Valid s):s=itxt (ival s):=by
 have H:=qin _ h.plainly;have I:=h.natAbs;have E:=h.neg;unfold itxt;rw [I,<-H]
 by_cases F:s.head? = some 45
 ·obtain⟨t,rfl⟩:∃t,s=45 :: t:=by
   cases s with
   | nil=>cases F
   | cons c t=>exact⟨t,by rw [qag F]⟩
  rw [(qgO t).2] at E;rw [if_pos (of_decide_eq_true E),(qgO t).1]
 ·rw [(qgP F).2] at E;rw [if_neg (of_decide_eq_false E),(qgP F).1]
theorem qnT {W:World} {F:Option Addr} {b off c n g:Nat} {L:List Nat} {cs:Array Value} {t:TypeId} {H:Nat×Nat} (h:IsM W F b off c n L) (hg:W.heap[g]? = some (.cells cs t H)) (hne:∀x∈cs.toList,∀d,x≠.int .u32 d) (I:0<n):b≠g:=by
 rintro rfl;have E:=h.cell 0 I;unfold World.cell? at E;simp only [hg] at E;have J:cs[off+0]? = some (.int .u32 ((dg L 0:Nat):Int)):=by
  simpa using E
 exact hne _ (by rw [Array.mem_toList_iff];exact Array.mem_of_getElem? J) _ rfl
theorem qcn (W:World) (g:Nat) (cs:Array Value):W.grownBy (W.setRow g cs) (some g):=by
 refine⟨rfl,rfl,rfl,by simp [World.setRow],fun k E hr=>?_⟩;exact setRow_other _ _ _ _ (fun e=>hr (by rw [e]))
theorem qcA {W W':World} {v:Value} {x g:Nat} {cs:Array Value} {t:TypeId} {F:Nat×Nat} (h:MagAt W v x) (J:W.grownBy W' (some g)) (hg:W.heap[g]? = some (.cells cs t F)) (hne:∀x∈cs.toList,∀d,x≠.int .u32 d):MagAt W' v x:=by
 obtain⟨ao,b,off,c,n,L,rfl,E,I⟩:=h;exact⟨ao,b,off,c,n,L,rfl,⟨E.len,E.cap,qfb J E.cells (fun H=>qnT E hg hne (by rw [<-E.len];exact H)),E.dig,E.nrm⟩,I⟩
theorem qda {W:World} {v:Value} {x g:Nat} {cs cs':Array Value} {t:TypeId} {E:Nat×Nat} (h:MagAt W v x) (hg:W.heap[g]? = some (.cells cs t E)) (hne:∀x∈cs.toList,∀d,x≠.int .u32 d):MagAt (W.setRow g cs') v x:=qcA h (qcn W g cs') hg hne
theorem qfG:∀x∈(#[.slice none 0 0,.bool false]:Array Value).toList,∀d,x≠.int .u32 d:=by
 intro x hx d;rcases qat.1 hx with rfl | hx
 ·intro h;cases h
 ·rw [qap.1 hx];intro h;cases h
def IntAt (W:World) (v:Value) (z:Int):Prop:=∃m,v=.agg #[m,.bool (decide (z<0))]/\MagAt W m z.natAbs
theorem IntAt.below {W W':World} {v:Value} {z:Int} (h:IntAt W v z) (H:Below W.heap.size W W'):IntAt W' v z:=by
 obtain⟨m,E,F⟩:=h;exact⟨m,E,F.below H⟩
theorem qmO {W:World} {m:Value} {x:Nat} {neg:Bool} (h:MagAt W m x):IntAt W (.agg #[m,.bool (neg && !decide (x=0))]) (if neg=true then -(x:Int) else x):=by
 have F:(neg && !decide (x=0))=decide ((if neg=true then -(x:Int) else x)<0):=by
  cases neg with
  | false=>rw [Bool.false_and,if_neg (by simp)];exact (qU (by omega)).symm
  | true =>
   rw [if_pos rfl,Bool.true_and]
   by_cases E:x=0
   ·rw [qV E];exact (qU (by omega)).symm
   ·rw [qU E];exact (qV (by omega)).symm
 rw [F];refine⟨m,rfl,?_⟩
 ·cases neg with
  | false=>simpa using h
  | true=>rw [if_pos rfl,qbv,qas];exact h
