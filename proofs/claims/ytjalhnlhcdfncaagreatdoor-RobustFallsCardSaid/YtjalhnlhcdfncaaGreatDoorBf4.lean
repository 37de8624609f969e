import Derived.Below
import Derived.ChangeSame
import Derived.LaidLaws
import Derived.LaidMore
import Derived.Laws.BitsLemmas
import Derived.Laws.Externs
import Derived.Laws.IdiomCopy
import Derived.Lay
import Derived.Lib.AppendIntMem
import Derived.Lib.AppendStr
import Derived.Lib.Builder
import Derived.Lib.LaidTab
import Derived.Lib.MakeNoZero
import Derived.Lib.Slices
import Derived.Lib.SmallJoins
import Derived.Lib.Strings
import Derived.Lib.UnsafeStr
import Derived.Lib.Walk
import Derived.OpenShut
import Derived.ProofKit
import Derived.SevenTiedAt
import Derived.Shelf.Abstract
import Derived.Stop.Joined
import Derived.Test.YtjalhnlhcdfncaaGreatDoorBf2
import Derived.Test.YtjalhnlhcdfncaaGreatDoorBf3
import Derived.Test.YtjalhnlhcdfncaaGreatDoorCards
import Derived.Test.YtjalhnlhcdfncaaGreatDoorRows
import Derived.Test.YtjalhnlhcdfncaaGreatDoorTie
set_option maxRecDepth 100000
set_option maxHeartbeats 0
namespace Go.Proofs.YtjalhnlhcdfncaaGreatDoor
open Go.RowKit Go.Shelf Go.Proofs.Tryz
theorem qlL:(Tryz.prog.info? 301).map (·.size)=some 2:=by kernel_rfl
theorem qlM:(Tryz.prog.info? 5).map (fun i=>(i.zero,i.size,i.bytes))=some (some (.int .u8 0),1,1):=by kernel_rfl
theorem lies_sb:liesAt prog Tryz.prog.depth 301 (2 / Tryz.prog.cellsOf 301) 0 301 1=true:=by kernel_rfl
theorem qgE (b:Nat) (w:World) (G:w.cell? ⟨b,0,none⟩=some (.pointer (some ⟨b,0,none⟩))) :
  Calls prog 252 #[.pointer (some ⟨b,0,none⟩)] w fun e w'=>e=.returned (.tuple #[])/\w'=w:=by
 obtain⟨j,F,_⟩:=Option.map_eq_some_iff.1 qlL;go_enter func252,ntmps252;go_wp2;rw [Lib.run_neq_ptr_same w _ underlying298 F];go_wp2
 go_end0
 exact⟨rfl,rfl⟩
theorem qfT (b:Nat) (w:World) (J:w.cell? ⟨b,0,none⟩=some (.pointer none)) (F:w.shape? b=some (301,2)) (I:w.frozen? ⟨b,0,none⟩=false) :
  Calls prog 252 #[.pointer (some ⟨b,0,none⟩)] w fun e w'=>e=.returned (.tuple #[])/\w'=w.setCell ⟨b,0,none⟩ (.pointer (some ⟨b,0,none⟩)):=by
 obtain⟨j,H,G⟩:=Option.map_eq_some_iff.1 qlL;go_enter func252,ntmps252;go_wp2;rw [Lib.run_to_unsafe w ⟨b,0,none⟩ underlying298 underlying334 H (by rw [G];decide) F (Nat.zero_lt_succ 1)];simp only [Result.andThen];rw [Oper.upon_value];go_wp2;rw [run_callFunc_extern func264 (by kernel_rfl) (by kernel_rfl) (by kernel_rfl) (e:=Extern.AbiNoEscape.same) (by kernel_rfl)];rw [Lib.run_noEscape];simp only [Result.andThen];rw [Oper.upon_value];go_wp2;rw [Lib.run_from_unsafe w ⟨b,0,none⟩ underlying334 underlying298 H F lies_sb];simp only [Result.andThen];rw [Oper.upon_value];go_wp2
 go_end0
 exact⟨rfl,rfl⟩
abbrev Bd (B b:Nat) (p:Value) (F:List Value) (w:World):Prop:=Lib.BuilderAt 301 5 B b p F w
abbrev IsBd (B b:Nat) (F:List Value) (w:World):Prop:=Lib.IsBuilder 301 5 B b F w
theorem qeT (B b:Nat) (F:List Value) (w:World) (h:IsBd B b F w) :
  Calls prog 252 #[.pointer (some ⟨b,0,none⟩)] w fun e w'=>e=.returned (.tuple #[])/\(Bd B b (.pointer (some ⟨b,0,none⟩)) F w'/\Below B w w'):=by
 rcases h with h | h
 ·refine (qfT b w h.cell0 h.shape h.frozen0).mono ?_;rintro e w' ⟨rfl,rfl⟩;exact⟨rfl,h.used _,(Below.refl B w).setCell (p:=⟨b,0,none⟩) h.1 _⟩
 ·refine (qgE b w h.cell0).mono ?_;rintro e w' ⟨rfl,rfl⟩;exact⟨rfl,h,Below.refl B _⟩
theorem qhQ (B b:Nat) (U:List Value) (c:Int) (w:World) (h:IsBd B b U w) (ah:U.length+1<=140737488355328) (ai:B<=w.heap.size) :
  Calls prog 229 #[.pointer (some ⟨b,0,none⟩),.int .u8 c] w fun e w'=>e=.returned .nilIface/\(Bd B b (.pointer (some ⟨b,0,none⟩)) (U++[.int .u8 c]) w'/\Below B w w'):=by
 obtain⟨i0,hi,ae,af,ag⟩:=info_parts qlM;go_enter func229,ntmps229
 go_wp2_with (go_at_call 252;refine (qeT B b U _ h).mono ?_)
 rintro e V ⟨rfl,h1,H⟩;obtain⟨hB,v,J,O,hne⟩:=h1;have c0:V.cell? ⟨b,0,none⟩=some (.pointer (some ⟨b,0,none⟩)):=by rw [Lib.cell_of_heap J];rfl
 have c1:V.cell? ⟨b,1,none⟩=some v:=by rw [Lib.cell_of_heap J];rfl
 go_wp2_with (at_builtin;refine wpList_append_own _ rfl _ _ 299 rfl B 5 i0 (.int .u8 0) 1 1 underlying299 hi ae af ag rfl (by decide) _ _ _ rfl (O.alloc _) ⟨V.heap.size,0,none⟩ 1 1 [.int .u8 c] rfl rfl ?c1 ?c2 ?c3 ?c4 ?c5 ?_)
 case c1 =>
  intro j u Y
  match j,Y with
  | 0,Y=>simp at Y;subst Y;simp [Addr.add]
 case c2=>intro u hu;simp at hu;subst hu;rfl
 case c3=>unfold maxLen;omega
 case c4=>omega
 case c5=>have:=H.size;simp;omega
 intro v' Z G F _;have aa:b<V.heap.size:=by
  rcases qaT b V.heap.size with h' | h'
  ·exact h'
  ·simp [Array.getElem?_eq_none h'] at J
 have I:Z.heap[b]? = some (.cells #[.pointer (some ⟨b,0,none⟩),v] 301 (0,0)):=by
  rw [F.block b (by simp;omega) (fun e=>hne e.symm),Lib.alloc_old V _ b aa];exact J
 have d0:Z.cell? ⟨b,0,none⟩=some (.pointer (some ⟨b,0,none⟩)):=by rw [Lib.cell_of_heap I];rfl
 have d1:Z.cell? ⟨b,1,none⟩=some v:=by rw [Lib.cell_of_heap I];rfl
 have f1:Z.frozen? ⟨b,1,none⟩=false:=Lib.frozen_of_heap I 1;obtain⟨g,cap,rfl⟩:∃g cap,v'=.slice (some ⟨g,0,none⟩) (U.length+1) cap:=by
  rcases G.2 with ⟨_,h0⟩ | ⟨g,cap,cur,hv,_⟩
  ·omega
  ·exact⟨g,cap,hv⟩
 go_wp2;go_ret;refine⟨rfl,?_,?_⟩
 ·exact Lib.BuilderAt.put (T:=301) (e:=5) hB I (bs':=U++[.int .u8 c]) (by simpa using G) (by decide)
 ·exact ((H.alloc (by have:=H.size;omega) _).grown F (by have:=H.size;simp;omega) (fun k hk=>(O.lt k hk).1)).setCell (p:=⟨b,1,none⟩) hB _
theorem qgC (B b:Nat) (U:List Value) (s:ByteArray) (w:World) (h:IsBd B b U w) (ag:U.length+s.size<=140737488355328) (ah:B<=w.heap.size) :
  Calls prog 230 #[.pointer (some ⟨b,0,none⟩),.string s] w fun e w'=>e=.returned (.tuple #[.int .i64 s.size,.nilIface])/\(Bd B b (.pointer (some ⟨b,0,none⟩)) (U++Lib.strCells s) w'/\Below B w w'):=by
 obtain⟨i0,hi,aa,ae,af⟩:=info_parts qlM;go_enter func230,ntmps230
 go_wp2_with (go_at_call 252;refine (qeT B b U _ h).mono ?_)
 rintro e V ⟨rfl,h1,O⟩;obtain⟨hB,v,I,J,hne⟩:=h1;have c0:V.cell? ⟨b,0,none⟩=some (.pointer (some ⟨b,0,none⟩)):=by rw [Lib.cell_of_heap I];rfl
 have c1:V.cell? ⟨b,1,none⟩=some v:=by rw [Lib.cell_of_heap I];rfl
 go_wp2_with (at_builtin;refine Lib.wpList_append_own_string _ rfl _ _ 299 9 rfl B 5 i0 underlying299 underlying9 hi aa ae af _ _ _ rfl J s rfl ?c3 ?c4 ?c5 ?_)
 case c3=>unfold maxLen;omega
 case c4=>omega
 case c5=>have:=O.size;omega
 intro v' Y G F _;have Z:b<V.heap.size:=by
  rcases qaT b V.heap.size with h' | h'
  ·exact h'
  ·simp [Array.getElem?_eq_none h'] at I
 have H:Y.heap[b]? = some (.cells #[.pointer (some ⟨b,0,none⟩),v] 301 (0,0)):=by
  rw [F.block b Z (fun e=>hne e.symm)];exact I
 have d0:Y.cell? ⟨b,0,none⟩=some (.pointer (some ⟨b,0,none⟩)):=by rw [Lib.cell_of_heap H];rfl
 have d1:Y.cell? ⟨b,1,none⟩=some v:=by rw [Lib.cell_of_heap H];rfl
 have f1:Y.frozen? ⟨b,1,none⟩=false:=Lib.frozen_of_heap H 1;obtain⟨ao,n',cap,rfl⟩:∃ao n' cap,v'=.slice ao n' cap:=by
  rcases G.2 with ⟨hv,_⟩ | ⟨g,cap,cur,hv,_⟩
  ·exact⟨_,_,_,hv⟩
  ·exact⟨_,_,_,hv⟩
 go_wp2
 go_ret2
 refine⟨rfl,?_,?_⟩
 ·exact Lib.BuilderAt.put (T:=301) (e:=5) hB H (bs':=U++Lib.strCells s) (by simpa [Lib.strCells_length] using G) (by decide)
 ·exact (O.grown F (by have:=O.size;omega) (fun k hk=>(J.lt k hk).1)).setCell (p:=⟨b,1,none⟩) hB _
end Go.Proofs.YtjalhnlhcdfncaaGreatDoor
namespace Go.Proofs.YtjalhnlhcdfncaaGreatDoor
open Go.RowKit Go.Proofs.Tryz
def HasT (w:World):Prop:=Lib.TabIs prog w "internal/strconv.uint64pow10" .u64 Lib.pow10Tab
theorem HasT.below {w w':World} (h:HasT w) (F:Below w.heap.size w w'):HasT w':=Lib.tabBelow_of_tabIs h w' F
def num (x:Nat):ByteArray:=⟨(Lib.decDigits x).toArray⟩
theorem qdA (x:Nat):(num x).size=(Lib.decDigits x).length:=rfl
theorem qjQ (n:Nat) (F:n<9223372036854775808) (w:World) (hT:HasT w) :
  Calls prog 124 #[.int .i64 (n:Int)] w fun e w'=>e=.returned (.string (num n))/\Below w.heap.size w w':=by
 refine (Tryz.strconv_Itoa (n:Int) (by omega) (by omega) w hT).mono ?_;rintro e w' ⟨rfl,k,os,rfl⟩;refine⟨?_,Lib.below_grow _ _ qN _ _⟩;have:Lib.itoa (n:Int)=Lib.decDigits n:=by
  unfold Lib.itoa;rw [if_neg (by omega),Int.toNat_natCast]
 rw [this];rfl
theorem qjB {B b:Nat} {p:Value} {H:List Value} {w w':World} (h:Bd B b p H w) (F:Below w.heap.size w w'):Bd B b p H w':=by
 obtain⟨J,v,I,O,U⟩:=h;have G:=(qG I).1;have hg:w.grownBy w' none:=⟨F.os,F.tape,F.output,F.size,fun k V _=>F.block k V⟩;refine⟨J,v,(F.block b G).trans I,O.kept hg ?_,U⟩;cases v.ownBlock with
 | none=>exact qaw rfl
 | some k=>exact qak (by simp)
theorem qkC {B b:Nat} {F:List Value} {w w':World} (h:IsBd B b F w) (G:Below w.heap.size w w'):IsBd B b F w':=h.elim (fun h=>.inl (qjB h G)) (fun h=>.inr (qjB h G))
open Go.ChangeShapes Go.WideShapes Go.ChangeAt
abbrev laidK:List (String×DataW Unit):=[("math/bits.deBruijn32tab", Rows.laid_math_bits_deBruijn32tab),("math/bits.deBruijn64tab", Rows.laid_math_bits_deBruijn64tab),("internal/strconv.uint64pow10", Rows.laid_internal_strconv_uint64pow10)]
theorem Tryz.own:ownKnob Tryz.prog.godebug=none:=by kernel_rfl
theorem datK:(Rows.laid_internal_strconv_uint64pow10:DataW Unit)=Lib.tabData .u64 Lib.pow10Tab:=by kernel_rfl
theorem gK:Tryz.prog.globalNamed "internal/strconv.uint64pow10" = some 0:=by kernel_rfl
theorem tK:(Tryz.prog.globals[0]?).map (·.type)=some 340:=by kernel_rfl
theorem of_laid {W:World} (h:laidMetH prog laidK W):HasT W:=by
 rw [MakeChecks.laidMetH_plain _ _ _ (by kernel_rfl)] at h;obtain⟨ps,⟨_,_,_,_,_,_,_,_,_,_,⟨_,_,_,_,_,_,_,_,_,_,⟨g2,t2,cs2,f2,p2,q2,G,H,I,F,_,_⟩,_⟩,_⟩,_⟩:=h;obtain rfl:=qag (gK.symm.trans G);obtain rfl:=qag (tK.symm.trans H);rw [datK] at F;unfold HasT Lib.TabIs;rw [I,<-Lib.cells_of_tab underlying340 underlying203 (by kernel_rfl) (by kernel_rfl) F]
section
variable {H:Type} {enc:TypeId×Value->H} {P:Program}
theorem qhI {f:Func} {s:ChangeSpec} {apart Z F Y:Bool} {W W':World} {args:Array Value} {v:Value} {ds gs:List (DataW H)} {before pa pv:List MemPlace}
  (hW:DataW.Whole enc P f.params.toList s.vars apart W args.toList ds gs before)
  (V:∀(b:Nat) (sp:Nat->Bool) (hd:Bool),DataW.TrodAll enc P W' b sp hd f.resultTypes.toList (v.resultList f.resultTypes.size) (s.fn H (ds++gs)).results [])
  (G:∀sp:Nat->Bool,(∀p∈before,sp p.block=true)->DataW.TrodAll enc P W' 0 sp true f.params.toList args.toList (s.fn H (ds++gs)).args pa)
  (J:∀sp:Nat->Bool,(∀p∈before,sp p.block=true)->DataW.TrodVars enc P W' sp s.vars (s.fn H (ds++gs)).vars pv)
  (O:before=pa++pv) (hb:Below W.heap.size W W')
  (ag:∀(j:Nat) (t:TypeId) (r:Value),f.resultTypes[j]? = some t->(v.resultList f.resultTypes.size)[j]? = some r->Value.okWide P W' .any 0 t r) :
  s.post enc P f apart Z F Y W args v W':=by
 have ae:∀p∈before,p.block<W.heap.size:=fun p I=>hW.lt p I
 have U:∀p∈before,(fun b=>decide (b<W.heap.size)) p.block=true:=fun p I=>by simpa using ae p I
 refine⟨ds,gs,before,[],pa,pv,hW,V _ _ _,G _ U,J _ U,World.keptBut_mono (fun p I=>⟨I,?_⟩) (hb.frame (·∈before)),fun _=>?_⟩
 ·rw [O,qaH] at I;exact qak I
 ·obtain⟨_,_,_,_,_,hz,hn⟩:=hW;refine⟨ag,_,_,([]++pa)++pv,⟨[]++pa,pv,trodAll_append (G _ (fun _ _=>rfl)) (V _ _ _),J _ (fun _ _=>rfl),rfl,?_,?_⟩,?_⟩
  ·intro b af I;have aa:MemPlace.cell b af∈before:=by rw [O];simpa using I
   rw [hb.frozen (ae _ aa)];exact hz b af aa
  ·intro ha;have:=hn ha;rw [O] at this
   simpa using this
  ·intro p I _;rw [O]
   simpa using I
theorem Tryz.laidOut:laidOutB prog=true:=by kernel_rfl
end
theorem jf1:laidOutB prog=true:=by kernel_rfl
theorem jf2:mapsRowed prog=true:=by kernel_rfl
theorem jf3:Tryz.prog.plainKeys=true:=by kernel_rfl
theorem jf4:Tryz.prog.stopsHeard=true:=by kernel_rfl
theorem jf5:Tryz.prog.mayEnter=true:=by kernel_rfl
theorem jf6:(Rows.robustKnownRow.lifted == Tryz.prog.liftsFinal)=true:=by kernel_rfl
theorem jf7:(Tryz.prog.make == some Rows.robustKnownRow.make)=true:=by kernel_rfl
end Go.Proofs.YtjalhnlhcdfncaaGreatDoor
namespace Go.Proofs.YtjalhnlhcdfncaaGreatDoor
open Go.RowKit Go.Lib
def body (s:List UInt8):List UInt8:=trimPrefix s [45]
def signd (s:List UInt8):Bool:=hasPrefix s [45]
theorem qhq (s:List UInt8):body (45 :: s)=s/\signd (45 :: s)=true:=⟨rfl,rfl⟩
theorem qhr {s:List UInt8} (h:s.head?≠some 45):body s=s/\signd s=false:=by
 cases s with
 | nil=>exact⟨rfl,rfl⟩
 | cons c t =>
  have G:c≠45:=fun e=>h (by rw [e];rfl)
  have F:hasPrefix (c :: t) [45]=false:=by
   show (45 == c && _)=false
   rw [beq_eq_false_iff_ne.2 (Ne.symm G)];rfl
  refine⟨?_,F⟩
  show trimPrefix (c :: t) [45]=c :: t
  unfold trimPrefix;rw [F];rfl
structure Valid (s:List UInt8):Prop where
 nums:Nums (body s)
 pos:0<(body s).length
 le:(body s).length<=600
 lead:(body s).head? = some 48->(body s).length=1/\signd s=false
def ival (s:List UInt8):Int:=if signd s=true then -(dval (body s):Int) else dval (body s)
theorem Valid.plainly {s:List UInt8} (h:Valid s):qiT (body s):=⟨fun e=>by have:=h.pos;rw [e] at this;exact absurd this (by simp),h.nums,fun e=>(h.lead e).1⟩
theorem Valid.natAbs {s:List UInt8} (_h:Valid s):(ival s).natAbs=dval (body s):=by
 unfold ival;split
 ·rw [qbv,qaq]
 ·rw [qaq]
theorem Valid.neg {s:List UInt8} (h:Valid s):decide (ival s<0)=signd s:=by
 unfold ival;cases hs:signd s with
 | false=>rw [if_neg (by simp)];exact qU (by omega)
 | true =>
  rw [if_pos rfl];refine qV ?_;rcases qaV (dval (body s)) with h0 | h0
  ·have F:=qhe _ h.plainly;rw [h0,qbU (by decide)] at F;have:=(h.lead (by rw [F];rfl)).2;rw [hs] at this;cases this
  ·omega
theorem qkr {v n k:Nat} (h:v<10 ^ n) (F:n<=9*k):Fit v k:=by
 unfold Fit;rw [pow9];exact qai h (qa1 (by decide) F)
theorem Valid.fit {s:List UInt8} (h:Valid s):Fit (ival s).natAbs 67:=by
 rw [h.natAbs];exact qkr (qlo _ _ rfl h.nums) (by have:=h.le;omega)
def itxt (z:Int):List UInt8:=if z<0 then 45 :: decDigits z.natAbs else decDigits z.natAbs
theorem qfF (u:Nat):(decDigits u).head?≠some 45:=by
 cases h:decDigits u with
 | nil=>exact absurd h (qd8 u)
 | cons c t =>
  intro e;have G:c=45:=qag e;have:=qeC u c (by rw [h];exact qa7);rw [G] at this;have F:(45:UInt8).toNat=45:=rfl;omega
theorem qeS (z:Int):body (itxt z)=decDigits z.natAbs/\signd (itxt z)=decide (z<0):=by
 unfold itxt
 by_cases h:z<0
 ·rw [if_pos h,qV h];exact qhq _
 ·rw [if_neg h,qU h];exact qhr (qfF _)
theorem qdt (z:Int):ival (itxt z)=z:=by
 unfold ival;rw [(qeS z).1,(qeS z).2,qgG]
 by_cases h:z<0
 ·rw [if_pos (qV h)];omega
 ·rw [if_neg (by rw [qU h];simp)];omega
theorem qfv {z:Int} (h:(decDigits z.natAbs).length<=600):Valid (itxt z):=by
 obtain⟨F,H⟩:=qeS z;refine⟨by rw [F];exact qeC _,by rw [F];exact List.length_pos_iff.2 (qd8 _),by rw [F];exact h,fun e=>?_⟩;rw [F] at e;have G:=qgF _ e;rw [F,H,G,qbU (by decide)];exact⟨rfl,qU (by omega)⟩
theorem Valid.eq {s:List UInt8} (h:Valid s):s=itxt (ival s):=by
 have H:=qhe _ h.plainly;have I:=h.natAbs;have F:=h.neg;unfold itxt;rw [I,<-H]
 by_cases G:s.head? = some 45
 ·obtain⟨t,rfl⟩:∃t,s=45 :: t:=by
   cases s with
   | nil=>cases G
   | cons c t=>exact⟨t,by rw [qag G]⟩
  rw [(qhq t).2] at F;rw [if_pos (of_decide_eq_true F),(qhq t).1]
 ·rw [(qhr G).2] at F;rw [if_neg (of_decide_eq_false F),(qhr G).1]
theorem isM_ne {W:World} {H:Option Addr} {b F c n g:Nat} {L:List Nat} {cs:Array Value} {t:TypeId} {I:Nat×Nat} (h:IsM W H b F c n L) (hg:W.heap[g]? = some (.cells cs t I)) (hne:∀x∈cs.toList,∀d,x≠.int .u32 d) (J:0<n):b≠g:=by
 rintro rfl;have G:=h.cell 0 J;unfold World.cell? at G;simp only [hg] at G;have O:cs[F+0]? = some (.int .u32 ((dg L 0:Nat):Int)):=by
  simpa using G
 exact hne _ (by rw [Array.mem_toList_iff];exact Array.mem_of_getElem? O) _ rfl
theorem qb5 (W:World) (g:Nat) (cs:Array Value):W.grownBy (W.setRow g cs) (some g):=by
 refine⟨rfl,rfl,rfl,by simp [World.setRow],fun k G F=>?_⟩;exact setRow_other _ _ _ _ (fun e=>F (by rw [e]))
theorem qcj {W W':World} {v:Value} {x g:Nat} {cs:Array Value} {t:TypeId} {G:Nat×Nat} (h:MagAt W v x) (J:W.grownBy W' (some g)) (hg:W.heap[g]? = some (.cells cs t G)) (hne:∀x∈cs.toList,∀d,x≠.int .u32 d):MagAt W' v x:=by
 obtain⟨ao,b,off,c,n,L,rfl,F,I⟩:=h;exact⟨ao,b,off,c,n,L,rfl,⟨F.len,F.cap,qgX J F.cells (fun H=>isM_ne F hg hne (by rw [<-F.len];exact H)),F.dig,F.nrm⟩,I⟩
theorem qdo {W:World} {v:Value} {x g:Nat} {cs cs':Array Value} {t:TypeId} {F:Nat×Nat} (h:MagAt W v x) (hg:W.heap[g]? = some (.cells cs t F)) (hne:∀x∈cs.toList,∀d,x≠.int .u32 d):MagAt (W.setRow g cs') v x:=qcj h (qb5 W g cs') hg hne
theorem qeP:∀x∈(#[.slice none 0 0,.bool false]:Array Value).toList,∀d,x≠.int .u32 d:=by
 intro x F d;rcases qaz.1 F with rfl | F
 ·intro h;cases h
 ·rw [qao.1 F];intro h;cases h
def IntAt (W:World) (v:Value) (z:Int):Prop:=∃m,v=.agg #[m,.bool (decide (z<0))]/\MagAt W m z.natAbs
theorem IntAt.below {W W':World} {v:Value} {z:Int} (h:IntAt W v z) (H:Below W.heap.size W W'):IntAt W' v z:=by
 obtain⟨m,F,G⟩:=h;exact⟨m,F,G.below H⟩
theorem qkV {W:World} {m:Value} {x:Nat} {neg:Bool} (h:MagAt W m x):IntAt W (.agg #[m,.bool (neg && !decide (x=0))]) (if neg=true then -(x:Int) else x):=by
 have G:(neg && !decide (x=0))=decide ((if neg=true then -(x:Int) else x)<0):=by
  cases neg with
  | false=>rw [Bool.false_and,if_neg (by simp)];exact (qU (by omega)).symm
  | true =>
   rw [if_pos rfl,Bool.true_and]
   by_cases F:x=0
   ·rw [qV F];exact (qU (by omega)).symm
   ·rw [qU F];exact (qV (by omega)).symm
 rw [G];refine⟨m,rfl,?_⟩
 ·cases neg with
  | false=>simpa using h
  | true=>rw [if_pos rfl,qbv,qaq];exact h
