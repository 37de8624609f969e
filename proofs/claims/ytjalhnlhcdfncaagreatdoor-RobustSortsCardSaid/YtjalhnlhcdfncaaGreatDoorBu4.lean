import Derived.Below
import Derived.ChangeSame
import Derived.LaidLaws
import Derived.LaidMore
import Derived.Laws.BitsLemmas
import Derived.Laws.Externs
import Derived.Laws.IdiomCopy
import Derived.Lay
import Derived.Lib.AppendIntMem
import Derived.Lib.AppendStr
import Derived.Lib.Builder
import Derived.Lib.LaidTab
import Derived.Lib.MakeNoZero
import Derived.Lib.Slices
import Derived.Lib.SmallJoins
import Derived.Lib.Strings
import Derived.Lib.UnsafeStr
import Derived.Lib.Walk
import Derived.OpenShut
import Derived.ProofKit
import Derived.SevenTiedAt
import Derived.Shelf.Abstract
import Derived.Stop.Joined
import Derived.Test.YtjalhnlhcdfncaaGreatDoorBu2
import Derived.Test.YtjalhnlhcdfncaaGreatDoorBu3
import Derived.Test.YtjalhnlhcdfncaaGreatDoorCards
import Derived.Test.YtjalhnlhcdfncaaGreatDoorRows
import Derived.Test.YtjalhnlhcdfncaaGreatDoorTie
set_option maxRecDepth 100000
set_option maxHeartbeats 0
namespace Go.Proofs.YtjalhnlhcdfncaaGreatDoor
open Go.RowKit Go.Shelf Go.Proofs.Tryz
theorem qmD:(Tryz.prog.info? 301).map (·.size)=some 2:=by kernel_rfl
theorem qmE:(Tryz.prog.info? 5).map (fun i=>(i.zero,i.size,i.bytes))=some (some (.int .u8 0),1,1):=by kernel_rfl
theorem lies_sb:liesAt prog Tryz.prog.depth 301 (2 / Tryz.prog.cellsOf 301) 0 301 1=true:=by kernel_rfl
theorem qhe (b:Nat) (w:World) (G:w.cell? ⟨b,0,none⟩=some (.pointer (some ⟨b,0,none⟩))) :
  Calls prog 252 #[.pointer (some ⟨b,0,none⟩)] w fun e F=>e=.returned (.tuple #[])/\F=w:=by
 obtain⟨j,E,_⟩:=Option.map_eq_some_iff.1 qmD;go_enter func252,ntmps252;go_wp2;rw [Lib.run_neq_ptr_same w _ underlying298 E];go_wp2
 go_end0
 exact⟨rfl,rfl⟩
theorem qgs (b:Nat) (w:World) (J:w.cell? ⟨b,0,none⟩=some (.pointer none)) (E:w.shape? b=some (301,2)) (H:w.frozen? ⟨b,0,none⟩=false) :
  Calls prog 252 #[.pointer (some ⟨b,0,none⟩)] w fun e I=>e=.returned (.tuple #[])/\I=w.setCell ⟨b,0,none⟩ (.pointer (some ⟨b,0,none⟩)):=by
 obtain⟨j,G,F⟩:=Option.map_eq_some_iff.1 qmD;go_enter func252,ntmps252;go_wp2;rw [Lib.run_to_unsafe w ⟨b,0,none⟩ underlying298 underlying334 G (by rw [F];decide) E (Nat.zero_lt_succ 1)];simp only [Result.andThen];rw [Oper.upon_value];go_wp2;rw [run_callFunc_extern func264 (by kernel_rfl) (by kernel_rfl) (by kernel_rfl) (e:=Extern.AbiNoEscape.same) (by kernel_rfl)];rw [Lib.run_noEscape];simp only [Result.andThen];rw [Oper.upon_value];go_wp2;rw [Lib.run_from_unsafe w ⟨b,0,none⟩ underlying334 underlying298 G E lies_sb];simp only [Result.andThen];rw [Oper.upon_value];go_wp2
 go_end0
 exact⟨rfl,rfl⟩
abbrev Bd (B b:Nat) (p:Value) (E:List Value) (w:World):Prop:=Lib.BuilderAt 301 5 B b p E w
abbrev IsBd (B b:Nat) (E:List Value) (w:World):Prop:=Lib.IsBuilder 301 5 B b E w
theorem qfg (B b:Nat) (F:List Value) (w:World) (h:IsBd B b F w) :
  Calls prog 252 #[.pointer (some ⟨b,0,none⟩)] w fun e E=>e=.returned (.tuple #[])/\(Bd B b (.pointer (some ⟨b,0,none⟩)) F E/\Below B w E):=by
 rcases h with h | h
 ·refine (qgs b w h.cell0 h.shape h.frozen0).mono ?_;rintro e E ⟨rfl,rfl⟩;exact⟨rfl,h.used _,(Below.refl B w).setCell (p:=⟨b,0,none⟩) h.1 _⟩
 ·refine (qhe b w h.cell0).mono ?_;rintro e E ⟨rfl,rfl⟩;exact⟨rfl,h,Below.refl B _⟩
theorem qig (B b:Nat) (O:List Value) (c:Int) (w:World) (h:IsBd B b O w) (ag:O.length+1<=140737488355328) (ah:B<=w.heap.size) :
  Calls prog 229 #[.pointer (some ⟨b,0,none⟩),.int .u8 c] w fun e w'=>e=.returned .nilIface/\(Bd B b (.pointer (some ⟨b,0,none⟩)) (O++[.int .u8 c]) w'/\Below B w w'):=by
 obtain⟨i0,hi,aa,ae,af⟩:=info_parts qmE;go_enter func229,ntmps229
 go_wp2_with (go_at_call 252;refine (qfg B b O _ h).mono ?_)
 rintro e U ⟨rfl,h1,G⟩;obtain⟨hB,v,I,J,hne⟩:=h1;have c0:U.cell? ⟨b,0,none⟩=some (.pointer (some ⟨b,0,none⟩)):=by rw [Lib.cell_of_heap I];rfl
 have c1:U.cell? ⟨b,1,none⟩=some v:=by rw [Lib.cell_of_heap I];rfl
 go_wp2_with (at_builtin;refine wpList_append_own _ rfl _ _ 299 rfl B 5 i0 (.int .u8 0) 1 1 underlying299 hi aa ae af rfl (by decide) _ _ _ rfl (J.alloc _) ⟨U.heap.size,0,none⟩ 1 1 [.int .u8 c] rfl rfl ?c1 ?c2 ?c3 ?c4 ?c5 ?_)
 case c1 =>
  intro j u V
  match j,V with
  | 0,V=>simp at V;subst V;simp [Addr.add]
 case c2=>intro u hu;simp at hu;subst hu;rfl
 case c3=>unfold maxLen;omega
 case c4=>omega
 case c5=>have:=G.size;simp;omega
 intro v' Y F E _;have Z:b<U.heap.size:=by
  rcases qaB b U.heap.size with h' | h'
  ·exact h'
  ·simp [Array.getElem?_eq_none h'] at I
 have H:Y.heap[b]? = some (.cells #[.pointer (some ⟨b,0,none⟩),v] 301 (0,0)):=by
  rw [E.block b (by simp;omega) (fun e=>hne e.symm),Lib.alloc_old U _ b Z];exact I
 have d0:Y.cell? ⟨b,0,none⟩=some (.pointer (some ⟨b,0,none⟩)):=by rw [Lib.cell_of_heap H];rfl
 have d1:Y.cell? ⟨b,1,none⟩=some v:=by rw [Lib.cell_of_heap H];rfl
 have f1:Y.frozen? ⟨b,1,none⟩=false:=Lib.frozen_of_heap H 1;obtain⟨g,cap,rfl⟩:∃g cap,v'=.slice (some ⟨g,0,none⟩) (O.length+1) cap:=by
  rcases F.2 with ⟨_,h0⟩ | ⟨g,cap,cur,hv,_⟩
  ·omega
  ·exact⟨g,cap,hv⟩
 go_wp2;go_ret;refine⟨rfl,?_,?_⟩
 ·exact Lib.BuilderAt.put (T:=301) (e:=5) hB H (bs':=O++[.int .u8 c]) (by simpa using F) (by decide)
 ·exact ((G.alloc (by have:=G.size;omega) _).grown E (by have:=G.size;simp;omega) (fun k hk=>(J.lt k hk).1)).setCell (p:=⟨b,1,none⟩) hB _
theorem qhd (B b:Nat) (O:List Value) (s:ByteArray) (w:World) (h:IsBd B b O w) (ag:O.length+s.size<=140737488355328) (ah:B<=w.heap.size) :
  Calls prog 230 #[.pointer (some ⟨b,0,none⟩),.string s] w fun e w'=>e=.returned (.tuple #[.int .i64 s.size,.nilIface])/\(Bd B b (.pointer (some ⟨b,0,none⟩)) (O++Lib.strCells s) w'/\Below B w w'):=by
 obtain⟨i0,hi,aa,ae,af⟩:=info_parts qmE;go_enter func230,ntmps230
 go_wp2_with (go_at_call 252;refine (qfg B b O _ h).mono ?_)
 rintro e U ⟨rfl,h1,J⟩;obtain⟨hB,v,H,I,hne⟩:=h1;have c0:U.cell? ⟨b,0,none⟩=some (.pointer (some ⟨b,0,none⟩)):=by rw [Lib.cell_of_heap H];rfl
 have c1:U.cell? ⟨b,1,none⟩=some v:=by rw [Lib.cell_of_heap H];rfl
 go_wp2_with (at_builtin;refine Lib.wpList_append_own_string _ rfl _ _ 299 9 rfl B 5 i0 underlying299 underlying9 hi aa ae af _ _ _ rfl I s rfl ?c3 ?c4 ?c5 ?_)
 case c3=>unfold maxLen;omega
 case c4=>omega
 case c5=>have:=J.size;omega
 intro v' V F E _;have Y:b<U.heap.size:=by
  rcases qaB b U.heap.size with h' | h'
  ·exact h'
  ·simp [Array.getElem?_eq_none h'] at H
 have G:V.heap[b]? = some (.cells #[.pointer (some ⟨b,0,none⟩),v] 301 (0,0)):=by
  rw [E.block b Y (fun e=>hne e.symm)];exact H
 have d0:V.cell? ⟨b,0,none⟩=some (.pointer (some ⟨b,0,none⟩)):=by rw [Lib.cell_of_heap G];rfl
 have d1:V.cell? ⟨b,1,none⟩=some v:=by rw [Lib.cell_of_heap G];rfl
 have f1:V.frozen? ⟨b,1,none⟩=false:=Lib.frozen_of_heap G 1;obtain⟨ao,n',cap,rfl⟩:∃ao n' cap,v'=.slice ao n' cap:=by
  rcases F.2 with ⟨Z,_⟩ | ⟨g,cap,cur,Z,_⟩
  ·exact⟨_,_,_,Z⟩
  ·exact⟨_,_,_,Z⟩
 go_wp2
 go_ret2
 refine⟨rfl,?_,?_⟩
 ·exact Lib.BuilderAt.put (T:=301) (e:=5) hB G (bs':=O++Lib.strCells s) (by simpa [Lib.strCells_length] using F) (by decide)
 ·exact (J.grown E (by have:=J.size;omega) (fun k hk=>(I.lt k hk).1)).setCell (p:=⟨b,1,none⟩) hB _
end Go.Proofs.YtjalhnlhcdfncaaGreatDoor
namespace Go.Proofs.YtjalhnlhcdfncaaGreatDoor
open Go.RowKit Go.Proofs.Tryz
def HasT (w:World):Prop:=Lib.TabIs prog w "internal/strconv.uint64pow10" .u64 Lib.pow10Tab
theorem HasT.below {w E:World} (h:HasT w) (F:Below w.heap.size w E):HasT E:=Lib.tabBelow_of_tabIs h E F
def num (x:Nat):ByteArray:=⟨(Lib.decDigits x).toArray⟩
theorem qdG (x:Nat):(num x).size=(Lib.decDigits x).length:=rfl
theorem qkr (n:Nat) (F:n<9223372036854775808) (w:World) (hT:HasT w) :
  Calls prog 124 #[.int .i64 (n:Int)] w fun e E=>e=.returned (.string (num n))/\Below w.heap.size w E:=by
 refine (Tryz.strconv_Itoa (n:Int) (by omega) (by omega) w hT).mono ?_;rintro e E ⟨rfl,k,os,rfl⟩;refine⟨?_,Lib.below_grow _ _ qN _ _⟩;have:Lib.itoa (n:Int)=Lib.decDigits n:=by
  unfold Lib.itoa;rw [if_neg (by omega),Int.toNat_natCast]
 rw [this];rfl
theorem qkd {B b:Nat} {p:Value} {H:List Value} {w G:World} (h:Bd B b p H w) (E:Below w.heap.size w G):Bd B b p H G:=by
 obtain⟨J,v,I,O,U⟩:=h;have F:=(qG I).1;have hg:w.grownBy G none:=⟨E.os,E.tape,E.output,E.size,fun k V _=>E.block k V⟩;refine⟨J,v,(E.block b F).trans I,O.kept hg ?_,U⟩;cases v.ownBlock with
 | none=>exact qax rfl
 | some k=>exact qam (by simp)
theorem qlb {B b:Nat} {E:List Value} {w G:World} (h:IsBd B b E w) (F:Below w.heap.size w G):IsBd B b E G:=h.elim (fun h=>.inl (qkd h F)) (fun h=>.inr (qkd h F))
open Go.ChangeShapes Go.WideShapes Go.ChangeAt
abbrev laidK:List (String×DataW Unit):=[("math/bits.deBruijn32tab", Rows.laid_math_bits_deBruijn32tab),("math/bits.deBruijn64tab", Rows.laid_math_bits_deBruijn64tab),("internal/strconv.uint64pow10", Rows.laid_internal_strconv_uint64pow10)]
theorem Tryz.own:ownKnob Tryz.prog.godebug=none:=by kernel_rfl
theorem datK:(Rows.laid_internal_strconv_uint64pow10:DataW Unit)=Lib.tabData .u64 Lib.pow10Tab:=by kernel_rfl
theorem gK:Tryz.prog.globalNamed "internal/strconv.uint64pow10" = some 0:=by kernel_rfl
theorem tK:(Tryz.prog.globals[0]?).map (·.type)=some 340:=by kernel_rfl
theorem of_laid {W:World} (h:laidMetH prog laidK W):HasT W:=by
 rw [MakeChecks.laidMetH_plain _ _ _ (by kernel_rfl)] at h;obtain⟨ps,⟨_,_,_,_,_,_,_,_,_,_,⟨_,_,_,_,_,_,_,_,_,_,⟨g2,t2,cs2,f2,p2,q2,F,G,H,E,_,_⟩,_⟩,_⟩,_⟩:=h;obtain rfl:=qag (gK.symm.trans F);obtain rfl:=qag (tK.symm.trans G);rw [datK] at E;unfold HasT Lib.TabIs;rw [H,<-Lib.cells_of_tab underlying340 underlying203 (by kernel_rfl) (by kernel_rfl) E]
section
variable {H:Type} {enc:TypeId×Value->H} {P:Program}
theorem qh6 {f:Func} {s:ChangeSpec} {apart Z F Y:Bool} {W W':World} {args:Array Value} {v:Value} {ds gs:List (DataW H)} {E pa pv:List MemPlace}
  (hW:DataW.Whole enc P f.params.toList s.vars apart W args.toList ds gs E)
  (V:∀(b:Nat) (sp:Nat->Bool) (hd:Bool),DataW.TrodAll enc P W' b sp hd f.resultTypes.toList (v.resultList f.resultTypes.size) (s.fn H (ds++gs)).results [])
  (G:∀sp:Nat->Bool,(∀p∈E,sp p.block=true)->DataW.TrodAll enc P W' 0 sp true f.params.toList args.toList (s.fn H (ds++gs)).args pa)
  (J:∀sp:Nat->Bool,(∀p∈E,sp p.block=true)->DataW.TrodVars enc P W' sp s.vars (s.fn H (ds++gs)).vars pv)
  (O:E=pa++pv) (hb:Below W.heap.size W W')
  (ag:∀(j:Nat) (t:TypeId) (r:Value),f.resultTypes[j]? = some t->(v.resultList f.resultTypes.size)[j]? = some r->Value.okWide P W' .any 0 t r) :
  s.post enc P f apart Z F Y W args v W':=by
 have ae:∀p∈E,p.block<W.heap.size:=fun p I=>hW.lt p I
 have U:∀p∈E,(fun b=>decide (b<W.heap.size)) p.block=true:=fun p I=>by simpa using ae p I
 refine⟨ds,gs,E,[],pa,pv,hW,V _ _ _,G _ U,J _ U,World.keptBut_mono (fun p I=>⟨I,?_⟩) (hb.frame (·∈E)),fun _=>?_⟩
 ·rw [O,qaI] at I;exact qam I
 ·obtain⟨_,_,_,_,_,hz,hn⟩:=hW;refine⟨ag,_,_,([]++pa)++pv,⟨[]++pa,pv,trodAll_append (G _ (fun _ _=>rfl)) (V _ _ _),J _ (fun _ _=>rfl),rfl,?_,?_⟩,?_⟩
  ·intro b af I;have aa:MemPlace.cell b af∈E:=by rw [O];simpa using I
   rw [hb.frozen (ae _ aa)];exact hz b af aa
  ·intro ha;have:=hn ha;rw [O] at this
   simpa using this
  ·intro p I _;rw [O]
   simpa using I
theorem Tryz.laidOut:laidOutB prog=true:=by kernel_rfl
end
theorem jf1:laidOutB prog=true:=by kernel_rfl
theorem jf2:mapsRowed prog=true:=by kernel_rfl
theorem jf3:Tryz.prog.plainKeys=true:=by kernel_rfl
theorem jf4:Tryz.prog.stopsHeard=true:=by kernel_rfl
theorem jf5:Tryz.prog.mayEnter=true:=by kernel_rfl
theorem jf6:(Rows.robustKnownRow.lifted == Tryz.prog.liftsFinal)=true:=by kernel_rfl
theorem jf7:(Tryz.prog.make == some Rows.robustKnownRow.make)=true:=by kernel_rfl
end Go.Proofs.YtjalhnlhcdfncaaGreatDoor
namespace Go.Proofs.YtjalhnlhcdfncaaGreatDoor
open Go.RowKit Go.Lib
def body (s:List UInt8):List UInt8:=trimPrefix s [45]
def signd (s:List UInt8):Bool:=hasPrefix s [45]
theorem qhN (s:List UInt8):body (45 :: s)=s/\signd (45 :: s)=true:=⟨rfl,rfl⟩
theorem qhO {s:List UInt8} (h:s.head?≠some 45):body s=s/\signd s=false:=by
 cases s with
 | nil=>exact⟨rfl,rfl⟩
 | cons c t =>
  have F:c≠45:=fun e=>h (by rw [e];rfl)
  have E:hasPrefix (c :: t) [45]=false:=by
   show (45 == c && _)=false
   rw [beq_eq_false_iff_ne.2 (Ne.symm F)];rfl
  refine⟨?_,E⟩
  show trimPrefix (c :: t) [45]=c :: t
  unfold trimPrefix;rw [E];rfl
structure Valid (s:List UInt8):Prop where
 nums:Nums (body s)
 pos:0<(body s).length
 le:(body s).length<=600
 lead:(body s).head? = some 48->(body s).length=1/\signd s=false
def ival (s:List UInt8):Int:=if signd s=true then -(dval (body s):Int) else dval (body s)
theorem Valid.plainly {s:List UInt8} (h:Valid s):qjr (body s):=⟨fun e=>by have:=h.pos;rw [e] at this;exact absurd this (by simp),h.nums,fun e=>(h.lead e).1⟩
theorem Valid.natAbs {s:List UInt8} (_h:Valid s):(ival s).natAbs=dval (body s):=by
 unfold ival;split
 ·rw [qbv,qar]
 ·rw [qar]
theorem Valid.neg {s:List UInt8} (h:Valid s):decide (ival s<0)=signd s:=by
 unfold ival;cases hs:signd s with
 | false=>rw [if_neg (by simp)];exact qU (by omega)
 | true =>
  rw [if_pos rfl];refine qV ?_;rcases qaU (dval (body s)) with h0 | h0
  ·have E:=qhD _ h.plainly;rw [h0,qb7 (by decide)] at E;have:=(h.lead (by rw [E];rfl)).2;rw [hs] at this;cases this
  ·omega
theorem qkZ {v n k:Nat} (h:v<10 ^ n) (E:n<=9*k):Fit v k:=by
 unfold Fit;rw [pow9];exact qak h (qa9 (by decide) E)
theorem Valid.fit {s:List UInt8} (h:Valid s):Fit (ival s).natAbs 67:=by
 rw [h.natAbs];exact qkZ (qmc _ _ rfl h.nums) (by have:=h.le;omega)
def itxt (z:Int):List UInt8:=if z<0 then 45 :: decDigits z.natAbs else decDigits z.natAbs
theorem qgd (u:Nat):(decDigits u).head?≠some 45:=by
 cases h:decDigits u with
 | nil=>exact absurd h (qdU u)
 | cons c t =>
  intro e;have F:c=45:=qag e;have:=qeY u c (by rw [h];exact qa8);rw [F] at this;have E:(45:UInt8).toNat=45:=rfl;omega
theorem qff (z:Int):body (itxt z)=decDigits z.natAbs/\signd (itxt z)=decide (z<0):=by
 unfold itxt
 by_cases h:z<0
 ·rw [if_pos h,qV h];exact qhN _
 ·rw [if_neg h,qU h];exact qhO (qgd _)
theorem qdP (z:Int):ival (itxt z)=z:=by
 unfold ival;rw [(qff z).1,(qff z).2,qhf]
 by_cases h:z<0
 ·rw [if_pos (qV h)];omega
 ·rw [if_neg (by rw [qU h];simp)];omega
theorem qfX {z:Int} (h:(decDigits z.natAbs).length<=600):Valid (itxt z):=by
 obtain⟨E,G⟩:=qff z;refine⟨by rw [E];exact qeY _,by rw [E];exact List.length_pos_iff.2 (qdU _),by rw [E];exact h,fun e=>?_⟩;rw [E] at e;have F:=qeX _ e;rw [E,G,F,qb7 (by decide)];exact⟨rfl,qU (by omega)⟩
theorem Valid.eq {s:List UInt8} (h:Valid s):s=itxt (ival s):=by
 have G:=qhD _ h.plainly;have H:=h.natAbs;have E:=h.neg;unfold itxt;rw [H,<-G]
 by_cases F:s.head? = some 45
 ·obtain⟨t,rfl⟩:∃t,s=45 :: t:=by
   cases s with
   | nil=>cases F
   | cons c t=>exact⟨t,by rw [qag F]⟩
  rw [(qhN t).2] at E;rw [if_pos (of_decide_eq_true E),(qhN t).1]
 ·rw [(qhO F).2] at E;rw [if_neg (of_decide_eq_false E),(qhO F).1]
theorem qmG {W:World} {G:Option Addr} {b E c n g:Nat} {L:List Nat} {cs:Array Value} {t:TypeId} {H:Nat×Nat} (h:IsM W G b E c n L) (hg:W.heap[g]? = some (.cells cs t H)) (hne:∀x∈cs.toList,∀d,x≠.int .u32 d) (I:0<n):b≠g:=by
 rintro rfl;have F:=h.cell 0 I;unfold World.cell? at F;simp only [hg] at F;have J:cs[E+0]? = some (.int .u32 ((dg L 0:Nat):Int)):=by
  simpa using F
 exact hne _ (by rw [Array.mem_toList_iff];exact Array.mem_of_getElem? J) _ rfl
theorem qce (W:World) (g:Nat) (cs:Array Value):W.grownBy (W.setRow g cs) (some g):=by
 refine⟨rfl,rfl,rfl,by simp [World.setRow],fun k E hr=>?_⟩;exact setRow_other _ _ _ _ (fun e=>hr (by rw [e]))
theorem qcq {W W':World} {v:Value} {x g:Nat} {cs:Array Value} {t:TypeId} {F:Nat×Nat} (h:MagAt W v x) (I:W.grownBy W' (some g)) (hg:W.heap[g]? = some (.cells cs t F)) (hne:∀x∈cs.toList,∀d,x≠.int .u32 d):MagAt W' v x:=by
 obtain⟨ao,b,off,c,n,L,rfl,E,H⟩:=h;exact⟨ao,b,off,c,n,L,rfl,⟨E.len,E.cap,qeJ I E.cells (fun G=>qmG E hg hne (by rw [<-E.len];exact G)),E.dig,E.nrm⟩,H⟩
theorem qcY {W:World} {v:Value} {x g:Nat} {cs cs':Array Value} {t:TypeId} {E:Nat×Nat} (h:MagAt W v x) (hg:W.heap[g]? = some (.cells cs t E)) (hne:∀x∈cs.toList,∀d,x≠.int .u32 d):MagAt (W.setRow g cs') v x:=qcq h (qce W g cs') hg hne
theorem qfa:∀x∈(#[.slice none 0 0,.bool false]:Array Value).toList,∀d,x≠.int .u32 d:=by
 intro x hx d;rcases qav.1 hx with rfl | hx
 ·intro h;cases h
 ·rw [qan.1 hx];intro h;cases h
def IntAt (W:World) (v:Value) (z:Int):Prop:=∃m,v=.agg #[m,.bool (decide (z<0))]/\MagAt W m z.natAbs
theorem IntAt.below {W W':World} {v:Value} {z:Int} (h:IntAt W v z) (G:Below W.heap.size W W'):IntAt W' v z:=by
 obtain⟨m,E,F⟩:=h;exact⟨m,E,F.below G⟩
theorem qlE {W:World} {m:Value} {x:Nat} {neg:Bool} (h:MagAt W m x):IntAt W (.agg #[m,.bool (neg && !decide (x=0))]) (if neg=true then -(x:Int) else x):=by
 have F:(neg && !decide (x=0))=decide ((if neg=true then -(x:Int) else x)<0):=by
  cases neg with
  | false=>rw [Bool.false_and,if_neg (by simp)];exact (qU (by omega)).symm
  | true =>
   rw [if_pos rfl,Bool.true_and]
   by_cases E:x=0
   ·rw [qV E];exact (qU (by omega)).symm
   ·rw [qU E];exact (qV (by omega)).symm
 rw [F];refine⟨m,rfl,?_⟩
 ·cases neg with
  | false=>simpa using h
  | true=>rw [if_pos rfl,qbv,qar];exact h
