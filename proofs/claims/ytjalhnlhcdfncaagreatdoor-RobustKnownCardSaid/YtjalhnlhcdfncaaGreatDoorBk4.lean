import Derived.Below
import Derived.ChangeSame
import Derived.LaidLaws
import Derived.LaidMore
import Derived.Laws.BitsLemmas
import Derived.Laws.Externs
import Derived.Laws.IdiomCopy
import Derived.Lay
import Derived.Lib.AppendIntMem
import Derived.Lib.AppendStr
import Derived.Lib.Builder
import Derived.Lib.LaidTab
import Derived.Lib.MakeNoZero
import Derived.Lib.Slices
import Derived.Lib.SmallJoins
import Derived.Lib.Strings
import Derived.Lib.UnsafeStr
import Derived.Lib.Walk
import Derived.OpenShut
import Derived.ProofKit
import Derived.SevenTiedAt
import Derived.Shelf.Abstract
import Derived.Stop.Joined
import Derived.Test.YtjalhnlhcdfncaaGreatDoorBk2
import Derived.Test.YtjalhnlhcdfncaaGreatDoorBk3
import Derived.Test.YtjalhnlhcdfncaaGreatDoorCards
import Derived.Test.YtjalhnlhcdfncaaGreatDoorRows
import Derived.Test.YtjalhnlhcdfncaaGreatDoorTie
set_option maxRecDepth 100000
set_option maxHeartbeats 0
namespace Go.Proofs.YtjalhnlhcdfncaaGreatDoor
open Go.RowKit Go.Shelf Go.Proofs.Tryz
theorem qlJ:(Tryz.prog.info? 301).map (·.size)=some 2:=by kernel_rfl
theorem qlK:(Tryz.prog.info? 5).map (fun i=>(i.zero,i.size,i.bytes))=some (some (.int .u8 0),1,1):=by kernel_rfl
theorem lies_sb:liesAt prog Tryz.prog.depth 301 (2 / Tryz.prog.cellsOf 301) 0 301 1=true:=by kernel_rfl
theorem qgN (b:Nat) (w:World) (G:w.cell? ⟨b,0,none⟩=some (.pointer (some ⟨b,0,none⟩))) :
  Calls prog 252 #[.pointer (some ⟨b,0,none⟩)] w fun e w'=>e=.returned (.tuple #[])/\w'=w:=by
 obtain⟨j,F,_⟩:=Option.map_eq_some_iff.1 qlJ;go_enter func252,ntmps252;go_wp2;rw [Lib.run_neq_ptr_same w _ underlying298 F];go_wp2
 go_end0
 exact⟨rfl,rfl⟩
theorem qf6 (b:Nat) (w:World) (J:w.cell? ⟨b,0,none⟩=some (.pointer none)) (F:w.shape? b=some (301,2)) (I:w.frozen? ⟨b,0,none⟩=false) :
  Calls prog 252 #[.pointer (some ⟨b,0,none⟩)] w fun e w'=>e=.returned (.tuple #[])/\w'=w.setCell ⟨b,0,none⟩ (.pointer (some ⟨b,0,none⟩)):=by
 obtain⟨j,H,G⟩:=Option.map_eq_some_iff.1 qlJ;go_enter func252,ntmps252;go_wp2;rw [Lib.run_to_unsafe w ⟨b,0,none⟩ underlying298 underlying334 H (by rw [G];decide) F (Nat.zero_lt_succ 1)];simp only [Result.andThen];rw [Oper.upon_value];go_wp2;rw [run_callFunc_extern func264 (by kernel_rfl) (by kernel_rfl) (by kernel_rfl) (e:=Extern.AbiNoEscape.same) (by kernel_rfl)];rw [Lib.run_noEscape];simp only [Result.andThen];rw [Oper.upon_value];go_wp2;rw [Lib.run_from_unsafe w ⟨b,0,none⟩ underlying334 underlying298 H F lies_sb];simp only [Result.andThen];rw [Oper.upon_value];go_wp2
 go_end0
 exact⟨rfl,rfl⟩
abbrev Bd (B b:Nat) (p:Value) (F:List Value) (w:World):Prop:=Lib.BuilderAt 301 5 B b p F w
abbrev IsBd (B b:Nat) (F:List Value) (w:World):Prop:=Lib.IsBuilder 301 5 B b F w
theorem qeW (B b:Nat) (F:List Value) (w:World) (h:IsBd B b F w) :
  Calls prog 252 #[.pointer (some ⟨b,0,none⟩)] w fun e w'=>e=.returned (.tuple #[])/\(Bd B b (.pointer (some ⟨b,0,none⟩)) F w'/\Below B w w'):=by
 rcases h with h | h
 ·refine (qf6 b w h.cell0 h.shape h.frozen0).mono ?_;rintro e w' ⟨rfl,rfl⟩;exact⟨rfl,h.used _,(Below.refl B w).setCell (p:=⟨b,0,none⟩) h.1 _⟩
 ·refine (qgN b w h.cell0).mono ?_;rintro e w' ⟨rfl,rfl⟩;exact⟨rfl,h,Below.refl B _⟩
theorem qhU (B b:Nat) (U:List Value) (c:Int) (w:World) (h:IsBd B b U w) (ah:U.length+1<=140737488355328) (ai:B<=w.heap.size) :
  Calls prog 229 #[.pointer (some ⟨b,0,none⟩),.int .u8 c] w fun e w'=>e=.returned .nilIface/\(Bd B b (.pointer (some ⟨b,0,none⟩)) (U++[.int .u8 c]) w'/\Below B w w'):=by
 obtain⟨i0,hi,ae,af,ag⟩:=info_parts qlK;go_enter func229,ntmps229
 go_wp2_with (go_at_call 252;refine (qeW B b U _ h).mono ?_)
 rintro e V ⟨rfl,h1,H⟩;obtain⟨hB,v,J,O,hne⟩:=h1;have c0:V.cell? ⟨b,0,none⟩=some (.pointer (some ⟨b,0,none⟩)):=by rw [Lib.cell_of_heap J];rfl
 have c1:V.cell? ⟨b,1,none⟩=some v:=by rw [Lib.cell_of_heap J];rfl
 go_wp2_with (at_builtin;refine wpList_append_own _ rfl _ _ 299 rfl B 5 i0 (.int .u8 0) 1 1 underlying299 hi ae af ag rfl (by decide) _ _ _ rfl (O.alloc _) ⟨V.heap.size,0,none⟩ 1 1 [.int .u8 c] rfl rfl ?c1 ?c2 ?c3 ?c4 ?c5 ?_)
 case c1 =>
  intro j u Y
  match j,Y with
  | 0,Y=>simp at Y;subst Y;simp [Addr.add]
 case c2=>intro u hu;simp at hu;subst hu;rfl
 case c3=>unfold maxLen;omega
 case c4=>omega
 case c5=>have:=H.size;simp;omega
 intro v' Z G F _;have aa:b<V.heap.size:=by
  rcases qaV b V.heap.size with h' | h'
  ·exact h'
  ·simp [Array.getElem?_eq_none h'] at J
 have I:Z.heap[b]? = some (.cells #[.pointer (some ⟨b,0,none⟩),v] 301 (0,0)):=by
  rw [F.block b (by simp;omega) (fun e=>hne e.symm),Lib.alloc_old V _ b aa];exact J
 have d0:Z.cell? ⟨b,0,none⟩=some (.pointer (some ⟨b,0,none⟩)):=by rw [Lib.cell_of_heap I];rfl
 have d1:Z.cell? ⟨b,1,none⟩=some v:=by rw [Lib.cell_of_heap I];rfl
 have f1:Z.frozen? ⟨b,1,none⟩=false:=Lib.frozen_of_heap I 1;obtain⟨g,cap,rfl⟩:∃g cap,v'=.slice (some ⟨g,0,none⟩) (U.length+1) cap:=by
  rcases G.2 with ⟨_,h0⟩ | ⟨g,cap,cur,hv,_⟩
  ·omega
  ·exact⟨g,cap,hv⟩
 go_wp2;go_ret;refine⟨rfl,?_,?_⟩
 ·exact Lib.BuilderAt.put (T:=301) (e:=5) hB I (bs':=U++[.int .u8 c]) (by simpa using G) (by decide)
 ·exact ((H.alloc (by have:=H.size;omega) _).grown F (by have:=H.size;simp;omega) (fun k hk=>(O.lt k hk).1)).setCell (p:=⟨b,1,none⟩) hB _
theorem qgM (B b:Nat) (U:List Value) (s:ByteArray) (w:World) (h:IsBd B b U w) (ag:U.length+s.size<=140737488355328) (ah:B<=w.heap.size) :
  Calls prog 230 #[.pointer (some ⟨b,0,none⟩),.string s] w fun e w'=>e=.returned (.tuple #[.int .i64 s.size,.nilIface])/\(Bd B b (.pointer (some ⟨b,0,none⟩)) (U++Lib.strCells s) w'/\Below B w w'):=by
 obtain⟨i0,hi,aa,ae,af⟩:=info_parts qlK;go_enter func230,ntmps230
 go_wp2_with (go_at_call 252;refine (qeW B b U _ h).mono ?_)
 rintro e V ⟨rfl,h1,O⟩;obtain⟨hB,v,I,J,hne⟩:=h1;have c0:V.cell? ⟨b,0,none⟩=some (.pointer (some ⟨b,0,none⟩)):=by rw [Lib.cell_of_heap I];rfl
 have c1:V.cell? ⟨b,1,none⟩=some v:=by rw [Lib.cell_of_heap I];rfl
 go_wp2_with (at_builtin;refine Lib.wpList_append_own_string _ rfl _ _ 299 9 rfl B 5 i0 underlying299 underlying9 hi aa ae af _ _ _ rfl J s rfl ?c3 ?c4 ?c5 ?_)
 case c3=>unfold maxLen;omega
 case c4=>omega
 case c5=>have:=O.size;omega
 intro v' Y G F _;have Z:b<V.heap.size:=by
  rcases qaV b V.heap.size with h' | h'
  ·exact h'
  ·simp [Array.getElem?_eq_none h'] at I
 have H:Y.heap[b]? = some (.cells #[.pointer (some ⟨b,0,none⟩),v] 301 (0,0)):=by
  rw [F.block b Z (fun e=>hne e.symm)];exact I
 have d0:Y.cell? ⟨b,0,none⟩=some (.pointer (some ⟨b,0,none⟩)):=by rw [Lib.cell_of_heap H];rfl
 have d1:Y.cell? ⟨b,1,none⟩=some v:=by rw [Lib.cell_of_heap H];rfl
 have f1:Y.frozen? ⟨b,1,none⟩=false:=Lib.frozen_of_heap H 1;obtain⟨ao,n',cap,rfl⟩:∃ao n' cap,v'=.slice ao n' cap:=by
  rcases G.2 with ⟨hv,_⟩ | ⟨g,cap,cur,hv,_⟩
  ·exact⟨_,_,_,hv⟩
  ·exact⟨_,_,_,hv⟩
 go_wp2
 go_ret2
 refine⟨rfl,?_,?_⟩
 ·exact Lib.BuilderAt.put (T:=301) (e:=5) hB H (bs':=U++Lib.strCells s) (by simpa [Lib.strCells_length] using G) (by decide)
 ·exact (O.grown F (by have:=O.size;omega) (fun k hk=>(J.lt k hk).1)).setCell (p:=⟨b,1,none⟩) hB _
end Go.Proofs.YtjalhnlhcdfncaaGreatDoor
namespace Go.Proofs.YtjalhnlhcdfncaaGreatDoor
open Go.RowKit Go.Proofs.Tryz
def HasT (w:World):Prop:=Lib.TabIs prog w "internal/strconv.uint64pow10" .u64 Lib.pow10Tab
theorem HasT.below {w w':World} (h:HasT w) (F:Below w.heap.size w w'):HasT w':=Lib.tabBelow_of_tabIs h w' F
def num (x:Nat):ByteArray:=⟨(Lib.decDigits x).toArray⟩
theorem qdD (x:Nat):(num x).size=(Lib.decDigits x).length:=rfl
theorem qjS (n:Nat) (F:n<9223372036854775808) (w:World) (hT:HasT w) :
  Calls prog 124 #[.int .i64 (n:Int)] w fun e w'=>e=.returned (.string (num n))/\Below w.heap.size w w':=by
 refine (Tryz.strconv_Itoa (n:Int) (by omega) (by omega) w hT).mono ?_;rintro e w' ⟨rfl,k,os,rfl⟩;refine⟨?_,Lib.below_grow _ _ qN _ _⟩;have:Lib.itoa (n:Int)=Lib.decDigits n:=by
  unfold Lib.itoa;rw [if_neg (by omega),Int.toNat_natCast]
 rw [this];rfl
theorem qjE {B b:Nat} {p:Value} {H:List Value} {w w':World} (h:Bd B b p H w) (F:Below w.heap.size w w'):Bd B b p H w':=by
 obtain⟨J,v,I,O,U⟩:=h;have G:=(qG I).1;have hg:w.grownBy w' none:=⟨F.os,F.tape,F.output,F.size,fun k V _=>F.block k V⟩;refine⟨J,v,(F.block b G).trans I,O.kept hg ?_,U⟩;cases v.ownBlock with
 | none=>exact qav rfl
 | some k=>exact qaj (by simp)
theorem qkC {B b:Nat} {F:List Value} {w w':World} (h:IsBd B b F w) (G:Below w.heap.size w w'):IsBd B b F w':=h.elim (fun h=>.inl (qjE h G)) (fun h=>.inr (qjE h G))
open Go.ChangeShapes Go.WideShapes Go.ChangeAt
abbrev laidK:List (String×DataW Unit):=[("math/bits.deBruijn32tab", Rows.laid_math_bits_deBruijn32tab),("math/bits.deBruijn64tab", Rows.laid_math_bits_deBruijn64tab),("internal/strconv.uint64pow10", Rows.laid_internal_strconv_uint64pow10)]
theorem Tryz.own:ownKnob Tryz.prog.godebug=none:=by kernel_rfl
theorem datK:(Rows.laid_internal_strconv_uint64pow10:DataW Unit)=Lib.tabData .u64 Lib.pow10Tab:=by kernel_rfl
theorem gK:Tryz.prog.globalNamed "internal/strconv.uint64pow10" = some 0:=by kernel_rfl
theorem tK:(Tryz.prog.globals[0]?).map (·.type)=some 340:=by kernel_rfl
theorem of_laid {W:World} (h:laidMetH prog laidK W):HasT W:=by
 rw [MakeChecks.laidMetH_plain _ _ _ (by kernel_rfl)] at h;obtain⟨ps,⟨_,_,_,_,_,_,_,_,_,_,⟨_,_,_,_,_,_,_,_,_,_,⟨g2,t2,cs2,f2,p2,q2,G,H,I,F,_,_⟩,_⟩,_⟩,_⟩:=h;obtain rfl:=qag (gK.symm.trans G);obtain rfl:=qag (tK.symm.trans H);rw [datK] at F;unfold HasT Lib.TabIs;rw [I,<-Lib.cells_of_tab underlying340 underlying203 (by kernel_rfl) (by kernel_rfl) F]
section
variable {H:Type} {enc:TypeId×Value->H} {P:Program}
theorem qhM {f:Func} {s:ChangeSpec} {apart Z F Y:Bool} {W W':World} {args:Array Value} {v:Value} {ds gs:List (DataW H)} {before pa pv:List MemPlace}
  (hW:DataW.Whole enc P f.params.toList s.vars apart W args.toList ds gs before)
  (V:∀(b:Nat) (sp:Nat->Bool) (hd:Bool),DataW.TrodAll enc P W' b sp hd f.resultTypes.toList (v.resultList f.resultTypes.size) (s.fn H (ds++gs)).results [])
  (G:∀sp:Nat->Bool,(∀p∈before,sp p.block=true)->DataW.TrodAll enc P W' 0 sp true f.params.toList args.toList (s.fn H (ds++gs)).args pa)
  (J:∀sp:Nat->Bool,(∀p∈before,sp p.block=true)->DataW.TrodVars enc P W' sp s.vars (s.fn H (ds++gs)).vars pv)
  (O:before=pa++pv) (hb:Below W.heap.size W W')
  (ag:∀(j:Nat) (t:TypeId) (r:Value),f.resultTypes[j]? = some t->(v.resultList f.resultTypes.size)[j]? = some r->Value.okWide P W' .any 0 t r) :
  s.post enc P f apart Z F Y W args v W':=by
 have ae:∀p∈before,p.block<W.heap.size:=fun p I=>hW.lt p I
 have U:∀p∈before,(fun b=>decide (b<W.heap.size)) p.block=true:=fun p I=>by simpa using ae p I
 refine⟨ds,gs,before,[],pa,pv,hW,V _ _ _,G _ U,J _ U,World.keptBut_mono (fun p I=>⟨I,?_⟩) (hb.frame (·∈before)),fun _=>?_⟩
 ·rw [O,qaG] at I;exact qaj I
 ·obtain⟨_,_,_,_,_,hz,hn⟩:=hW;refine⟨ag,_,_,([]++pa)++pv,⟨[]++pa,pv,trodAll_append (G _ (fun _ _=>rfl)) (V _ _ _),J _ (fun _ _=>rfl),rfl,?_,?_⟩,?_⟩
  ·intro b af I;have aa:MemPlace.cell b af∈before:=by rw [O];simpa using I
   rw [hb.frozen (ae _ aa)];exact hz b af aa
  ·intro ha;have:=hn ha;rw [O] at this
   simpa using this
  ·intro p I _;rw [O]
   simpa using I
end
theorem jf1:laidOutB prog=true:=by kernel_rfl
theorem jf2:mapsRowed prog=true:=by kernel_rfl
theorem jf3:Tryz.prog.plainKeys=true:=by kernel_rfl
theorem jf4:Tryz.prog.stopsHeard=true:=by kernel_rfl
theorem jf5:Tryz.prog.mayEnter=true:=by kernel_rfl
theorem jf6:(Rows.robustKnownRow.lifted == Tryz.prog.liftsFinal)=true:=by kernel_rfl
theorem jf7:(Tryz.prog.make == some Rows.robustKnownRow.make)=true:=by kernel_rfl
end Go.Proofs.YtjalhnlhcdfncaaGreatDoor
namespace Go.Proofs.YtjalhnlhcdfncaaGreatDoor
def sumN:Nat->(Nat->Int)->Int
 | 0,_=>0
 | n+1,f=>sumN n f+f n
theorem qb5 {n:Nat} {f g:Nat->Int} (h:∀i,i<n->f i=g i):sumN n f=sumN n g:=by
 induction n with
 | zero=>rfl
 | succ n ih=>simp only [sumN];rw [ih fun i F=>h i (by omega),h n (by omega)]
theorem qhQ (n:Nat) (f g:Nat->Int):sumN n (fun i=>f i+g i)=sumN n f+sumN n g:=by
 induction n with
 | zero=>rfl
 | succ n ih=>simp only [sumN,ih];omega
theorem qfn (n:Nat) (c:Int) (f:Nat->Int):sumN n (fun i=>c*f i)=c*sumN n f:=by
 induction n with
 | zero=>simp [sumN]
 | succ n ih=>simp only [sumN,ih,Int.mul_add]
theorem qgJ (n:Nat) (f:Nat->Int) (h:∀i,i<n->f i=0):sumN n f=0:=by
 induction n with
 | zero=>rfl
 | succ n ih=>simp only [sumN];rw [ih fun i F=>h i (by omega),h n (by omega)];rfl
theorem qke (n:Nat) (f:Nat->Int):sumN n (fun i=>- f i) = - sumN n f:=by
 induction n with
 | zero=>rfl
 | succ n ih=>simp only [sumN,ih];omega
theorem qiK (n m:Nat) (f:Nat->Nat->Int):sumN n (fun i=>sumN m (fun j=>f i j))=sumN m (fun j=>sumN n (fun i=>f i j)):=by
 induction n with
 | zero =>
  simp only [sumN];exact (qgJ m _ fun _ _=>rfl).symm
 | succ n ih=>simp only [sumN,ih];rw [<-qhQ]
theorem qmG (n:Nat) (f:Nat->Nat->Int) (h:∀i j,i<n->j<n->f i j = - f j i):sumN n (fun i=>sumN n (fun j=>f i j))=0:=by
 have H:sumN n (fun i=>sumN n (fun j=>f i j))=sumN n (fun i=>sumN n (fun j=>- f j i)):=qb5 fun i F=>qb5 fun j G=>h i j F G
 have I:sumN n (fun i=>sumN n (fun j=>- f j i)) = - sumN n (fun i=>sumN n (fun j=>f j i)):=by
  rw [<-qke];exact qb5 fun i _=>qke n _
 have J:=qiK n n f;omega
def skip (k c:Nat):Nat:=if c<k then c else c+1
theorem qdH {k c n:Nat} (F:c<n):skip k c<n+1:=by unfold skip;split <;> omega
theorem skip_ne (k c:Nat):skip k c≠k:=by unfold skip;split <;> omega
theorem qmH (n k:Nat) (J:k<n+1) (f:Nat->Int):sumN n (fun c=>f (skip k c))+f k=sumN (n+1) f:=by
 induction n with
 | zero =>
  obtain rfl:k=0:=by omega
  simp [sumN]
 | succ n ih =>
  by_cases G:k=n+1
  ·subst G;simp only [sumN];have H:sumN n (fun c=>f (skip (n+1) c))=sumN n f:=qb5 fun i I=>by unfold skip;rw [if_pos (by omega)]
   have F:f (skip (n+1) n)=f n:=by unfold skip;rw [if_pos (by omega)]
   rw [H,F]
  ·have:=ih (by omega);simp only [sumN] at this ⊢;have F:f (skip k n)=f (n+1):=by unfold skip;rw [if_neg (by omega)]
   rw [F];omega
def sg (j:Nat):Int:=if j % 2=0 then 1 else -1
def det:Nat->(Nat->Nat->Int)->Int
 | 0,_=>1
 | n+1,M=>sumN (n+1) fun j=>sg j*M 0 j*det n fun r c=>M (r+1) (skip j c)
theorem qed:∀(n:Nat) (M N:Nat->Nat->Int),(∀r c,r<n->c<n->M r c=N r c)->det n M=det n N
 | 0,_,_,_=>rfl
 | n+1,M,N,h=>by
  simp only [det];refine qb5 fun j G=>?_
  rw [h 0 j (by omega) G,qed n _ _ fun r c hr F=>h (r+1) (skip j c) (by omega) (qdH F)]
theorem qd3:∀(n:Nat) (M N K:Nat->Nat->Int) (k:Nat),k<n->(∀c,c<n->K k c=M k c+N k c)->(∀r c,r<n->c<n->r≠k->K r c=M r c/\K r c=N r c)->det n K=det n M+det n N
 | 0,_,_,_,_,h,_,_=>absurd h (by omega)
 | n+1,M,N,K,0,_,H,ho=>by
  simp only [det];rw [<-qhQ];refine qb5 fun j G=>?_
  have J:det n (fun r c=>K (r+1) (skip j c))=det n (fun r c=>M (r+1) (skip j c)):=qed n _ _ fun r c hr F=>(ho (r+1) (skip j c) (by omega) (qdH F) (by omega)).1
  have O:det n (fun r c=>K (r+1) (skip j c))=det n (fun r c=>N (r+1) (skip j c)):=qed n _ _ fun r c hr F=>(ho (r+1) (skip j c) (by omega) (qdH F) (by omega)).2
  rw [<-O,<-J,H j G,Int.mul_add,Int.add_mul]
 | n+1,M,N,K,k+1,h,H,ho=>by
  simp only [det];rw [<-qhQ];refine qb5 fun j G=>?_
  have e:=qd3 n (fun r c=>M (r+1) (skip j c)) (fun r c=>N (r+1) (skip j c)) (fun r c=>K (r+1) (skip j c)) k (by omega) (fun c F=>H (skip j c) (qdH F)) (fun r c hr F U=>ho (r+1) (skip j c) (by omega) (qdH F) (by omega));have I:=ho 0 j (by omega) G (by omega);rw [e,Int.mul_add];rw [<-I.1];have:K 0 j=N 0 j:=I.2;rw [this]
theorem qd4:∀(n:Nat) (M K:Nat->Nat->Int) (k:Nat) (a:Int),k<n->(∀c,c<n->K k c=a*M k c)->(∀r c,r<n->c<n->r≠k->K r c=M r c)->det n K=a*det n M
 | 0,_,_,_,_,h,_,_=>absurd h (by omega)
 | n+1,M,K,0,a,_,H,ho=>by
  simp only [det];rw [<-qfn];refine qb5 fun j G=>?_
  rw [qed n _ _ fun r c hr F=>ho (r+1) (skip j c) (by omega) (qdH F) (by omega),H j G];rw [<-qbv,<-qbv,qbd (sg j) a,qbv a (sg j)]
 | n+1,M,K,k+1,a,h,H,ho=>by
  simp only [det];rw [<-qfn];refine qb5 fun j G=>?_
  have e:=qd4 n (fun r c=>M (r+1) (skip j c)) (fun r c=>K (r+1) (skip j c)) k a (by omega) (fun c F=>H (skip j c) (qdH F)) (fun r c hr F I=>ho (r+1) (skip j c) (by omega) (qdH F) (by omega));rw [e,ho 0 j (by omega) G (by omega),<-qbv,<-qbv,qbd (sg j*M 0 j) a,qbv]
def cof (j k:Nat):Nat:=if k<j then k else k-1
theorem cof_skip (j c:Nat):cof j (skip j c)=c:=by unfold cof skip;(repeat' split) <;> omega
theorem qkT (j k x:Nat) (h:j≠k):skip j (skip (cof j k) x)=skip k (skip (cof k j) x):=by
 unfold cof skip
 by_cases G:k<j
 ·have F:¬j<k:=by omega
  simp only [G,F,if_true,if_false]
  (repeat' split) <;> omega
 ·have F:j<k:=by omega
  simp only [G,F,if_true,if_false]
  (repeat' split) <;> omega
theorem sg_cof (j k:Nat) (h:j≠k):sg j*sg (cof j k) = - (sg k*sg (cof k j)):=by
 unfold sg cof
 by_cases G:k<j
 ·have F:¬j<k:=by omega
  simp only [G,F,if_true,if_false]
  (repeat' split) <;> first | omega | (exfalso;omega)
 ·have F:j<k:=by omega
  simp only [G,F,if_true,if_false]
  (repeat' split) <;> first | omega | (exfalso;omega)
def two (n:Nat) (M:Nat->Nat->Int) (j k:Nat):Int:=if j=k then 0 else sg j*sg (cof j k)*(M 0 j*M 1 k)*det n fun r x=>M (r+2) (skip j (skip (cof j k) x))
theorem det_two (n:Nat) (M:Nat->Nat->Int):det (n+2) M=sumN (n+2) fun j=>sumN (n+2) fun k=>two n M j k:=by
 show sumN (n+2) (fun j=>sg j*M 0 j*det (n+1) fun r c=>M (r+1) (skip j c))=_
 refine qb5 fun j G=>?_
 rw [<-qmH (n+1) j G];have F:two n M j j=0:=by unfold two;rw [if_pos rfl]
 rw [F,Int.add_zero]
 show sg j*M 0 j*sumN (n+1) (fun c=>sg c*M 1 (skip j c)*det n fun r x=>M (r+2) (skip j (skip c x)))=_
 rw [<-qfn];refine qb5 fun c H=>?_
 unfold two;rw [if_neg (Ne.symm (skip_ne j c)),cof_skip];simp only [qbv,qbd,Int.mul_left_comm]
theorem qkl (n:Nat) (M:Nat->Nat->Int) (h:∀c,c<n+2->M 0 c=M 1 c):det (n+2) M=0:=by
 rw [det_two];refine qmG (n+2) _ fun j k G H=>?_
 unfold two
 by_cases F:j=k
 ·rw [if_pos F,if_pos F.symm];rfl
 ·rw [if_neg F,if_neg (Ne.symm F),sg_cof j k F];have e:(fun r x=>M (r+2) (skip j (skip (cof j k) x)))=fun r x=>M (r+2) (skip k (skip (cof k j) x)):=by
   funext r x;rw [qkT j k x F]
  rw [e,h j G,<-h k H,qbd (M 1 j) (M 0 k),qbx,qbx]
theorem qd5:∀(n:Nat) (M:Nat->Nat->Int) (k:Nat),k+1<n->(∀c,c<n->M k c=M (k+1) c)->det n M=0
 | 0,_,_,h,_=>absurd h (by omega)
 | 1,_,_,h,_=>absurd h (by omega)
 | n+2,M,0,_,h=>qkl n M h
 | n+2,M,k+1,H,h=>by
  show sumN (n+2) (fun j=>sg j*M 0 j*det (n+1) fun r c=>M (r+1) (skip j c))=0
  refine qgJ _ _ fun j G=>?_
  rw [qd5 (n+1) (fun r c=>M (r+1) (skip j c)) k (by omega) fun c F=>h (skip j c) (qdH F),qbz]
def R2 (M:Nat->Nat->Int) (k:Nat) (x y:Nat->Int):Nat->Nat->Int:=fun r c=>if r=k then x c else if r=k+1 then y c else M r c
theorem R2_left (n:Nat) (M:Nat->Nat->Int) (k:Nat) (G:k+1<n) (x F y:Nat->Int):det n (R2 M k (fun c=>x c+F c) y)=det n (R2 M k x y)+det n (R2 M k F y) :=
 qd3 n _ _ _ k (by omega) (fun c _=>by simp [R2]) fun r c _ _ hr=>by simp [R2,hr]
theorem qjD (n:Nat) (M:Nat->Nat->Int) (k:Nat) (G:k+1<n) (x y F:Nat->Int):det n (R2 M k x (fun c=>y c+F c))=det n (R2 M k x y)+det n (R2 M k x F) :=
 qd3 n _ _ _ (k+1) (by omega) (fun c _=>by simp [R2]) fun r c _ _ hr=>by simp [R2,hr]
theorem qiW (n:Nat) (M:Nat->Nat->Int) (k:Nat) (F:k+1<n) (x:Nat->Int):det n (R2 M k x x)=0 :=
 qd5 n _ k F fun c _=>by simp [R2]
theorem R2_swap (n:Nat) (M:Nat->Nat->Int) (k:Nat) (F:k+1<n) (x y:Nat->Int):det n (R2 M k x y) = - det n (R2 M k y x):=by
 have h:=qiW n M k F fun c=>x c+y c
 rw [R2_left n M k F,qjD n M k F,qjD n M k F,qiW n M k F,qiW n M k F] at h;omega
theorem R2_self (M:Nat->Nat->Int) (k:Nat):R2 M k (M k) (M (k+1))=M:=by
 funext r c
 unfold R2;split
 ·rename_i h;rw [h]
 ·split
  ·rename_i h;rw [h]
  ·rfl
theorem qfQ (n:Nat):∀(d:Nat) (M:Nat->Nat->Int) (i:Nat),i+d+1<n->(∀c,c<n->M i c=M (i+d+1) c)->det n M=0
 | 0,M,i,F,h=>qd5 n M i F h
 | d+1,M,i,F,h=>by
  have G:=R2_swap n M (i+d+1) (by omega) (M (i+d+1)) (M (i+d+1+1));rw [R2_self] at G;rw [G,qfQ n d (R2 M (i+d+1) (M (i+d+1+1)) (M (i+d+1))) i (by omega) (fun c I=>by
   have:¬i=i+d+1:=by omega
   have H:¬i=i+d+1+1:=by omega
   simp only [R2,this,H,if_false,if_true];exact h c I)]
  rfl
theorem qi1 (n:Nat) (M K:Nat->Nat->Int) (i s:Nat) (a:Int) (I:i<n) (Z:s<n) (H:i≠s) (V:∀c,c<n->K i c=M i c+a*M s c) (Y:∀r c,r<n->c<n->r≠i->K r c=M r c):det n K=det n M:=by
 have J:=qd3 n M (fun r c=>if r=i then a*M s c else M r c) K i I (fun c G=>by simp [V c G]) fun r c hr G F=>by
  rw [Y r c hr G F];simp [F]
 have O:=qd4 n (fun r c=>if r=i then M s c else M r c) (fun r c=>if r=i then a*M s c else M r c) i a I (fun c _=>by simp) fun r c _ _ F=>by simp [F]
 have U:det n (fun r c=>if r=i then M s c else M r c)=0:=by
  rcases Nat.lt_or_gt_of_ne H with h | h
  ·obtain⟨d,rfl⟩:∃d,s=i+d+1:=⟨s-i-1,by omega⟩;refine qfQ n d _ i (by omega) fun c _=>?_
   have:¬i+d+1=i:=by omega
   simp [this]
  ·obtain⟨d,rfl⟩:∃d,i=s+d+1:=⟨i-s-1,by omega⟩;refine qfQ n d _ s (by omega) fun c _=>?_
   have:¬s=s+d+1:=by omega
   simp [this]
 rw [J,O,U,qbz,Int.add_zero]
theorem qdY (n:Nat) (f:Nat->Int):sumN (n+1) f=f 0+sumN n fun i=>f (i+1):=by
 induction n with
 | zero=>simp [sumN]
 | succ n ih =>
  have:sumN (n+1+1) f=sumN (n+1) f+f (n+1):=rfl;rw [this,ih];simp only [sumN];omega
theorem qmA (j:Nat):sg (j+1) = - sg j:=by
 unfold sg
 (repeat' split) <;> first | omega | (exfalso;omega)
theorem qdA (r:Nat):skip 0 r=r+1:=by unfold skip;rw [if_neg (by omega)]
theorem qeJ (j:Nat):skip (j+1) 0=0:=by unfold skip;rw [if_pos (by omega)]
theorem qeI (j c:Nat):skip (j+1) (c+1)=skip j c+1:=by unfold skip;(repeat' split) <;> omega
theorem qi3:∀(n:Nat) (M:Nat->Nat->Int),det (n+1) M=sumN (n+1) fun i=>sg i*M i 0*det n fun r c=>M (skip i r) (c+1)
 | 0,M=>by
  show sumN 1 _=sumN 1 _
  exact qb5 fun i J=>by
   obtain rfl:i=0:=by omega
   rfl
 | n+1,M=>by
  show sumN (n+1+1) (fun j=>sg j*M 0 j*det (n+1) fun r c=>M (r+1) (skip j c))=_
  rw [qdY,qdY (n+1)];have F:∀a b c d:Int,a=c->b=d->a+b=c+d:=fun a b c d h k=>by rw [h,k]
  refine F _ _ _ _ ?_ ?_
  ·have G:(fun r c=>M (r+1) (skip 0 c))=fun r c=>M (skip 0 r) (c+1):=by
    funext r c
    rw [qdA,qdA]
   rw [G]
  ·have H:∀j,sg (j+1)*M 0 (j+1)*det (n+1) (fun r c=>M (r+1) (skip (j+1) c))=sumN (n+1) fun i=>- (sg j*sg i*(M 0 (j+1)*M (i+1) 0)*det n fun r c=>M (skip i r+1) (skip j c+1)):=by
    intro j;rw [qi3 n,<-qfn];refine qb5 fun i _=>?_
    simp only [qeJ,qeI,qmA];simp only [qbx,Int.mul_neg,qbv,Int.mul_left_comm]
   have I:∀i,sg (i+1)*M (i+1) 0*det (n+1) (fun r c=>M (skip (i+1) r) (c+1))=sumN (n+1) fun j=>- (sg j*sg i*(M 0 (j+1)*M (i+1) 0)*det n fun r c=>M (skip i r+1) (skip j c+1)):=by
    intro i
    show _*sumN (n+1) (fun j=>sg j*M (skip (i+1) 0) (j+1)*det n fun r c=>M (skip (i+1) (r+1)) (skip j c+1))=_
    rw [<-qfn];refine qb5 fun j _=>?_
    simp only [qeJ,qeI,qmA];simp only [qbx,Int.mul_neg,qbv,Int.mul_left_comm,qbd]
   rw [qb5 fun j _=>H j,qb5 fun i _=>I i,qiK]
theorem qjI:∀(n:Nat) (M:Nat->Nat->Int),det n (fun r c=>M c r)=det n M
 | 0,_=>rfl
 | n+1,M=>by
  rw [qi3 n M]
  show sumN (n+1) (fun j=>sg j*M j 0*det n fun r c=>M (skip j c) (r+1))=_
  exact qb5 fun j _=>by rw [qjI n fun r c=>M (skip j r) (c+1)]
theorem qhw (n:Nat) (i:Nat) (J:i<2):∀(m:Nat) (M K:Nat->Nat->Int) (L:Nat->Int),m+2<=n->(∀c,c<n->K i c=M i c+sumN m fun s=>L s*M (s+2) c)->(∀r c,r<n->c<n->r≠i->K r c=M r c)->det n K=det n M
 | 0,M,K,L,O,H,ho=>qed n K M fun r c hr F=>by
  by_cases h:r=i
  ·subst h;rw [H c F];simp [sumN]
  ·exact ho r c hr F h
 | m+1,M,K,L,O,H,ho=>by
  have I:=qhw n i J m M (fun r c=>if r=i then M i c+sumN m (fun s=>L s*M (s+2) c) else M r c) L (by omega) (fun c _=>by simp) fun r c _ _ hr=>by simp [hr]
  rw [<-I];refine qi1 n _ K i (m+2) (L m) (by omega) (by omega) (by omega) (fun c F=>?_) fun r c hr F G=>by rw [ho r c hr F G];simp [G]
  have:¬m+2=i:=by omega
  rw [H c F];simp only [sumN,this,if_true,if_false];omega
def bord (k:Nat) (M:Nat->Nat->Int) (a c:Nat):Int:=det (k+1) fun r x=>M (if r=0 then a else r+1) (if x=0 then c else x+1)
def steps (k:Nat) (M:Nat->Nat->Int):Int:=det k fun r c=>M (r+2) (c+2)
def lam (k:Nat) (M:Nat->Nat->Int) (a s:Nat):Int:=sg (s+1)*det k fun r x=>M (if skip (s+1) r=0 then a else skip (s+1) r+1) (x+2)
theorem qhZ (k:Nat) (M:Nat->Nat->Int) (a c:Nat):bord k M a c=steps k M*M a c+sumN k fun s=>lam k M a s*M (s+2) c:=by
 unfold bord steps;rw [qi3,qdY];have F:∀a b c d:Int,a=c->b=d->a+b=c+d:=fun a b c d h k=>by rw [h,k]
 refine F _ _ _ _ ?_ (qb5 fun s H=>?_)
 ·have e:(fun r x=>M (if skip 0 r=0 then a else skip 0 r+1) (if x+1=0 then c else x+1+1))=fun r x=>M (r+2) (x+2):=by
   funext r x
   rw [qdA];simp
  rw [e];simp [sg,qbd]
 ·have G:¬s+1=0:=by omega
  have e:(fun r x=>M (if skip (s+1) r=0 then a else skip (s+1) r+1) (if x+1=0 then c else x+1+1))=fun r x=>M (if skip (s+1) r=0 then a else skip (s+1) r+1) (x+2):=by
   funext r x;simp
  rw [e];unfold lam;simp only [G,if_true,if_false,qbv,qbd]
theorem qh0 (k:Nat) (M:Nat->Nat->Int) (a c:Nat) (F:c<k):bord k M a (c+2)=0:=by
 unfold bord;rw [<-qjI];refine qfQ (k+1) c _ 0 (by omega) fun r _=>?_
 have:¬0+c+1=0:=by omega
 simp only [this,if_true,if_false];rw [show 0+c+1+1=c+2 by omega]
theorem qfm (n:Nat) (f:Nat->Int) (h:∀i,i<n->f (i+1)=0):sumN (n+1) f=f 0:=by
 rw [qdY,qgJ n _ h,Int.add_zero]
theorem sg0:sg 0=1:=rfl
theorem sg1:sg 1 = -1:=rfl
def cleared (k:Nat) (M:Nat->Nat->Int):Nat->Nat->Int:=fun r c=>if r=0 then bord k M 0 c else if r=1 then bord k M 1 c else M r c
theorem qi2 (k:Nat) (M:Nat->Nat->Int):det (k+2) (cleared k M)=steps k M*(steps k M*det (k+2) M):=by
 have G:det (k+2) (fun r c=>if r=0 then steps k M*M 0 c else M r c)=steps k M*det (k+2) M :=
  qd4 (k+2) M _ 0 (steps k M) (by omega) (fun c _=>by simp) fun r c _ _ hr=>by simp [hr]
 have H:det (k+2) (fun r c=>if r=0 then bord k M 0 c else M r c)=det (k+2) (fun r c=>if r=0 then steps k M*M 0 c else M r c) :=
  qhw (k+2) 0 (by omega) k _ _ (lam k M 0) qN (fun c _=>by
   show bord k M 0 c=_
   rw [qhZ];simp) fun r c _ _ hr=>by simp [hr]
 have I:det (k+2) (fun r c=>if r=1 then steps k M*M 1 c else if r=0 then bord k M 0 c else M r c)=steps k M*det (k+2) (fun r c=>if r=0 then bord k M 0 c else M r c) :=
  qd4 (k+2) _ _ 1 (steps k M) (by omega) (fun c _=>by simp) fun r c _ _ hr=>by simp [hr]
 have J:det (k+2) (cleared k M)=det (k+2) (fun r c=>if r=1 then steps k M*M 1 c else if r=0 then bord k M 0 c else M r c) :=
  qhw (k+2) 1 (by omega) k _ _ (lam k M 1) qN (fun c _=>by
   show bord k M 1 c=_
   rw [qhZ];simp) fun r c _ _ hr=>by
    by_cases F:r=0
    ·subst F;simp [cleared]
    ·simp [cleared,hr,F]
 rw [J,I,H,G]
theorem qh3 (k:Nat) (M:Nat->Nat->Int):det (k+2) (cleared k M)=(bord k M 0 0*bord k M 1 1-bord k M 0 1*bord k M 1 0)*steps k M:=by
 have z0:∀c,c<k->cleared k M 0 (c+2)=0:=fun c G=>qh0 k M 0 c G
 have I:∀c,c<k->cleared k M 1 (c+2)=0:=fun c G=>qh0 k M 1 c G
 have a:det (k+1) (fun r c=>cleared k M (r+1) (skip 0 c))=bord k M 1 1*steps k M:=by
  show sumN (k+1) (fun j=>sg j*cleared k M 1 (skip 0 j)*det k fun r c=>cleared k M (r+2) (skip 0 (skip j c)))=_
  rw [qfm k _ fun i F=>by
   simp only [qdA];rw [I i F,qbz,Int.zero_mul]]
  have e:(fun r c=>cleared k M (r+2) (skip 0 (skip 0 c)))=fun r c=>M (r+2) (c+2):=by
   funext r c
   simp [qdA,cleared]
  rw [e,sg0,Int.one_mul]
  rfl
 have b:det (k+1) (fun r c=>cleared k M (r+1) (skip 1 c))=bord k M 1 0*steps k M:=by
  show sumN (k+1) (fun j=>sg j*cleared k M 1 (skip 1 j)*det k fun r c=>cleared k M (r+2) (skip 1 (skip j c)))=_
  have H:∀c,skip 1 (c+1)=c+2:=fun c=>by unfold skip;rw [if_neg (by omega)]
  rw [qfm k _ fun i F=>by
   rw [H,I i F,qbz,Int.zero_mul]]
  have e:(fun r c=>cleared k M (r+2) (skip 1 (skip 0 c)))=fun r c=>M (r+2) (c+2):=by
   funext r c
   rw [qdA,H];simp [cleared]
  rw [e,sg0,Int.one_mul]
  rfl
 show sumN (k+1+1) (fun j=>sg j*cleared k M 0 j*det (k+1) fun r c=>cleared k M (r+1) (skip j c))=_
 rw [qdY,qfm k _ fun i F=>by rw [z0 i F,qbz,Int.zero_mul]];simp only [qaL];rw [a,b,sg0,sg1,Int.one_mul]
 show bord k M 0 0*(bord k M 1 1*steps k M) + -1*bord k M 0 1*(bord k M 1 0*steps k M)=_
 rw [Int.sub_mul,qbx,Int.one_mul,qbx,qbv,qbv];omega
theorem qmJ (k:Nat) (M:Nat->Nat->Int) (F:steps k M≠0):bord k M 0 0*bord k M 1 1-bord k M 0 1*bord k M 1 0=steps k M*det (k+2) M:=by
 have h:=(qh3 k M).symm.trans (qi2 k M);rw [qbd _ (steps k M)] at h;exact Int.eq_of_mul_eq_mul_left F h
def sumQ:Nat->(Nat->Rat)->Rat
 | 0,_=>0
 | n+1,f=>sumQ n f+f n
theorem qbS:∀{n:Nat} {f g:Nat->Rat},(∀i,i<n->f i=g i)->sumQ n f=sumQ n g
 | 0,_,_,_=>rfl
 | n+1,f,g,h=>by
  show sumQ n f+f n=sumQ n g+g n
  rw [qbS fun i F=>h i (by omega),h n (by omega)]
theorem qcN:∀(n:Nat) (f:Nat->Rat),(∀i,i<n->f i=0)->sumQ n f=0
 | 0,_,_=>rfl
 | n+1,f,h=>by
  show sumQ n f+f n=0
  rw [qcN n f fun i F=>h i (by omega),h n (by omega)];grind
theorem qez:∀(n:Nat) (f g:Nat->Rat),sumQ n (fun i=>f i+g i)=sumQ n f+sumQ n g
 | 0,_,_=>by simp [sumQ];try grind
 | n+1,f,g=>by
  show sumQ n (fun i=>f i+g i)+(f n+g n)=sumQ n f+f n+(sumQ n g+g n)
  rw [qez n f g];grind
theorem qcc:∀(n:Nat) (a:Rat) (f:Nat->Rat),sumQ n (fun i=>a*f i)=a*sumQ n f
 | 0,a,_=>by simp [sumQ]
 | n+1,a,f=>by
  show sumQ n (fun i=>a*f i)+a*f n=a*(sumQ n f+f n)
  rw [qcc n a f];grind
theorem qek:∀(n m:Nat) (f:Nat->Nat->Rat),sumQ n (fun i=>sumQ m fun j=>f i j)=sumQ m fun j=>sumQ n fun i=>f i j
 | 0,m,f=>(qcN m _ fun _ _=>rfl).symm
 | n+1,m,f=>by
  show sumQ n (fun i=>sumQ m fun j=>f i j)+sumQ m (fun j=>f n j)=sumQ m fun j=>(sumQ n (fun i=>f i j)+f n j)
  rw [qek n m f,qez]
theorem qda:∀(n k:Nat) (f:Nat->Rat),k<n->(∀i,i<n->i≠k->f i=0)->sumQ n f=f k
 | 0,k,_,h,_=>absurd h (by omega)
 | n+1,k,f,h,h0=>by
  show sumQ n f+f n=f k
  by_cases e:k=n
  ·subst e;rw [qcN k f fun i G=>h0 i (by omega) (by omega)];grind
  ·rw [qda n k f (by omega) fun i G F=>h0 i (by omega) F,h0 n (by omega) (fun h=>e h.symm)];grind
theorem sumQ_two (n k l:Nat) (f:Nat->Rat) (O:k<n) (U:l<n) (H:k≠l) (I:∀i,i<n->i≠k->i≠l->f i=0):sumQ n f=f k+f l:=by
 have e:sumQ n f=sumQ n (fun i=>(if i=k then f i else 0)+(if i=k then 0 else f i)):=qbS fun i _=>by split <;> grind
 rw [e,qez,qda n k _ O (fun i _ F=>if_neg F),qda n l _ U (fun i J G=>by
  by_cases h:i=k
  ·rw [if_pos h]
  ·rw [if_neg h];exact I i J h G),if_pos rfl,if_neg (fun h=>H h.symm)]
theorem qel:∀(n m:Nat) (f:Nat->Rat),sumQ (n+m) f=sumQ n f+sumQ m fun i=>f (n+i)
 | n,0,f=>by simp [sumQ];try grind
 | n,m+1,f=>by
  show sumQ (n+m) f+f (n+m)=sumQ n f+(sumQ m (fun i=>f (n+i))+f (n+m))
  rw [qel n m f];grind
def Span (R n:Nat) (A:Nat->Nat->Rat) (v:Nat->Rat):Prop:=∃c:Nat->Rat,∀j,j<n->v j=sumQ R fun i=>c i*A i j
theorem Span.row {R n:Nat} {A:Nat->Nat->Rat} {i:Nat} (F:i<R):Span R n A (A i) :=
 ⟨fun k=>if k=i then 1 else 0,fun j _=>by
  rw [qda R i _ F (fun k _ G=>by simp [G])];simp⟩
theorem Span.congr {R n:Nat} {A B:Nat->Nat->Rat} {v u:Nat->Rat} (h:Span R n A v) (G:∀i,i<R->∀j,j<n->A i j=B i j) (J:∀j,j<n->v j=u j):Span R n B u:=by
 obtain⟨c,H⟩:=h;exact⟨c,fun j F=>by rw [<-J j F,H j F];exact qbS fun i I=>by rw [G i I j F]⟩
theorem Span.comb {R n:Nat} {A:Nat->Nat->Rat} {u v:Nat->Rat} (I:Span R n A u) (J:Span R n A v) (a b:Rat):Span R n A (fun j=>a*u j+b*v j):=by
 obtain⟨c,G⟩:=I;obtain⟨d,H⟩:=J;refine⟨fun i=>a*c i+b*d i,fun j F=>?_⟩
 show a*u j+b*v j=_
 rw [G j F,H j F,<-qcc,<-qcc,<-qez];exact qbS fun i _=>by grind
theorem Span.trans {R S n:Nat} {A B:Nat->Nat->Rat} {v:Nat->Rat} (h:Span R n A v) (I:∀i,i<R->Span S n B (A i)):Span S n B v:=by
 obtain⟨c,J⟩:=h;have:∀i,∃d:Nat->Rat,i<R->∀j,j<n->A i j=sumQ S fun k=>d k*B k j:=fun i=>by
  by_cases F:i<R
  ·obtain⟨d,O⟩:=I i F;exact⟨d,fun _=>O⟩
  ·exact⟨fun _=>0,fun h=>absurd h F⟩
 refine⟨fun k=>sumQ R fun i=>c i*(Classical.choose (this i)) k,fun j G=>?_⟩;rw [J j G];have H:sumQ S (fun k=>sumQ R (fun i=>c i*(Classical.choose (this i)) k)*B k j)=sumQ S fun k=>sumQ R fun i=>c i*((Classical.choose (this i)) k*B k j):=qbS fun k _=>by
  rw [show sumQ R (fun i=>c i*(Classical.choose (this i)) k)*B k j=B k j*sumQ R (fun i=>c i*(Classical.choose (this i)) k) by grind,<-qcc];exact qbS fun i _=>by grind
 rw [H,<-qek];refine qbS fun i F=>?_
 rw [qcc,Classical.choose_spec (this i) F j G]
def qcY (R S n:Nat) (A B:Nat->Nat->Rat):Prop:=(∀i,i<R->Span S n B (A i))/\∀i,i<S->Span R n A (B i)
theorem qcY.refl (R n:Nat) (A:Nat->Nat->Rat):qcY R R n A A:=⟨fun _ F=>Span.row F,fun _ F=>Span.row F⟩
theorem qcY.symm {R S n:Nat} {A B:Nat->Nat->Rat} (h:qcY R S n A B):qcY S R n B A:=⟨h.2,h.1⟩
theorem qcY.trans {R S T n:Nat} {A B C:Nat->Nat->Rat} (h:qcY R S n A B) (k:qcY S T n B C):qcY R T n A C :=
 ⟨fun i F=>(h.1 i F).trans k.1,fun i F=>(k.2 i F).trans h.2⟩
def sel {α:Type} (a:α) (P:Nat->α):Nat->α
 | 0=>a
 | s+1=>P s
def BR (k:Nat) (P:Nat->Nat->Int) (σ:Nat->Nat) (a:Nat->Int) (j:Nat):Int:=det (k+1) fun r x=>sel a P r (sel j σ x)
def DR (k:Nat) (P:Nat->Nat->Int) (σ:Nat->Nat):Int:=det k fun r x=>P r (σ x)
theorem qiT (P:Nat->Nat->Int) (σ:Nat->Nat) (a:Nat->Int) (j:Nat):BR 0 P σ a j=a j:=by
 show sumN 1 _=_
 show 0+sg 0*a j*1=a j
 rw [sg0];omega
theorem qd0 {k:Nat} {P:Nat->Nat->Int} {σ:Nat->Nat} (J:DR k P σ≠0) (a p:Nat->Int) (c j:Nat) :
  BR k P σ a j*BR k P σ p c-BR k P σ a c*BR k P σ p j=DR k P σ*BR (k+1) (sel p P) (sel c σ) a j:=by
 have h:=qmJ k (fun r x=>sel a (sel p P) r (sel j (sel c σ) x)) J;have F:bord k (fun r x=>sel a (sel p P) r (sel j (sel c σ) x)) 0 0=BR k P σ a j:=by
  unfold bord BR
  congr 1;funext r x
  cases r <;> cases x <;> rfl
 have I:bord k (fun r x=>sel a (sel p P) r (sel j (sel c σ) x)) 1 1=BR k P σ p c:=by
  unfold bord BR
  congr 1;funext r x
  cases r <;> cases x <;> rfl
 have G:bord k (fun r x=>sel a (sel p P) r (sel j (sel c σ) x)) 0 1=BR k P σ a c:=by
  unfold bord BR
  congr 1;funext r x
  cases r <;> cases x <;> rfl
 have H:bord k (fun r x=>sel a (sel p P) r (sel j (sel c σ) x)) 1 0=BR k P σ p j:=by
  unfold bord BR
  congr 1;funext r x
  cases r <;> cases x <;> rfl
 rw [F,I,G,H] at h;exact h
theorem qiU (k:Nat) (P:Nat->Nat->Int) (σ:Nat->Nat) (p:Nat->Int) (c:Nat):DR (k+1) (sel p P) (sel c σ)=BR k P σ p c:=rfl
theorem qhq (k:Nat) (P:Nat->Nat->Int) (σ:Nat->Nat) (a:Nat->Int) (j:Nat) (h:∀s,s<k->a (σ s)=0):BR k P σ a j=DR k P σ*a j:=by
 show sumN (k+1) (fun x=>sg x*sel a P 0 (sel j σ x)*det k fun r c=>sel a P (r+1) (sel j σ (skip x c)))=_
 rw [qfm k _ fun i F=>by
  show sg (i+1)*a (σ i)*_=0
  rw [h i F,qbz,Int.zero_mul]]
 have e:(fun r c=>sel a P (r+1) (sel j σ (skip 0 c)))=fun r x=>P r (σ x):=by
  funext r c;rw [qdA];rfl
 rw [e,sg0,Int.one_mul,qbd];rfl
abbrev castM (M:Nat->Nat->Int):Nat->Nat->Rat:=fun i j=>(M i j:Rat)
def qbZ (f:Nat->Bool) (M:Nat->Nat->Int) (p c:Nat) (D:Int):Nat->Nat->Int:=fun i=>if f i=true/\i≠p then fun j=>(M p c*M i j-M i c*M p j).tdiv D else M i
theorem qiI {f:Nat->Bool} {R n p c:Nat} {M:Nat->Nat->Int} {D:Int} (V:p<R) (Y:D≠0) (hc:M p c≠0) (hx:∀i,i<R->f i=true->i≠p->∀j,j<n->D∣M p c*M i j-M i c*M p j):qcY R R n (castM M) (castM (qbZ f M p c D)):=by
 have Z:(D:Rat)≠0:=by exact_mod_cast Y
 have aa:(M p c:Rat)≠0:=by exact_mod_cast hc
 have H:∀i,i<R->f i=true->i≠p->∀j,j<n->(D:Rat)*((qbZ f M p c D i j:Int):Rat)=M p c*M i j-M i c*M p j:=by
  intro i G U J j O;have e:qbZ f M p c D i j=(M p c*M i j-M i c*M p j).tdiv D:=by unfold qbZ;rw [if_pos ⟨U,J⟩]
  have:=Int.mul_tdiv_cancel' (hx i G U J j O);rw [e]
  exact_mod_cast this
 have F:∀i,¬(f i=true/\i≠p)->qbZ f M p c D i=M i:=fun i h=>by unfold qbZ;rw [if_neg h]
 have I:qbZ f M p c D p=M p:=F p (fun h=>h.2 rfl);refine⟨fun i G=>?_,fun i G=>?_⟩
 ·by_cases h:f i=true/\i≠p
  ·refine Span.congr (Span.comb (Span.row (A:=castM (qbZ f M p c D)) G) (Span.row (A:=castM (qbZ f M p c D)) V) ((D:Rat) / M p c) ((M i c:Rat) / M p c)) (fun _ _ _ _=>rfl) fun j O=>?_
   have:=H i G h.1 h.2 j O
   show (D:Rat) / M p c*((qbZ f M p c D i j:Int):Rat)+(M i c:Rat) / M p c*((qbZ f M p c D p j:Int):Rat)=(M i j:Rat)
   rw [I]
   grind
  ·have:=Span.row (R:=R) (n:=n) (A:=castM (qbZ f M p c D)) (i:=i) G;exact Span.congr this (fun _ _ _ _=>rfl) fun j _=>by show ((qbZ f M p c D i j:Int):Rat)=_;rw [F i h]
 ·by_cases h:f i=true/\i≠p
  ·refine Span.congr (Span.comb (Span.row (A:=castM M) G) (Span.row (A:=castM M) V) ((M p c:Rat) / D) (-(M i c:Rat) / D)) (fun _ _ _ _=>rfl) fun j O=>?_
   have:=H i G h.1 h.2 j O
   show (M p c:Rat) / D*(M i j:Rat) + -(M i c:Rat) / D*(M p j:Rat)=((qbZ f M p c D i j:Int):Rat)
   grind
  ·have:=Span.row (R:=R) (n:=n) (A:=castM M) (i:=i) G;exact Span.congr this (fun _ _ _ _=>rfl) fun j _=>by show (M i j:Rat)=((qbZ f M p c D i j:Int):Rat);rw [F i h]
def qb1 {α:Type} (M:Nat->α) (k a:Nat):Nat->α:=fun j=>if j=k then M a else if j=a then M k else M j
theorem qiJ {R n k a:Nat} {M:Nat->Nat->Int} (J:k<R) (I:a<R):qcY R R n (castM M) (castM (qb1 M k a)):=by
 have row:∀i l,i<R->qb1 M k a i=M l->Span R n (castM (qb1 M k a)) (castM M l):=fun i l H h =>
  Span.congr (Span.row (R:=R) (n:=n) (A:=castM (qb1 M k a)) (i:=i) H) (fun _ _ _ _=>rfl) fun j _=>by show ((qb1 M k a i j:Int):Rat)=_;rw [h]
 have F:∀i l,l<R->qb1 M k a i=M l->Span R n (castM M) (castM (qb1 M k a) i):=fun i l O h =>
  Span.congr (Span.row (R:=R) (n:=n) (A:=castM M) (i:=l) O) (fun _ _ _ _=>rfl) fun j _=>by show (M l j:Rat)=((qb1 M k a i j:Int):Rat);rw [h]
 refine⟨fun i H=>?_,fun i H=>?_⟩
 ·by_cases e:i=k
  ·subst e
   by_cases G:a=i
   ·subst G;exact row a a I (by unfold qb1;rw [if_pos rfl])
   ·exact row a i I (by unfold qb1;rw [if_neg G,if_pos rfl])
  ·by_cases G:i=a
   ·subst G;exact row k i J (by unfold qb1;rw [if_pos rfl])
   ·exact row i i H (by unfold qb1;rw [if_neg e,if_neg G])
 ·by_cases e:i=k
  ·exact F i a I (by unfold qb1;rw [if_pos e])
  ·by_cases G:i=a
   ·exact F i k J (by unfold qb1;rw [if_neg e,if_pos G])
   ·exact F i i H (by unfold qb1;rw [if_neg e,if_neg G])
theorem qjt {α:Type} {M:Nat->α} {k a i:Nat} (G:i<k) (F:k<=a):qb1 M k a i=M i:=by unfold qb1;rw [if_neg (by omega),if_neg (by omega)]
structure ElimSt (R n k:Nat) (D:Int) (M A:Nat->Nat->Int):Prop where
 span:qcY R R n (castM M) (castM A)
 dets:∃(P:Nat->Nat->Int) (σ:Nat->Nat) (a:Nat->Nat->Int),DR k P σ=D/\(∀s,s<k->σ s<k)/\(∀i,k<=i->i<R->∀j,j<n->M i j=BR k P σ (a i) j) /\
  ∀i,i<k->∀j,j<n->M i j=D*(if j=i then 1 else 0)-BR k P σ (fun x=>if x=i then 1 else 0) j
 diag:∀i,i<R->∀c,c<k->M i c=if i=c then D else 0
 nz:D≠0
theorem ElimSt.start (R n:Nat) (A:Nat->Nat->Int):ElimSt R n 0 1 A A :=
 ⟨qcY.refl _ _ _,⟨fun _ _=>0,fun _=>0,A,rfl,fun s H=>absurd H (by omega),fun i _ _ j _=>(qiT _ _ _ _).symm,fun i F=>absurd F (by omega)⟩,fun _ _ j G=>absurd G (by omega),by decide⟩
theorem ElimSt.swap {R n k a:Nat} {D:Int} {M A:Nat->Nat->Int} (h:ElimSt R n k D M A) (V:k<=a) (I:a<R):ElimSt R n k D (qb1 M k a) A:=by
 have U:k<R:=by omega
 refine⟨(qiJ U I).symm.trans h.span,?_,?_,h.nz⟩
 ·obtain⟨P,σ,b,Y,hσ,J,hl⟩:=h.dets;refine⟨P,σ,qb1 b k a,Y,hσ,fun i G Z j H=>?_,fun i G j H=>by rw [qjt G V];exact hl i G j H⟩;unfold qb1
  by_cases e:i=k
  ·rw [if_pos e,if_pos e];exact J a V I j H
  ·by_cases F:i=a
   ·rw [if_neg e,if_neg e,if_pos F,if_pos F];exact J k qN U j H
   ·rw [if_neg e,if_neg e,if_neg F,if_neg F];exact J i G Z j H
 ·intro i G c O;have hd:=h.diag i G c O;unfold qb1
  by_cases e:i=k
  ·rw [if_pos e,h.diag a I c O,if_neg (by omega),if_neg (by omega)]
  ·by_cases F:i=a
   ·rw [if_neg e,if_pos F,h.diag k U c O,if_neg (by omega),if_neg (by omega)]
   ·rw [if_neg e,if_neg F,hd]
theorem ElimSt.next {R n k:Nat} {D:Int} {M A:Nat->Nat->Int} (h:ElimSt R n k D M A) (hk:k<R) (V:k<n) (h0:M k k≠0):ElimSt R n (k+1) (M k k) (qbZ (fun _=>true) M k k D) A:=by
 obtain⟨P,σ,b,Z,hσ,hb,hl⟩:=h.dets;have O:DR k P σ≠0:=by rw [Z];exact h.nz
 have U:∀j,j<n->M k j=BR k P σ (b k) j:=hb k qN hk;have H:∀i,i≠k->∀j,qbZ (fun _=>true) M k k D i j=(M k k*M i j-M i k*M k j).tdiv D:=fun i G j=>by
  unfold qbZ;rw [if_pos ⟨rfl,G⟩]
 have I:qbZ (fun _=>true) M k k D k=M k:=by unfold qbZ;rw [if_neg (fun h=>h.2 rfl)]
 have aa:∀i,k<i->i<R->∀j,j<n->M k k*M i j-M i k*M k j=D*BR (k+1) (sel (b k) P) (sel k σ) (b i) j:=fun i G hR j F=>by
  have:=qd0 O (b i) (b k) k j;rw [Z,<-hb i (by omega) hR j F,<-U k V,<-hb i (by omega) hR k V,<-U j F] at this;rw [<-this,qbd (M i j)]
 have ae:∀i,i<k->∀j,j<n->M k k*M i j-M i k*M k j=D*(M k k*(if j=i then 1 else 0)-BR (k+1) (sel (b k) P) (sel k σ) (fun x=>if x=i then 1 else 0) j):=fun i G j F=>by
  have:=qd0 O (fun x=>if x=i then 1 else 0) (b k) k j;rw [Z,<-U k V,<-U j F] at this;rw [hl i G j F,hl i G k V,if_neg (by omega:¬k=i),Int.mul_sub D,<-this];generalize BR k P σ (fun x=>if x=i then 1 else 0) j=X;generalize BR k P σ (fun x=>if x=i then 1 else 0) k=Y;generalize (if j=i then (1:Int) else 0)=E;rw [qbz,Int.zero_sub,qbx,Int.sub_neg,Int.mul_sub,qbd X,Int.mul_left_comm (M k k) D];omega
 have ag:∀j,j<n->M k j=M k k*(if j=k then 1 else 0)-BR (k+1) (sel (b k) P) (sel k σ) (fun x=>if x=k then 1 else 0) j:=fun j F=>by
  have:=qd0 O (fun x=>if x=k then 1 else 0) (b k) k j;rw [Z,<-U k V,<-U j F,qhq k P σ _ j (fun s hs=>if_neg (by have:=hσ s hs;omega)),qhq k P σ _ k (fun s hs=>if_neg (by have:=hσ s hs;omega)),Z,if_pos rfl] at this;have e:D*(M k k*(if j=k then 1 else 0)-M k j)=D*BR (k+1) (sel (b k) P) (sel k σ) (fun x=>if x=k then 1 else 0) j:=by
   rw [<-this,Int.mul_sub,Int.mul_one];generalize (if j=k then (1:Int) else 0)=E;rw [qbv,qbd E]
  have:=Int.eq_of_mul_eq_mul_left h.nz e;omega
 refine⟨(qiI hk h.nz h0 fun i G _ af j F=>?_).symm.trans h.span,⟨sel (b k) P,sel k σ,b,by rw [qiU];exact (U k V).symm,?_,fun i G hR j F=>?_,fun i G j F=>?_⟩,fun i G c ah=>?_,h0⟩
 ·rcases Nat.lt_or_gt_of_ne af with e | e
  ·exact⟨_,ae i e j F⟩
  ·exact⟨_,aa i e G j F⟩
 ·intro s hs;cases s with
  | zero=>show k<k+1;omega
  | succ s=>show σ s<k+1;have:=hσ s (by omega);omega
 ·rw [H i (by omega) j,aa i (by omega) hR j F,Int.mul_tdiv_cancel_left _ h.nz]
 ·by_cases e:i=k
  ·subst e;rw [I];exact ag j F
  ·rw [H i e j,ae i (by omega) j F,Int.mul_tdiv_cancel_left _ h.nz]
 ·by_cases e:i=k
  ·subst e;rw [I]
   by_cases J:i=c
   ·rw [if_pos J,J]
   ·rw [if_neg J,h.diag i G c (by omega),if_neg J]
  ·rw [H i e c]
   by_cases J:c=k
   ·subst J;rw [if_neg e,qbd,Int.sub_self];exact Int.zero_tdiv _
   ·rw [h.diag i G c (by omega),h.diag k hk c (by omega),if_neg (fun h:k=c=>J h.symm),qbz,Int.sub_zero]
    by_cases e3:i=c
    ·rw [if_pos e3,if_pos e3,Int.mul_tdiv_cancel _ h.nz]
    ·rw [if_neg e3,if_neg e3,qbz];exact Int.zero_tdiv _
def Sing (R:Nat) (A:Nat->Nat->Rat):Prop:=∃y:Nat->Rat,(∃j,j<R/\y j≠0)/\∀i,i<R->sumQ R (fun j=>A i j*y j)=0
def qcv (R:Nat) (A:Nat->Nat->Rat) (b x:Nat->Rat):Prop:=∀i,i<R->sumQ R (fun j=>A i j*x j)=b i
theorem qcv.uniq {R:Nat} {A:Nat->Nat->Rat} {b x y:Nat->Rat} (h:¬Sing R A) (H:qcv R A b x) (I:qcv R A b y):∀i,i<R->x i=y i:=by
 intro i G;apply Classical.byContradiction;intro hne;refine h ⟨fun j=>x j-y j,⟨i,G,fun h=>hne (by grind)⟩,fun k F=>?_⟩;have e:sumQ R (fun j=>A k j*(x j-y j))=sumQ R (fun j=>A k j*x j)+(-1)*sumQ R (fun j=>A k j*y j):=by
  rw [<-qcc,<-qez];exact qbS fun j _=>by grind
 rw [e,H k F,I k F];grind
theorem Sing.congr {R:Nat} {A B:Nat->Nat->Rat} (h:Sing R A) (e:∀i,i<R->∀j,j<R->A i j=B i j):Sing R B:=by
 obtain⟨y,I,G⟩:=h;exact⟨y,I,fun i F=>by rw [<-G i F];exact qbS fun j H=>by rw [e i F j H]⟩
theorem qcv.congr {R:Nat} {A B:Nat->Nat->Rat} {b c x y:Nat->Rat} (h:qcv R A b x) (e:∀i,i<R->∀j,j<R->A i j=B i j) (H:∀i,i<R->b i=c i) (ex:∀i,i<R->x i=y i):qcv R B c y:=fun i F=>by
 rw [<-H i F,<-h i F];exact qbS fun j G=>by rw [e i F j G,ex j G]
theorem Span.kill {R n:Nat} {A:Nat->Nat->Rat} {v y:Nat->Rat} (h:Span R n A v) (F:∀i,i<R->sumQ n (fun j=>A i j*y j)=0):sumQ n (fun j=>v j*y j)=0:=by
 obtain⟨c,G⟩:=h;have e:sumQ n (fun j=>v j*y j)=sumQ n fun j=>sumQ R fun i=>c i*(A i j*y j):=qbS fun j I=>by
  rw [G j I,show sumQ R (fun i=>c i*A i j)*y j=y j*sumQ R (fun i=>c i*A i j) by grind,<-qcc];exact qbS fun i _=>by grind
 rw [e,qek];refine qcN _ _ fun i H=>?_
 rw [qcc,F i H];grind
theorem qgK (n:Nat) (f x:Nat->Rat) (a:Rat):sumQ (n+1) (fun j=>f j*(if j<n then x j else a))=sumQ n (fun j=>f j*x j)+f n*a:=by
 show sumQ n _+f n*(if n<n then x n else a)=_
 rw [if_neg (Nat.lt_irrefl n)]
 congr 1
 exact qbS fun j F=>by rw [if_pos F]
theorem qh5 {R n k:Nat} {D:Int} {M A:Nat->Nat->Int} (h:ElimSt R n k D M A) (hn:R<=n) (hk:k<R) (U:∀i,k<=i->i<R->M i k=0):Sing R (castM A):=by
 have V:(D:Rat)≠0:=by exact_mod_cast h.nz
 refine⟨fun j=>if j<k then -(M j k:Rat) else if j=k then (D:Rat) else 0,⟨k,hk,by simp only [Nat.lt_irrefl,if_false,if_true];exact V⟩,?_⟩;have Y:∀i,i<R->sumQ n (fun j=>castM M i j*(if j<k then -(M j k:Rat) else if j=k then (D:Rat) else 0))=0:=by
  intro i G
  by_cases H:i<k
  ·rw [sumQ_two n i k _ (by omega) (by omega) (by omega) fun j Z I J=>by
    by_cases e:j<k
    ·show (M i j:Rat)*_=0
     rw [h.diag i G j e,if_neg (fun h=>I h.symm)];simp
    ·rw [if_neg e,if_neg J];grind]
   rw [if_pos H,if_neg (Nat.lt_irrefl k),if_pos rfl]
   show (M i i:Rat)*_+(M i k:Rat)*_=0
   rw [h.diag i G i H,if_pos rfl];grind
  ·refine qcN _ _ fun j Z=>?_
   by_cases e:j<k
   ·show (M i j:Rat)*_=0
    rw [h.diag i G j e,if_neg (by omega)];simp
   ·by_cases O:j=k
    ·show (M i j:Rat)*_=0
     rw [O,U i (by omega) G];simp
    ·rw [if_neg e,if_neg O];grind
 intro i G;have F:=(h.span.2 i G).kill Y;have e:sumQ n (fun j=>castM A i j*(if j<k then -(M j k:Rat) else if j=k then (D:Rat) else 0))=sumQ R (fun j=>castM A i j*(if j<k then -(M j k:Rat) else if j=k then (D:Rat) else 0)):=by
  obtain⟨m,rfl⟩:∃m,n=R+m:=⟨n-R,by omega⟩;rw [qel,qcN m _ fun j _=>by rw [if_neg (by omega),if_neg (by omega)];grind]
  grind
 rw [e] at F;exact F
theorem qfR {R:Nat} {z:Int} {M A:Nat->Nat->Int} (h:ElimSt R (R+1) R z M A):qcv R (castM A) (fun i=>castM A i R) (fun i=>(M i R:Rat) / z)/\¬Sing R (castM A):=by
 have U:(z:Rat)≠0:=by exact_mod_cast h.nz
 have I:∀(x:Nat->Rat) (a:Rat) i,i<R->sumQ (R+1) (fun j=>castM M i j*(if j<R then x j else a))=z*x i+M i R*a:=by
  intro x a i F;rw [qgK,qda R i _ F fun j G H=>by show (M i j:Rat)*_=0;rw [h.diag i F j G,if_neg (fun h=>H h.symm)];simp]
  show (M i i:Rat)*x i+(M i R:Rat)*a=_
  rw [h.diag i F i F,if_pos rfl]
 refine⟨fun i F=>?_,?_⟩
 ·have:=(h.span.2 i F).kill (y:=fun j=>if j<R then (M j R:Rat) / z else -1) fun i F=>by rw [I _ _ i F];grind
  rw [qgK] at this
  show sumQ R _=castM A i R
  grind
 ·rintro ⟨y,⟨j,G,O⟩,J⟩;have:=(h.span.1 j G).kill (y:=fun j=>if j<R then y j else 0) fun i F=>by rw [qgK,J i F];grind
  rw [I _ _ j G] at this;apply O;have:(z:Rat)*y j=0:=by grind
  rcases Rat.mul_eq_zero.1 this with h | h
  ·exact absurd h U
  ·exact h
def resR (n:Nat) (A:Nat->Nat->Rat) (b z:Nat->Rat) (i:Nat):Rat:=sumQ n (fun j=>A i j*z j)-b i
def msR (R n:Nat) (A:Nat->Nat->Rat) (b w z:Nat->Rat):Rat:=sumQ R fun i=>w i*(resR n A b z i*resR n A b z i)
def Ord {α:Type} (lt:α->α->Prop) (l:List α):Prop:=l.Pairwise fun a b=>¬lt b a
theorem ord_last {α:Type} {lt:α->α->Prop} {A:List α} {y x:α} (H:∀a b c,lt a b->¬lt c b->lt a c) (h:Ord lt (A++[y])) (I:¬lt x y):∀a∈A++[y],¬lt x a:=fun a G F=>by
 rcases qaG.1 G with G | G
 ·have:=(List.pairwise_append.1 h).2.2 a G y (qao.2 rfl);exact I (H x a y F this)
 ·rw [qao.1 G] at F;exact I F
section
variable {α:Type} (lt:α->α->Prop) [DecidableRel lt]
def insR (x:α):List α->List α
 | []=>[x]
 | y :: ys=>if lt x y then x :: y :: ys else y :: insR x ys
def isort (l:List α):List α:=l.foldl (fun F x=>insR lt x F) []
theorem qeq (l:List α) (x:α):isort lt (l++[x])=insR lt x (isort lt l):=by unfold isort;rw [List.foldl_append];rfl
variable {lt}
theorem qe8 (x:α):∀l:List α,(insR lt x l).Perm (x :: l)
 | []=>List.Perm.refl _
 | y :: ys=>by
  unfold insR;split
  ·exact List.Perm.refl _
  ·exact ((qe8 x ys).cons y).trans (List.Perm.swap x y ys)
theorem qdm (l:List α):(isort lt l).Perm l:=by
 have G:∀(l F:List α),(l.foldl (fun F x=>insR lt x F) F).Perm (l++F):=by
  intro l
  induction l with
  | nil=>exact fun F=>List.Perm.refl _
  | cons x l ih=>exact fun F=>(ih _).trans ((List.Perm.append_left l (qe8 x F)).trans List.perm_middle)
 have:=G l []
 rwa [qbE] at this
theorem qgd (l:List α):(isort lt l).length=l.length:=(qdm l).length_eq
theorem qg4 (x:α):∀(A B:List α),(∀a∈A,¬lt x a)->(∀b∈B,lt x b)->insR lt x (A++B)=A++x :: B
 | [],[],_,_=>rfl
 | [],b :: B,_,hB=>by show insR lt x (b :: B)=_;unfold insR;rw [if_pos (hB b (qbg ..))];rfl
 | a :: A,B,F,hB=>by
  show insR lt x (a :: (A++B))=_
  unfold insR;rw [if_neg (F a (qbg ..)),qg4 x A B (fun c G=>F c (qbs _ G)) hB];rfl
theorem qjP (I:∀a b c,lt a b->¬lt c b->lt a c) (G:∀a b,lt a b->¬lt b a) (x:α):∀{l:List α},Ord lt l->Ord lt (insR lt x l)
 | [],_=>List.pairwise_singleton _ _
 | y :: ys,h=>by
  obtain⟨J,O⟩:=List.pairwise_cons.1 h;unfold insR;split
  ·rename_i F;refine List.pairwise_cons.2 ⟨fun b H=>?_,h⟩;rcases qay.1 H with rfl | H
   ·exact G _ _ F
   ·exact G _ _ (I x y b F (J b H))
  ·rename_i F;refine List.pairwise_cons.2 ⟨fun b H=>?_,qjP I G x O⟩;rcases qay.1 ((qe8 x ys).mem_iff.1 H) with rfl | H
   ·exact F
   ·exact J b H
theorem qic (H:∀a b c,lt a b->¬lt c b->lt a c) (G:∀a b,lt a b->¬lt b a) (l:List α):Ord lt (isort lt l):=by
 have I:∀(l F:List α),Ord lt F->Ord lt (l.foldl (fun F x=>insR lt x F) F):=by
  intro l
  induction l with
  | nil=>exact fun F h=>h
  | cons x l ih=>exact fun F h=>ih _ (qjP H G x h)
 exact I l [] List.Pairwise.nil
end
def Stab (F:Nat->Rat) (l:List Nat):Prop:=l.Pairwise fun a b=>F a<F b\/(F a=F b/\a<b)
theorem qh8 (F:Nat->Rat) (x:Nat):∀{l:List Nat},(∀a∈l,a<x)->Stab F l->Stab F (insR (fun a b=>F a<F b) x l)
 | [],_,_=>List.pairwise_singleton _ _
 | y :: ys,J,h=>by
  obtain⟨I,O⟩:=List.pairwise_cons.1 h;unfold insR;split
  ·rename_i H;refine List.pairwise_cons.2 ⟨fun b G=>?_,h⟩;rcases qay.1 G with rfl | G
   ·exact .inl H
   ·rcases I b G with e | ⟨e,_⟩
    ·exact .inl (by grind)
    ·exact .inl (by grind)
  ·rename_i H;refine List.pairwise_cons.2 ⟨fun b G=>?_,qh8 F x (fun a U=>J a (qbs _ U)) O⟩;rcases qay.1 ((qe8 x ys).mem_iff.1 G) with rfl | G
   ·have:=J y (qbg ..)
    by_cases e:F y=F b
    ·exact .inr ⟨e,this⟩
    ·exact .inl (by grind)
   ·exact I b G
theorem qg5 (F:Nat->Rat):∀n,Stab F (isort (fun a b=>F a<F b) (List.range n))
 | 0=>List.Pairwise.nil
 | n+1=>by
  rw [List.range_succ,qeq];refine qh8 F n (fun a G=>?_) (qg5 F n);exact qau.1 ((qdm _).mem_iff.1 G)
section
variable {lt:Nat->Nat->Prop} [DecidableRel lt]
def InsSt (lt:Nat->Nat->Prop) [DecidableRel lt] (l d:List Nat) (i:Nat):Prop:=d=isort lt (l.take i)++l.drop i
def InsIn (lt:Nat->Nat->Prop) [DecidableRel lt] (l d:List Nat) (i j x:Nat):Prop:=∃A B:List Nat,d=A++x :: (B++l.drop (i+1))/\A.length=j/\A++B=isort lt (l.take i)/\(∀b∈B,lt x b)/\l[i]? = some x
theorem InsSt.start:∀l:List Nat,InsSt lt l l 1
 | []=>rfl
 | _ :: _=>rfl
theorem InsSt.done {l d:List Nat} {i:Nat} (h:InsSt lt l d i) (F:l.length<=i):d=isort lt l:=by
 rw [h,qal F,List.drop_eq_nil_of_le F,qbE]
theorem InsSt.inn {l d:List Nat} {i:Nat} (h:InsSt lt l d i) (F:i<l.length):∃x,InsIn lt l d i i x:=by
 refine⟨l[i],isort lt (l.take i),[],?_,by rw [qgd,qat];omega,qbE _,fun b G=>absurd G (by simp),qad F⟩;rw [h,qbw,<-List.drop_eq_getElem_cons F]
theorem InsIn.cur {l d:List Nat} {i j x:Nat} (h:InsIn lt l d i j x):d[j]? = some x/\j<d.length/\x∈l:=by
 obtain⟨A,B,rfl,rfl,_,_,F⟩:=h;exact⟨by rw [qar qN,qaK];rfl,by rw [qaf,qbH];omega,List.mem_of_getElem? F⟩
theorem InsIn.stop {l d:List Nat} {i j x:Nat} (h:InsIn lt l d i j x) (G:∀a∈d.take j,¬lt x a):InsSt lt l d (i+1):=by
 obtain⟨A,B,rfl,rfl,F,hB,H⟩:=h;rw [qbJ] at G;have I:=(List.getElem?_eq_some_iff.1 H).1;unfold InsSt;rw [List.take_add_one,H]
 show _=isort lt (l.take i++[x])++_
 rw [qeq,<-F,qg4 x A B G hB,qaA];rfl
theorem InsIn.zero {l d:List Nat} {i x:Nat} (h:InsIn lt l d i 0 x):InsSt lt l d (i+1):=h.stop fun a F=>absurd F (by simp)
theorem InsIn.prev {l d:List Nat} {i j x:Nat} (J:∀a b c,lt a b->¬lt c b->lt a c) (O:∀a b,lt a b->¬lt b a) (h:InsIn lt l d i (j+1) x) :
  ∃y,d[j]? = some y/\y∈l/\(lt x y->InsIn lt l ((d.set (j+1) y).set j x) i j x)/\(¬lt x y->InsSt lt l d (i+1)):=by
 have Y:=h;obtain⟨A,B,rfl,F,H,hB,hx⟩:=h;have hne:A≠[]:=fun e=>by rw [e] at F;cases F
 obtain⟨G,y,rfl⟩:∃G y,A=G++[y]:=⟨_,_,(List.dropLast_concat_getLast hne).symm⟩;have Z:G.length=j:=by rw [qaf] at F;exact Nat.succ.inj F
 subst Z;refine⟨y,?_,?_,fun I=>?_,fun I=>Y.stop fun a V=>?_⟩
 ·rw [qaA,qar qN,qaK];rfl
 ·have:y∈isort lt (l.take i):=by rw [<-H];simp
  exact qbe ((qdm _).mem_iff.1 this)
 ·refine⟨G,y :: B,?_,rfl,by rw [<-H];simp,fun b U=>?_,hx⟩
  ·rw [qaA,qa4 _ _ (by omega),qa4 _ _ (by omega),show G.length+1-G.length=1 by omega,qaK];rfl
  ·rcases qay.1 U with rfl | U
   ·exact I
   ·exact hB b U
 ·rw [<-F,qbJ] at V;have ho:Ord lt (G++[y]):=by
   have:=qic J O (l.take i);rw [<-H] at this;exact (List.pairwise_append.1 this).1
  exact ord_last J ho I a V
end
theorem qg2 {lt F:Nat->Nat->Prop} [DecidableRel lt] [DecidableRel F] (x:Nat):∀{l:List Nat},(∀y∈l,lt x y↔F x y)->insR lt x l=insR F x l
 | [],_=>rfl
 | y :: ys,h=>by
  unfold insR;rw [qg2 x (l:=ys) fun z H=>h z (qbs _ H)]
  by_cases e:lt x y
  ·rw [if_pos e,if_pos ((h y (qbg ..)).1 e)]
  ·rw [if_neg e,if_neg fun G=>e ((h y (qbg ..)).2 G)]
theorem qgc {lt F:Nat->Nat->Prop} [DecidableRel lt] [DecidableRel F] {l:List Nat} (h:∀a∈l,∀b∈l,lt a b↔F a b):isort lt l=isort F l:=by
 have G:∀i,i<=l.length->isort lt (l.take i)=isort F (l.take i):=by
  intro i
  induction i with
  | zero=>intro _;rfl
  | succ i ih =>
   intro I;rw [List.take_add_one,qad (show i<l.length by omega)]
   show isort lt (l.take i++[l[i]])=isort F (l.take i++[l[i]])
   rw [qeq,qeq,ih (by omega)];refine qg2 _ fun y H=>h _ (qbG _) _ (qbe ((qdm _).mem_iff.1 H))
 have:=G l.length qN
 rwa [qba] at this
open Go.RowKit Go.Lib
def body (s:List UInt8):List UInt8:=trimPrefix s [45]
def signd (s:List UInt8):Bool:=hasPrefix s [45]
theorem qht (s:List UInt8):body (45 :: s)=s/\signd (45 :: s)=true:=⟨rfl,rfl⟩
theorem qhu {s:List UInt8} (h:s.head?≠some 45):body s=s/\signd s=false:=by
 cases s with
 | nil=>exact⟨rfl,rfl⟩
 | cons c t =>
  have G:c≠45:=fun e=>h (by rw [e];rfl)
  have F:hasPrefix (c :: t) [45]=false:=by
   show (45 == c && _)=false
   rw [beq_eq_false_iff_ne.2 (Ne.symm G)];rfl
  refine⟨?_,F⟩
  show trimPrefix (c :: t) [45]=c :: t
  unfold trimPrefix;rw [F];rfl
structure Valid (s:List UInt8):Prop where
 nums:Nums (body s)
 pos:0<(body s).length
 le:(body s).length<=600
 lead:(body s).head? = some 48->(body s).length=1/\signd s=false
def ival (s:List UInt8):Int:=if signd s=true then -(dval (body s):Int) else dval (body s)
theorem Valid.plainly {s:List UInt8} (h:Valid s):qiV (body s):=⟨fun e=>by have:=h.pos;rw [e] at this;exact absurd this (by simp),h.nums,fun e=>(h.lead e).1⟩
theorem Valid.natAbs {s:List UInt8} (_h:Valid s):(ival s).natAbs=dval (body s):=by
 unfold ival;split
 ·rw [qbu,qaq]
 ·rw [qaq]
theorem Valid.neg {s:List UInt8} (h:Valid s):decide (ival s<0)=signd s:=by
 unfold ival;cases hs:signd s with
 | false=>rw [if_neg (by simp)];exact qU (by omega)
 | true =>
  rw [if_pos rfl];refine qV ?_;rcases qaW (dval (body s)) with h0 | h0
  ·have F:=qhj _ h.plainly;rw [h0,qbX (by decide)] at F;have:=(h.lead (by rw [F];rfl)).2;rw [hs] at this;cases this
  ·omega
theorem qkq {v n k:Nat} (h:v<10 ^ n) (F:n<=9*k):Fit v k:=by
 unfold Fit;rw [pow9];exact qai h (qaZ (by decide) F)
theorem Valid.fit {s:List UInt8} (h:Valid s):Fit (ival s).natAbs 67:=by
 rw [h.natAbs];exact qkq (qlm _ _ rfl h.nums) (by have:=h.le;omega)
def itxt (z:Int):List UInt8:=if z<0 then 45 :: decDigits z.natAbs else decDigits z.natAbs
theorem qfP (u:Nat):(decDigits u).head?≠some 45:=by
 cases h:decDigits u with
 | nil=>exact absurd h (qec u)
 | cons c t =>
  intro e;have G:c=45:=qag e;have:=qeE u c (by rw [h];exact qbg);rw [G] at this;have F:(45:UInt8).toNat=45:=rfl;omega
theorem qeV (z:Int):body (itxt z)=decDigits z.natAbs/\signd (itxt z)=decide (z<0):=by
 unfold itxt
 by_cases h:z<0
 ·rw [if_pos h,qV h];exact qht _
 ·rw [if_neg h,qU h];exact qhu (qfP _)
theorem qdu (z:Int):ival (itxt z)=z:=by
 unfold ival;rw [(qeV z).1,(qeV z).2,qgP]
 by_cases h:z<0
 ·rw [if_pos (qV h)];omega
 ·rw [if_neg (by rw [qU h];simp)];omega
theorem qfE {z:Int} (h:(decDigits z.natAbs).length<=600):Valid (itxt z):=by
 obtain⟨F,H⟩:=qeV z;refine⟨by rw [F];exact qeE _,by rw [F];exact List.length_pos_iff.2 (qec _),by rw [F];exact h,fun e=>?_⟩;rw [F] at e;have G:=qgO _ e;rw [F,H,G,qbX (by decide)];exact⟨rfl,qU (by omega)⟩
theorem Valid.eq {s:List UInt8} (h:Valid s):s=itxt (ival s):=by
 have H:=qhj _ h.plainly;have I:=h.natAbs;have F:=h.neg;unfold itxt;rw [I,<-H]
 by_cases G:s.head? = some 45
 ·obtain⟨t,rfl⟩:∃t,s=45 :: t:=by
   cases s with
   | nil=>cases G
   | cons c t=>exact⟨t,by rw [qag G]⟩
  rw [(qht t).2] at F;rw [if_pos (of_decide_eq_true F),(qht t).1]
 ·rw [(qhu G).2] at F;rw [if_neg (of_decide_eq_false F),(qhu G).1]
theorem isM_ne {W:World} {H:Option Addr} {b F c n g:Nat} {L:List Nat} {cs:Array Value} {t:TypeId} {I:Nat×Nat} (h:IsM W H b F c n L) (hg:W.heap[g]? = some (.cells cs t I)) (hne:∀x∈cs.toList,∀d,x≠.int .u32 d) (J:0<n):b≠g:=by
 rintro rfl;have G:=h.cell 0 J;unfold World.cell? at G;simp only [hg] at G;have O:cs[F+0]? = some (.int .u32 ((dg L 0:Nat):Int)):=by
  simpa using G
 exact hne _ (by rw [Array.mem_toList_iff];exact Array.mem_of_getElem? O) _ rfl
theorem qb3 (W:World) (g:Nat) (cs:Array Value):W.grownBy (W.setRow g cs) (some g):=by
 refine⟨rfl,rfl,rfl,by simp [World.setRow],fun k F hr=>?_⟩;exact setRow_other _ _ _ _ (fun e=>hr (by rw [e]))
theorem qch {W W':World} {v:Value} {x g:Nat} {cs:Array Value} {t:TypeId} {G:Nat×Nat} (h:MagAt W v x) (J:W.grownBy W' (some g)) (hg:W.heap[g]? = some (.cells cs t G)) (hne:∀x∈cs.toList,∀d,x≠.int .u32 d):MagAt W' v x:=by
 obtain⟨ao,b,off,c,n,L,rfl,F,I⟩:=h;exact⟨ao,b,off,c,n,L,rfl,⟨F.len,F.cap,qg6 J F.cells (fun H=>isM_ne F hg hne (by rw [<-F.len];exact H)),F.dig,F.nrm⟩,I⟩
theorem qdo {W:World} {v:Value} {x g:Nat} {cs cs':Array Value} {t:TypeId} {F:Nat×Nat} (h:MagAt W v x) (hg:W.heap[g]? = some (.cells cs t F)) (hne:∀x∈cs.toList,∀d,x≠.int .u32 d):MagAt (W.setRow g cs') v x:=qch h (qb3 W g cs') hg hne
theorem qeR:∀x∈(#[.slice none 0 0,.bool false]:Array Value).toList,∀d,x≠.int .u32 d:=by
 intro x F d;rcases qay.1 F with rfl | F
 ·intro h;cases h
 ·rw [qao.1 F];intro h;cases h
def IntAt (W:World) (v:Value) (z:Int):Prop:=∃m,v=.agg #[m,.bool (decide (z<0))]/\MagAt W m z.natAbs
theorem IntAt.below {W W':World} {v:Value} {z:Int} (h:IntAt W v z) (H:Below W.heap.size W W'):IntAt W' v z:=by
 obtain⟨m,F,G⟩:=h;exact⟨m,F,G.below H⟩
theorem qkS {W:World} {m:Value} {x:Nat} {neg:Bool} (h:MagAt W m x):IntAt W (.agg #[m,.bool (neg && !decide (x=0))]) (if neg=true then -(x:Int) else x):=by
 have G:(neg && !decide (x=0))=decide ((if neg=true then -(x:Int) else x)<0):=by
  cases neg with
  | false=>rw [Bool.false_and,if_neg (by simp)];exact (qU (by omega)).symm
  | true =>
   rw [if_pos rfl,Bool.true_and]
   by_cases F:x=0
   ·rw [qV F];exact (qU (by omega)).symm
   ·rw [qU F];exact (qV (by omega)).symm
 rw [G];refine⟨m,rfl,?_⟩
 ·cases neg with
  | false=>simpa using h
  | true=>rw [if_pos rfl,qbu,qaq];exact h
