/- Ae, part 40: Ry Lq Lc Ex Lr Ey Wk0 Wz -/
import Derived.Deep.RegionHeld3
import Derived.Test.YtfminfgabiipjaaGreatDoorAe0
import Derived.Test.YtfminfgabiipjaaGreatDoorAe14
import Derived.Test.YtfminfgabiipjaaGreatDoorAe27
import Derived.Test.YtfminfgabiipjaaGreatDoorAe32
import Derived.Test.YtfminfgabiipjaaGreatDoorAe34
import Derived.Test.YtfminfgabiipjaaGreatDoorAe35
import Derived.Test.YtfminfgabiipjaaGreatDoorAe38
import Derived.Test.YtfminfgabiipjaaGreatDoorAe39
import Derived.Test.YtfminfgabiipjaaGreatDoorAe6
set_option maxRecDepth 100000
set_option maxHeartbeats 16000000
namespace Go.Proofs.YtfminfgabiipjaaGreatDoor
open Go.RowKit
def qdJ (W:World) (b i m:Nat) (f:Nat→Nat→Rat) (vs:List Value):Prop:=vs.length=i∧∀k,k<i→∃B',b≤B'∧Rws W B' 46 2 (vs.getD k undef) m (fflat (told m (f k)))
theorem qdJ.next {W:World} {b i m B:Nat} {f:Nat→Nat→Rat} {vs:List Value} {u:Value} (h:qdJ W b i m f vs) (hbB:b≤B) (hu:Rws W B 46 2 u m (fflat (told m (f i)))):qdJ W b (i+1) m f (vs++[u]):=by
 refine⟨by rw [qag,h.1];rfl,fun k hk=>?_⟩
 by_cases e:k=i
 ·subst e
  refine⟨B,hbB,?_⟩
  rw [qaa,qay (by rw [h.1];exact qah _),h.1,qaU]
  exact hu
 ·obtain⟨B',hB0,hB'⟩:=h.2 k (by omega)
  refine⟨B',hB0,?_⟩
  rw [qaa,qaL (by rw [h.1];omega),←qaa]
  exact hB'
theorem qdJ.map {W W':World} {b i m:Nat} {f:Nat→Nat→Rat} {vs:List Value} (h:qdJ W b i m f vs) (hk:∀(B':Nat) (vi:Value) (ni:Nat) (xi:List Value),Rws W B' 46 2 vi ni xi→Rws W' B' 46 2 vi ni xi):qdJ W' b i m f vs :=
 ⟨h.1,fun k hkk=>by
  obtain⟨B',hB0,hB'⟩:=h.2 k hkk
  exact⟨B',hB0,hk _ _ _ _ hB'⟩⟩
theorem ball {a W:World} {o:Obj} (h:Below a.heap.size a W):Below a.heap.size a (W.alloc o):=qbp h qN
def SameAs (w:World) (l l2:List FT) (e:Ending) (w':World):Prop:=∃ok,e=.returned (.bool ok)∧(ok=true↔l=l2)∧Below w.heap.size w w'
theorem qjy {l l2:List FT} {k:Nat} (h1:k<l.length) (h2:k<l2.length) (h:l.take k=l2.take k) (e:l.getD k fd0=l2.getD k fd0):l.take (k+1)=l2.take (k+1):=by
 rw [List.take_add_one,List.take_add_one,h]
 congr 1
 rw [qaa,qaa,qai h1,qai h2] at e
 rw [qai h1,qai h2]
 exact congrArg (fun x=>(some x).toList) e
theorem qhC {a b:ByteArray} (h:a≠b):¬a.toList=b.toList:=by
 rw [ByteArray.toList_eq,ByteArray.toList_eq]
 intro e
 apply h
 obtain⟨⟨x⟩⟩:=a
 obtain⟨⟨y⟩⟩:=b
 cases e;rfl
theorem qiR {l l2:List FT} {k:Nat} (h:l.getD k fd0≠l2.getD k fd0):¬l=l2:=fun e=>h (by rw [e])
theorem same_any (ao:Option Addr) (b off n c:Nat) (l:List FT) (ao2:Option Addr) (b2 off2 m c2:Nat) (l2:List FT) (w:World) (hn:l.length=n) (hn6:n≤1000000) (hc:FCells w ao b off l) (hm:l2.length=m) (hm6:m≤1000000) (hc2:FCells w ao2 b2 off2 l2) :
  Calls Tryz.prog 20 #[.slice ao n c,.slice ao2 m c2] w fun e w'=>SameAs w l l2 e w':=by
 have HC:=qH (qA hc (qA hn (qA hc2 hm)))
 clear hc hc2
 by_cases hne:n=m
 ·subst hne
  clear hn hm hm6
  go_enter Tryz.func20,Tryz.ntmps20
  go_wp2_with fail
  go_loopw [5] (fun x5 W=>∃k:Nat,x5=.int .i64 k∧k≤n∧Hid (l.take k=l2.take k)∧Hid (Below w.heap.size w W)) (fun x5 _=>n-(intOf x5).toNat)
  case atStart=>exact⟨0,rfl,qat _,qH rfl,qH qB⟩
  case round =>
   obtain⟨k,rfl,hk,hI,hB⟩:=hrel
   by_cases hkn:k<n
   ·have hki:(k:Int)<n:=by omega
    have haw:=HC.out.1.addr (by rw [HC.out.2.1];omega)
    subst haw
    have hao:=HC.out.2.2.1.addr (by rw [HC.out.2.2.2];omega)
    subst hao
    obtain⟨h1,h2⟩:=(HC.out.1.below hB.out).cell k (by rw [HC.out.2.1];exact hkn)
    obtain⟨h3,h4⟩:=(HC.out.2.2.1.below hB.out).cell k (by rw [HC.out.2.2.2];exact hkn)
    obtain⟨x1,hx1⟩:∃x1,(l.getD k fd0).1=x1:=⟨_,rfl⟩
    obtain⟨x2,hx2⟩:∃x2,(l.getD k fd0).2=x2:=⟨_,rfl⟩
    obtain⟨y1,hy1⟩:∃y1,(l2.getD k fd0).1=y1:=⟨_,rfl⟩
    obtain⟨y2,hy2⟩:∃y2,(l2.getD k fd0).2=y2:=⟨_,rfl⟩
    rw [hx1] at h1
    rw [hx2] at h2
    rw [hy1] at h3
    rw [hy2] at h4
    have HX:Hid (l.getD k fd0=(x1,x2)∧l2.getD k fd0=(y1,y2)):=qH ⟨by rw [←hx1,←hx2],by rw [←hy1,←hy2]⟩
    clear hx1 hx2 hy1 hy2
    by_cases g1:x1=y1
    ·by_cases g2:x2=y2
     ·subst g1
      subst g2
      have HI:=qH (qjy (by rw [HC.out.2.1];exact hkn) (by rw [HC.out.2.2.2];exact hkn) hI.out (HX.out.1.trans HX.out.2.symm))
      go_wp2_with fail
      go_quiet (fail)
      go_wp2_with fail
      go_roundw
      case rel=>exact⟨k+1,by go_num,hkn,HI,qH (below_drewN hB.out _)⟩
      case measure=>simp [intOf];omega
     ·subst g1
      have HN:=qH (qiR (l:=l) (l2:=l2) (k:=k) (by rw [HX.out.1,HX.out.2];exact fun h=>g2 (congrArg Prod.snd h)))
      have g3:=qhC g2
      clear g2
      go_wp2_with fail
      go_quiet (fail)
      go_wp2_with fail
      go_ret
      exact⟨false,rfl,qei HN.out,below_drewN hB.out _⟩
    ·have HN:=qH (qiR (l:=l) (l2:=l2) (k:=k) (by rw [HX.out.1,HX.out.2];exact fun h=>g1 (congrArg Prod.fst h)))
     have g3:=qhC g1
     clear g1
     go_wp2_with fail
     go_quiet (fail)
     go_wp2_with fail
     go_ret
     exact⟨false,rfl,qei HN.out,below_drewN hB.out _⟩
   ·obtain rfl:k=n:=by omega
    have hE:l=l2:=by have h:=hI.out;rwa [qaj (by rw [HC.out.2.1];exact qah _),qaj (by rw [HC.out.2.2.2];exact qah _)] at h
    have HE:=qH hE
    clear hE
    go_wp2_with fail
    go_ret
    exact⟨true,rfl,qhl HE.out,hB.out⟩
 ·have hb:((n:Int) != (m:Int))=true:=by rw [bne_iff_ne];omega
  have HN:Hid (¬l=l2):=qH (fun h=>hne (by rw [←hn,←hm,h]))
  go_enter Tryz.func20,Tryz.ntmps20
  go_wp2_with fail
  go_ret
  exact⟨false,rfl,qei HN.out,Below.refl _ _⟩
def cutA (s:ByteArray):ByteArray:=⟨(Lib.cut s.data.toList [47]).1.toArray⟩
def cutB (s:ByteArray):ByteArray:=⟨(Lib.cut s.data.toList [47]).2.1.toArray⟩
def cutC (s:ByteArray):Bool:=(Lib.cut s.data.toList [47]).2.2
theorem scut_any (s:ByteArray) (hs:s.size≤65536) (w:World) :
  Calls Tryz.prog 140 #[.string s,.string ⟨#[47]⟩] w fun e w'=>e=.returned (.tuple #[.string (cutA s),.string (cutB s),.bool (cutC s)])∧Below w.heap.size w w':=by
 have HO:Hid (∀W:World,_):=fun (W:World)=>Tryz.stringslite_Index_one s 47 W
 have hx1:Lib.indexB s ⟨#[47]⟩=Lib.indexByte s.data.toList 47:=Lib.index_one s.data.toList 47
 rcases Lib.indexB_cases s ⟨#[47]⟩ with hix | ⟨i,hix,hroom⟩
 ·obtain⟨e1,e2,e3⟩:=Lib.cutB_miss s ⟨#[47]⟩ hix
  rw [hx1] at hix
  rw [show cutA s=s from e1,show cutB s=ByteArray.empty from e2,show cutC s=false from e3]
  have HI:=qH hix
  clear hix hx1 e1 e2 e3
  go_enter Tryz.func140,Tryz.ntmps140
  go_wp2_with fail
  refine (HO.out _).mono ?_
  rintro e w1 ⟨rfl,rfl⟩
  rw [HI.out]
  go_wp2_with fail
  go_ret3
  exact⟨rfl,Below.refl _ _⟩
 ·obtain⟨e1,e2,e3⟩:=Lib.cutB_hit s ⟨#[47]⟩ i hix
  rw [hx1] at hix
  rw [show cutA s=_ from e1,show cutB s=_ from e2,show cutC s=true from e3]
  have hz:(⟨#[47]⟩:ByteArray).size=1:=rfl
  rw [hz] at hroom ⊢
  have HI:=qH hix
  have c1:(0:Int)≤↑i:=by omega
  have c2:(↑i:Int)≤↑s.size:=by omega
  have c3:(0:Int)≤↑i+1:=by omega
  have c4:(↑i+1:Int)≤↑s.size:=by omega
  have c5:IntKind.i64.wrap (↑i+1)=↑i+1:=by simp [IntKind.wrap,IntKind.bits,IntKind.signed];omega
  have mixed:Tryz.prog.follows .mixedOrders=true:=by kernel_rfl
  clear hix hx1 e1 e2 e3
  go_enter Tryz.func140,Tryz.ntmps140
  go_wp2_with fail
  refine (HO.out _).mono ?_
  rintro e w1 ⟨rfl,rfl⟩
  rw [HI.out]
  go_wp2_with fail
  go_region_o
  go_wp2
  go_ret3
  exact⟨rfl,qB.drew⟩
theorem qjp (s:ByteArray) (hs:s.size≤65536) (w:World) :
  Calls Tryz.prog 89 #[.string s,.string ⟨#[47]⟩] w fun e w'=>e=.returned (.tuple #[.string (cutA s),.string (cutB s),.bool (cutC s)])∧Below w.heap.size w w':=by
 have HO:Hid (∀W:World,_):=fun (W:World)=>scut_any s hs W
 generalize cutA s=a at *
 generalize cutB s=b at *
 generalize cutC s=c at *
 go_enter Tryz.func89,Tryz.ntmps89
 go_wp2_with fail
 refine (HO.out _).mono ?_
 rintro e w1 ⟨rfl,hb⟩
 have HB:=qH hb
 clear hb
 go_wp2_with fail
 go_ret3
 exact⟨rfl,HB.out⟩
def qf (s:ByteArray):FT:=(cutA s,if cutC s=true then cutB s else ⟨#[49]⟩)
structure SCells (W:World) (b off:Nat) (L:List ByteArray):Prop where
 cell:∀k,k<L.length→W.cell? ⟨b,off+k,none⟩=some (.string (L.getD k ⟨#[]⟩))
theorem SCells.below {W W':World} {b off:Nat} {L:List ByteArray} (h:SCells W b off L) (hb:Below W.heap.size W W'):SCells W' b off L :=
 ⟨fun k hk=>(hb.cell (qad W _ (h.cell k hk))).trans (h.cell k hk)⟩
theorem SCells.row {W:World} {g:Nat} {L:List ByteArray} {t:TypeId} {fz:Nat×Nat} (h:W.heap[g]? = some (.cells (L.map Value.string).toArray t fz)):SCells W g 0 L :=
 ⟨fun k hk=>by
  refine (cell_of_row _ _ _ _ _ _ h).trans ?_
  rw [qaW,qas,qaO,qaa,qai hk];rfl⟩
theorem q_new (b n c:Nat) (L:List ByteArray) (w:World) (hn:L.length=n) (hn6:n≤1000) (hc:SCells w b 0 L) (hL:∀k,(L.getD k ⟨#[]⟩).size≤65536) :
  Calls Tryz.prog 30 #[.slice (some ⟨b,0,none⟩) n c] w fun e w'=>∃v,e=.returned v∧Rws w' w.heap.size 46 2 v n (fflat (L.map qf))∧Below w.heap.size w w':=by
 have HC:=qH (qA hc (qA hn hL))
 clear hc hn hL
 go_enter Tryz.func30,Tryz.ntmps30
 go_wp2_with fail
 go_loopw [3,5,6,7,8,11] (fun x3 x5 x6 x7 x8 x11 W=>∃i:Nat,x11=.int .i64 i∧i≤n∧Hid (Rws W w.heap.size 46 2 x3 i (fflat ((L.take i).map qf)))∧Hid (Below w.heap.size w W)) (fun _ _ _ _ _ x11 _=>n-(intOf x11).toNat)
 case atStart=>exact⟨0,rfl,qat _,qH (Rws.nil _ _ _ _),qH qB⟩
 case round =>
  obtain⟨i,rfl,hi,hO,hB⟩:=hrel
  by_cases hlt:i<n
  ·have hii:(i:Int)<n:=by omega
   have hcl:=(HC.out.1.below hB.out).cell i (by rw [HC.out.2.1];exact hlt)
   rw [qaW] at hcl
   have hs:=HC.out.2.2 i
   have htake:(L.take (i+1)).map qf=(L.take i).map qf++[qf (L.getD i ⟨#[]⟩)]:=by
    rw [List.take_add_one,qbk,qaa,qai (by rw [HC.out.2.1];exact hlt)];rfl
   obtain⟨s,hss⟩:∃s,L.getD i ⟨#[]⟩=s:=⟨_,rfl⟩
   rw [hss] at hcl hs htake
   have HS:=qH (fun (W:World)=>qjp s hs W)
   unfold qf at htake
   have HT:=qH htake
   generalize cutA s=ca at *
   generalize cutB s=cb at *
   generalize cutC s=cc at *
   clear hss htake hs
   go_wp2_with fail
   refine (HS.out _).mono ?_
   rintro e w2 ⟨rfl,hb2⟩
   have HO2:=qH (hO.out.below hb2)
   have HB2:=qH (hB.out.trans (hb2.mono hB.out.size))
   clear hb2
   cases cc with
   | true =>
    go_wp2_with (first | (at_builtin;refine qfv rfl _ _ rfl HB2.out rfl HO2.out rfl rfl rfl (by omega) ?_;intro v' w' ho' hb') | fail)
    go_roundw
    case rel=>exact⟨i+1,by go_num,hlt,qH (by rw [show List.map qf (List.take (i+1) L)=_ from HT.out];exact ho'.out),hb'⟩
    case measure=>simp [intOf];omega
   | false =>
    go_wp2_with (first | (at_builtin;refine qfv rfl _ _ rfl HB2.out rfl HO2.out rfl rfl rfl (by omega) ?_;intro v' w' ho' hb') | fail)
    go_roundw
    case rel=>exact⟨i+1,by go_num,hlt,qH (by rw [show List.map qf (List.take (i+1) L)=_ from HT.out];exact ho'.out),hb'⟩
    case measure=>simp [intOf];omega
  ·obtain rfl:i=n:=by omega
   have hO2:=hO.out
   rw [qaj (by rw [HC.out.2.1];exact qah _)] at hO2
   have HH:=qH hO2
   obtain⟨ao,cap,rfl⟩:=hO2.shape
   clear hO2
   go_wp2_with fail
   go_ret
   exact⟨_,rfl,HH.out,hB.out⟩
theorem q_any (b n c:Nat) (L:List ByteArray) (w:World) (hn:L.length=n) (hn6:n≤1000) (hc:SCells w b 0 L) (hL:∀k,(L.getD k ⟨#[]⟩).size≤65536) :
  Calls Tryz.prog 30 #[.slice (some ⟨b,0,none⟩) n c] w fun e w'=>∃(ao:Option Addr) (g cap:Nat),e=.returned (.slice ao n cap)∧FCells w' ao g 0 (L.map qf)∧n≤cap∧Below w.heap.size w w':=by
 refine (q_new b n c L w hn hn6 hc hL).mono ?_
 rintro e w' ⟨v,rfl,h,hb⟩
 obtain⟨ao,g,cap,rfl,h1,h2⟩:=qh1 h (by rw [qaF,hn])
 exact⟨ao,g,cap,rfl,h1,h2,hb⟩
end Go.Proofs.YtfminfgabiipjaaGreatDoor
namespace Go.Proofs.YtfminfgabiipjaaGreatDoor
open Go.RowKit Go.Lib
def fv (l:List Rat) (i:Nat):Rat:=l.getD i 0
def fm (t:List (List Rat)) (i j:Nat):Rat:=(t.getD i []).getD j 0
theorem told_fv (l:List Rat):told l.length (fv l)=l.map ftxt:=by
 unfold told fv
 apply List.ext_getElem?
 intro i
 rw [qaO,qaO]
 by_cases h:i<l.length
 ·rw [qbh h,qai h]
  simp [qai h]
 ·rw [qaX (by rw [List.length_range];omega),qaX (by omega)];rfl
theorem qe2 {l:List Rat} {L:List ByteArray} (n:Nat) (hn:l.length=n) (h:L.map qf=l.map ftxt):L.map qf=told n (fv l):=by
 rw [h,←hn,told_fv]
theorem qfi {u:Nat} (h:u<10):num u=⟨#[UInt8.ofNat (48+u)]⟩:=by
 unfold num;rw [qbx h]
theorem qct {q:Rat} (z d:Nat) (hz:q.num=z) (hd:q.den=d) (h1:z<10) (h2:d<10):ftxt q=(⟨#[UInt8.ofNat (48+z)]⟩,⟨#[UInt8.ofNat (48+d)]⟩):=by
 unfold ftxt
 rw [hz,hd,frac.qe3 (by omega),qax,qfi h1,qfi h2]
theorem ft_0:ftxt 0=(⟨#[48]⟩,⟨#[49]⟩):=qct 0 1 rfl rfl (by decide) (by decide)
theorem ft_1:ftxt 1=(⟨#[49]⟩,⟨#[49]⟩):=qct 1 1 rfl rfl (by decide) (by decide)
theorem ft_2:ftxt 2=(⟨#[50]⟩,⟨#[49]⟩):=qct 2 1 rfl rfl (by decide) (by decide)
theorem ft_3:ftxt 3=(⟨#[51]⟩,⟨#[49]⟩):=qct 3 1 rfl rfl (by decide) (by decide)
theorem ft_4:ftxt 4=(⟨#[52]⟩,⟨#[49]⟩):=qct 4 1 rfl rfl (by decide) (by decide)
theorem ft_5:ftxt 5=(⟨#[53]⟩,⟨#[49]⟩):=qct 5 1 rfl rfl (by decide) (by decide)
theorem ft_6:ftxt 6=(⟨#[54]⟩,⟨#[49]⟩):=qct 6 1 rfl rfl (by decide) (by decide)
theorem ft_45:ftxt (4 / 5)=(⟨#[52]⟩,⟨#[53]⟩):=qct 4 5 (by decide +kernel) (by decide +kernel) (by decide) (by decide)
theorem ft_75:ftxt (7 / 5)=(⟨#[55]⟩,⟨#[53]⟩):=qct 7 5 (by decide +kernel) (by decide +kernel) (by decide) (by decide)
theorem ft_12:ftxt (1 / 2)=(⟨#[49]⟩,⟨#[50]⟩):=qct 1 2 (by decide +kernel) (by decide +kernel) (by decide) (by decide)
theorem ft_13:ftxt (1 / 3)=(⟨#[49]⟩,⟨#[51]⟩):=qct 1 3 (by decide +kernel) (by decide +kernel) (by decide) (by decide)
theorem ft_23:ftxt (2 / 3)=(⟨#[50]⟩,⟨#[51]⟩):=qct 2 3 (by decide +kernel) (by decide +kernel) (by decide) (by decide)
theorem ft_115:ftxt (11 / 5)=(⟨#[49,49]⟩,⟨#[53]⟩):=by
 unfold ftxt
 rw [show ((11 / 5:Rat)).num=11 by decide +kernel,show ((11 / 5:Rat)).den=5 by decide +kernel,frac.qe3 (by decide),qfi (u:=5) (by decide)]
 unfold num
 rw [show (11:Int).natAbs=11 from rfl,qbM (by decide),qbx (by decide)]
 rfl
theorem ft_m1:ftxt (-1)=(⟨#[45,49]⟩,⟨#[49]⟩):=by
 unfold ftxt
 rw [show ((-1:Rat)).num = -1 by decide +kernel,show ((-1:Rat)).den=1 by decide +kernel,frac.qgp (by decide),show ((-1:Int)).natAbs=1 from rfl,qfi (by decide)]
 rfl
theorem qcJ {n:Nat} {A:Nat→Nat→Rat} (B:Nat→Nat→Rat) (h:∀k,k<n→∀j,j<n→sumQ n (fun i=>B k i*A i j)=if k=j then 1 else 0):¬Sing n A:=by
 rintro ⟨y,⟨k,hk,hy⟩,h0⟩
 apply hy
 have e:sumQ n (fun i=>B k i*sumQ n fun j=>A i j*y j)=y k:=by
  have h1:sumQ n (fun i=>B k i*sumQ n fun j=>A i j*y j)=sumQ n fun i=>sumQ n fun j=>y j*(B k i*A i j):=qbz fun i _=>by
   rw [←qbZ];exact qbz fun j _=>by grind
  rw [h1,qdF]
  have h2:sumQ n (fun j=>sumQ n fun i=>y j*(B k i*A i j))=sumQ n fun j=>y j*(if k=j then 1 else 0):=qbz fun j hj=>by rw [qbZ,h k hk j hj]
  rw [h2,qcY n k _ hk fun j _ hjk=>by rw [if_neg (fun h=>hjk h.symm)];grind]
  rw [if_pos rfl];grind
 rw [←e]
 exact qcs _ _ fun i hi=>by rw [h0 i hi];grind
theorem qey {R n k:Nat} {A:Nat→Nat→Rat} (B C D:Nat→Nat→Rat) (hB:qbQ k n B k) (hC:∀i,i<R→∀j,j<n→A i j=sumQ k fun s=>C i s*B s j) (hD:∀s,s<k→∀j,j<n→B s j=sumQ R fun i=>D s i*A i j):qbQ R n A k:=by
 obtain⟨v,iv,sv⟩:=hB
 have hs:qcc R k n A B:=⟨fun i hi=>⟨C i,fun j hj=>hC i hi j hj⟩,fun s hs=>⟨D s,fun j hj=>hD s hs j hj⟩⟩
 exact⟨v,iv,hs.trans sv⟩
def qfC (n:Nat) (f:Nat→Nat→Rat) (b:Nat→Rat) (e:Ending) (w':World):Prop :=
 (Sing n f∧e=.returned (.tuple #[.slice none 0 0,.int .i64 7]))∨(¬Sing n f∧∃x,qb6 n f b x∧Tells n x e w')
theorem qfY.told {w0:World} {n:Nat} {f:Nat→Nat→Rat} {b:Nat→Rat} {e:Ending} {w':World} (h:qfY w0 (ttab n n f) (told n b) e w') (h1:1≤n) (h2:n≤10) (hf:∀i,i<n→qbw n (f i)) (hb:qbw n b):qfC n f b e w'∧Below w0.heap.size w0 w':=by
 have hT:=qc2 h1 (by omega) h1 h2 hf
 refine⟨?_,h.2⟩
 rcases h.1 with h | h | h | h
 ·exact absurd hT h.1
 ·exact absurd (qb7 hb) h.2.1
 ·exact absurd ⟨by rw [qbo,qbI],by rw [qbI,qcN h1]⟩ h.2.2.1
 ·have h5:=h.2.2.2.2
  rw [qbI] at h5
  have hc:∀i,i<n→∀j,j<n→tval (ttab n n f) i j=f i j:=fun i hi j hj=>qgm hi hj
  rcases h5 with ⟨hs,he⟩ | ⟨hs,x,hx,ht⟩
  ·exact qaJ ⟨hs.congr hc,he⟩
  ·exact qaA ⟨fun hs2=>hs (hs2.congr fun i hi j hj=>(hc i hi j hj).symm),x,hx.congr hc (fun i hi=>qcP hi) (fun _ _=>rfl),ht⟩
theorem qg0.told {w0:World} {R n:Nat} {f:Nat→Nat→Rat} {e:Ending} {w':World} (h:qg0 w0 (ttab R n f) e w') (h1:1≤R) (h2:R≤40) (h3:1≤n) (h4:n≤10) (hf:∀i,i<R→qbw n (f i)):(∃k:Nat,qbQ R n f k∧e=.returned (.tuple #[.int .i64 k,.int .i64 0]))∧Below w0.heap.size w0 w':=by
 have hT:=qc2 h1 h2 h3 h4 hf
 refine⟨?_,h.2⟩
 rcases h.1 with ⟨_,k,hk,he⟩ | h
 ·rw [qbI,qcN h1] at hk
  exact⟨k,hk.congr fun i hi j hj=>qgm hi hj,he⟩
 ·exact absurd hT h.1
theorem qhm.told {w0:World} {R n:Nat} {f:Nat→Nat→Rat} {b w x:Nat→Rat} {e:Ending} {w':World} (h:qhm w0 (ttab R n f) (told R b) (told R w) (told n x) e w') (h1:1≤R) (h2:R≤40) (h3:1≤n) (h4:n≤10) (hf:∀i,i<R→qbw n (f i)) (hb:qbw R b) (hw:qbw R w) (hx:qbw n x) (hw0:∀i,i<R→0≤w i) :
  (Short (msR R n f b w x)∧e=.returned (.tuple #[fstr (msR R n f b w x),.int .i64 0])∨¬Short (msR R n f b w x)∧e=.returned (.tuple #[.agg #[.string ⟨#[]⟩,.string ⟨#[]⟩],.int .i64 6]))∧Below w0.heap.size w0 w':=by
 have hT:=qc2 h1 h2 h3 h4 hf
 refine⟨?_,h.2⟩
 rcases h.1 with h | h | h | h
 ·exact absurd hT h.1
 ·exact absurd ⟨qb7 hb,qb7 hw,qb7 hx⟩ h.2.1
 ·exact absurd ⟨by rw [qbo,qbI],by rw [qbo,qbI],by rw [qbo,qcN h1],qhD hw0⟩ h.2.2.2.2.1
 ·have h5:=h.2.2.2.2.2.2.2.2
  rw [qcN h1,qbI,qif] at h5
  exact h5
theorem Tells.short {n:Nat} {x:Nat→Rat} {e:Ending} {w':World} (h:Tells n x e w') (hs:qbw n x):∃g,e=.returned (.tuple #[.slice (some ⟨g,0,none⟩) n n,.int .i64 0])∧FCells w' (some ⟨g,0,none⟩) g 0 (told n x):=by
 rcases h with ⟨_,h⟩ | ⟨h,_⟩
 ·exact h
 ·exact absurd hs h
theorem qfC.only {n:Nat} {f:Nat→Nat→Rat} {b x:Nat→Rat} {e:Ending} {w':World} (h:qfC n f b e w') (hs:¬Sing n f) (hx:qb6 n f b x) (hsx:qbw n x):∃g,e=.returned (.tuple #[.slice (some ⟨g,0,none⟩) n n,.int .i64 0])∧FCells w' (some ⟨g,0,none⟩) g 0 (told n x):=by
 rcases h with ⟨h,_⟩ | ⟨_,y,hy,ht⟩
 ·exact absurd h hs
 ·have he:=hy.uniq hs hx
  rw [←qeB he]
  exact ht.short (hsx.congr fun i hi=>(he i hi).symm)
theorem qfB.only {R n:Nat} {f:Nat→Nat→Rat} {b w x:Nat→Rat} {e:Ending} {w':World} (h:qfB R n f b w e w') (hs:¬Sing n (normR R n f b w)) (hx:qb6 n (normR R n f b w) (fun r=>normR R n f b w r n) x) (hsx:qbw n x):∃g,e=.returned (.tuple #[.slice (some ⟨g,0,none⟩) n n,.int .i64 0])∧FCells w' (some ⟨g,0,none⟩) g 0 (told n x):=by
 rcases h with ⟨h,_⟩ | ⟨_,y,hy,ht⟩
 ·exact absurd h hs
 ·have he:=hy.uniq hs hx
  rw [←qeB he]
  exact ht.short (hsx.congr fun i hi=>(he i hi).symm)
theorem qfo {q:Rat} (h:q.num.natAbs<10∧q.den<10):Short q:=⟨by rw [qfi h.1];exact (by decide:1≤600),by rw [qfi h.2];exact (by decide:1≤600)⟩
end Go.Proofs.YtfminfgabiipjaaGreatDoor
namespace Go.Proofs.YtfminfgabiipjaaGreatDoor
open Go.RowKit
theorem qcz (v:Value) (w:World):Calls Tryz.prog 32 #[v] w fun e w'=>e=.returned v∧w'=w:=by
 go_enter Tryz.func32,Tryz.ntmps32
 go_wp2_with fail
 go_ret
 exact⟨rfl,rfl⟩
def IsAt (w:World) (b:Nat) (L:List ByteArray):Prop:=∃gs,w.heap[b]? = some (.cells #[.slice (some ⟨gs,0,none⟩) L.length L.length] 139 (0,0))∧SCells w gs 0 L
theorem IsAt.below {w w':World} {b:Nat} {L:List ByteArray} (h:IsAt w b L) (hb:Below w.heap.size w w'):IsAt w' b L:=by
 obtain⟨gs,h1,h2⟩:=h
 exact⟨gs,zkeep hb _ _ h1,h2.below hb⟩
theorem qhw (gs:Nat) (L:List ByteArray) (w:World) (hs:SCells w gs 0 L) :
  Calls Tryz.prog 34 #[.slice (some ⟨gs,0,none⟩) L.length L.length] w fun e w'=>∃b,e=.returned (.func (.func 91) #[] #[.pointer (some ⟨b,0,none⟩)])∧Below w.heap.size w w'∧IsAt w' b L:=by
 have hb1:Below w.heap.size w (w.alloc (.cells #[.slice (some ⟨gs,0,none⟩) L.length L.length] 139)):=qbp qB qN
 have H:=qH (qA hb1 (show IsAt (w.alloc (.cells #[.slice (some ⟨gs,0,none⟩) L.length L.length] 139)) w.heap.size L from ⟨gs,qM _ _ _ rfl,hs.below hb1⟩))
 clear hb1 hs
 generalize L.length=n at *
 go_enter Tryz.func34,Tryz.ntmps34
 go_wp2_with fail
 go_ret
 exact⟨_,rfl,H.out.1,H.out.2⟩
theorem qdO (n:Int) (w:World) :
  Calls Tryz.prog 35 #[.int .i64 n] w fun e w'=>∃b,e=.returned (.func (.func 92) #[] #[.pointer (some ⟨b,0,none⟩)])∧Below w.heap.size w w'∧w'.heap[b]? = some (.cells #[.int .i64 n] 3 (0,0)):=by
 have H:=qH (qA (qbp (o:=.cells #[.int .i64 n] 3) (Below.refl w.heap.size w) qN) (qM w (.cells #[.int .i64 n] 3) _ rfl))
 go_enter Tryz.func35,Tryz.ntmps35
 go_wp2_with fail
 go_ret
 exact⟨_,rfl,H.out.1,H.out.2⟩
theorem qbV (n:Int) (w:World) :
  Calls Tryz.prog 36 #[.int .i64 n] w fun e w'=>∃b,e=.returned (.func (.func 93) #[] #[.pointer (some ⟨b,0,none⟩)])∧Below w.heap.size w w'∧w'.heap[b]? = some (.cells #[.int .i64 n] 33 (0,0)):=by
 have H:=qH (qA (qbp (o:=.cells #[.int .i64 n] 33) (Below.refl w.heap.size w) qN) (qM w (.cells #[.int .i64 n] 33) _ rfl))
 go_enter Tryz.func36,Tryz.ntmps36
 go_wp2_with fail
 go_ret
 exact⟨_,rfl,H.out.1,H.out.2⟩
theorem qde (n:Int) (b:Nat) (w:World) (hb:w.heap[b]? = some (.cells #[.int .i64 n] 3 (0,0))) :
  Calls Tryz.prog 92 #[.int .i64 n,.int .i64 0,.pointer (some ⟨b,0,none⟩)] w fun r w'=>r=.returned (.bool true)∧w'=w:=by
 have hc:w.cell? ⟨b,0,none⟩=some (.int .i64 n):=cell_of_row _ _ 0 _ _ _ hb
 clear hb
 go_enter Tryz.func92,Tryz.ntmps92
 go_wp2_with fail
 go_ret
 exact⟨rfl,rfl⟩
theorem qbN (n:Int) (b:Nat) (w:World) (hb:w.heap[b]? = some (.cells #[.int .i64 n] 33 (0,0))) :
  Calls Tryz.prog 93 #[.slice none 0 0,.int .i64 n,.pointer (some ⟨b,0,none⟩)] w fun r w'=>r=.returned (.bool true)∧w'=w:=by
 have hc:w.cell? ⟨b,0,none⟩=some (.int .i64 n):=cell_of_row _ _ 0 _ _ _ hb
 clear hb
 go_enter Tryz.func93,Tryz.ntmps93
 go_wp2_with fail
 go_ret
 exact⟨rfl,rfl⟩
theorem is1_yes (ao:Option Addr) (g off n c b:Nat) (L:List ByteArray) (w:World) (hb:IsAt w b L) (hn:L.length=n) (hn6:n≤1000) (hL:∀k,(L.getD k ⟨#[]⟩).size≤65536) (hf:FCells w ao g off (L.map qf)) :
  Calls Tryz.prog 91 #[.slice ao n c,.int .i64 0,.pointer (some ⟨b,0,none⟩)] w fun r w'=>r=.returned (.bool true)∧Below w.heap.size w w':=by
 obtain⟨gs,h1,h2⟩:=hb
 rw [hn] at h1
 have hc:w.cell? ⟨b,0,none⟩=some (.slice (some ⟨gs,0,none⟩) n n):=cell_of_row _ _ 0 _ _ _ h1
 have HQ:=qH (q_any gs n n L w hn hn6 h2 hL)
 have HF:=qH (qA hf hn)
 clear h1 h2 hn hf hL
 go_enter Tryz.func91,Tryz.ntmps91
 go_wp2_with fail
 refine HQ.out.mono ?_
 rintro e w2 ⟨a2,g2,c2,rfl,hf2,hc2,hb2⟩
 have HS:=qH (same_any ao g off n c (L.map qf) a2 g2 0 n c2 (L.map qf) w2 (by rw [qaF,HF.out.2]) (by omega) (HF.out.1.below hb2) (by rw [qaF,HF.out.2]) (by omega) hf2)
 have HB:=qH hb2
 clear hf2 hb2 hc
 go_wp2_with fail
 refine HS.out.mono ?_
 rintro e w3 ⟨ok,rfl,hok,hb3⟩
 obtain rfl:ok=true:=hok.2 rfl
 have HB3:=qH (HB.out.trans (hb3.mono HB.out.size))
 clear hb3 hok
 go_wp2_with fail
 go_ret
 exact⟨rfl,HB3.out⟩
theorem qer {W W':World} {o:Obj} (h:Below (W.alloc o).heap.size (W.alloc o) W'):Below W.heap.size W W':=((Below.refl _ W).alloc qN o).trans (h.mono (by simp only [qab];omega))
theorem qem {L:List ByteArray} (h:∀s∈L,s.size≤65536):∀k,(L.getD k ⟨#[]⟩).size≤65536:=fun k=>by
 rw [qaa]
 cases e:L[k]? with
 | none=>exact (by decide:0≤65536)
 | some s=>exact h s (List.mem_of_getElem? e)
theorem q_lit (W:World) (L:List ByteArray) (l:List Rat) (n:Nat) (hL:L.length=n) (hl:l.length=n) (hn:n≤1000) (h:L.map qf=l.map ftxt) (hz:∀s∈L,s.size≤65536) :
  Calls Tryz.prog 30 #[.slice (some ⟨W.heap.size,0,none⟩) n n] (W.alloc (.cells (L.map Value.string).toArray 9)) fun e w'=>∃(ao:Option Addr) (g c:Nat),e=.returned (.slice ao n c)∧FCells w' ao g 0 (told n (fv l))∧Below W.heap.size W w':=by
 refine (q_any W.heap.size n n L _ hL hn (SCells.row (heap_alloc_new W _)) (qem hz)).mono ?_
 rintro e w' ⟨ao,g,c,rfl,hf,_,hb⟩
 rw [qe2 n hl h] at hf
 exact⟨ao,g,c,rfl,hf,qer hb⟩
theorem qhx (W:World) (L:List ByteArray) (n:Nat) (hL:L.length=n) :
  Calls Tryz.prog 34 #[.slice (some ⟨W.heap.size,0,none⟩) n n] (W.alloc (.cells (L.map Value.string).toArray 9)) fun e w'=>∃b,e=.returned (.func (.func 91) #[] #[.pointer (some ⟨b,0,none⟩)])∧IsAt w' b L∧Below W.heap.size W w':=by
 subst hL
 refine (qhw W.heap.size L _ (SCells.row (heap_alloc_new W _))).mono ?_
 rintro e w' ⟨b,rfl,hb,hi⟩
 exact⟨b,rfl,hi,qer hb⟩
theorem qdX {ao:Option Addr} {g n c b:Nat} {L:List ByteArray} {l:List Rat} {w:World} (hb:IsAt w b L) (hL:L.length=n) (hl:l.length=n) (hn:n≤1000) (h:L.map qf=l.map ftxt) (hz:∀s∈L,s.size≤65536) (hf:FCells w ao g 0 (told n (fv l))) :
  Calls Tryz.prog 91 #[.slice ao n c,.int .i64 0,.pointer (some ⟨b,0,none⟩)] w fun r w'=>r=.returned (.bool true)∧Below w.heap.size w w' :=
 is1_yes ao g 0 n c b L w hb hL hn (qem hz) (by rw [qe2 n hl h];exact hf)
theorem rows1 (W:World) {ao:Option Addr} {g n c:Nat} {l:List FT} (hl:l.length=n) (h:FCells W ao g 0 l) :
  Calls Tryz.prog 32 #[.slice (some ⟨W.heap.size,0,none⟩) 1 1] (W.alloc (.cells #[.slice ao n c] 23)) fun e w'=>∃gt,e=.returned (.slice (some ⟨gt,0,none⟩) 1 1)∧TCells w' (some ⟨gt,0,none⟩) gt 0 [l]∧Below W.heap.size W w':=by
 refine (qcz _ _).mono ?_
 rintro e w' ⟨rfl,rfl⟩
 have hb:Below W.heap.size W (W.alloc (.cells #[.slice ao n c] 23)):=qbp qB qN
 have hg:=heap_alloc_new W (.cells #[.slice ao n c] 23)
 refine⟨_,rfl,⟨fun _=>rfl,fun k hk=>?_⟩,hb⟩
 obtain rfl:k=0:=by simp at hk;omega
 refine⟨ao,g,0,c,?_,h.below hb⟩
 rw [show ([l]:Tbl).getD 0 []=l from rfl,hl]
 exact cell_of_row _ _ 0 _ _ _ hg
theorem rows2 (W:World) {ao:Option Addr} {g n c:Nat} {l:List FT} {ao2:Option Addr} {g2 n2 c2:Nat} {l2:List FT} (hl:l.length=n) (h:FCells W ao g 0 l) (hl2:l2.length=n2) (h2:FCells W ao2 g2 0 l2) :
  Calls Tryz.prog 32 #[.slice (some ⟨W.heap.size,0,none⟩) 2 2] (W.alloc (.cells #[.slice ao n c,.slice ao2 n2 c2] 23)) fun e w'=>∃gt,e=.returned (.slice (some ⟨gt,0,none⟩) 2 2)∧TCells w' (some ⟨gt,0,none⟩) gt 0 [l,l2]∧Below W.heap.size W w':=by
 refine (qcz _ _).mono ?_
 rintro e w' ⟨rfl,rfl⟩
 have hb:Below W.heap.size W (W.alloc (.cells #[.slice ao n c,.slice ao2 n2 c2] 23)):=qbp qB qN
 have hg:=heap_alloc_new W (.cells #[.slice ao n c,.slice ao2 n2 c2] 23)
 exact⟨_,rfl,qgW hg hl (h.below hb) hl2 (h2.below hb),hb⟩
theorem qbr {n:Nat} {x:Nat→Rat} (h:∀i,i<n→(x i).num.natAbs≤1000∧(x i).den≤1000):qbw n x:=fun i hi=>qhO (N:=1000) (h i hi) (by decide +kernel)
theorem qdj {n m:Nat} {f:Nat→Nat→Rat} (hm:m≤1000):∀k,k<n→((ttab n m f).getD k []).length≤4611686018427387904:=fun k hk=>by rw [qdI hk,qbo];omega
theorem qdh {n:Nat} {f:Nat→Nat→Rat} {b:Nat→Rat} {ao:Option Addr} {g c:Nat} {ao2:Option Addr} {g2 c2:Nat} {w:World} (h1:1≤n) (h2:n≤10) (hf:∀i,i<n→qbw n (f i)) (hb:qbw n b) (hT:TCells w ao g 0 (ttab n n f)) (hF:FCells w ao2 g2 0 (told n b)) (hP:HasT w) :
  Calls Tryz.prog 18 #[.slice ao n c,.slice ao2 n c2] w fun e w'=>qfC n f b e w'∧Below w.heap.size w w' :=
 (qdg ao g 0 n c _ ao2 g2 0 n c2 _ w (qbI _ _ _) (by omega) (qdj (by omega)) hT (qbo _ _) (by omega) hF hP).mono fun _ _ h=>h.told h1 h2 hf hb
theorem qdN {R n:Nat} {f:Nat→Nat→Rat} {ao:Option Addr} {g c:Nat} {w:World} (h1:1≤R) (h2:R≤40) (h3:1≤n) (h4:n≤10) (hf:∀i,i<R→qbw n (f i)) (hT:TCells w ao g 0 (ttab R n f)) :
  Calls Tryz.prog 16 #[.slice ao R c] w fun e w'=>(∃k:Nat,qbQ R n f k∧e=.returned (.tuple #[.int .i64 k,.int .i64 0]))∧Below w.heap.size w w' :=
 (qgK ao g 0 R c _ w (qbI _ _ _) (by omega) (qdj (by omega)) hT).mono fun _ _ h=>h.told h1 h2 h3 h4 hf
theorem qda {R n:Nat} {f:Nat→Nat→Rat} {b v:Nat→Rat} {ao:Option Addr} {g c:Nat} {ao2:Option Addr} {g2 c2:Nat} {ao3:Option Addr} {g3 c3:Nat} {w:World} (h1:1≤R) (h2:R≤40) (h3:1≤n) (h4:n≤10) (hf:∀i,i<R→qbw n (f i)) (hb:qbw R b) (hv:qbw R v) (hv0:∀i,i<R→0≤v i) (hT:TCells w ao g 0 (ttab R n f)) (hF:FCells w ao2 g2 0 (told R b)) (hF3:FCells w ao3 g3 0 (told R v)) (hP:HasT w) :
  Calls Tryz.prog 22 #[.slice ao R c,.slice ao2 R c2,.slice ao3 R c3] w fun e w'=>qfB R n f b v e w'∧Below w.heap.size w w' :=
 (qev ao g 0 R c _ ao2 g2 0 R c2 _ ao3 g3 0 R c3 _ w (qbI _ _ _) (by omega) (qdj (by omega)) hT (qbo _ _) (by omega) hF (qbo _ _) (by omega) hF3 hP).mono fun _ _ h=>h.told h1 h2 h3 h4 hf hb hv hv0
theorem qga {R n:Nat} {f:Nat→Nat→Rat} {b v x:Nat→Rat} {ao:Option Addr} {g c:Nat} {ao2:Option Addr} {g2 c2:Nat} {ao3:Option Addr} {g3 c3:Nat} {ao4:Option Addr} {g4 c4:Nat} {w:World} (h1:1≤R) (h2:R≤40) (h3:1≤n) (h4:n≤10) (hf:∀i,i<R→qbw n (f i)) (hb:qbw R b) (hv:qbw R v) (hx:qbw n x) (hv0:∀i,i<R→0≤v i) (hT:TCells w ao g 0 (ttab R n f)) (hF:FCells w ao2 g2 0 (told R b)) (hF3:FCells w ao3 g3 0 (told R v)) (hF4:FCells w ao4 g4 0 (told n x)) (hP:HasT w) :
  Calls Tryz.prog 24 #[.slice ao R c,.slice ao2 R c2,.slice ao3 R c3,.slice ao4 n c4] w fun e w'=>(Short (msR R n f b v x)∧e=.returned (.tuple #[fstr (msR R n f b v x),.int .i64 0])∨¬Short (msR R n f b v x)∧e=.returned (.tuple #[.agg #[.string ⟨#[]⟩,.string ⟨#[]⟩],.int .i64 6]))∧Below w.heap.size w w' :=
 (qcI ao g 0 R c _ ao2 g2 0 R c2 _ ao3 g3 0 R c3 _ ao4 g4 0 n c4 _ w (qbI _ _ _) (by omega) (qdj (by omega)) hT (qbo _ _) (by omega) hF (qbo _ _) (by omega) hF3 (qbo _ _) (by omega) hF4 hP).mono fun _ _ h=>h.told h1 h2 h3 h4 hf hb hv hx hv0
theorem qby {R n:Nat} {f:Nat→Nat→Rat} (h:∀i,i<R→∀j,j<n→(f i j).num.natAbs≤1000∧(f i j).den≤1000):∀i,i<R→qbw n (f i):=fun i hi=>qbr (h i hi)
theorem qcO {n k:Nat} {A:Nat→Nat→Rat} (σ:Nat→Nat) (hσ:∀s,s<k→σ s<n∧A s (σ s)≠0∧∀i,i<k→s<i→A i (σ s)=0):qbQ k n A k :=
 qbQ.steps qN σ (fun s hs=>⟨(hσ s hs).1,(hσ s hs).2.1,fun i h1 h2=>(hσ s hs).2.2 i h2 h1⟩) (fun i h1 h2=>absurd h1 (by omega))
theorem qfC.sing {n:Nat} {f:Nat→Nat→Rat} {b:Nat→Rat} {e:Ending} {w':World} (h:qfC n f b e w') (hs:Sing n f):e=.returned (.tuple #[.slice none 0 0,.int .i64 7]):=by
 rcases h with ⟨_,h⟩ | ⟨h,_⟩
 ·exact h
 ·exact absurd hs h
theorem qfB.sing {R n:Nat} {f:Nat→Nat→Rat} {b v:Nat→Rat} {e:Ending} {w':World} (h:qfB R n f b v e w') (hs:Sing n (normR R n f b v)):e=.returned (.tuple #[.slice none 0 0,.int .i64 7]):=by
 rcases h with ⟨_,h⟩ | ⟨h,_⟩
 ·exact h
 ·exact absurd hs h
theorem qjt {R n m:Nat} {f:Nat→Nat→Rat} {b:Nat→Rat} {ao:Option Addr} {g c:Nat} {ao2:Option Addr} {g2 c2:Nat} {w:World} (h1:1≤R) (h2:R≤40) (h3:1≤n) (h4:n≤10) (hm:m≤1000) (hf:∀i,i<R→qbw n (f i)) (hb:qbw m b) (hne:¬(m=R∧R=n)) (hT:TCells w ao g 0 (ttab R n f)) (hF:FCells w ao2 g2 0 (told m b)) (hP:HasT w) :
  Calls Tryz.prog 18 #[.slice ao R c,.slice ao2 m c2] w fun e w'=>e=.returned (.tuple #[.slice none 0 0,.int .i64 2])∧Below w.heap.size w w':=by
 refine (qdg ao g 0 R c _ ao2 g2 0 m c2 _ w (qbI _ _ _) (by omega) (qdj (by omega)) hT (qbo _ _) (by omega) hF hP).mono ?_
 rintro e w' ⟨h,hb'⟩
 refine⟨?_,hb'⟩
 rcases h with h | h | h | h
 ·exact absurd (qc2 h1 h2 h3 h4 hf) h.1
 ·exact absurd (qb7 hb) h.2.1
 ·exact h.2.2.2
 ·exact absurd ⟨by have:=h.2.2.1;rwa [qbo,qbI] at this,by have:=h.2.2.2.1;rwa [qbI,qcN h1] at this⟩ hne
theorem meas_neg {R n:Nat} {f:Nat→Nat→Rat} {b v x:Nat→Rat} {ao:Option Addr} {g c:Nat} {ao2:Option Addr} {g2 c2:Nat} {ao3:Option Addr} {g3 c3:Nat} {ao4:Option Addr} {g4 c4:Nat} {w:World} (h1:1≤R) (h2:R≤40) (h3:1≤n) (h4:n≤10) (hf:∀i,i<R→qbw n (f i)) (hb:qbw R b) (hv:qbw R v) (hx:qbw n x) (hv0:∃i,i<R∧(v i).num<0) (hT:TCells w ao g 0 (ttab R n f)) (hF:FCells w ao2 g2 0 (told R b)) (hF3:FCells w ao3 g3 0 (told R v)) (hF4:FCells w ao4 g4 0 (told n x)) (hP:HasT w) :
  Calls Tryz.prog 24 #[.slice ao R c,.slice ao2 R c2,.slice ao3 R c3,.slice ao4 n c4] w fun e w'=>e=.returned (.tuple #[.agg #[.string ⟨#[]⟩,.string ⟨#[]⟩],.int .i64 2])∧Below w.heap.size w w':=by
 have hneg:Neg (told R v):=by
  obtain⟨i,hi,hlt⟩:=hv0
  refine⟨i,by rw [qbo];exact hi,?_⟩
  rw [qdG hi,show (ftxt (v i)).1.data.toList=itxt (v i).num from rfl,qcH];exact hlt
 refine (qcI ao g 0 R c _ ao2 g2 0 R c2 _ ao3 g3 0 R c3 _ ao4 g4 0 n c4 _ w (qbI _ _ _) (by omega) (qdj (by omega)) hT (qbo _ _) (by omega) hF (qbo _ _) (by omega) hF3 (qbo _ _) (by omega) hF4 hP).mono ?_
 rintro e w' ⟨h,hb'⟩
 refine⟨?_,hb'⟩
 rcases h with h | h | h | h
 ·exact absurd (qc2 h1 h2 h3 h4 hf) h.1
 ·exact absurd ⟨qb7 hb,qb7 hv,qb7 hx⟩ h.2.1
 ·exact h.2.2.2.2.2
 ·exact absurd hneg h.2.2.2.2.2.2.2.1
theorem qhs {W:World} {ao:Option Addr} {g n:Nat} {x:Nat→Rat} {x1 x2:ByteArray} (hf:FCells W ao g 0 (told n x)) (hn:0<n) (hq:ftxt (x 0)=(x1,x2)):W.cell? ⟨g,0,none⟩=some (.string x1)∧W.cell? ⟨g,1,none⟩=some (.string x2):=by
 obtain⟨h1,h2⟩:=hf.cell 0 (by rw [qbo];exact hn)
 rw [qdG hn,hq] at h1 h2
 exact⟨h1,h2⟩
theorem qc3 {ao:Option Addr} {g R c:Nat} {t:Tbl} {w:World} (hR:t.length=R) (hl:R≤1000) (hw:∀k,k<R→(t.getD k []).length≤1000) (hT:TCells w ao g 0 t) (hn:¬TOk t) :
  Calls Tryz.prog 12 #[.slice ao R c] w fun e w'=>e=.returned (.int .i64 60)∧Below w.heap.size w w':=by
 refine (qd1 ao g 0 R c t w hR (by omega) (fun k hk=>qak (hw k hk) (by decide)) hT).mono ?_
 rintro e w' ⟨c,rfl,h,hb⟩
 rcases h with h | h
 ·first | exact absurd h.2 hn | exact absurd h.1 hn
 ·exact⟨by rw [h.1],hb⟩
theorem q_1 (W:World) :
  Calls Tryz.prog 30 #[.slice (some ⟨W.heap.size,0,none⟩) 1 1] (W.alloc (.cells #[.string ⟨#[49]⟩] 9)) fun e w'=>∃(ao:Option Addr) (g c:Nat),e=.returned (.slice ao 1 c)∧FCells w' ao g 0 (told 1 (fv [(1:Rat)]))∧Below W.heap.size W w' :=
 q_lit W [⟨#[49]⟩] [(1:Rat)] 1 rfl rfl (by decide) (by simp only [qan,qaq,ft_1];decide +kernel) (by decide)
theorem q_2 (W:World) :
  Calls Tryz.prog 30 #[.slice (some ⟨W.heap.size,0,none⟩) 1 1] (W.alloc (.cells #[.string ⟨#[50]⟩] 9)) fun e w'=>∃(ao:Option Addr) (g c:Nat),e=.returned (.slice ao 1 c)∧FCells w' ao g 0 (told 1 (fv [(2:Rat)]))∧Below W.heap.size W w' :=
 q_lit W [⟨#[50]⟩] [(2:Rat)] 1 rfl rfl (by decide) (by simp only [qan,qaq,ft_2];decide +kernel) (by decide)
theorem q_2_1 (W:World) :
  Calls Tryz.prog 30 #[.slice (some ⟨W.heap.size,0,none⟩) 2 2] (W.alloc (.cells #[.string ⟨#[50]⟩,.string ⟨#[49]⟩] 9)) fun e w'=>∃(ao:Option Addr) (g c:Nat),e=.returned (.slice ao 2 c)∧FCells w' ao g 0 (told 2 (fv [(2:Rat),1]))∧Below W.heap.size W w' :=
 q_lit W [⟨#[50]⟩,⟨#[49]⟩] [(2:Rat),1] 2 rfl rfl (by decide) (by simp only [qan,qaq,ft_1,ft_2];decide +kernel) (by decide)
theorem q_1_3 (W:World) :
  Calls Tryz.prog 30 #[.slice (some ⟨W.heap.size,0,none⟩) 2 2] (W.alloc (.cells #[.string ⟨#[49]⟩,.string ⟨#[51]⟩] 9)) fun e w'=>∃(ao:Option Addr) (g c:Nat),e=.returned (.slice ao 2 c)∧FCells w' ao g 0 (told 2 (fv [(1:Rat),3]))∧Below W.heap.size W w' :=
 q_lit W [⟨#[49]⟩,⟨#[51]⟩] [(1:Rat),3] 2 rfl rfl (by decide) (by simp only [qan,qaq,ft_1,ft_3];decide +kernel) (by decide)
theorem q_3_5 (W:World) :
  Calls Tryz.prog 30 #[.slice (some ⟨W.heap.size,0,none⟩) 2 2] (W.alloc (.cells #[.string ⟨#[51]⟩,.string ⟨#[53]⟩] 9)) fun e w'=>∃(ao:Option Addr) (g c:Nat),e=.returned (.slice ao 2 c)∧FCells w' ao g 0 (told 2 (fv [(3:Rat),5]))∧Below W.heap.size W w' :=
 q_lit W [⟨#[51]⟩,⟨#[53]⟩] [(3:Rat),5] 2 rfl rfl (by decide) (by simp only [qan,qaq,ft_3,ft_5];decide +kernel) (by decide)
theorem q_1_2 (W:World) :
  Calls Tryz.prog 30 #[.slice (some ⟨W.heap.size,0,none⟩) 2 2] (W.alloc (.cells #[.string ⟨#[49]⟩,.string ⟨#[50]⟩] 9)) fun e w'=>∃(ao:Option Addr) (g c:Nat),e=.returned (.slice ao 2 c)∧FCells w' ao g 0 (told 2 (fv [(1:Rat),2]))∧Below W.heap.size W w' :=
 q_lit W [⟨#[49]⟩,⟨#[50]⟩] [(1:Rat),2] 2 rfl rfl (by decide) (by simp only [qan,qaq,ft_1,ft_2];decide +kernel) (by decide)
theorem q_2_4 (W:World) :
  Calls Tryz.prog 30 #[.slice (some ⟨W.heap.size,0,none⟩) 2 2] (W.alloc (.cells #[.string ⟨#[50]⟩,.string ⟨#[52]⟩] 9)) fun e w'=>∃(ao:Option Addr) (g c:Nat),e=.returned (.slice ao 2 c)∧FCells w' ao g 0 (told 2 (fv [(2:Rat),4]))∧Below W.heap.size W w' :=
 q_lit W [⟨#[50]⟩,⟨#[52]⟩] [(2:Rat),4] 2 rfl rfl (by decide) (by simp only [qan,qaq,ft_2,ft_4];decide +kernel) (by decide)
theorem q_0 (W:World) :
  Calls Tryz.prog 30 #[.slice (some ⟨W.heap.size,0,none⟩) 1 1] (W.alloc (.cells #[.string ⟨#[48]⟩] 9)) fun e w'=>∃(ao:Option Addr) (g c:Nat),e=.returned (.slice ao 1 c)∧FCells w' ao g 0 (told 1 (fv [(0:Rat)]))∧Below W.heap.size W w' :=
 q_lit W [⟨#[48]⟩] [(0:Rat)] 1 rfl rfl (by decide) (by simp only [qan,qaq,ft_0];decide +kernel) (by decide)
theorem q_1_0_1 (W:World) :
  Calls Tryz.prog 30 #[.slice (some ⟨W.heap.size,0,none⟩) 3 3] (W.alloc (.cells #[.string ⟨#[49]⟩,.string ⟨#[48]⟩,.string ⟨#[49]⟩] 9)) fun e w'=>∃(ao:Option Addr) (g c:Nat),e=.returned (.slice ao 3 c)∧FCells w' ao g 0 (told 3 (fv [(1:Rat),0,1]))∧Below W.heap.size W w' :=
 q_lit W [⟨#[49]⟩,⟨#[48]⟩,⟨#[49]⟩] [(1:Rat),0,1] 3 rfl rfl (by decide) (by simp only [qan,qaq,ft_0,ft_1];decide +kernel) (by decide)
theorem q_0_1_1 (W:World) :
  Calls Tryz.prog 30 #[.slice (some ⟨W.heap.size,0,none⟩) 3 3] (W.alloc (.cells #[.string ⟨#[48]⟩,.string ⟨#[49]⟩,.string ⟨#[49]⟩] 9)) fun e w'=>∃(ao:Option Addr) (g c:Nat),e=.returned (.slice ao 3 c)∧FCells w' ao g 0 (told 3 (fv [(0:Rat),1,1]))∧Below W.heap.size W w' :=
 q_lit W [⟨#[48]⟩,⟨#[49]⟩,⟨#[49]⟩] [(0:Rat),1,1] 3 rfl rfl (by decide) (by simp only [qan,qaq,ft_0,ft_1];decide +kernel) (by decide)
theorem q_3_4 (W:World) :
  Calls Tryz.prog 30 #[.slice (some ⟨W.heap.size,0,none⟩) 2 2] (W.alloc (.cells #[.string ⟨#[51]⟩,.string ⟨#[52]⟩] 9)) fun e w'=>∃(ao:Option Addr) (g c:Nat),e=.returned (.slice ao 2 c)∧FCells w' ao g 0 (told 2 (fv [(3:Rat),4]))∧Below W.heap.size W w' :=
 q_lit W [⟨#[51]⟩,⟨#[52]⟩] [(3:Rat),4] 2 rfl rfl (by decide) (by simp only [qan,qaq,ft_3,ft_4];decide +kernel) (by decide)
theorem q_1_1 (W:World) :
  Calls Tryz.prog 30 #[.slice (some ⟨W.heap.size,0,none⟩) 2 2] (W.alloc (.cells #[.string ⟨#[49]⟩,.string ⟨#[49]⟩] 9)) fun e w'=>∃(ao:Option Addr) (g c:Nat),e=.returned (.slice ao 2 c)∧FCells w' ao g 0 (told 2 (fv [(1:Rat),1]))∧Below W.heap.size W w' :=
 q_lit W [⟨#[49]⟩,⟨#[49]⟩] [(1:Rat),1] 2 rfl rfl (by decide) (by simp only [qan,qaq,ft_1];decide +kernel) (by decide)
theorem q_0_3 (W:World) :
  Calls Tryz.prog 30 #[.slice (some ⟨W.heap.size,0,none⟩) 2 2] (W.alloc (.cells #[.string ⟨#[48]⟩,.string ⟨#[51]⟩] 9)) fun e w'=>∃(ao:Option Addr) (g c:Nat),e=.returned (.slice ao 2 c)∧FCells w' ao g 0 (told 2 (fv [(0:Rat),3]))∧Below W.heap.size W w' :=
 q_lit W [⟨#[48]⟩,⟨#[51]⟩] [(0:Rat),3] 2 rfl rfl (by decide) (by simp only [qan,qaq,ft_0,ft_3];decide +kernel) (by decide)
theorem q_1_1o2 (W:World) :
  Calls Tryz.prog 30 #[.slice (some ⟨W.heap.size,0,none⟩) 2 2] (W.alloc (.cells #[.string ⟨#[49]⟩,.string ⟨#[49,47,50]⟩] 9)) fun e w'=>∃(ao:Option Addr) (g c:Nat),e=.returned (.slice ao 2 c)∧FCells w' ao g 0 (told 2 (fv [(1:Rat),1 / 2]))∧Below W.heap.size W w' :=
 q_lit W [⟨#[49]⟩,⟨#[49,47,50]⟩] [(1:Rat),1 / 2] 2 rfl rfl (by decide) (by simp only [qan,qaq,ft_1,ft_12];decide +kernel) (by decide)
theorem q_m1 (W:World) :
  Calls Tryz.prog 30 #[.slice (some ⟨W.heap.size,0,none⟩) 1 1] (W.alloc (.cells #[.string ⟨#[45,49]⟩] 9)) fun e w'=>∃(ao:Option Addr) (g c:Nat),e=.returned (.slice ao 1 c)∧FCells w' ao g 0 (told 1 (fv [(-1:Rat)]))∧Below W.heap.size W w' :=
 q_lit W [⟨#[45,49]⟩] [(-1:Rat)] 1 rfl rfl (by decide) (by simp only [qan,qaq,ft_m1];decide +kernel) (by decide)
theorem ex1 {ao:Option Addr} {g c:Nat} {ao2:Option Addr} {g2 c2:Nat} {w:World} (hT:TCells w ao g 0 (ttab 2 2 (fm [[(2:Rat),1],[(1:Rat),3]]))) (hF:FCells w ao2 g2 0 (told 2 (fv [(3:Rat),5]))) (hP:HasT w) :
  Calls Tryz.prog 18 #[.slice ao 2 c,.slice ao2 2 c2] w fun e w'=>(∃g,e=.returned (.tuple #[.slice (some ⟨g,0,none⟩) 2 2,.int .i64 0])∧FCells w' (some ⟨g,0,none⟩) g 0 (told 2 (fv [(4 / 5:Rat),7 / 5])))∧Below w.heap.size w w' :=
 (qdh (by decide) (by decide) (qby (by decide +kernel)) (qbr (by decide +kernel)) hT hF hP).mono fun _ _ h=>⟨h.1.only (qcJ (fm [[(3 / 5:Rat),-1 / 5],[(-1 / 5:Rat),2 / 5]]) (by decide +kernel)) (show ∀i,i<2→_ from (by decide +kernel)) (qbr (by decide +kernel)),h.2⟩
theorem ex2 {ao:Option Addr} {g c:Nat} {ao2:Option Addr} {g2 c2:Nat} {w:World} (hT:TCells w ao g 0 (ttab 2 2 (fm [[(1:Rat),2],[(2:Rat),4]]))) (hF:FCells w ao2 g2 0 (told 2 (fv [(1:Rat),2]))) (hP:HasT w) :
  Calls Tryz.prog 18 #[.slice ao 2 c,.slice ao2 2 c2] w fun e w'=>e=.returned (.tuple #[.slice none 0 0,.int .i64 7])∧Below w.heap.size w w' :=
 (qdh (by decide) (by decide) (qby (by decide +kernel)) (qbr (by decide +kernel)) hT hF hP).mono fun _ _ h=>⟨h.1.sing ⟨(fv [(2:Rat),-1]),⟨0,by decide,(by decide +kernel)⟩,show ∀i,i<2→_ from (by decide +kernel)⟩,h.2⟩
theorem ex3 {ao:Option Addr} {g c:Nat} {ao2:Option Addr} {g2 c2:Nat} {w:World} (hT:TCells w ao g 0 (ttab 1 2 (fm [[(1:Rat),2]]))) (hF:FCells w ao2 g2 0 (told 1 (fv [(1:Rat)]))) (hP:HasT w) :
  Calls Tryz.prog 18 #[.slice ao 1 c,.slice ao2 1 c2] w fun e w'=>e=.returned (.tuple #[.slice none 0 0,.int .i64 2])∧Below w.heap.size w w' :=
 qjt (by decide) (by decide) (by decide) (by decide) (by decide) (qby (by decide +kernel)) (qbr (by decide +kernel)) (by decide) hT hF hP
theorem ex4_r:qbQ 2 2 (fm [[(1:Rat),2],[(2:Rat),4]]) 1 :=
 qey (k:=1) (fm [[(1:Rat),2]]) (fm [[(1:Rat)],[(2:Rat)]]) (fm [[(1:Rat),0]]) (qcO (fun s=>[0].getD s 0) (by decide +kernel)) (by decide +kernel) (by decide +kernel)
theorem ex4 {ao:Option Addr} {g c:Nat} {w:World} (hT:TCells w ao g 0 (ttab 2 2 (fm [[(1:Rat),2],[(2:Rat),4]]))) :
  Calls Tryz.prog 16 #[.slice ao 2 c] w fun e w'=>e=.returned (.tuple #[.int .i64 1,.int .i64 0])∧Below w.heap.size w w':=by
 refine (qdN (by decide) (by decide) (by decide) (by decide) (qby (by decide +kernel)) hT).mono ?_
 rintro e w' ⟨⟨k,hk,rfl⟩,hb⟩
 obtain rfl:k=1:=hk.uniq ex4_r (qcc.refl _ _ _)
 exact⟨rfl,hb⟩
theorem ex5_r:qbQ 1 1 (fm [[(0:Rat)]]) 0 :=
 qey (k:=0) (fun _ _=>0) (fun _ _=>0) (fun _ _=>0) (qcO (fun _=>0) (by decide +kernel)) (by decide +kernel) (by decide +kernel)
theorem ex5 {ao:Option Addr} {g c:Nat} {w:World} (hT:TCells w ao g 0 (ttab 1 1 (fm [[(0:Rat)]]))) :
  Calls Tryz.prog 16 #[.slice ao 1 c] w fun e w'=>e=.returned (.tuple #[.int .i64 0,.int .i64 0])∧Below w.heap.size w w':=by
 refine (qdN (by decide) (by decide) (by decide) (by decide) (qby (by decide +kernel)) hT).mono ?_
 rintro e w' ⟨⟨k,hk,rfl⟩,hb⟩
 obtain rfl:k=0:=hk.uniq ex5_r (qcc.refl _ _ _)
 exact⟨rfl,hb⟩
theorem ex6_r:qbQ 2 3 (fm [[(1:Rat),0,1],[(0:Rat),1,1]]) 2 :=
 qey (k:=2) (fm [[(1:Rat),0,1],[(0:Rat),1,1]]) (fm [[(1:Rat),0],[(0:Rat),1]]) (fm [[(1:Rat),0],[(0:Rat),1]]) (qcO (fun s=>[0,1].getD s 0) (by decide +kernel)) (by decide +kernel) (by decide +kernel)
theorem ex6 {ao:Option Addr} {g c:Nat} {w:World} (hT:TCells w ao g 0 (ttab 2 3 (fm [[(1:Rat),0,1],[(0:Rat),1,1]]))) :
  Calls Tryz.prog 16 #[.slice ao 2 c] w fun e w'=>e=.returned (.tuple #[.int .i64 2,.int .i64 0])∧Below w.heap.size w w':=by
 refine (qdN (by decide) (by decide) (by decide) (by decide) (qby (by decide +kernel)) hT).mono ?_
 rintro e w' ⟨⟨k,hk,rfl⟩,hb⟩
 obtain rfl:k=2:=hk.uniq ex6_r (qcc.refl _ _ _)
 exact⟨rfl,hb⟩
theorem ex7 {ao:Option Addr} {g c:Nat} {ao2:Option Addr} {g2 c2:Nat} {ao3:Option Addr} {g3 c3:Nat} {w:World} (hT:TCells w ao g 0 (ttab 2 1 (fm [[(1:Rat)],[(2:Rat)]]))) (hF:FCells w ao2 g2 0 (told 2 (fv [(3:Rat),4]))) (hF3:FCells w ao3 g3 0 (told 2 (fv [(1:Rat),1]))) (hP:HasT w) :
  Calls Tryz.prog 22 #[.slice ao 2 c,.slice ao2 2 c2,.slice ao3 2 c3] w fun e w'=>(∃g,e=.returned (.tuple #[.slice (some ⟨g,0,none⟩) 1 1,.int .i64 0])∧FCells w' (some ⟨g,0,none⟩) g 0 (told 1 (fv [(11 / 5:Rat)])))∧Below w.heap.size w w' :=
 (qda (by decide) (by decide) (by decide) (by decide) (qby (by decide +kernel)) (qbr (by decide +kernel)) (qbr (by decide +kernel)) (by decide +kernel) hT hF hF3 hP).mono fun _ _ h=>⟨h.1.only (qcJ (fm [[(1 / 5:Rat)]]) (by decide +kernel)) (show ∀i,i<1→_ from (by decide +kernel)) (qbr (by decide +kernel)),h.2⟩
theorem ex8 {ao:Option Addr} {g c:Nat} {ao2:Option Addr} {g2 c2:Nat} {ao3:Option Addr} {g3 c3:Nat} {w:World} (hT:TCells w ao g 0 (ttab 2 1 (fm [[(1:Rat)],[(1:Rat)]]))) (hF:FCells w ao2 g2 0 (told 2 (fv [(0:Rat),3]))) (hF3:FCells w ao3 g3 0 (told 2 (fv [(2:Rat),1]))) (hP:HasT w) :
  Calls Tryz.prog 22 #[.slice ao 2 c,.slice ao2 2 c2,.slice ao3 2 c3] w fun e w'=>(∃g,e=.returned (.tuple #[.slice (some ⟨g,0,none⟩) 1 1,.int .i64 0])∧FCells w' (some ⟨g,0,none⟩) g 0 (told 1 (fv [(1:Rat)])))∧Below w.heap.size w w' :=
 (qda (by decide) (by decide) (by decide) (by decide) (qby (by decide +kernel)) (qbr (by decide +kernel)) (qbr (by decide +kernel)) (by decide +kernel) hT hF hF3 hP).mono fun _ _ h=>⟨h.1.only (qcJ (fm [[(1 / 3:Rat)]]) (by decide +kernel)) (show ∀i,i<1→_ from (by decide +kernel)) (qbr (by decide +kernel)),h.2⟩
theorem ex9 {ao:Option Addr} {g c:Nat} {ao2:Option Addr} {g2 c2:Nat} {ao3:Option Addr} {g3 c3:Nat} {w:World} (hT:TCells w ao g 0 (ttab 1 2 (fm [[(1:Rat),1]]))) (hF:FCells w ao2 g2 0 (told 1 (fv [(1:Rat)]))) (hF3:FCells w ao3 g3 0 (told 1 (fv [(1:Rat)]))) (hP:HasT w) :
  Calls Tryz.prog 22 #[.slice ao 1 c,.slice ao2 1 c2,.slice ao3 1 c3] w fun e w'=>e=.returned (.tuple #[.slice none 0 0,.int .i64 7])∧Below w.heap.size w w' :=
 (qda (by decide) (by decide) (by decide) (by decide) (qby (by decide +kernel)) (qbr (by decide +kernel)) (qbr (by decide +kernel)) (by decide +kernel) hT hF hF3 hP).mono fun _ _ h=>⟨h.1.sing ⟨(fv [(1:Rat),-1]),⟨0,by decide,(by decide +kernel)⟩,show ∀i,i<2→_ from (by decide +kernel)⟩,h.2⟩
theorem ex10 {ao:Option Addr} {g c:Nat} {ao2:Option Addr} {g2 c2:Nat} {ao3:Option Addr} {g3 c3:Nat} {ao4:Option Addr} {g4 c4:Nat} {w:World} (hT:TCells w ao g 0 (ttab 2 1 (fm [[(1:Rat)],[(2:Rat)]]))) (hF:FCells w ao2 g2 0 (told 2 (fv [(3:Rat),4]))) (hF3:FCells w ao3 g3 0 (told 2 (fv [(1:Rat),1 / 2]))) (hF4:FCells w ao4 g4 0 (told 1 (fv [(1:Rat)]))) (hP:HasT w) :
  Calls Tryz.prog 24 #[.slice ao 2 c,.slice ao2 2 c2,.slice ao3 2 c3,.slice ao4 1 c4] w fun e w'=>e=.returned (.tuple #[.agg #[.string ⟨#[54]⟩,.string ⟨#[49]⟩],.int .i64 0])∧Below w.heap.size w w':=by
 refine (qga (by decide) (by decide) (by decide) (by decide) (qby (by decide +kernel)) (qbr (by decide +kernel)) (qbr (by decide +kernel)) (qbr (by decide +kernel)) (by decide +kernel) hT hF hF3 hF4 hP).mono ?_
 rintro e w' ⟨h,hb⟩
 rw [show msR 2 1 (fm [[(1:Rat)],[(2:Rat)]]) (fv [(3:Rat),4]) (fv [(1:Rat),1 / 2]) (fv [(1:Rat)])=6 by decide +kernel] at h
 rcases h with ⟨_,rfl⟩ | ⟨h,_⟩
 ·exact⟨by rw [qf6,ft_6],hb⟩
 ·exact absurd (qfo (q:=6) (by decide +kernel)) h
theorem ex11 {ao:Option Addr} {g c:Nat} {ao2:Option Addr} {g2 c2:Nat} {ao3:Option Addr} {g3 c3:Nat} {ao4:Option Addr} {g4 c4:Nat} {w:World} (hT:TCells w ao g 0 (ttab 1 1 (fm [[(1:Rat)]]))) (hF:FCells w ao2 g2 0 (told 1 (fv [(0:Rat)]))) (hF3:FCells w ao3 g3 0 (told 1 (fv [(-1:Rat)]))) (hF4:FCells w ao4 g4 0 (told 1 (fv [(1:Rat)]))) (hP:HasT w) :
  Calls Tryz.prog 24 #[.slice ao 1 c,.slice ao2 1 c2,.slice ao3 1 c3,.slice ao4 1 c4] w fun e w'=>e=.returned (.tuple #[.agg #[.string ⟨#[]⟩,.string ⟨#[]⟩],.int .i64 2])∧Below w.heap.size w w' :=
 meas_neg (by decide) (by decide) (by decide) (by decide) (qby (by decide +kernel)) (qbr (by decide +kernel)) (qbr (by decide +kernel)) (qbr (by decide +kernel)) ⟨0,by decide,(by decide +kernel)⟩ hT hF hF3 hF4 hP
theorem ex12 (w:World):Calls Tryz.prog 12 #[.slice none 0 0] w fun e w'=>e=.returned (.int .i64 60)∧Below w.heap.size w w' :=
 qc3 (ao:=none) (g:=0) (c:=0) (t:=[]) rfl (by decide) (fun k hk=>absurd hk (by omega)) ⟨fun h=>absurd h (by decide),fun k hk=>absurd hk (by simp)⟩ (fun h=>absurd h.r1 (by decide))
theorem ex13 {ao:Option Addr} {g c:Nat} {w:World} (hT:TCells w ao g 0 [told 1 (fv [(1:Rat)]),told 2 (fv [(1:Rat),2])]) :
  Calls Tryz.prog 12 #[.slice ao 2 c] w fun e w'=>e=.returned (.int .i64 60)∧Below w.heap.size w w' :=
 qc3 rfl (by decide) (fun k hk=>by
  rcases (show k=0∨k=1 by omega) with rfl | rfl
  ·exact (by decide:1≤1000)
  ·exact (by decide:2≤1000)) hT (fun h=>absurd (h.rows 1 (by decide)).1 (by decide))
theorem sc1 (W:World) (s:ByteArray) {g:Nat} (hg:g=W.heap.size):SCells (W.alloc (.cells #[.string s] 9)) g 0 [s]:=by
 subst hg;exact SCells.row (L:=[s]) (heap_alloc_new W _)
theorem sc2 (W:World) (s t:ByteArray) {g:Nat} (hg:g=W.heap.size):SCells (W.alloc (.cells #[.string s,.string t] 9)) g 0 [s,t]:=by
 subst hg;exact SCells.row (L:=[s,t]) (heap_alloc_new W _)
theorem q_at (n:Nat) {w:World} {g:Nat} {L:List ByteArray} {l:List Rat} (hs:SCells w g 0 L) (hL:L.length=n) (hl:l.length=n) (hn:n≤1000) (h:L.map qf=l.map ftxt) (hz:∀s∈L,s.size≤65536) :
  Calls Tryz.prog 30 #[.slice (some ⟨g,0,none⟩) n n] w fun e w'=>∃(ao:Option Addr) (g c:Nat),e=.returned (.slice ao n c)∧FCells w' ao g 0 (told n (fv l))∧Below w.heap.size w w':=by
 refine (q_any g n n L w hL hn hs (qem hz)).mono ?_
 rintro e w' ⟨ao,g,c,rfl,hf,_,hb⟩
 rw [qe2 n hl h] at hf
 exact⟨ao,g,c,rfl,hf,hb⟩
end Go.Proofs.YtfminfgabiipjaaGreatDoor
