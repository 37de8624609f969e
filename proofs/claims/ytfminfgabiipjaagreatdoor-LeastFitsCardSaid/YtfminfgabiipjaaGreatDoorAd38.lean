/- Ad, part 38: Lq Cu Lc -/
import Derived.Test.YtfminfgabiipjaaGreatDoorAd0
import Derived.Test.YtfminfgabiipjaaGreatDoorAd36
import Derived.Test.YtfminfgabiipjaaGreatDoorAd6
set_option maxRecDepth 100000
set_option maxHeartbeats 16000000
namespace Go.Proofs.YtfminfgabiipjaaGreatDoor
open Go.RowKit
theorem ball {a W:World} {o:Obj} (h:Below a.heap.size a W):Below a.heap.size a (W.alloc o):=qbI h qN
def SameAs (w:World) (l l2:List FT) (e:Ending) (w':World):Prop:=∃ok,e=.returned (.bool ok)∧(ok=true↔l=l2)∧Below w.heap.size w w'
theorem qml {l l2:List FT} {k:Nat} (h1:k<l.length) (h2:k<l2.length) (h:l.take k=l2.take k) (e:l.getD k fd0=l2.getD k fd0):l.take (k+1)=l2.take (k+1):=by
 rw [List.take_add_one,List.take_add_one,h]
 congr 1
 rw [qaa,qaa,qaf h1,qaf h2] at e
 rw [qaf h1,qaf h2]
 exact congrArg (fun x=>(some x).toList) e
theorem qjA {a b:ByteArray} (h:a≠b):¬a.toList=b.toList:=by
 rw [ByteArray.toList_eq,ByteArray.toList_eq]
 intro e
 apply h
 obtain⟨⟨x⟩⟩:=a
 obtain⟨⟨y⟩⟩:=b
 cases e;rfl
theorem qlg {l l2:List FT} {k:Nat} (h:l.getD k fd0≠l2.getD k fd0):¬l=l2:=fun e=>h (by rw [e])
theorem qfs (ao:Option Addr) (b off n c:Nat) (l:List FT) (ao2:Option Addr) (b2 off2 m c2:Nat) (l2:List FT) (w:World) (hn:l.length=n) (hn6:n≤1000000) (hc:FCells w ao b off l) (hm:l2.length=m) (hm6:m≤1000000) (hc2:FCells w ao2 b2 off2 l2) :
  Calls Tryz.prog 20 #[.slice ao n c,.slice ao2 m c2] w fun e w'=>SameAs w l l2 e w':=by
 have HC:=qH (qA hc (qA hn (qA hc2 hm)))
 clear hc hc2
 by_cases hne:n=m
 ·subst hne
  clear hn hm hm6
  go_enter Tryz.func20,Tryz.ntmps20
  go_wp2_with fail
  go_loopw [5] (fun x5 W=>∃k:Nat,x5=.int .i64 k∧k≤n∧Hid (l.take k=l2.take k)∧Hid (Below w.heap.size w W)) (fun x5 _=>n-(intOf x5).toNat)
  case atStart=>exact⟨0,rfl,qam _,qH rfl,qH qB⟩
  case round =>
   obtain⟨k,rfl,hk,hI,hB⟩:=hrel
   by_cases hkn:k<n
   ·have hki:(k:Int)<n:=by omega
    have haw:=HC.out.1.addr (by rw [HC.out.2.1];omega)
    subst haw
    have hao:=HC.out.2.2.1.addr (by rw [HC.out.2.2.2];omega)
    subst hao
    obtain⟨h1,h2⟩:=(HC.out.1.below hB.out).cell k (by rw [HC.out.2.1];exact hkn)
    obtain⟨h3,h4⟩:=(HC.out.2.2.1.below hB.out).cell k (by rw [HC.out.2.2.2];exact hkn)
    obtain⟨x1,hx1⟩:∃x1,(l.getD k fd0).1=x1:=⟨_,rfl⟩
    obtain⟨x2,hx2⟩:∃x2,(l.getD k fd0).2=x2:=⟨_,rfl⟩
    obtain⟨y1,hy1⟩:∃y1,(l2.getD k fd0).1=y1:=⟨_,rfl⟩
    obtain⟨y2,hy2⟩:∃y2,(l2.getD k fd0).2=y2:=⟨_,rfl⟩
    rw [hx1] at h1
    rw [hx2] at h2
    rw [hy1] at h3
    rw [hy2] at h4
    have HX:Hid (l.getD k fd0=(x1,x2)∧l2.getD k fd0=(y1,y2)):=qH ⟨by rw [←hx1,←hx2],by rw [←hy1,←hy2]⟩
    clear hx1 hx2 hy1 hy2
    by_cases g1:x1=y1
    ·by_cases g2:x2=y2
     ·subst g1
      subst g2
      have HI:=qH (qml (by rw [HC.out.2.1];exact hkn) (by rw [HC.out.2.2.2];exact hkn) hI.out (HX.out.1.trans HX.out.2.symm))
      go_wp2_with fail
      go_quiet (fail)
      go_wp2_with fail
      go_roundw
      case rel=>exact⟨k+1,by go_num,hkn,HI,qH (below_drewN hB.out _)⟩
      case measure=>simp [intOf];omega
     ·subst g1
      have HN:=qH (qlg (l:=l) (l2:=l2) (k:=k) (by rw [HX.out.1,HX.out.2];exact fun h=>g2 (congrArg Prod.snd h)))
      have g3:=qjA g2
      clear g2
      go_wp2_with fail
      go_quiet (fail)
      go_wp2_with fail
      go_ret
      exact⟨false,rfl,qcQ HN.out,below_drewN hB.out _⟩
    ·have HN:=qH (qlg (l:=l) (l2:=l2) (k:=k) (by rw [HX.out.1,HX.out.2];exact fun h=>g1 (congrArg Prod.fst h)))
     have g3:=qjA g1
     clear g1
     go_wp2_with fail
     go_quiet (fail)
     go_wp2_with fail
     go_ret
     exact⟨false,rfl,qcQ HN.out,below_drewN hB.out _⟩
   ·obtain rfl:k=n:=by omega
    have hE:l=l2:=by have h:=hI.out;rwa [qak (by rw [HC.out.2.1];exact qae _),qak (by rw [HC.out.2.2.2];exact qae _)] at h
    have HE:=qH hE
    clear hE
    go_wp2_with fail
    go_ret
    exact⟨true,rfl,qe1 HE.out,hB.out⟩
 ·have hb:((n:Int) != (m:Int))=true:=by rw [bne_iff_ne];omega
  have HN:Hid (¬l=l2):=qH (fun h=>hne (by rw [←hn,←hm,h]))
  go_enter Tryz.func20,Tryz.ntmps20
  go_wp2_with fail
  go_ret
  exact⟨false,rfl,qcQ HN.out,Below.refl _ _⟩
def cut1 (x:ByteArray):ByteArray:=x.extract 0 (min x.size 6)
def cut6 (x:FT):FT:=(cut1 x.1,cut1 x.2)
def cutL (m:Nat) (l:List FT):List FT:=(l.take m).map cut6
def cutT (t:Tbl):Tbl:=(t.take 42).map (cutL 11)
def Six (l:List FT):Prop:=∀k,k<l.length→(l.getD k fd0).1.size≤6∧(l.getD k fd0).2.size≤6
theorem qh8 (x:ByteArray):(cut1 x).size≤6:=by
 unfold cut1
 rw [ByteArray.size_extract];omega
theorem qkV {x:ByteArray} (h:x.size≤6):cut1 x=x:=by
 unfold cut1
 rw [qaG h]
 exact ByteArray.extract_zero_size
theorem qdp (m:Nat) (l:List FT):(cutL m l).length=min m l.length:=by
 unfold cutL
 rw [qaD,qao]
theorem cutL_get {m:Nat} {l:List FT} {k:Nat} (hk:k<min m l.length):(cutL m l).getD k fd0=cut6 (l.getD k fd0):=by
 unfold cutL
 rw [qaa,qaN,qaV (by omega),qaa,qaf (by omega)]
 rfl
theorem qkW {k:Nat} {l:List FT} (h:k<l.length):cutL (k+1) l=cutL k l++[cut6 (l.getD k fd0)]:=by
 unfold cutL
 rw [List.take_add_one,qbj,qaa,qaf h]
 rfl
theorem cutL_min (m:Nat) (l:List FT):cutL (min l.length m) l=cutL m l:=by
 unfold cutL
 rcases Nat.le_total l.length m with h | h
 ·rw [qaG h,qak qN,qak h]
 ·rw [Nat.min_eq_right h]
theorem qf9 (m:Nat) (l:List FT):Six (cutL m l):=fun k hk=>by
 rw [qdp] at hk
 rw [cutL_get hk]
 exact⟨qh8 _,qh8 _⟩
theorem Six.of {l l2:List FT} (h:Six l) (e:∀k,k<l2.length→k<l.length∧l2.getD k fd0=l.getD k fd0):Six l2:=fun k hk=>by
 obtain⟨h1,h2⟩:=e k hk
 rw [h2];exact h k h1
theorem take_at {α:Type} {m:Nat} {l:List α} {d:α}:∀k,k<(l.take m).length→k<l.length∧(l.take m).getD k d=l.getD k d:=fun k hk=>by
 rw [qao] at hk
 refine⟨by omega,?_⟩
 rw [qaa,qaa,qaV (by omega)]
theorem Six.take {l:List FT} (h:Six l) (m:Nat):Six (l.take m):=h.of take_at
theorem qhw {m:Nat} {l:List FT} (h:l.length≤m) (hs:Six l):cutL m l=l:=by
 unfold cutL
 rw [qak h]
 refine List.ext_getElem (by rw [qaD]) fun k h1 h2=>?_
 rw [List.getElem_map]
 have this:l[k].1.size≤6∧l[k].2.size≤6:=by
  have h3:=hs k h2
  rw [qaa,qaf h2] at h3
  exact h3
 show (cut1 l[k].1,cut1 l[k].2)=_
 rw [qkV this.1,qkV this.2]
theorem qga (t:Tbl):(cutT t).length=min t.length 42:=by
 unfold cutT
 rw [qaD,qao,Nat.min_comm]
theorem qhx {t:Tbl} {k:Nat} (hk:k<min t.length 42):(cutT t).getD k []=cutL 11 (t.getD k []):=by
 unfold cutT
 rw [qaa,qaN,qaV (by omega),qaa,qaf (by omega)]
 rfl
structure Cut (t:Tbl) (b u x:List FT):Prop where
 t1:t.length≤42
 t2:∀k,k<t.length→(t.getD k []).length≤11∧Six (t.getD k [])
 b1:b.length≤42
 b2:Six b
 u1:u.length≤42
 u2:Six u
 x1:x.length≤11
 x2:Six x
theorem cut_cut (t:Tbl) (b u x:List FT):Cut (cutT t) (cutL 42 b) (cutL 42 u) (cutL 11 x) :=
 ⟨by rw [qga];omega,fun k hk=>by
  rw [qga] at hk
  rw [qhx hk,qdp]
  exact⟨by omega,qf9 _ _⟩,by rw [qdp];omega,qf9 _ _,by rw [qdp];omega,qf9 _ _,by rw [qdp];omega,qf9 _ _⟩
theorem cutT_id {t:Tbl} (h1:t.length≤42) (h2:∀k,k<t.length→(t.getD k []).length≤11∧Six (t.getD k [])):cutT t=t:=by
 refine List.ext_getElem (by rw [qga];omega) fun k h3 h4=>?_
 have e:=qhx (t:=t) (k:=k) (by omega)
 obtain⟨h5,h6⟩:=h2 k h4
 rw [qhw h5 h6,qaa,qaf h3,qaa,qaf h4] at e
 exact e
def fewT (t:Tbl):Tbl:=(t.take 6).map fun r=>r.take 4
theorem qhz (t:Tbl):(fewT t).length=min t.length 6:=by
 unfold fewT
 rw [qaD,qao,Nat.min_comm]
theorem qjo {t:Tbl} {k:Nat} (hk:k<min t.length 6):(fewT t).getD k []=(t.getD k []).take 4:=by
 unfold fewT
 rw [qaa,qaN,qaV (by omega),qaa,qaf (by omega)]
 rfl
theorem Cut.few {t:Tbl} {b u x:List FT} (h:Cut t b u x):Cut (fewT t) (b.take 6) (u.take 6) (x.take 4) :=
 ⟨by rw [qhz];omega,fun k hk=>by
  rw [qhz] at hk
  rw [qjo hk,qao]
  exact⟨by omega,(h.t2 k (by omega)).2.take 4⟩,by rw [qao];omega,h.b2.take 6,by rw [qao];omega,h.u2.take 6,by rw [qao];omega,h.x2.take 4⟩
theorem Sm.six {q:Rat} (h:Sm q):(ftxt q).1.size≤6∧(ftxt q).2.size≤6:=by
 obtain⟨h1,h2⟩:=h.rb
 have e1:(num q.num.natAbs).size≤4:=qdM (by decide) (by omega)
 have e2:(num q.den).size≤4:=qdM (by decide) (by omega)
 refine⟨?_,by show (num q.den).size≤6;omega⟩
 show (frac.wtxt q.num).size≤6
 by_cases hn:q.num<0
 ·rw [p4.qeh hn];omega
 ·rw [p4.qei hn];omega
theorem qgm {n:Nat} {f:Nat→Rat} (h:∀i,Sm (f i)):Six (told n f):=fun k hk=>by
 rw [qbQ] at hk
 unfold told
 rw [qaa,qaN,qbp hk]
 exact (h k).six
theorem cut_told {R n:Nat} {F:Nat→Nat→Rat} {x:Nat→Rat} (hR:R≤8) (hn:n≤4) (hF:∀i j,Sm (F i j)) {lb lu:List FT} (hb:lb.length≤42) (hb6:Six lb) (hu:lu.length≤42) (hu6:Six lu) (hx:∀i,Sm (x i)) :
  Cut (ttab R n F) lb lu (told n x) :=
 ⟨by rw [qb8];omega,fun k hk=>by
  rw [qb8] at hk
  rw [qeg hk,qbQ]
  exact⟨by omega,qgm (hF k)⟩,hb,hb6,hu,hu6,by rw [qbQ];omega,qgm hx⟩
structure TabAt (W:World) (ao:Option Addr) (b off:Nat) (t:Tbl):Prop where
 tc:TCells W ao b off t
 cap:∀k,k<t.length→∃(ra:Option Addr) (rc:Nat),W.cell? ⟨b,off+k,none⟩=some (.slice ra (t.getD k []).length rc)∧(t.getD k []).length≤rc
theorem TabAt.below {W W':World} {ao:Option Addr} {b off:Nat} {t:Tbl} (h:TabAt W ao b off t) (hb:Below W.heap.size W W'):TabAt W' ao b off t :=
 ⟨h.tc.below hb,fun k hk=>by
  obtain⟨ra,rc,h1,h2⟩:=h.cap k hk
  exact⟨ra,rc,(hb.cell (qac W _ h1)).trans h1,h2⟩⟩
theorem TabAt.row {W:World} {ao:Option Addr} {b off:Nat} {t:Tbl} (h:TabAt W ao b off t) {k:Nat} (hk:k<t.length):∃(ra:Option Addr) (rb ro rc:Nat),W.cell? ⟨b,off+k,none⟩=some (.slice ra (t.getD k []).length rc)∧(t.getD k []).length≤rc∧FCells W ra rb ro (t.getD k []):=by
 obtain⟨ra,rc,h1,h2⟩:=h.cap k hk
 obtain⟨ra',rb,ro,rc',h3,h4⟩:=h.tc.row k hk
 have e:=h1.symm.trans h3
 simp only [Option.some.injEq,qbh] at e
 obtain⟨rfl,_,rfl⟩:=e
 exact⟨ra,rb,ro,rc,h1,h2,h4⟩
def RawAt (W:World) (v:Value) (t:Tbl) (l u x:List FT):Prop:=∃(a:Option Addr) (b off c:Nat) (a1:Option Addr) (b1 o1 c1:Nat) (a2:Option Addr) (b2 o2 c2:Nat) (a3:Option Addr) (b3 o3 c3:Nat),
 v=.agg #[.slice a t.length c,.slice a1 l.length c1,.slice a2 u.length c2,.slice a3 x.length c3]∧(t.length≤c∧l.length≤c1∧u.length≤c2∧x.length≤c3)∧TabAt W a b off t∧FCells W a1 b1 o1 l∧FCells W a2 b2 o2 u∧FCells W a3 b3 o3 x
theorem RawAt.below {W W':World} {v:Value} {t:Tbl} {l u x:List FT} (h:RawAt W v t l u x) (hb:Below W.heap.size W W'):RawAt W' v t l u x:=by
 obtain⟨a,b,off,c,a1,b1,o1,c1,a2,b2,o2,c2,a3,b3,o3,c3,e,hc,h1,h2,h3,h4⟩:=h
 exact⟨a,b,off,c,a1,b1,o1,c1,a2,b2,o2,c2,a3,b3,o3,c3,e,hc,h1.below hb,h2.below hb,h3.below hb,h4.below hb⟩
theorem qhV {W:World} {B:Nat} {v:Value} {n:Nat} {vs:List Value} {t:Tbl} (h:Rws W B 23 1 v n vs) (ht:t.length=n) (hr:∀k,k<n→∃(ra:Option Addr) (rb ro rc:Nat),vs.getD k undef=.slice ra (t.getD k []).length rc∧(t.getD k []).length≤rc∧FCells W ra rb ro (t.getD k [])):∃(ao:Option Addr) (g cap:Nat),v=.slice ao n cap∧TabAt W ao g 0 t∧n≤cap:=by
 obtain⟨ao,g,cap,rfl,hv,hc⟩:=h.vcells
 have hl:=h.1
 rw [Nat.mul_one] at hl
 refine⟨ao,g,cap,rfl,⟨⟨fun h0=>hv.addr (by omega),fun k hk=>?_⟩,fun k hk=>?_⟩,hc⟩
 ·obtain⟨ra,rg,ro,rc,e,_,hF⟩:=hr k (by omega)
  exact⟨ra,rg,ro,rc,by rw [←e];exact hv.cell k (by omega),hF⟩
 ·obtain⟨ra,rg,ro,rc,e,h1,_⟩:=hr k (by omega)
  exact⟨ra,rc,by rw [←e];exact hv.cell k (by omega),h1⟩
def cutA (s:ByteArray):ByteArray:=⟨(Lib.cut s.data.toList [47]).1.toArray⟩
def cutB (s:ByteArray):ByteArray:=⟨(Lib.cut s.data.toList [47]).2.1.toArray⟩
def cutC (s:ByteArray):Bool:=(Lib.cut s.data.toList [47]).2.2
theorem scut_any (s:ByteArray) (hs:s.size≤65536) (w:World) :
  Calls Tryz.prog 140 #[.string s,.string ⟨#[47]⟩] w fun e w'=>e=.returned (.tuple #[.string (cutA s),.string (cutB s),.bool (cutC s)])∧Below w.heap.size w w':=by
 have HO:Hid (∀W:World,_):=fun (W:World)=>Tryz.stringslite_Index_one s 47 W
 have hx1:Lib.indexB s ⟨#[47]⟩=Lib.indexByte s.data.toList 47:=Lib.index_one s.data.toList 47
 rcases Lib.indexB_cases s ⟨#[47]⟩ with hix | ⟨i,hix,hroom⟩
 ·obtain⟨e1,e2,e3⟩:=Lib.cutB_miss s ⟨#[47]⟩ hix
  rw [hx1] at hix
  rw [show cutA s=s from e1,show cutB s=ByteArray.empty from e2,show cutC s=false from e3]
  have HI:=qH hix
  clear hix hx1 e1 e2 e3
  go_enter Tryz.func140,Tryz.ntmps140
  go_wp2_with fail
  refine (HO.out _).mono ?_
  rintro e w1 ⟨rfl,rfl⟩
  rw [HI.out]
  go_wp2_with fail
  go_ret3
  exact⟨rfl,Below.refl _ _⟩
 ·obtain⟨e1,e2,e3⟩:=Lib.cutB_hit s ⟨#[47]⟩ i hix
  rw [hx1] at hix
  rw [show cutA s=_ from e1,show cutB s=_ from e2,show cutC s=true from e3]
  have hz:(⟨#[47]⟩:ByteArray).size=1:=rfl
  rw [hz] at hroom ⊢
  have HI:=qH hix
  have c1:(0:Int)≤↑i:=by omega
  have c2:(↑i:Int)≤↑s.size:=by omega
  have c3:(0:Int)≤↑i+1:=by omega
  have c4:(↑i+1:Int)≤↑s.size:=by omega
  have c5:IntKind.i64.wrap (↑i+1)=↑i+1:=by simp [IntKind.wrap,IntKind.bits,IntKind.signed];omega
  have mixed:Tryz.prog.follows .mixedOrders=true:=by kernel_rfl
  clear hix hx1 e1 e2 e3
  go_enter Tryz.func140,Tryz.ntmps140
  go_wp2_with fail
  refine (HO.out _).mono ?_
  rintro e w1 ⟨rfl,rfl⟩
  rw [HI.out]
  go_wp2_with fail
  go_region_o
  go_wp2
  go_ret3
  exact⟨rfl,qB.drew⟩
theorem ql9 (s:ByteArray) (hs:s.size≤65536) (w:World) :
  Calls Tryz.prog 89 #[.string s,.string ⟨#[47]⟩] w fun e w'=>e=.returned (.tuple #[.string (cutA s),.string (cutB s),.bool (cutC s)])∧Below w.heap.size w w':=by
 have HO:Hid (∀W:World,_):=fun (W:World)=>scut_any s hs W
 generalize cutA s=a at *
 generalize cutB s=b at *
 generalize cutC s=c at *
 go_enter Tryz.func89,Tryz.ntmps89
 go_wp2_with fail
 refine (HO.out _).mono ?_
 rintro e w1 ⟨rfl,hb⟩
 have HB:=qH hb
 clear hb
 go_wp2_with fail
 go_ret3
 exact⟨rfl,HB.out⟩
def qf (s:ByteArray):FT:=(cutA s,if cutC s=true then cutB s else ⟨#[49]⟩)
structure SCells (W:World) (b off:Nat) (L:List ByteArray):Prop where
 cell:∀k,k<L.length→W.cell? ⟨b,off+k,none⟩=some (.string (L.getD k ⟨#[]⟩))
theorem SCells.below {W W':World} {b off:Nat} {L:List ByteArray} (h:SCells W b off L) (hb:Below W.heap.size W W'):SCells W' b off L :=
 ⟨fun k hk=>(hb.cell (qac W _ (h.cell k hk))).trans (h.cell k hk)⟩
theorem SCells.row {W:World} {g:Nat} {L:List ByteArray} {t:TypeId} {fz:Nat×Nat} (h:W.heap[g]? = some (.cells (L.map Value.string).toArray t fz)):SCells W g 0 L :=
 ⟨fun k hk=>by
  refine (cell_of_row _ _ _ _ _ _ h).trans ?_
  rw [qa2,qaz,qaN,qaa,qaf hk];rfl⟩
theorem q_new (b n c:Nat) (L:List ByteArray) (w:World) (hn:L.length=n) (hn6:n≤1000) (hc:SCells w b 0 L) (hL:∀k,(L.getD k ⟨#[]⟩).size≤65536) :
  Calls Tryz.prog 30 #[.slice (some ⟨b,0,none⟩) n c] w fun e w'=>∃v,e=.returned v∧Rws w' w.heap.size 46 2 v n (fflat (L.map qf))∧Below w.heap.size w w':=by
 have HC:=qH (qA hc (qA hn hL))
 clear hc hn hL
 go_enter Tryz.func30,Tryz.ntmps30
 go_wp2_with fail
 go_loopw [3,5,6,7,8,11] (fun x3 x5 x6 x7 x8 x11 W=>∃i:Nat,x11=.int .i64 i∧i≤n∧Hid (Rws W w.heap.size 46 2 x3 i (fflat ((L.take i).map qf)))∧Hid (Below w.heap.size w W)) (fun _ _ _ _ _ x11 _=>n-(intOf x11).toNat)
 case atStart=>exact⟨0,rfl,qam _,qH (Rws.nil _ _ _ _),qH qB⟩
 case round =>
  obtain⟨i,rfl,hi,hO,hB⟩:=hrel
  by_cases hlt:i<n
  ·have hii:(i:Int)<n:=by omega
   have hcl:=(HC.out.1.below hB.out).cell i (by rw [HC.out.2.1];exact hlt)
   rw [qa2] at hcl
   have hs:=HC.out.2.2 i
   have htake:(L.take (i+1)).map qf=(L.take i).map qf++[qf (L.getD i ⟨#[]⟩)]:=by
    rw [List.take_add_one,qbj,qaa,qaf (by rw [HC.out.2.1];exact hlt)];rfl
   obtain⟨s,hss⟩:∃s,L.getD i ⟨#[]⟩=s:=⟨_,rfl⟩
   rw [hss] at hcl hs htake
   have HS:=qH (fun (W:World)=>ql9 s hs W)
   unfold qf at htake
   have HT:=qH htake
   generalize cutA s=ca at *
   generalize cutB s=cb at *
   generalize cutC s=cc at *
   clear hss htake hs
   go_wp2_with fail
   refine (HS.out _).mono ?_
   rintro e w2 ⟨rfl,hb2⟩
   have HO2:=qH (hO.out.below hb2)
   have HB2:=qH (hB.out.trans (hb2.mono hB.out.size))
   clear hb2
   cases cc with
   | true =>
    go_wp2_with (first | (at_builtin;refine qdi rfl _ _ rfl HB2.out rfl HO2.out rfl rfl rfl (by omega) ?_;intro v' w' ho' hb') | fail)
    go_roundw
    case rel=>exact⟨i+1,by go_num,hlt,qH (by rw [show List.map qf (List.take (i+1) L)=_ from HT.out];exact ho'.out),hb'⟩
    case measure=>simp [intOf];omega
   | false =>
    go_wp2_with (first | (at_builtin;refine qdi rfl _ _ rfl HB2.out rfl HO2.out rfl rfl rfl (by omega) ?_;intro v' w' ho' hb') | fail)
    go_roundw
    case rel=>exact⟨i+1,by go_num,hlt,qH (by rw [show List.map qf (List.take (i+1) L)=_ from HT.out];exact ho'.out),hb'⟩
    case measure=>simp [intOf];omega
  ·obtain rfl:i=n:=by omega
   have hO2:=hO.out
   rw [qak (by rw [HC.out.2.1];exact qae _)] at hO2
   have HH:=qH hO2
   obtain⟨ao,cap,rfl⟩:=hO2.shape
   clear hO2
   go_wp2_with fail
   go_ret
   exact⟨_,rfl,HH.out,hB.out⟩
theorem q_any (b n c:Nat) (L:List ByteArray) (w:World) (hn:L.length=n) (hn6:n≤1000) (hc:SCells w b 0 L) (hL:∀k,(L.getD k ⟨#[]⟩).size≤65536) :
  Calls Tryz.prog 30 #[.slice (some ⟨b,0,none⟩) n c] w fun e w'=>∃(ao:Option Addr) (g cap:Nat),e=.returned (.slice ao n cap)∧FCells w' ao g 0 (L.map qf)∧n≤cap∧Below w.heap.size w w':=by
 refine (q_new b n c L w hn hn6 hc hL).mono ?_
 rintro e w' ⟨v,rfl,h,hb⟩
 obtain⟨ao,g,cap,rfl,h1,h2⟩:=qc5 h (by rw [qaD,hn])
 exact⟨ao,g,cap,rfl,h1,h2,hb⟩
end Go.Proofs.YtfminfgabiipjaaGreatDoor
