/- Ae, part 10: Wh Wh2 -/
import Derived.Test.YtfminfgabiipjaaGreatDoorAe0
import Derived.Test.YtfminfgabiipjaaGreatDoorAe8
import Derived.Test.YtfminfgabiipjaaGreatDoorAe9
set_option maxRecDepth 100000
set_option maxHeartbeats 16000000
namespace Go.Proofs.YtfminfgabiipjaaGreatDoor
open Go.RowKit
theorem qei {P:Prop} (h:¬P):false=true↔P:=⟨fun e=>absurd e (by decide),fun x=>absurd x h⟩
theorem qhl {P:Prop} (h:P):true=true↔P:=⟨fun _=>h,fun _=>rfl⟩
theorem not_nums {L:List UInt8} {k:Nat} (h:k<L.length) (hc:¬(48≤L[k].toNat∧L[k].toNat≤57)):¬Nums L:=fun hn=>hc (hn _ (List.getElem_mem h))
theorem qjf {L:List UInt8} {k:Nat} (h:k<L.length) (hk:Nums (L.take k)) (hc:48≤L[k].toNat∧L[k].toNat≤57):Nums (L.take (k+1)):=by
 rw [qc7 L k h]
 intro c hcm
 rcases qaZ.1 hcm with h1 | h1
 ·exact hk c h1
 ·rw [qao.1 h1];exact hc
def ReadsAs (w:World) (s:List UInt8) (e:Ending) (w':World):Prop:=∃v ok,e=.returned (.tuple #[v,.bool ok])∧(ok=true↔Valid s)∧(∃a n c b,v=.agg #[.slice a n c,.bool b])∧Below w.heap.size w w'
theorem qjE (s:ByteArray) (w:World) :
  Calls Tryz.prog 186 #[.string s] w fun e w'=>ReadsAs w s.data.toList e w':=by
 have hc:=fun W=>Tryz.strings_CutPrefix s ⟨#[45]⟩ W
 obtain⟨t,ht⟩:∃t:ByteArray,(⟨(Lib.trimPrefix s.data.toList (ByteArray.mk #[45]).data.toList).toArray⟩:ByteArray)=t:=⟨_,rfl⟩
 have htl:t.data.toList=body s.data.toList:=by rw [←ht];rfl
 obtain⟨b,hb⟩:∃b,Lib.hasPrefix s.data.toList (ByteArray.mk #[45]).data.toList=b:=⟨_,rfl⟩
 have hbs:signd s.data.toList=b:=hb
 rw [ht,hb] at hc
 obtain⟨L,hL⟩:∃L,body s.data.toList=L:=⟨_,rfl⟩
 obtain⟨n,hn⟩:∃n,t.size=n:=⟨_,rfl⟩
 have hLn:L.length=n:=by rw [←hL,←htl,←hn];rfl
 have hat:∀k (h:k<t.size) (h':k<L.length),t[k]=L[k]:=fun k h h'=>by subst hL;simp only [←htl];rfl
 have hV:Valid s.data.toList↔(Nums L∧0<L.length∧L.length≤600∧(L.head? = some 48→L.length=1∧b=false)):=by
  subst hL;subst hbs
  exact⟨fun h=>⟨h.nums,h.pos,h.le,h.lead⟩,fun h=>⟨h.1,h.2.1,h.2.2.1,h.2.2.2⟩⟩
 have hg:=fun (h1:Nums L) (h2:0<L.length) (h3:L.length≤600) W=>whole.qc6 t (by rw [htl,hL];exact h1) (by rw [hn,←hLn];exact h2) (by rw [hn,←hLn];omega) W
 have HC:=qH hc
 have HV:=qH hV
 have HG:=qH hg
 have Hat:=qH hat
 have HL:=qH (qA hLn hn)
 clear hc hV hg hbs hb htl ht hL hat
 have HA:Hid (∀cs,Below w.heap.size w (w.alloc (.cells cs 231))):=qH fun cs=>qB.alloc qN _
 have hzr:(w.alloc (.cells #[.slice none 0 0,.bool false] 231)).heap[w.heap.size]? = some (.cells #[.slice none 0 0,.bool false] 231 (0,0)):=qM _ _ _ rfl
 have HZ:=qH hzr
 clear hzr
 by_cases hlen:n=0∨600<n
 ·have hno:¬Valid s.data.toList:=fun h=>by have:=HV.out.1 h;omega
  have HN:=qH hno
  clear hno
  by_cases hn0:n=0
  ·subst hn0
   go_enter Tryz.func186,Tryz.ntmps186
   go_wp2_with fail
   refine (HC.out _).mono ?_
   rintro e w1 ⟨rfl,rfl⟩
   go_wp2_with fail
   refine bodyPost_ret (v:=.tuple #[.agg #[.slice none 0 0,.bool false],.bool false]) (qbA rfl _ _ w.heap.size 231 _ _ rfl HZ.out Tryz.underlying231 rfl 2 (by kernel_rfl) rfl _ rfl) rfl ⟨_,_,rfl,qei HN.out,⟨_,_,_,_,rfl⟩,HA.out _⟩
  ·have h6:(600:Int)<n:=by omega
   have hn1:((n:Int) == 0)=false:=by rw [beq_eq_false_iff_ne];omega
   go_enter Tryz.func186,Tryz.ntmps186
   go_wp2_with fail
   refine (HC.out _).mono ?_
   rintro e w1 ⟨rfl,rfl⟩
   go_wp2_with fail
   refine bodyPost_ret (v:=.tuple #[.agg #[.slice none 0 0,.bool false],.bool false]) (qbA rfl _ _ w.heap.size 231 _ _ rfl HZ.out Tryz.underlying231 rfl 2 (by kernel_rfl) rfl _ rfl) rfl ⟨_,_,rfl,qei HN.out,⟨_,_,_,_,rfl⟩,HA.out _⟩
 ·have h6:¬(600:Int)<n:=by omega
  have h0:(0:Int)<n:=by omega
  have hn1:((n:Int) == 0)=false:=by rw [beq_eq_false_iff_ne];omega
  have hn6:n≤600:=by omega
  have hlen2:=qH hlen
  clear hlen
  go_enter Tryz.func186,Tryz.ntmps186
  go_wp2_with fail
  refine (HC.out _).mono ?_
  rintro e w1 ⟨rfl,rfl⟩
  go_wp2_with fail
  go_loopw [23] (fun x23 W=>∃k:Nat,k≤n∧x23=.int .i64 k∧W=w.alloc (.cells #[.slice none 0 0,.bool false] 231)∧Hid (Nums (L.take k))) (fun x23 _=>n-(intOf x23).toNat)
  case atStart=>exact⟨0,qat _,rfl,rfl,qH (fun c hc=>by simp at hc)⟩
  case round =>
   obtain⟨k,hk,rfl,rfl,hI⟩:=hrel
   by_cases hkn:k<n
   ·have hki:(k:Int)<n:=by omega
    have hLk:k<L.length:=by rw [HL.out.1];exact hkn
    have hsz:k<t.size:=by rw [HL.out.2];exact hkn
    have hai:=Hat.out k hsz hLk
    obtain⟨c,hcc⟩:∃c,L[k].toNat=c:=⟨_,rfl⟩
    have hsc:(t[k]'hsz).toNat=c:=by rw [hai,hcc]
    by_cases hgood:48≤c∧c≤57
    ·have hnx:=qjf hLk hI.out (by rw [hcc];exact hgood)
     have g1:¬(c:Int)<48:=by omega
     have g2:¬(57:Int)<c:=by omega
     have HX:=qH hnx
     clear hnx hcc hai hgood
     go_wp2_with fail
     go_roundw
     case rel=>exact⟨k+1,hkn,by go_num,trivial,HX⟩
     case measure=>simp [intOf];omega
    ·have hno:¬Valid s.data.toList:=fun h=>not_nums hLk (by rw [hcc];exact hgood) (HV.out.1 h).1
     have HN:=qH hno
     have Hg:=qH hgood
     clear hno hcc hai hgood
     by_cases g1:(c:Int)<48
     ·go_wp2_with fail
      refine bodyPost_ret (v:=.tuple #[.agg #[.slice none 0 0,.bool false],.bool false]) (qbA rfl _ _ w.heap.size 231 _ _ rfl HZ.out Tryz.underlying231 rfl 2 (by kernel_rfl) rfl _ rfl) rfl ⟨_,_,rfl,qei HN.out,⟨_,_,_,_,rfl⟩,HA.out _⟩
     ·have g2:(57:Int)<c:=by have:=Hg.out;omega
      go_wp2_with fail
      refine bodyPost_ret (v:=.tuple #[.agg #[.slice none 0 0,.bool false],.bool false]) (qbA rfl _ _ w.heap.size 231 _ _ rfl HZ.out Tryz.underlying231 rfl 2 (by kernel_rfl) rfl _ rfl) rfl ⟨_,_,rfl,qei HN.out,⟨_,_,_,_,rfl⟩,HA.out _⟩
   ·obtain rfl:k=n:=by omega
    have hnum:Nums L:=by have h:=hI.out;rwa [qaj (by rw [HL.out.1];exact qah _)] at h
    have hL0:0<L.length:=by rw [HL.out.1];omega
    have hsz:0<t.size:=by rw [HL.out.2];omega
    have hai:=Hat.out 0 hsz hL0
    obtain⟨c,hcc⟩:∃c,L[0].toNat=c:=⟨_,rfl⟩
    have hsc:(t[0]'hsz).toNat=c:=by rw [hai,hcc]
    have hhead:L.head? = some 48↔c=48:=by
     rw [List.head?_eq_getElem?,qai hL0,←hcc]
     exact⟨fun e=>by rw [qam e];rfl,fun e=>congrArg some (qhU e)⟩
    have Hh:=qH hhead
    have Hn:=qH hnum
    clear hhead hnum hcc hai
    have hgg:=HG.out Hn.out hL0 (by rw [HL.out.1];exact hn6)
    have HGG:=qH hgg
    clear hgg
    by_cases hc48:c=48
    ·subst hc48
     by_cases hbad:b=true∨1<k
     ·have hno:¬Valid s.data.toList:=fun h=>by
       have h1:=(HV.out.1 h).2.2.2 (Hh.out.2 rfl)
       rcases hbad with h2 | h2
       ·rw [h2] at h1;exact absurd h1.2 (by decide)
       ·rw [HL.out.1] at h1;omega
      have HN:=qH hno
      clear hno
      cases b with
      | true =>
       go_wp2_with fail
       refine bodyPost_ret (v:=.tuple #[.agg #[.slice none 0 0,.bool false],.bool false]) (qbA rfl _ _ w.heap.size 231 _ _ rfl HZ.out Tryz.underlying231 rfl 2 (by kernel_rfl) rfl _ rfl) rfl ⟨_,_,rfl,qei HN.out,⟨_,_,_,_,rfl⟩,HA.out _⟩
      | false =>
       have h1k:(1:Int)<k:=by
        rcases hbad with h | h
        ·cases h
        ·omega
       clear hbad
       go_wp2_with fail
       refine bodyPost_ret (v:=.tuple #[.agg #[.slice none 0 0,.bool false],.bool false]) (qbA rfl _ _ w.heap.size 231 _ _ rfl HZ.out Tryz.underlying231 rfl 2 (by kernel_rfl) rfl _ rfl) rfl ⟨_,_,rfl,qei HN.out,⟨_,_,_,_,rfl⟩,HA.out _⟩
     ·have hb:b=false:=by
       cases b with
       | true=>exact absurd (qaJ rfl) hbad
       | false=>rfl
      have hk1:¬(1:Int)<k:=by omega
      subst hb
      have hyes:Valid s.data.toList:=HV.out.2 ⟨Hn.out,hL0,by rw [HL.out.1];exact hn6,fun _=>⟨by rw [HL.out.1];omega,rfl⟩⟩
      have HY:=qH hyes
      clear hyes hbad
      go_wp2_with fail
      refine (HGG.out _).mono ?_
      rintro e w2 ⟨v,rfl,hb2,hv⟩
      have hrow9:=(hb2.block w.heap.size (by simp)).trans HZ.out
      have hbw9:Below w.heap.size w w2:=(HA.out _).trans (hb2.mono (HA.out _).size)
      obtain⟨am,bm,om,cm,nm,M,rfl,_,_⟩:=hv
      have HR:=qH (qA hrow9 (below_setRow hbw9 qN #[.slice am nm cm,.bool false]))
      clear hrow9 hbw9 hb2
      go_wp2_with ((with_reducible refine wpList_store_row rfl 231 _ _ rfl w.heap.size #[.slice am nm cm,.bool false] ?_ ?_ 231 _ HR.out.1 2 ?_ ?_ ?_ ?_ ?_);(next=>rfl);(next=>rfl);(next=>kernel_rfl);(next=>rfl);(next=>rfl);(next=>rfl))
      refine bodyPost_ret (v:=.tuple #[.agg #[.slice am nm cm,.bool false],.bool true]) (qbA rfl _ _ w.heap.size 231 _ _ rfl (setRow_heap _ _ _ _ _ _ HR.out.1) Tryz.underlying231 rfl 2 (by kernel_rfl) rfl _ rfl) rfl ⟨_,_,rfl,qhl HY.out,⟨_,_,_,_,rfl⟩,HR.out.2⟩
    ·have hcb:((c:Int) == 48)=false:=by rw [beq_eq_false_iff_ne];omega
     have hyes:Valid s.data.toList:=HV.out.2 ⟨Hn.out,hL0,by rw [HL.out.1];exact hn6,fun h=>absurd (Hh.out.1 h) hc48⟩
     have HY:=qH hyes
     clear hyes
     go_wp2_with fail
     refine (HGG.out _).mono ?_
     rintro e w2 ⟨v,rfl,hb2,hv⟩
     have hrow9:=(hb2.block w.heap.size (by simp)).trans HZ.out
     have hbw9:Below w.heap.size w w2:=(HA.out _).trans (hb2.mono (HA.out _).size)
     obtain⟨am,bm,om,cm,nm,M,rfl,_,_⟩:=hv
     have HR:=qH (qA hrow9 (below_setRow hbw9 qN #[.slice am nm cm,.bool b]))
     clear hrow9 hbw9 hb2
     go_wp2_with ((with_reducible refine wpList_store_row rfl 231 _ _ rfl w.heap.size #[.slice am nm cm,.bool b] ?_ ?_ 231 _ HR.out.1 2 ?_ ?_ ?_ ?_ ?_);(next=>rfl);(next=>rfl);(next=>kernel_rfl);(next=>rfl);(next=>rfl);(next=>rfl))
     refine bodyPost_ret (v:=.tuple #[.agg #[.slice am nm cm,.bool b],.bool true]) (qbA rfl _ _ w.heap.size 231 _ _ rfl (setRow_heap _ _ _ _ _ _ HR.out.1) Tryz.underlying231 rfl 2 (by kernel_rfl) rfl _ rfl) rfl ⟨_,_,rfl,qhl HY.out,⟨_,_,_,_,rfl⟩,HR.out.2⟩
def qfV (w:World) (P:Prop) (err:Int) (e:Ending) (w':World):Prop:=∃c:Int,e=.returned (.int .i64 c)∧(c=0∧P∨c=err∧¬P)∧Below w.heap.size w w'
theorem qfU (s:ByteArray) (w:World) :
  Calls Tryz.prog 151 #[.string s] w fun e w'=>qfV w (Valid s.data.toList) 10 e w':=by
 have HR:=qH (qjE s w)
 go_enter Tryz.func151,Tryz.ntmps151
 go_wp2_with fail
 refine HR.out.mono ?_
 rintro e w1 ⟨v,ok,rfl,hok,⟨a,n,c,b,rfl⟩,hb⟩
 have HB:=qH (hb.alloc hb.size (.cells #[.slice a n c,.bool b] 231))
 have HK:=qH hok
 clear hb hok
 cases ok with
 | true =>
  go_wp2_with fail
  go_ret
  exact⟨0,rfl,qaJ ⟨rfl,by simpa using HK.out⟩,HB.out⟩
 | false =>
  go_wp2_with fail
  go_ret
  exact⟨10,rfl,qaA ⟨rfl,by simpa using HK.out⟩,HB.out⟩
end Go.Proofs.YtfminfgabiipjaaGreatDoor
