/- Ae, part 13: Frac13 -/
import Derived.Test.YtfminfgabiipjaaGreatDoorAe0
import Derived.Test.YtfminfgabiipjaaGreatDoorAe12
import Derived.Test.YtfminfgabiipjaaGreatDoorAe8
import Derived.Test.YtfminfgabiipjaaGreatDoorAe9
set_option maxRecDepth 100000
set_option maxHeartbeats 16000000
namespace Go.Proofs.YtfminfgabiipjaaGreatDoor.frac
open Go.RowKit
theorem qb9 (s:ByteArray) (hs:Valid s.data.toList) (w:World) :
  Calls Tryz.prog 152 #[.string s] w fun e w'=>∃v,e=.returned v∧Below w.heap.size w w'∧IntAt w' v (ival s.data.toList):=by
 have hc:=fun W=>Tryz.strings_CutPrefix s ⟨#[45]⟩ W
 obtain⟨t,ht⟩:∃t:ByteArray,(⟨(Lib.trimPrefix s.data.toList (ByteArray.mk #[45]).data.toList).toArray⟩:ByteArray)=t:=⟨_,rfl⟩
 have htl:t.data.toList=body s.data.toList:=by rw [←ht];rfl
 have hts:t.size=(body s.data.toList).length:=by rw [←htl];rfl
 obtain⟨b,hb⟩:∃b,Lib.hasPrefix s.data.toList (ByteArray.mk #[45]).data.toList=b:=⟨_,rfl⟩
 have hbs:signd s.data.toList=b:=hb
 rw [ht,hb] at hc
 have hg:=fun W=>qc6 t (by rw [htl];exact hs.nums) (by rw [hts];exact hs.pos) (by rw [hts];have:=hs.le;omega) W
 have hn:=hs.natAbs
 have hneg:=hs.neg
 rw [htl,←hn] at hg
 rw [hbs] at hneg
 have HC:=qH hc
 have HG:=qH hg
 have HN:=qH hneg
 generalize ival s.data.toList=z at *
 clear hc hg hn hneg hbs hb hts htl ht hs
 go_enter Tryz.func152,Tryz.ntmps152
 go_wp2_with fail
 refine (HC.out _).mono ?_
 rintro e w1 ⟨rfl,rfl⟩
 go_wp2_with fail
 refine (HG.out _).mono ?_
 rintro e w2 ⟨v,rfl,hb2,hv⟩
 have hrow:w2.heap[w.heap.size]? = some (.cells #[.slice none 0 0,.bool false] 136 (0,0)):=(hb2.block _ (by simp)).trans (qM _ _ _ rfl)
 have hbw:Below w.heap.size w w2:=(qB.alloc qN _).trans (hb2.mono (by simp))
 have hvs:=qdb (cs':=#[v,.bool b]) hv hrow qdv
 have HR:=qH (qA hrow (qA hbw (below_setRow hbw qN #[v,.bool b])))
 have HV:=qH hvs
 obtain⟨am,bm,om,cm,n,M,rfl,Im,hMx⟩:=hv
 clear hrow hbw hvs hb2 Im hMx
 go_wp2_with ((with_reducible refine wpList_store_row rfl 136 _ _ rfl w.heap.size #[.slice am n cm,.bool b] ?_ ?_ 136 _ HR.out.1 2 ?_ ?_ ?_ ?_ ?_);(next=>rfl);(next=>rfl);(next=>kernel_rfl);(next=>rfl);(next=>rfl);(next=>rfl))
 refine bodyPost_ret (v:=.agg #[.slice am n cm,.bool b]) (qbE rfl _ _ w.heap.size 136 _ _ rfl (setRow_heap _ _ _ _ _ _ HR.out.1) Tryz.underlying136 rfl 2 (by kernel_rfl) rfl) rfl ⟨_,rfl,HR.out.2.2,_,by rw [HN.out],HV.out⟩
end Go.Proofs.YtfminfgabiipjaaGreatDoor.frac
