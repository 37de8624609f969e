/- Ad, part 39: L1 -/
import Derived.Deep.SlicePairs
import Derived.Test.YtfminfgabiipjaaGreatDoorAd0
import Derived.Test.YtfminfgabiipjaaGreatDoorAd37
import Derived.Test.YtfminfgabiipjaaGreatDoorAd38
set_option maxRecDepth 100000
set_option maxHeartbeats 16000000
namespace Go.Proofs.YtfminfgabiipjaaGreatDoor
open Go.ChangeShapes Go.WideShapes Go.ChangeAt Go.RowKit Go.Deep
section
variable {H:Type} {enc:TypeId×Value→H} {w:World} {sp:Nat→Bool} {held:Bool} {fuel:Nat} {v:Value} {x:DataW H×List MemPlace}
theorem qfu {a:Addr} {u:Value} (h:w.cell? (a.add 0)=some u):a=⟨a.block,a.off,none⟩:=by
 obtain⟨b,off,s⟩:=a
 have:=World.cell?_spot h
 have e:s=none:=by simpa [Addr.add] using this
 rw [e]
theorem qeD (h:DataW.trod enc Tryz.prog w 0 sp held fuel 23 [v]=some x):∃(a:Option Addr) (b off c:Nat) (l:List FT),v=.slice a l.length c∧(l.length≤c∧l.length≤maxLen)∧FCells w a b off l:=by
 rcases open_slice_pairs Tryz.underlying23 Tryz.underlying46 (by kernel_rfl) rfl rfl (by kernel_rfl) (by kernel_rfl) h with ⟨hcs,_⟩ | ⟨a,len,cap,m,n,V0,V1,D0,D1,P0,P1,hcs,_,hl,hm,hmm,_,hx⟩
 ·exact⟨none,0,0,0,[],by injection hcs,⟨qae _,by decide⟩,⟨fun h=>absurd h (by decide),fun k h=>absurd h (by simp)⟩⟩
 ·have hlm:len≤m:=by rw [hmm];split <;> omega
  have each:∀i,i<len→∃y:ByteArray×ByteArray,V0 i=.string y.1∧V1 i=.string y.2:=fun i hi=>by
   obtain⟨_,_,h0,h1⟩:=hx i (by omega)
   obtain⟨s,e0,_,_⟩:=DataW.trod_string Tryz.underlying44 h0
   obtain⟨s',e1,_,_⟩:=DataW.trod_string Tryz.underlying44 h1
   exact⟨(s,s'),by injection e0,by injection e1⟩
  have:Inhabited (ByteArray×ByteArray):=⟨fd0⟩
  obtain⟨Y,hY⟩:=choose_lt each
  have hg:∀k,k<len→((List.range len).map Y).getD k fd0=Y k:=fun k hk=>by
   rw [qaa,qaN,qbp hk];rfl
  have hln:((List.range len).map Y).length=len:=by rw [qaD,List.length_range]
  refine⟨some a,a.block,a.off,cap,(List.range len).map Y,by rw [hln];injection hcs,⟨by rw [hln];exact hl,by rw [hln];omega⟩,⟨fun h0=>?_,fun k hk=>?_⟩⟩
  ·rw [hln] at h0
   have:=qfu (a:=a) (hx 0 (by omega)).1
   exact congrArg some this
  ·rw [hln] at hk
   obtain⟨h0,h1,_⟩:=hx k (by omega)
   have ha:=qfu (a:=a) (hx 0 (by omega)).1
   rw [ha,Addr.add_mid] at h0
   rw [ha,Addr.add_mid] at h1
   rw [hg k hk]
   exact⟨h0.trans (congrArg some (hY k hk).1),by rw [Nat.add_assoc];exact h1.trans (congrArg some (hY k hk).2)⟩
theorem qkm (h:DataW.trod enc Tryz.prog w 0 sp held fuel 22 [v]=some x):∃(a:Option Addr) (b off c:Nat) (t:Tbl),v=.slice a t.length c∧(t.length≤c∧t.length≤maxLen)∧(∀k,k<t.length→(t.getD k []).length≤maxLen)∧TabAt w a b off t:=by
 rcases open_slice1 Tryz.underlying22 (by kernel_rfl) h with ⟨hcs,_⟩ | ⟨a,len,cap,m,n,V,D,Pl,hcs,_,hl,hm,hmm,_,hx⟩
 ·exact⟨none,0,0,0,[],by injection hcs,⟨qae _,by decide⟩,fun k h=>absurd h (by simp),⟨⟨fun h=>absurd h (by decide),fun k h=>absurd h (by simp)⟩,fun k h=>absurd h (by simp)⟩⟩
 ·have hlm:len≤m:=by rw [hmm];split <;> omega
  have each:∀i,i<len→∃l:List FT,∃(ra:Option Addr) (rb ro rc:Nat),V i=.slice ra l.length rc∧(l.length≤rc∧l.length≤maxLen)∧FCells w ra rb ro l:=fun i hi=>by
   obtain⟨ra,rb,ro,rc,l,e,hl,hF⟩:=qeD (hx i (by omega)).2
   exact⟨l,ra,rb,ro,rc,e,hl,hF⟩
  obtain⟨Y,hY⟩:=choose_lt each
  have hg:∀k,k<len→((List.range len).map Y).getD k []=Y k:=fun k hk=>by
   rw [qaa,qaN,qbp hk];rfl
  have hln:((List.range len).map Y).length=len:=by rw [qaD,List.length_range]
  have hat:∀k,k<len→∃(ra:Option Addr) (rb ro rc:Nat),w.cell? ⟨a.block,a.off+k,none⟩=some (.slice ra (Y k).length rc)∧((Y k).length≤rc∧(Y k).length≤maxLen)∧FCells w ra rb ro (Y k):=fun k hk=>by
   obtain⟨ra,rb,ro,rc,e,h2,hF⟩:=hY k hk
   have h0:=(hx k (by omega)).1
   rw [qfu (a:=a) (hx 0 (by omega)).1,Addr.add_mid,e] at h0
   exact⟨ra,rb,ro,rc,h0,h2,hF⟩
  refine⟨some a,a.block,a.off,cap,(List.range len).map Y,by rw [hln];injection hcs,⟨by rw [hln];exact hl,by rw [hln];omega⟩,fun k hk=>?_,⟨⟨fun h0=>?_,fun k hk=>?_⟩,fun k hk=>?_⟩⟩
  ·rw [hln] at hk
   rw [hg k hk]
   obtain⟨_,_,_,_,_,h2,_⟩:=hat k hk
   exact h2.2
  ·rw [hln] at h0
   exact congrArg some (qfu (hx 0 (by omega)).1)
  ·rw [hln] at hk
   rw [hg k hk]
   obtain⟨ra,rb,ro,rc,h0,_,hF⟩:=hat k hk
   exact⟨ra,rb,ro,rc,h0,hF⟩
  ·rw [hln] at hk
   rw [hg k hk]
   obtain⟨ra,rb,ro,rc,h0,h2,hF⟩:=hat k hk
   exact⟨ra,rc,h0,h2.1⟩
theorem qjH {r:Reach} {b0:Nat} {d:DataW H} {p:List MemPlace} (hv:Value.okWide Tryz.prog w r b0 25 v) (h:DataW.Trod enc Tryz.prog w 0 sp held 25 v d p) :
  ∃(t:Tbl) (l u y:List FT),RawAt w v t l u y∧t.length≤maxLen∧(∀k,k<t.length→(t.getD k []).length≤maxLen)∧l.length≤maxLen∧u.length≤maxLen∧y.length≤maxLen:=by
 obtain⟨v0,v1,v2,v3,y0,y1,y2,y3,n,rfl,rfl,rfl,h0,h1,h2,h3⟩:=Joins.open_agg4 Tryz.underlying25 (by kernel_rfl) (by kernel_rfl) hv h
 obtain⟨a,b,off,c,t,rfl,e1,e2,hT⟩:=qkm h0
 obtain⟨a1,b1,o1,c1,l,rfl,e3,hF1⟩:=qeD h1
 obtain⟨a2,b2,o2,c2,u,rfl,e4,hF2⟩:=qeD h2
 obtain⟨a3,b3,o3,c3,y,rfl,e5,hF3⟩:=qeD h3
 exact⟨t,l,u,y,⟨a,b,off,c,a1,b1,o1,c1,a2,b2,o2,c2,a3,b3,o3,c3,rfl,⟨e1.1,e3.1,e4.1,e5.1⟩,hT,hF1,hF2,hF3⟩,e1.2,e2,e3.2,e4.2,e5.2⟩
end
end Go.Proofs.YtfminfgabiipjaaGreatDoor
