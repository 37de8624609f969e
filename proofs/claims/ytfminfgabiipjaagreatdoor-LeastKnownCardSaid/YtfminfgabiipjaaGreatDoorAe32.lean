/- Ae, part 32: Ro -/
import Derived.Deep.Cut
import Derived.Test.YtfminfgabiipjaaGreatDoorAe0
import Derived.Test.YtfminfgabiipjaaGreatDoorAe20
import Derived.Test.YtfminfgabiipjaaGreatDoorAe30
import Derived.Test.YtfminfgabiipjaaGreatDoorAe31
set_option maxRecDepth 100000
set_option maxHeartbeats 16000000
namespace Go.Proofs.YtfminfgabiipjaaGreatDoor.p4
open Go.RowKit
def qe5 (W:World) (v:Value) (q:Rat):Prop:=∃m o,v=.agg #[.bool (decide (q.num<0)),m,.bool false,o]∧MagAt W m q.num.natAbs∧MagAt W o q.den
theorem qe5.below {W W':World} {v:Value} {q:Rat} (h:qe5 W v q) (hb:Below W.heap.size W W'):qe5 W' v q:=by
 obtain⟨m,o,h1,h2,h3⟩:=h
 exact⟨m,o,h1,h2.below hb,h3.below hb⟩
theorem qe5.shape {W:World} {v:Value} {q:Rat} (h:qe5 W v q):∃(b:Bool) (a:Option Addr) (n c:Nat) (a':Option Addr) (n' c':Nat),v=.agg #[.bool b,.slice a n c,.bool false,.slice a' n' c']:=by
 obtain⟨m,o,rfl,⟨am,bm,om,cm,n,M,rfl,_,_⟩,⟨ao,bo,oo,co,no,O,rfl,_,_⟩⟩:=h
 exact⟨_,am,n,cm,ao,no,co,rfl⟩
end Go.Proofs.YtfminfgabiipjaaGreatDoor.p4
