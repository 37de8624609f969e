/- Ae, part 35: Rr -/
import Derived.Deep.RegionHeld3
import Derived.Test.YtfminfgabiipjaaGreatDoorAe0
import Derived.Test.YtfminfgabiipjaaGreatDoorAe14
import Derived.Test.YtfminfgabiipjaaGreatDoorAe27
import Derived.Test.YtfminfgabiipjaaGreatDoorAe32
import Derived.Test.YtfminfgabiipjaaGreatDoorAe34
set_option maxRecDepth 100000
set_option maxHeartbeats 16000000
namespace Go.Proofs.YtfminfgabiipjaaGreatDoor
open Go.RowKit
structure KCells (W:World) (kd:IntKind) (ao:Option Addr) (b off:Nat) (L:List Int):Prop where
 addr:0<L.length→ao=some ⟨b,off,none⟩
 cell:∀k,k<L.length→W.cell? ⟨b,off+k,none⟩=some (.int kd (L.getD k 0))
theorem KCells.below {W W':World} {kd:IntKind} {ao:Option Addr} {b off:Nat} {L:List Int} (h:KCells W kd ao b off L) (hb:Below W.heap.size W W'):KCells W' kd ao b off L :=
 ⟨h.addr,fun k hk=>(hb.cell (qad W _ (h.cell k hk))).trans (h.cell k hk)⟩
def ints (D:List Nat):List Int:=D.map fun (d:Nat)=>(d:Int)
def qgX (W:World) (v:Value) (r c:Nat) (N:List Int) (D:List Nat):Prop :=
 ∃(a:Option Addr) (b off n cc:Nat) (a':Option Addr) (b' off' n' cc':Nat),v=.agg #[.int .u8 (r:Int),.int .u8 (c:Int),.slice a n cc,.slice a' n' cc']∧r<256∧c<256 ∧
  N.length=n∧n≤cc∧n≤9223372036854775807∧D.length=n'∧n'≤cc'∧n'≤9223372036854775807∧KCells W .i8 a b off N∧KCells W .u8 a' b' off' (ints D)∧(∀k,-128≤N.getD k 0∧N.getD k 0≤127)∧(∀k,D.getD k 0<256)
theorem qgX.below {W W':World} {v:Value} {r c:Nat} {N:List Int} {D:List Nat} (h:qgX W v r c N D) (hb:Below W.heap.size W W'):qgX W' v r c N D:=by
 obtain⟨a,b,off,n,cc,a',b',off',n',cc',rfl,h1,h2,h3,h4,h5,h6,h7,h8,h9,h10,h11,h12⟩:=h
 exact⟨a,b,off,n,cc,a',b',off',n',cc',rfl,h1,h2,h3,h4,h5,h6,h7,h8,h9.below hb,h10.below hb,h11,h12⟩
end Go.Proofs.YtfminfgabiipjaaGreatDoor
