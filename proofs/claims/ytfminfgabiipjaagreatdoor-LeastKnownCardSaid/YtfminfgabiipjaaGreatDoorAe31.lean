/- Ae, part 31: Rl -/
import Derived.Deep.RegionHeld3
import Derived.Test.YtfminfgabiipjaaGreatDoorAe0
import Derived.Test.YtfminfgabiipjaaGreatDoorAe27
import Derived.Test.YtfminfgabiipjaaGreatDoorAe30
set_option maxRecDepth 100000
set_option maxHeartbeats 16000000
namespace Go.Proofs.YtfminfgabiipjaaGreatDoor.p4
open Go.RowKit
instance stays_mag {v:Value} {x:Nat}:Stays fun W=>MagAt W v x:=⟨fun h hb=>h.below hb⟩
instance stays_plain {v:Value} {x:Int}:Stays fun W=>qeq W v x:=⟨fun h hb=>h.below hb⟩
instance stays_dig {v:Value} {x N:Nat}:Stays fun W=>DigAt W v x N:=⟨fun h hb=>h.below hb⟩
end Go.Proofs.YtfminfgabiipjaaGreatDoor.p4
