/- Ae, part 27: Rh Pt Rj -/
import Derived.Deep.RegionHeld
import Derived.Deep.RegionHeld3
import Derived.Test.YtfminfgabiipjaaGreatDoorAe0
import Derived.Test.YtfminfgabiipjaaGreatDoorAe10
import Derived.Test.YtfminfgabiipjaaGreatDoorAe26
set_option maxRecDepth 100000
set_option maxHeartbeats 16000000
namespace Go.Proofs.YtfminfgabiipjaaGreatDoor.p4
open Go.RowKit
def MagHi (W:World) (B:Nat) (v:Value) (x:Nat):Prop:=∃(ao:Option Addr) (b off c n:Nat) (L:List Nat),v=.slice ao n c∧IsM W ao b off c n L∧(0<n→B≤b)∧mval L=x
theorem MagHi.mag {W:World} {B:Nat} {v:Value} {x:Nat} (h:MagHi W B v x):MagAt W v x:=by
 obtain⟨ao,b,off,c,n,L,rfl,h1,_,h2⟩:=h
 exact⟨ao,b,off,c,n,L,rfl,h1,h2⟩
theorem MagHi.below {W W':World} {B:Nat} {v:Value} {x:Nat} (h:MagHi W B v x) (hb:Below W.heap.size W W'):MagHi W' B v x:=by
 obtain⟨ao,b,off,c,n,L,rfl,h1,h2,h3⟩:=h
 exact⟨ao,b,off,c,n,L,rfl,h1.below hb,h2,h3⟩
theorem MagHi.set {W:World} {B g k:Nat} {v u:Value} {x:Nat} (h:MagHi W B v x) (hg:g<B):MagHi (W.setCell ⟨g,k,none⟩ u) B v x:=by
 obtain⟨ao,b,off,c,n,L,rfl,h1,h2,h3⟩:=h
 refine⟨ao,b,off,c,n,L,rfl,⟨h1.len,h1.cap,⟨h1.cells.addr,fun j hj=>?_⟩,h1.dig,h1.nrm⟩,h2,h3⟩
 have hne:b≠g:=by have:=h2 (by rw [←h1.len];omega);omega
 exact (World.cell?_setCell_far W ⟨g,k,none⟩ ⟨b,off+j,none⟩ u (by show g≠b;omega)).trans (h1.cells.cell j hj)
theorem Cells.drop {W:World} {b off:Nat} {L:List Nat} (h:Cells W (some ⟨b,off,none⟩) b off L) (k:Nat):Cells W (some ⟨b,off+k,none⟩) b (off+k) (L.drop k) :=
 ⟨fun _=>rfl,fun j hj=>by
  rw [qa0] at hj
  rw [Nat.add_assoc,h.cell (k+j) (by omega)]
  unfold dg
  rw [qaa,qaa,List.getElem?_drop]⟩
end Go.Proofs.YtfminfgabiipjaaGreatDoor.p4
namespace Go.Proofs.YtfminfgabiipjaaGreatDoor.p4
open Go.Lib Go.RowKit
def qeq (W:World) (v:Value) (z:Int):Prop:=∃m,v=.agg #[.bool (decide (z<0)),m]∧MagAt W m z.natAbs
theorem qeq.below {W W':World} {v:Value} {z:Int} (h:qeq W v z) (hb:Below W.heap.size W W'):qeq W' v z:=by
 obtain⟨m,h1,h2⟩:=h
 exact⟨m,h1,h2.below hb⟩
theorem qeq.shape {W:World} {v:Value} {z:Int} (h:qeq W v z):∃(b:Bool) (a:Option Addr) (n c:Nat),v=.agg #[.bool b,.slice a n c]:=by
 obtain⟨m,rfl,am,bm,om,cm,n,M,rfl,Im,hMx⟩:=h
 exact⟨_,am,n,cm,rfl⟩
end Go.Proofs.YtfminfgabiipjaaGreatDoor.p4
namespace Go.Proofs.YtfminfgabiipjaaGreatDoor.p4
open Go.RowKit
structure IntInv (n m k:Nat) (S:List Nat):Prop where
 len:S.length=k
 dig:Dig S
 val:mval S+10000 ^ k*m=n
 fit:m<10000 ^ (5-k)
theorem IntInv.start {n:Nat} (h:n<100000000000000000000):IntInv n n 0 []:=⟨rfl,Dig.nil,by simp [mval],by simpa using h⟩
theorem IntInv.lt {n m k:Nat} {S:List Nat} (h:IntInv n m k S) (hk:k≤5) (h0:m≠0):k<5:=by
 rcases qa2 k 5 with h1 | h1
 ·exact h1
 ·obtain rfl:k=5:=by omega
  have:=h.fit
  simp at this;omega
theorem IntInv.done {n k:Nat} {S:List Nat} (h:IntInv n 0 k S):mval S=n:=by have:=h.val;simpa using this
end Go.Proofs.YtfminfgabiipjaaGreatDoor.p4
