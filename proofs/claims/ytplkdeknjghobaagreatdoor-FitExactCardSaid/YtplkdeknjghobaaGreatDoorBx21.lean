import Derived.Deep.RegionHeld
import Derived.Test.YtplkdeknjghobaaGreatDoorBx20
set_option maxRecDepth 100000
set_option maxHeartbeats 0
namespace Go.Proofs.YtplkdeknjghobaaGreatDoor.p4
open Go.RowKit
def dg (L:List Nat) (k:Nat):Nat:=L.getD k 0
structure Cells (W:World) (ao:Option Addr) (b off:Nat) (L:List Nat):Prop where
 addr:0<L.length->ao=some ⟨b,off,none⟩
 cell:∀k,k<L.length->W.cell? ⟨b,off+k,none⟩=some (.int .i64 ((dg L k:Nat):Int))
theorem Cells.below {W W':World} {F:Option Addr} {b off:Nat} {L:List Nat} (h:Cells W F b off L) (H:Below W.heap.size W W'):Cells W' F b off L :=
 ⟨h.addr,fun k G=>(H.cell (qac W _ (h.cell k G))).trans (h.cell k G)⟩
theorem Cells.take {W:World} {F:Option Addr} {b off:Nat} {L:List Nat} (h:Cells W F b off L) (n:Nat):Cells W F b off (L.take n) :=
 ⟨fun G=>h.addr (by rw [qay] at G;omega),fun k H=>by
  rw [qay] at H;rw [h.cell k (by omega),dg,dg,qaa,qaa,List.getElem?_take_of_lt (by omega)]⟩
structure IsM (W:World) (ao:Option Addr) (b off c n:Nat) (L:List Nat):Prop where
 len:L.length=n
 cap:n<=c
 cells:Cells W ao b off L
 dig:Dig L
 nrm:Nrm L
theorem IsM.below {W W':World} {F:Option Addr} {b off c n:Nat} {L:List Nat} (h:IsM W F b off c n L) (G:Below W.heap.size W W'):IsM W' F b off c n L:=⟨h.len,h.cap,h.cells.below G,h.dig,h.nrm⟩
theorem IsM.addr {W:World} {F:Option Addr} {b off c n:Nat} {L:List Nat} (h:IsM W F b off c n L):0<n->F=some ⟨b,off,none⟩:=by rw [<-h.len];exact h.cells.addr
theorem IsM.cell {W:World} {F:Option Addr} {b off c n:Nat} {L:List Nat} (h:IsM W F b off c n L):∀k,k<n->W.cell? ⟨b,off+k,none⟩=some (.int .i64 ((dg L k:Nat):Int)):=by rw [<-h.len];exact h.cells.cell
def MagAt (W:World) (v:Value) (x:Nat):Prop:=∃(F:Option Addr) (b off c n:Nat) (L:List Nat),v=.slice F n c/\IsM W F b off c n L/\mval L=x
theorem MagAt.below {W W':World} {v:Value} {x:Nat} (h:MagAt W v x) (H:Below W.heap.size W W'):MagAt W' v x:=by
 obtain⟨ao,b,off,c,n,L,rfl,F,G⟩:=h;exact⟨ao,b,off,c,n,L,rfl,F.below H,G⟩
theorem MagAt.nil (W:World):MagAt W (.slice none 0 0) 0:=⟨none,0,0,0,0,[],rfl,⟨rfl,qae _,⟨fun h=>absurd h (by simp),fun k h=>absurd h (by simp)⟩,Dig.nil,qal rfl⟩,rfl⟩
def Fit (x K:Nat):Prop:=x<10000 ^ K
theorem Fit.le {x y K:Nat} (h:Fit y K) (hx:x<=y):Fit x K:=qaL hx h
theorem Fit.mono {x K M:Nat} (h:Fit x K) (F:K<=M):Fit x M:=qai h (qaX (by decide) F)
theorem Fit.mul {x y K M:Nat} (h:Fit x K) (k:Fit y M):Fit (x*y) (K+M):=by
 unfold Fit at *;rw [Nat.pow_add];exact Nat.mul_lt_mul'' h k
theorem Fit.add {x y K:Nat} (h:Fit x K) (k:Fit y K):Fit (x+y) (K+1):=by
 unfold Fit at *;rw [qaI];omega
theorem Fit.len {W:World} {F:Option Addr} {b off c n:Nat} {L:List Nat} {K:Nat} (h:Fit (mval L) K) (k:IsM W F b off c n L):n<=K:=by
 rw [<-k.len];exact k.nrm.len h
instance stays_mag {v:Value} {x:Nat}:Stays fun W=>MagAt W v x:=⟨fun h F=>h.below F⟩
