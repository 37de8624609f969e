import Derived.Deep.RegionHeld
import Derived.Test.YtplkdeknjghobaaGreatDoorBs21
set_option maxRecDepth 100000
set_option maxHeartbeats 0
namespace Go.Proofs.YtplkdeknjghobaaGreatDoor.p4
open Go.RowKit
def dg (L:List Nat) (k:Nat):Nat:=L.getD k 0
structure Cells (W:World) (ao:Option Addr) (b off:Nat) (L:List Nat):Prop where
 addr:0<L.length->ao=some ⟨b,off,none⟩
 cell:∀k,k<L.length->W.cell? ⟨b,off+k,none⟩=some (.int .i64 ((dg L k:Nat):Int))
theorem Cells.below {W W':World} {ao:Option Addr} {b off:Nat} {L:List Nat} (h:Cells W ao b off L) (hb:Below W.heap.size W W'):Cells W' ao b off L :=
 ⟨h.addr,fun k hk=>(hb.cell (qac W _ (h.cell k hk))).trans (h.cell k hk)⟩
theorem Cells.take {W:World} {ao:Option Addr} {b off:Nat} {L:List Nat} (h:Cells W ao b off L) (n:Nat):Cells W ao b off (L.take n) :=
 ⟨fun h0=>h.addr (by rw [qat] at h0;omega),fun k hk=>by
  rw [qat] at hk;rw [h.cell k (by omega),dg,dg,qaa,qaa,List.getElem?_take_of_lt (by omega)]⟩
structure IsM (W:World) (ao:Option Addr) (b off c n:Nat) (L:List Nat):Prop where
 len:L.length=n
 cap:n<=c
 cells:Cells W ao b off L
 dig:Dig L
 nrm:Nrm L
theorem IsM.below {W W':World} {ao:Option Addr} {b off c n:Nat} {L:List Nat} (h:IsM W ao b off c n L) (hb:Below W.heap.size W W'):IsM W' ao b off c n L:=⟨h.len,h.cap,h.cells.below hb,h.dig,h.nrm⟩
theorem IsM.addr {W:World} {ao:Option Addr} {b off c n:Nat} {L:List Nat} (h:IsM W ao b off c n L):0<n->ao=some ⟨b,off,none⟩:=by rw [<-h.len];exact h.cells.addr
theorem IsM.cell {W:World} {ao:Option Addr} {b off c n:Nat} {L:List Nat} (h:IsM W ao b off c n L):∀k,k<n->W.cell? ⟨b,off+k,none⟩=some (.int .i64 ((dg L k:Nat):Int)):=by rw [<-h.len];exact h.cells.cell
def MagAt (W:World) (v:Value) (x:Nat):Prop:=∃(ao:Option Addr) (b off c n:Nat) (L:List Nat),v=.slice ao n c/\IsM W ao b off c n L/\mval L=x
theorem MagAt.below {W W':World} {v:Value} {x:Nat} (h:MagAt W v x) (hb:Below W.heap.size W W'):MagAt W' v x:=by
 obtain⟨ao,b,off,c,n,L,rfl,h1,h2⟩:=h;exact⟨ao,b,off,c,n,L,rfl,h1.below hb,h2⟩
theorem MagAt.nil (W:World):MagAt W (.slice none 0 0) 0:=⟨none,0,0,0,0,[],rfl,⟨rfl,qad _,⟨fun h=>absurd h (by simp),fun k h=>absurd h (by simp)⟩,Dig.nil,qan rfl⟩,rfl⟩
def Fit (x K:Nat):Prop:=x<10000 ^ K
theorem Fit.le {x y K:Nat} (h:Fit y K) (hx:x<=y):Fit x K:=qaG hx h
theorem Fit.mono {x K M:Nat} (h:Fit x K) (hK:K<=M):Fit x M:=qag h (qaX (by decide) hK)
theorem Fit.mul {x y K M:Nat} (h:Fit x K) (k:Fit y M):Fit (x*y) (K+M):=by
 unfold Fit at *;rw [Nat.pow_add];exact Nat.mul_lt_mul'' h k
theorem Fit.add {x y K:Nat} (h:Fit x K) (k:Fit y K):Fit (x+y) (K+1):=by
 unfold Fit at *;rw [qaD];omega
theorem Fit.len {W:World} {ao:Option Addr} {b off c n:Nat} {L:List Nat} {K:Nat} (h:Fit (mval L) K) (k:IsM W ao b off c n L):n<=K:=by
 rw [<-k.len];exact k.nrm.len h
instance stays_mag {v:Value} {x:Nat}:Stays fun W=>MagAt W v x:=⟨fun h hb=>h.below hb⟩
