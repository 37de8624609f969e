/- Ae, part 38: Nrr -/
import Derived.Test.YtfminfgabiipjaaGreatDoorAe0
import Derived.Test.YtfminfgabiipjaaGreatDoorAe34
import Derived.Test.YtfminfgabiipjaaGreatDoorAe37
set_option maxRecDepth 100000
set_option maxHeartbeats 16000000
namespace Go.Proofs.YtfminfgabiipjaaGreatDoor
open Go.RowKit
def gR (n:Nat) (f:Nat→Nat→Rat) (b:Nat→Rat) (i c:Nat):Rat:=if c<n then f i c else b i
def normR (R n:Nat) (f:Nat→Nat→Rat) (b w:Nat→Rat) (r c:Nat):Rat:=sumQ R fun i=>w i*(gR n f b i r*gR n f b i c)
theorem qgr {R n:Nat} {f:Nat→Nat→Rat} {b:Nat→Rat} {i:Nat} (hi:i<R):besides (ttab R n f) (told R b) i=told n (f i)++[ftxt (b i)]:=by
 unfold besides;rw [qdI hi,qdG hi]
theorem qeG {R n:Nat} {f:Nat→Nat→Rat} {b:Nat→Rat} {i c:Nat} (hi:i<R) (hc:c≤n):lval (besides (ttab R n f) (told R b) i) c=gR n f b i c:=by
 rw [qgr hi]
 unfold gR
 by_cases h:c<n
 ·rw [if_pos h,qdZ (by rw [qbo];exact h),qcP h]
 ·obtain rfl:c=n:=by omega
  rw [if_neg h]
  have:=qdY (l:=told c (f i)) (x:=ftxt (b i))
  rw [qbo] at this
  rw [this,qgx]
theorem qfL {R n:Nat} {f:Nat→Nat→Rat} {b w:Nat→Rat} {r c:Nat} (hr:r≤n) (hc:c≤n):normQ (ttab R n f) (told R b) (told R w) R r c=normR R n f b w r c :=
 qbz fun i hi=>by rw [qcP hi,qeG hi hr,qeG hi hc]
theorem qif {R n:Nat} {f:Nat→Nat→Rat} {b w x:Nat→Rat}:measQ (ttab R n f) (told R b) (told R w) (told n x) n R=msR R n f b w x :=
 qbz fun i hi=>by
  have:resQ (ttab R n f) (told R b) (told n x) n i=resR n f b x i:=by
   unfold resQ resR
   rw [qcP hi]
   congr 1
   exact qbz fun j hj=>by rw [qgm hi hj,qcP hj]
  rw [qcP hi,this]
theorem qbQ.congr {R n k:Nat} {A B:Nat→Nat→Rat} (h:qbQ R n A k) (e:∀i,i<R→∀j,j<n→A i j=B i j):qbQ R n B k :=
 qbQ.scale (fun _=>1) (fun _ _=>by decide) (fun i hi j hj=>by rw [e i hi j hj];grind) h
def qfB (R n:Nat) (f:Nat→Nat→Rat) (b w:Nat→Rat) (e:Ending) (w':World):Prop :=
 (Sing n (normR R n f b w)∧e=.returned (.tuple #[.slice none 0 0,.int .i64 7]))∨(¬Sing n (normR R n f b w)∧∃x,qb6 n (normR R n f b w) (fun r=>normR R n f b w r n) x∧Tells n x e w')
theorem qhD {R:Nat} {w:Nat→Rat} (h:∀i,i<R→0≤w i):¬Neg (told R w):=by
 rintro ⟨k,hk,hlt⟩
 rw [qbo] at hk
 rw [qdG hk,show (ftxt (w k)).1.data.toList=itxt (w k).num from rfl,qcH] at hlt
 have:=Rat.num_nonneg.2 (h k hk)
 omega
theorem qe4.told {w0:World} {R n:Nat} {f:Nat→Nat→Rat} {b w:Nat→Rat} {e:Ending} {w':World} (h:qe4 w0 (ttab R n f) (told R b) (told R w) e w') (h1:1≤R) (h2:R≤40) (h3:1≤n) (h4:n≤10) (hf:∀i,i<R→qbw n (f i)) (hb:qbw R b) (hw:qbw R w) (hw0:∀i,i<R→0≤w i):qfB R n f b w e w'∧Below w0.heap.size w0 w':=by
 have hT:=qc2 h1 h2 h3 h4 hf
 refine⟨?_,h.2⟩
 rcases h.1 with h | h | h | h
 ·exact absurd hT h.1
 ·exact absurd ⟨qb7 hb,qb7 hw⟩ h.2.1
 ·exact absurd ⟨by rw [qbo,qbI],by rw [qbo,qbI],qhD hw0⟩ h.2.2.2.1
 ·have h5:=h.2.2.2.2.2.2
  rw [qcN h1,qbI] at h5
  have hc:∀r,r<n→∀c,c<n→normQ (ttab R n f) (Go.Proofs.YtfminfgabiipjaaGreatDoor.told R b) (Go.Proofs.YtfminfgabiipjaaGreatDoor.told R w) R r c=normR R n f b w r c:=fun r hr c hc=>qfL (by omega) (by omega)
  rcases h5 with ⟨hs,he⟩ | ⟨hs,x,hx,ht⟩
  ·exact qaJ ⟨hs.congr hc,he⟩
  ·exact qaA ⟨fun hs2=>hs (hs2.congr fun r hr c hcc=>(hc r hr c hcc).symm),x,hx.congr hc (fun r hr=>qfL (by omega) qN) (fun _ _=>rfl),ht⟩
end Go.Proofs.YtfminfgabiipjaaGreatDoor
