/- Ad, part 41: Nrr -/
import Derived.Test.YtfminfgabiipjaaGreatDoorAd0
import Derived.Test.YtfminfgabiipjaaGreatDoorAd35
import Derived.Test.YtfminfgabiipjaaGreatDoorAd40
set_option maxRecDepth 100000
set_option maxHeartbeats 16000000
namespace Go.Proofs.YtfminfgabiipjaaGreatDoor
open Go.RowKit
def gR (n:Nat) (f:Nat→Nat→Rat) (b:Nat→Rat) (i c:Nat):Rat:=if c<n then f i c else b i
def normR (R n:Nat) (f:Nat→Nat→Rat) (b w:Nat→Rat) (r c:Nat):Rat:=sumQ R fun i=>w i*(gR n f b i r*gR n f b i c)
theorem qh2 {R n:Nat} {f:Nat→Nat→Rat} {b:Nat→Rat} {i:Nat} (hi:i<R):besides (ttab R n f) (told R b) i=told n (f i)++[ftxt (b i)]:=by
 unfold besides;rw [qeg hi,qfS hi]
theorem qfW {R n:Nat} {f:Nat→Nat→Rat} {b:Nat→Rat} {i c:Nat} (hi:i<R) (hc:c≤n):lval (besides (ttab R n f) (told R b) i) c=gR n f b i c:=by
 rw [qh2 hi]
 unfold gR
 by_cases h:c<n
 ·rw [if_pos h,qeY (by rw [qbQ];exact h),qdA h]
 ·obtain rfl:c=n:=by omega
  rw [if_neg h]
  have:=qeX (l:=told c (f i)) (x:=ftxt (b i))
  rw [qbQ] at this
  rw [this,qgx]
theorem qhf {R n:Nat} {f:Nat→Nat→Rat} {b w:Nat→Rat} {r c:Nat} (hr:r≤n) (hc:c≤n):normQ (ttab R n f) (told R b) (told R w) R r c=normR R n f b w r c :=
 qbY fun i hi=>by rw [qdA hi,qfW hi hr,qfW hi hc]
theorem qki {R n:Nat} {f:Nat→Nat→Rat} {b w x:Nat→Rat}:measQ (ttab R n f) (told R b) (told R w) (told n x) n R=msR R n f b w x :=
 qbY fun i hi=>by
  have:resQ (ttab R n f) (told R b) (told n x) n i=resR n f b x i:=by
   unfold resQ resR
   rw [qdA hi]
   congr 1
   exact qbY fun j hj=>by rw [qhW hi hj,qdA hj]
  rw [qdA hi,this]
theorem qct.congr {R n k:Nat} {A B:Nat→Nat→Rat} (h:qct R n A k) (e:∀i,i<R→∀j,j<n→A i j=B i j):qct R n B k :=
 qct.scale (fun _=>1) (fun _ _=>by decide) (fun i hi j hj=>by rw [e i hi j hj];grind) h
def qe2 (R n:Nat) (f:Nat→Nat→Rat) (b w:Nat→Rat) (e:Ending) (w':World):Prop :=
 (Sing n (normR R n f b w)∧e=.returned (.tuple #[.slice none 0 0,.int .i64 7]))∨(¬Sing n (normR R n f b w)∧∃x,qcq n (normR R n f b w) (fun r=>normR R n f b w r n) x∧Tells n x e w')
theorem qjD {R:Nat} {w:Nat→Rat} (h:∀i,i<R→0≤w i):¬Neg (told R w):=by
 rintro ⟨k,hk,hlt⟩
 rw [qbQ] at hk
 rw [qfS hk,show (ftxt (w k)).1.data.toList=itxt (w k).num from rfl,qc9] at hlt
 have:=Rat.num_nonneg.2 (h k hk)
 omega
theorem qeQ.told {w0:World} {R n:Nat} {f:Nat→Nat→Rat} {b w:Nat→Rat} {e:Ending} {w':World} (h:qeQ w0 (ttab R n f) (told R b) (told R w) e w') (h1:1≤R) (h2:R≤40) (h3:1≤n) (h4:n≤10) (hf:∀i,i<R→qbZ n (f i)) (hb:qbZ R b) (hw:qbZ R w) (hw0:∀i,i<R→0≤w i):qe2 R n f b w e w'∧Below w0.heap.size w0 w':=by
 have hT:=qfT h1 h2 h3 h4 hf
 refine⟨?_,h.2⟩
 rcases h.1 with h | h | h | h
 ·exact absurd hT h.1
 ·exact absurd ⟨qcU hb,qcU hw⟩ h.2.1
 ·exact absurd ⟨by rw [qbQ,qb8],by rw [qbQ,qb8],qjD hw0⟩ h.2.2.2.1
 ·have h5:=h.2.2.2.2.2.2
  rw [qds h1,qb8] at h5
  have hc:∀r,r<n→∀c,c<n→normQ (ttab R n f) (Go.Proofs.YtfminfgabiipjaaGreatDoor.told R b) (Go.Proofs.YtfminfgabiipjaaGreatDoor.told R w) R r c=normR R n f b w r c:=fun r hr c hc=>qhf (by omega) (by omega)
  rcases h5 with ⟨hs,he⟩ | ⟨hs,x,hx,ht⟩
  ·exact qau ⟨hs.congr hc,he⟩
  ·exact qaq ⟨fun hs2=>hs (hs2.congr fun r hr c hcc=>(hc r hr c hcc).symm),x,hx.congr hc (fun r hr=>qhf (by omega) qN) (fun _ _=>rfl),ht⟩
def qkJ (n:Nat) (e1:Ending) (w1:World) (e2:Ending) (w2:World):Prop :=
 (∃(g1 g2:Nat) (x:Nat→Rat),e1=.returned (.tuple #[.slice (some ⟨g1,0,none⟩) n n,.int .i64 0])∧FCells w1 (some ⟨g1,0,none⟩) g1 0 (told n x)∧e2=.returned (.tuple #[.slice (some ⟨g2,0,none⟩) n n,.int .i64 0])∧FCells w2 (some ⟨g2,0,none⟩) g2 0 (told n x)) ∨
 ∃c:Int,c≠0∧e1=.returned (.tuple #[.slice none 0 0,.int .i64 c])∧e2=.returned (.tuple #[.slice none 0 0,.int .i64 c])
theorem Tells.same {n:Nat} {x y:Nat→Rat} {e1 e2:Ending} {w1 w2:World} (h1:Tells n x e1 w1) (h2:Tells n y e2 w2) (e:∀i,i<n→x i=y i):qkJ n e1 w1 e2 w2:=by
 rcases h1 with ⟨s1,g1,a1,c1⟩ | ⟨s1,a1⟩
 ·rcases h2 with ⟨s2,g2,a2,c2⟩ | ⟨s2,a2⟩
  ·exact qau ⟨g1,g2,x,a1,c1,a2,by rw [qeG e];exact c2⟩
  ·exact absurd (s1.congr e) s2
 ·rcases h2 with ⟨s2,g2,a2,c2⟩ | ⟨s2,a2⟩
  ·exact absurd (s2.congr fun i hi=>(e i hi).symm) s1
  ·exact qaq ⟨6,by decide,a1,a2⟩
theorem qe2.same {R S n:Nat} {f g:Nat→Nat→Rat} {b d w v:Nat→Rat} {e1 e2:Ending} {w1 w2:World} (h1:qe2 R n f b w e1 w1) (h2:qe2 S n g d v e2 w2) (s:Rat) (hs:s≠0) (e:∀r c,r≤n→c≤n→normR R n f b w r c=s*normR S n g d v r c):qkJ n e1 w1 e2 w2:=by
 have hsing:Sing n (normR R n f b w)↔Sing n (normR S n g d v):=Sing.scale (fun _=>s) (fun _ _=>hs) fun i hi j hj=>e i j (by omega) (by omega)
 rcases h1 with ⟨s1,a1⟩ | ⟨s1,x,hx,t1⟩
 ·rcases h2 with ⟨s2,a2⟩ | ⟨s2,_⟩
  ·exact qaq ⟨7,by decide,a1,a2⟩
  ·exact absurd (hsing.1 s1) s2
 ·rcases h2 with ⟨s2,a2⟩ | ⟨s2,y,hy,t2⟩
  ·exact absurd (hsing.2 s2) s1
  ·have hx2:qcq n (normR S n g d v) (fun r=>normR S n g d v r n) x:=qcq.scale (fun _=>s) (fun _ _=>hs) (fun i hi j hj=>e i j (by omega) (by omega)) (fun i hi=>e i n (by omega) qN) hx
   exact t1.same t2 (hx2.uniq s2 hy)
end Go.Proofs.YtfminfgabiipjaaGreatDoor
