/- Ae, part 4: Sl -/
import Derived.Laws.CopyOwn
import Derived.Test.YtfminfgabiipjaaGreatDoorAe0
import Derived.Test.YtfminfgabiipjaaGreatDoorAe1
import Derived.Test.YtfminfgabiipjaaGreatDoorAe3
set_option maxRecDepth 100000
set_option maxHeartbeats 16000000
namespace Go.Proofs.YtfminfgabiipjaaGreatDoor
open Go.RowKit
theorem u64_in (n:Nat) (h:n<18446744073709551616):IntKind.u64.wrap (n:Int)=n:=by
 show (n:Int) % 18446744073709551616=n
 omega
theorem tdivN (t m c:Nat) (h:t / m=c):(t:Int).tdiv (m:Int)=c:=by
 rw [Int.tdiv_eq_ediv_of_nonneg (by omega),←h];exact (Int.natCast_ediv t m).symm
theorem tmodN (t m c:Nat) (h:t % m=c):(t:Int).tmod (m:Int)=c:=by
 rw [Int.tmod_eq_emod_of_nonneg (by omega),←h];exact (Int.natCast_emod t m).symm
theorem tdivB (t c:Nat) (h:t / 1000000000=c):(t:Int).tdiv 1000000000=c:=tdivN t 1000000000 c h
theorem tmodB (t c:Nat) (h:t % 1000000000=c):(t:Int).tmod 1000000000=c:=tmodN t 1000000000 c h
def dg (L:List Nat) (k:Nat):Nat:=L.getD k 0
structure Cells (W:World) (ao:Option Addr) (b off:Nat) (L:List Nat):Prop where
 addr:0<L.length→ao=some ⟨b,off,none⟩
 cell:∀k,k<L.length→W.cell? ⟨b,off+k,none⟩=some (.int .u32 ((dg L k:Nat):Int))
theorem Cells.below {W W':World} {ao:Option Addr} {b off:Nat} {L:List Nat} (h:Cells W ao b off L) (hb:Below W.heap.size W W'):Cells W' ao b off L :=
 ⟨h.addr,fun k hk=>(hb.cell (qad W _ (h.cell k hk))).trans (h.cell k hk)⟩
theorem Cells.take {W:World} {ao:Option Addr} {b off:Nat} {L:List Nat} (h:Cells W ao b off L) (n:Nat):Cells W ao b off (L.take n) :=
 ⟨fun h0=>h.addr (by rw [qap] at h0;omega),fun k hk=>by
  rw [qap] at hk
  rw [h.cell k (by omega),dg,dg,qaa,qaa,qa9 (by omega)]⟩
structure IsM (W:World) (ao:Option Addr) (b off c n:Nat) (L:List Nat):Prop where
 len:L.length=n
 cap:n≤c
 cells:Cells W ao b off L
 dig:Dig L
 nrm:Nrm L
theorem IsM.below {W W':World} {ao:Option Addr} {b off c n:Nat} {L:List Nat} (h:IsM W ao b off c n L) (hb:Below W.heap.size W W'):IsM W' ao b off c n L:=⟨h.len,h.cap,h.cells.below hb,h.dig,h.nrm⟩
theorem IsM.addr {W:World} {ao:Option Addr} {b off c n:Nat} {L:List Nat} (h:IsM W ao b off c n L):0<n→ao=some ⟨b,off,none⟩:=by rw [←h.len];exact h.cells.addr
theorem IsM.cell {W:World} {ao:Option Addr} {b off c n:Nat} {L:List Nat} (h:IsM W ao b off c n L):∀k,k<n→W.cell? ⟨b,off+k,none⟩=some (.int .u32 ((dg L k:Nat):Int)):=by rw [←h.len];exact h.cells.cell
def MagAt (W:World) (v:Value) (x:Nat):Prop:=∃(ao:Option Addr) (b off c n:Nat) (L:List Nat),v=.slice ao n c∧IsM W ao b off c n L∧mval L=x
theorem MagAt.below {W W':World} {v:Value} {x:Nat} (h:MagAt W v x) (hb:Below W.heap.size W W'):MagAt W' v x:=by
 obtain⟨ao,b,off,c,n,L,rfl,h1,h2⟩:=h
 exact⟨ao,b,off,c,n,L,rfl,h1.below hb,h2⟩
theorem MagAt.nil (W:World):MagAt W (.slice none 0 0) 0:=⟨none,0,0,0,0,[],rfl,⟨rfl,qah _,⟨fun h=>absurd h (by simp),fun k h=>absurd h (by simp)⟩,Dig.nil,qaJ rfl⟩,rfl⟩
def Fit (x K:Nat):Prop:=x<1000000000 ^ K
theorem Fit.le {x y K:Nat} (h:Fit y K) (hx:x≤y):Fit x K:=qa7 hx h
theorem Fit.mono {x K M:Nat} (h:Fit x K) (hK:K≤M):Fit x M:=qal h (qa6 (by decide) hK)
theorem Fit.mul {x y K M:Nat} (h:Fit x K) (k:Fit y M):Fit (x*y) (K+M):=by
 unfold Fit at *
 rw [Nat.pow_add]
 exact Nat.mul_lt_mul'' h k
theorem Fit.add {x y K:Nat} (h:Fit x K) (k:Fit y K):Fit (x+y) (K+1):=by
 unfold Fit at *
 rw [qaz];omega
theorem Fit.len {W:World} {ao:Option Addr} {b off c n:Nat} {L:List Nat} {K:Nat} (h:Fit (mval L) K) (k:IsM W ao b off c n L):n≤K:=by
 rw [←k.len];exact k.nrm.len h
def row32 (L:List Nat):List Value:=L.map fun (d:Nat)=>Value.int .u32 (d:Int)
theorem qbG (L:List Nat):(row32 L).length=L.length:=by unfold row32;exact qaF _
theorem qjn (L:List Nat) (k d:Nat):(row32 L).set k (.int .u32 (d:Int))=row32 (L.set k d):=by unfold row32;rw [List.map_set]
theorem qb3 (L:List Nat) (k:Nat) (h:k<L.length):(row32 L)[k]? = some (.int .u32 ((dg L k:Nat):Int)):=by
 unfold row32 dg
 rw [qaO,qdp h];rfl
theorem qco (L:List Nat) (d:Nat):row32 (L++[d])=row32 L++[.int .u32 (d:Int)]:=by unfold row32;rw [qbk];rfl
theorem qi4 (n:Nat):(madeCells #[Value.int .u32 0] n).toList=row32 (List.replicate n 0):=by
 rw [toList_madeCells_one];unfold row32;rw [List.map_replicate];rfl
theorem qbX {W:World} {B e g n c:Nat} {L:List Nat} (h:W.ownsRow B e 1 (.slice (some ⟨g,0,none⟩) n c) n (row32 L)) (hl:L.length=n):Cells W (some ⟨g,0,none⟩) g 0 L :=
 ⟨fun _=>rfl,fun k hk=>by
  rw [qaW,h.cellAt k (by omega)]
  exact qb3 L k hk⟩
theorem qch {W:World} {B e g n c:Nat} {R:List Nat} (h:W.ownsRow B e 1 (.slice (some ⟨g,0,none⟩) n c) n (row32 R)) (k:Nat) {s:Int} (d:Nat) (hs:s=(d:Int)) :
  (W.setCell ⟨g,k,none⟩ (.int .u32 s)).ownsRow B e 1 (.slice (some ⟨g,0,none⟩) n c) n (row32 (R.set k d)):=by
 have h1:=(h.stored k (.int .u32 s)).1
 rwa [hs,qjn,←hs] at h1
theorem qcu (W:World) (v:Value) (e:TypeId):∀j u,[v][j]? = some u→(W.alloc (.cells #[v] e)).cell? ((⟨W.heap.size,0,none⟩:Addr).add j)=some u:=by
 intro j u hj
 match j,hj with
 | 0,hj =>
  simp only [List.getElem?_cons_zero,Option.some.injEq] at hj
  subst hj
  exact cell_of_row _ _ 0 _ _ _ (heap_alloc_new W _)
theorem one_cell (k:IntKind) (s:Int):∀u∈[Value.int k s],u.oneCell'=true:=by
 intro u hu
 rw [qao.1 hu];rfl
theorem qd7 {W:World} {B e g k c:Nat} {S:List Nat} {s:Int} {d:Nat} (h:W.ownsRow B e 1 (.slice (some ⟨g,0,none⟩) (k+1) c) (k+1) (row32 S++[.int .u32 s])) (hs:s=(d:Int)) :
  W.ownsRow B e 1 (.slice (some ⟨g,0,none⟩) (k+1) c) (k+1) (row32 (S++[d])):=by
 rw [qco,←hs];exact h
theorem qbU {B:Nat} {w W W1:World} {o:Obj} {row:Option Nat} (h:Below B w W) (hw:B≤w.heap.size) (hg:(W.alloc o).grownBy W1 row) (hr:∀k,row=some k→B≤k):Below B w W1:=by
 have h1:=h.size
 refine (h.alloc (qak hw h1) o).grown hg ?_ hr
 simp only [qab];omega
theorem qb8 (w:World) (row:Option Nat):w.grownBy w row:=⟨rfl,rfl,rfl,qah _,fun _ _ _=>rfl⟩
theorem qbs {a b c:World} {row:Option Nat} (h:a.grownBy b row) (k:b.grownBy c row):a.grownBy c row :=
 ⟨k.os.trans h.os,k.tape.trans h.tape,k.output.trans h.output,qak h.size k.size,fun i hi hr=>(k.block i (qal hi h.size) hr).trans (h.block i hi hr)⟩
theorem qbR {a b:World} {row:Option Nat} (h:a.grownBy b row) (n:Nat):a.grownBy (b.drewN n) row:=⟨h.os,h.tape,h.output,h.size,h.block⟩
theorem qce {a b c:World} {row:Option Nat} (h:a.grownBy b row) (k:Below b.heap.size b c):a.grownBy c row :=
 ⟨k.os.trans h.os,k.tape.trans h.tape,k.output.trans h.output,qak h.size k.size,fun i hi hr=>(k.block i (qal hi h.size)).trans (h.block i hi hr)⟩
theorem qfI {a b:World} {g:Nat} {ao:Option Addr} {bo off:Nat} {L:List Nat} (h:a.grownBy b (some g)) (hc:Cells a ao bo off L) (hne:0<L.length→bo≠g):Cells b ao bo off L :=
 ⟨hc.addr,fun k hk=>h.cell (hc.cell k hk) (fun e=>hne (by omega) (qam e))⟩
theorem qhG {W W':World} {B e g n c:Nat} {xs:List Value} (h:W.ownsRow B e 1 (.slice (some ⟨g,0,none⟩) n c) n xs) (hb:Below W.heap.size W W'):W'.ownsRow B e 1 (.slice (some ⟨g,0,none⟩) n c) n xs:=by
 have hl:=h.lt g rfl
 refine⟨h.1,?_⟩
 rcases h.2 with ⟨h',_⟩ | ⟨g',cap',cur,h',hb',hg,hr⟩
 ·simp at h'
 ·have e:g'=g:=by
   simp only [Value.slice.injEq,Option.some.injEq,Addr.mk.injEq,and_true,true_and] at h'
   exact h'.1.symm
  subst e
  exact .inr ⟨g',cap',cur,h',hb',(hb.block g' hl.2).trans hg,hr⟩
theorem qdu {W:World} {B e g n c:Nat} {xs:List Value} (h:W.ownsRow B e 1 (.slice (some ⟨g,0,none⟩) n c) n xs) (k:Nat) (u:Value):W.grownBy (W.setCell ⟨g,k,none⟩ u) (some g):=(h.stored k u).2
theorem dg_mid (A R C:List Nat) (i:Nat) (hi:i<R.length):dg (A++R++C) (A.length+i)=dg R i:=by
 unfold dg
 rw [qaa,qaa,qaH,qay (by omega),Nat.add_sub_cancel_left,qaL hi]
theorem set_mid (A R C:List Nat) (i d:Nat) (hi:i<R.length):(A++R++C).set (A.length+i) d=A++R.set i d++C:=by
 rw [qaH,qbb _ _ (by omega),Nat.add_sub_cancel_left,List.set_append_left _ _ hi,←qaH]
theorem qeY (W:World) (n:Nat) (e:TypeId):(W.alloc (.cells (madeCells #[.int .u32 0] n) e)).heap[W.heap.size]? = some (.cells (row32 (List.replicate n 0)).toArray e (0,0)):=by
 rw [←qi4,Array.toArray_toList];exact heap_alloc_new W _
theorem qgh {W:World} {B e g n:Nat} {L:List Nat} (h:W.heap[g]? = some (.cells (row32 L).toArray e (0,0))) (hl:L.length=n) (hB:B≤g) (hn:n≤maxLen):W.ownsRow B e 1 (.slice (some ⟨g,0,none⟩) n n) n (row32 L):=by
 refine⟨by rw [qbG];omega,.inr ⟨g,n,_,rfl,hB,h,qah _,hn,by simp [qbG,hl],?_⟩⟩
 show (row32 L).take (n*1)=row32 L
 exact qaj (by rw [qbG];omega)
theorem qhP (L T:List Nat) (_h:T.length≤L.length):splice (row32 L) 0 (row32 T)=row32 (T++L.drop T.length):=by
 unfold splice row32
 rw [List.take_zero,qbf,qbk,qaF,qaW,List.map_drop]
theorem qdq (W:World) (e:TypeId) {s:Nat} (h0:0<s) (h1:s<1000000000):MagAt (W.alloc (.cells #[.int .u32 (s:Int)] e)) (.slice (some ⟨W.heap.size,0,none⟩) 1 1) s:=by
 refine⟨_,W.heap.size,0,1,1,[s],rfl,⟨rfl,qah _,⟨fun _=>rfl,fun k hk=>?_⟩,Dig.of (by simpa using h1),?_⟩,by simp [mval]⟩
 ·match k,hk with
  | 0,_=>exact cell_of_row _ _ 0 _ _ _ (heap_alloc_new W _)
 ·right;show s≠0;omega
theorem qe0 {W W':World} {B e g g' n c:Nat} {xs:List Value} (h:W.ownsRow B e 1 (.slice (some ⟨g,0,none⟩) n c) n xs) (hg:W.grownBy W' (some g')) (hne:g≠g'):W'.ownsRow B e 1 (.slice (some ⟨g,0,none⟩) n c) n xs :=
 h.kept hg (qaA (fun e=>hne (qam e)))
theorem qeW {W W':World} {ao:Option Addr} {b off c n g:Nat} {L:List Nat} (h:IsM W ao b off c n L) (hg:W.grownBy W' (some g)) (hne:b≠g):IsM W' ao b off c n L:=⟨h.len,h.cap,qfI hg h.cells (fun _=>hne),h.dig,h.nrm⟩
theorem qgz {W:World} {ao:Option Addr} {b off c n:Nat} {L:List Nat} (h:IsM W ao b off c n L) (h0:0<n):b<W.heap.size:=qad W ⟨b,off+0,none⟩ (h.cell 0 h0)
theorem qgO (L:List Nat):∀v∈row32 L,v.oneCell'=true:=by
 intro v hv
 unfold row32 at hv
 obtain⟨d,_,rfl⟩:=List.mem_map.1 hv
 rfl
theorem addr_add (b o k:Nat):(⟨b,o,none⟩:Addr).add k=⟨b,o+k,none⟩:=by simp [Addr.add]
theorem qjg {W:World} {B e n:Nat} {v:Value} {S:List Nat} (h:W.ownsRow B e 1 v n (row32 S)) (hd:Dig S) (hn:Nrm S):MagAt W v (mval S):=by
 rcases h.2 with ⟨rfl,rfl⟩ | ⟨g,c,cur,rfl,hb,hg,hnc,hm,hs,ht⟩
 ·have h0:S.length=0:=by have:=h.1;rw [qbG] at this;omega
  rw [List.length_eq_zero_iff.1 h0]
  exact MagAt.nil W
 ·have hl:S.length=n:=by have:=h.1;rw [qbG] at this;omega
  exact⟨_,g,0,c,n,S,rfl,⟨hl,hnc,qbX h hl,hd,hn⟩,rfl⟩
end Go.Proofs.YtfminfgabiipjaaGreatDoor
