/- Ae, part 5: Cmp Whole1 Frac1 Least1 -/
import Derived.Test.YtfminfgabiipjaaGreatDoorAe0
import Derived.Test.YtfminfgabiipjaaGreatDoorAe4
import Derived.Test.YtfminfgabiipjaaGreatDoorProg
set_option maxRecDepth 100000
set_option maxHeartbeats 16000000
namespace Go.Proofs.YtfminfgabiipjaaGreatDoor
open Go.RowKit
def cmp3 (x y:Int):Int:=if x<y then -1 else if x=y then 0 else 1
theorem qgA (a:Int) (w:World):Calls Tryz.prog 190 #[.int .i64 a] w fun e w'=>e=.returned (.bool false)∧w'=w:=by
 go_enter Tryz.func190,Tryz.ntmps190
 go_wp2_with fail
 go_ret
 exact⟨rfl,rfl⟩
theorem qgB (a:Int) (w:World):Calls Tryz.prog 191 #[.int .u32 a] w fun e w'=>e=.returned (.bool false)∧w'=w:=by
 go_enter Tryz.func191,Tryz.ntmps191
 go_wp2_with fail
 go_ret
 exact⟨rfl,rfl⟩
theorem qiC (a b:Int) (w:World):Calls Tryz.prog 160 #[.int .i64 a,.int .i64 b] w fun e w'=>e=.returned (.int .i64 (cmp3 a b))∧w'=w:=by
 have H1:=qH (qgA a)
 have H2:=qH (qgA b)
 rcases Int.lt_trichotomy a b with h | h | h
 ·have hr:cmp3 a b = -1:=by unfold cmp3;rw [if_pos h]
  rw [hr]
  clear hr
  go_enter Tryz.func160,Tryz.ntmps160
  go_wp2_with fail
  refine (H1.out _).mono ?_
  rintro e w1 ⟨rfl,rfl⟩
  go_wp2_with fail
  refine (H2.out _).mono ?_
  rintro e w2 ⟨rfl,rfl⟩
  go_wp2_with fail
  go_ret
  exact⟨rfl,rfl⟩
 ·subst h
  have hr:cmp3 a a=0:=by unfold cmp3;rw [if_neg (Int.lt_irrefl a),if_pos rfl]
  rw [hr]
  clear hr
  have h1:¬a<a:=Int.lt_irrefl a
  go_enter Tryz.func160,Tryz.ntmps160
  go_wp2_with fail
  refine (H1.out _).mono ?_
  rintro e w1 ⟨rfl,rfl⟩
  go_wp2_with fail
  refine (H1.out _).mono ?_
  rintro e w2 ⟨rfl,rfl⟩
  go_wp2_with fail
  go_ret
  exact⟨rfl,rfl⟩
 ·have h1:¬a<b:=by omega
  have hr:cmp3 a b=1:=by unfold cmp3;rw [if_neg h1,if_neg (by omega)]
  rw [hr]
  clear hr
  go_enter Tryz.func160,Tryz.ntmps160
  go_wp2_with fail
  refine (H1.out _).mono ?_
  rintro e w1 ⟨rfl,rfl⟩
  go_wp2_with fail
  refine (H2.out _).mono ?_
  rintro e w2 ⟨rfl,rfl⟩
  go_wp2_with fail
  go_ret
  exact⟨rfl,rfl⟩
theorem qiD (a b:Int) (w:World):Calls Tryz.prog 161 #[.int .u32 a,.int .u32 b] w fun e w'=>e=.returned (.int .i64 (cmp3 a b))∧w'=w:=by
 have H1:=qH (qgB a)
 have H2:=qH (qgB b)
 rcases Int.lt_trichotomy a b with h | h | h
 ·have hr:cmp3 a b = -1:=by unfold cmp3;rw [if_pos h]
  rw [hr]
  clear hr
  go_enter Tryz.func161,Tryz.ntmps161
  go_wp2_with fail
  refine (H1.out _).mono ?_
  rintro e w1 ⟨rfl,rfl⟩
  go_wp2_with fail
  refine (H2.out _).mono ?_
  rintro e w2 ⟨rfl,rfl⟩
  go_wp2_with fail
  go_ret
  exact⟨rfl,rfl⟩
 ·subst h
  have hr:cmp3 a a=0:=by unfold cmp3;rw [if_neg (Int.lt_irrefl a),if_pos rfl]
  rw [hr]
  clear hr
  have h1:¬a<a:=Int.lt_irrefl a
  go_enter Tryz.func161,Tryz.ntmps161
  go_wp2_with fail
  refine (H1.out _).mono ?_
  rintro e w1 ⟨rfl,rfl⟩
  go_wp2_with fail
  refine (H1.out _).mono ?_
  rintro e w2 ⟨rfl,rfl⟩
  go_wp2_with fail
  go_ret
  exact⟨rfl,rfl⟩
 ·have h1:¬a<b:=by omega
  have hr:cmp3 a b=1:=by unfold cmp3;rw [if_neg h1,if_neg (by omega)]
  rw [hr]
  clear hr
  go_enter Tryz.func161,Tryz.ntmps161
  go_wp2_with fail
  refine (H1.out _).mono ?_
  rintro e w1 ⟨rfl,rfl⟩
  go_wp2_with fail
  refine (H2.out _).mono ?_
  rintro e w2 ⟨rfl,rfl⟩
  go_wp2_with fail
  go_ret
  exact⟨rfl,rfl⟩
end Go.Proofs.YtfminfgabiipjaaGreatDoor
namespace Go.Proofs.YtfminfgabiipjaaGreatDoor.whole
open Go.RowKit
theorem qep (ao:Option Addr) (b off c n:Nat) (L:List Nat) (w:World) (hn:L.length=n) (hlen:n≤1099511627776) (hc:n≤c) (hcells:Cells w ao b off L) :
  Calls Tryz.prog 205 #[.slice ao n c] w fun e w'=>∃m,e=.returned (.slice ao m c)∧w'=w∧m≤n∧Zero L m∧(m=0∨L.getD (m-1) 0≠0):=by
 have hz:Zero L n:=by rw [←hn];exact Zero.all L
 obtain⟨ha,hcell⟩:=hcells
 rw [hn] at ha hcell
 have Ha:=qH ha
 have Hcell:=qH hcell
 have Hz:=qH hz
 clear ha hcell hz hn
 go_enter Tryz.func205,Tryz.ntmps205
 go_wp2
 go_loopw [0] (fun x0 W=>∃m:Nat,x0=.slice ao m c∧W=w∧m≤n∧Hid (Zero L m)) (fun x0 _=>match x0 with | .slice _ m _=>m | _=>0)
 case atStart=>exact⟨n,rfl,rfl,qah _,Hz⟩
 case round =>
  obtain⟨m,rfl,rfl,hm,hz⟩:=hrel
  by_cases hm0:m=0
  ·subst hm0
   have Hm:=qH hm
   clear hm
   go_wp2_with fail
   go_ret
   exact⟨0,rfl,rfl,qat _,hz.out,qaJ rfl⟩
  ·have hm1:(0:Int)<m:=by omega
   have haw:=Ha.out (by omega)
   subst haw
   have hcl:=Hcell.out (m-1) (by omega)
   have e1:((m-1:Nat):Int)=(m:Int)-1:=by omega
   by_cases h0:dg L (m-1)=0
   ·rw [h0] at hcl
    have H0:=qH h0
    clear h0
    go_wp2_with fail
    go_roundw
    case rel=>exact⟨m-1,rfl,trivial,by omega,qH (Zero.down (n:=m-1) (by rw [show m-1+1=m by omega];exact hz.out) H0.out)⟩
    case measure=>show m-1<m;omega
   ·have hne:¬((dg L (m-1):Nat):Int)=0:=by omega
    have H0:=qH h0
    clear h0
    go_wp2_with fail
    go_ret
    exact⟨m,rfl,rfl,hm,hz.out,qaA H0.out⟩
theorem qcF:(Tryz.prog.info? 106).map (fun i=>(i.zero,i.size,i.bytes))=some (some (.int .u32 0),1,4):=by kernel_rfl
theorem qci (ao:Option Addr) (b off c n:Nat) (L:List Nat) (w:World) (hn:L.length=n) (hlen:n≤1099511627776) (hc:n≤c) (hcells:Cells w ao b off L) (hd:Dig L) :
  Calls Tryz.prog 205 #[.slice ao n c] w fun e w'=>∃v,e=.returned v∧w'=w∧MagAt w v (mval L):=by
 refine (qep ao b off c n L w hn hlen hc hcells).mono ?_
 rintro e w' ⟨m,rfl,rfl,hm,hz,h0⟩
 refine⟨_,rfl,rfl,ao,b,off,c,m,L.take m,rfl,⟨?_,by omega,hcells.take m,hd.take m,?_⟩,qbO hz⟩
 ·rw [qap];omega
 ·have hl:(L.take m).length=m:=by rw [qap];omega
  rcases h0 with h0 | h0
  ·exact qaJ (by rw [hl,h0])
  ·right
   rw [hl]
   by_cases hm0:m=0
   ·subst hm0
    exact absurd (hz _ (qat _)) h0
   ·rw [qaa,qa9 (by omega),←qaa];exact h0
end Go.Proofs.YtfminfgabiipjaaGreatDoor.whole
namespace Go.Proofs.YtfminfgabiipjaaGreatDoor.frac
open Go.RowKit
theorem qep (ao:Option Addr) (b off c n:Nat) (L:List Nat) (w:World) (hn:L.length=n) (hlen:n≤1099511627776) (hc:n≤c) (hcells:Cells w ao b off L) :
  Calls Tryz.prog 185 #[.slice ao n c] w fun e w'=>∃m,e=.returned (.slice ao m c)∧w'=w∧m≤n∧Zero L m∧(m=0∨L.getD (m-1) 0≠0):=by
 have hz:Zero L n:=by rw [←hn];exact Zero.all L
 obtain⟨ha,hcell⟩:=hcells
 rw [hn] at ha hcell
 have Ha:=qH ha
 have Hcell:=qH hcell
 have Hz:=qH hz
 clear ha hcell hz hn
 go_enter Tryz.func185,Tryz.ntmps185
 go_wp2
 go_loopw [0] (fun x0 W=>∃m:Nat,x0=.slice ao m c∧W=w∧m≤n∧Hid (Zero L m)) (fun x0 _=>match x0 with | .slice _ m _=>m | _=>0)
 case atStart=>exact⟨n,rfl,rfl,qah _,Hz⟩
 case round =>
  obtain⟨m,rfl,rfl,hm,hz⟩:=hrel
  by_cases hm0:m=0
  ·subst hm0
   have Hm:=qH hm
   clear hm
   go_wp2_with fail
   go_ret
   exact⟨0,rfl,rfl,qat _,hz.out,qaJ rfl⟩
  ·have hm1:(0:Int)<m:=by omega
   have haw:=Ha.out (by omega)
   subst haw
   have hcl:=Hcell.out (m-1) (by omega)
   have e1:((m-1:Nat):Int)=(m:Int)-1:=by omega
   by_cases h0:dg L (m-1)=0
   ·rw [h0] at hcl
    have H0:=qH h0
    clear h0
    go_wp2_with fail
    go_roundw
    case rel=>exact⟨m-1,rfl,trivial,by omega,qH (Zero.down (n:=m-1) (by rw [show m-1+1=m by omega];exact hz.out) H0.out)⟩
    case measure=>show m-1<m;omega
   ·have hne:¬((dg L (m-1):Nat):Int)=0:=by omega
    have H0:=qH h0
    clear h0
    go_wp2_with fail
    go_ret
    exact⟨m,rfl,rfl,hm,hz.out,qaA H0.out⟩
theorem qcF:(Tryz.prog.info? 106).map (fun i=>(i.zero,i.size,i.bytes))=some (some (.int .u32 0),1,4):=by kernel_rfl
theorem qdM (W:World) (n:Nat) (hn:n≤maxLen):(W.alloc (.cells (madeCells #[.int .u32 0] n) 106)).ownsRow W.heap.size 106 1 (.slice (some ⟨W.heap.size,0,none⟩) n n) n (row32 (List.replicate n 0)):=by
 rw [←qi4]
 have hs:=size_madeCells #[Value.int .u32 0] n
 refine⟨by simp [hs],.inr ⟨W.heap.size,n,_,rfl,qah _,heap_alloc_new W _,qah _,hn,by simp [hs],?_⟩⟩
 exact qaj (by simp [hs])
theorem qci (ao:Option Addr) (b off c n:Nat) (L:List Nat) (w:World) (hn:L.length=n) (hlen:n≤1099511627776) (hc:n≤c) (hcells:Cells w ao b off L) (hd:Dig L) :
  Calls Tryz.prog 185 #[.slice ao n c] w fun e w'=>∃v,e=.returned v∧w'=w∧MagAt w v (mval L):=by
 refine (qep ao b off c n L w hn hlen hc hcells).mono ?_
 rintro e w' ⟨m,rfl,rfl,hm,hz,h0⟩
 refine⟨_,rfl,rfl,ao,b,off,c,m,L.take m,rfl,⟨?_,by omega,hcells.take m,hd.take m,?_⟩,qbO hz⟩
 ·rw [qap];omega
 ·have hl:(L.take m).length=m:=by rw [qap];omega
  rcases h0 with h0 | h0
  ·exact qaJ (by rw [hl,h0])
  ·right
   rw [hl]
   by_cases hm0:m=0
   ·subst hm0
    exact absurd (hz _ (qat _)) h0
   ·rw [qaa,qa9 (by omega),←qaa];exact h0
end Go.Proofs.YtfminfgabiipjaaGreatDoor.frac
namespace Go.Proofs.YtfminfgabiipjaaGreatDoor.least
open Go.RowKit
theorem qep (ao:Option Addr) (b off c n:Nat) (L:List Nat) (w:World) (hn:L.length=n) (hlen:n≤1099511627776) (hc:n≤c) (hcells:Cells w ao b off L) :
  Calls Tryz.prog 121 #[.slice ao n c] w fun e w'=>∃m,e=.returned (.slice ao m c)∧w'=w∧m≤n∧Zero L m∧(m=0∨L.getD (m-1) 0≠0):=by
 have hz:Zero L n:=by rw [←hn];exact Zero.all L
 obtain⟨ha,hcell⟩:=hcells
 rw [hn] at ha hcell
 have Ha:=qH ha
 have Hcell:=qH hcell
 have Hz:=qH hz
 clear ha hcell hz hn
 go_enter Tryz.func121,Tryz.ntmps121
 go_wp2
 go_loopw [0] (fun x0 W=>∃m:Nat,x0=.slice ao m c∧W=w∧m≤n∧Hid (Zero L m)) (fun x0 _=>match x0 with | .slice _ m _=>m | _=>0)
 case atStart=>exact⟨n,rfl,rfl,qah _,Hz⟩
 case round =>
  obtain⟨m,rfl,rfl,hm,hz⟩:=hrel
  by_cases hm0:m=0
  ·subst hm0
   have Hm:=qH hm
   clear hm
   go_wp2_with fail
   go_ret
   exact⟨0,rfl,rfl,qat _,hz.out,qaJ rfl⟩
  ·have hm1:(0:Int)<m:=by omega
   have haw:=Ha.out (by omega)
   subst haw
   have hcl:=Hcell.out (m-1) (by omega)
   have e1:((m-1:Nat):Int)=(m:Int)-1:=by omega
   by_cases h0:dg L (m-1)=0
   ·rw [h0] at hcl
    have H0:=qH h0
    clear h0
    go_wp2_with fail
    go_roundw
    case rel=>exact⟨m-1,rfl,trivial,by omega,qH (Zero.down (n:=m-1) (by rw [show m-1+1=m by omega];exact hz.out) H0.out)⟩
    case measure=>show m-1<m;omega
   ·have hne:¬((dg L (m-1):Nat):Int)=0:=by omega
    have H0:=qH h0
    clear h0
    go_wp2_with fail
    go_ret
    exact⟨m,rfl,rfl,hm,hz.out,qaA H0.out⟩
theorem qcF:(Tryz.prog.info? 106).map (fun i=>(i.zero,i.size,i.bytes))=some (some (.int .u32 0),1,4):=by kernel_rfl
theorem qdM (W:World) (n:Nat) (hn:n≤maxLen):(W.alloc (.cells (madeCells #[.int .u32 0] n) 106)).ownsRow W.heap.size 106 1 (.slice (some ⟨W.heap.size,0,none⟩) n n) n (row32 (List.replicate n 0)):=by
 rw [←qi4]
 have hs:=size_madeCells #[Value.int .u32 0] n
 refine⟨by simp [hs],.inr ⟨W.heap.size,n,_,rfl,qah _,heap_alloc_new W _,qah _,hn,by simp [hs],?_⟩⟩
 exact qaj (by simp [hs])
theorem qci (ao:Option Addr) (b off c n:Nat) (L:List Nat) (w:World) (hn:L.length=n) (hlen:n≤1099511627776) (hc:n≤c) (hcells:Cells w ao b off L) (hd:Dig L) :
  Calls Tryz.prog 121 #[.slice ao n c] w fun e w'=>∃v,e=.returned v∧w'=w∧MagAt w v (mval L):=by
 refine (qep ao b off c n L w hn hlen hc hcells).mono ?_
 rintro e w' ⟨m,rfl,rfl,hm,hz,h0⟩
 refine⟨_,rfl,rfl,ao,b,off,c,m,L.take m,rfl,⟨?_,by omega,hcells.take m,hd.take m,?_⟩,qbO hz⟩
 ·rw [qap];omega
 ·have hl:(L.take m).length=m:=by rw [qap];omega
  rcases h0 with h0 | h0
  ·exact qaJ (by rw [hl,h0])
  ·right
   rw [hl]
   by_cases hm0:m=0
   ·subst hm0
    exact absurd (hz _ (qat _)) h0
   ·rw [qaa,qa9 (by omega),←qaa];exact h0
end Go.Proofs.YtfminfgabiipjaaGreatDoor.least
