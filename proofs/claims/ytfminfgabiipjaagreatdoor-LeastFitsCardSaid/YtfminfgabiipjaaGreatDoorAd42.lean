/- Ad, part 42: Ex Lr Ey Wk0 Wz Gs -/
import Derived.Deep.RegionHeld3
import Derived.Test.YtfminfgabiipjaaGreatDoorAd0
import Derived.Test.YtfminfgabiipjaaGreatDoorAd38
import Derived.Test.YtfminfgabiipjaaGreatDoorAd41
set_option maxRecDepth 100000
set_option maxHeartbeats 16000000
namespace Go.Proofs.YtfminfgabiipjaaGreatDoor
open Go.RowKit Go.Lib
def fv (l:List Rat) (i:Nat):Rat:=l.getD i 0
def fm (t:List (List Rat)) (i j:Nat):Rat:=(t.getD i []).getD j 0
theorem told_fv (l:List Rat):told l.length (fv l)=l.map ftxt:=by
 unfold told fv
 apply List.ext_getElem?
 intro i
 rw [qaN,qaN]
 by_cases h:i<l.length
 ·rw [qbp h,qaf h]
  simp [qaf h]
 ·rw [qa4 (by rw [List.length_range];omega),qa4 (by omega)];rfl
theorem qhU {l:List Rat} {L:List ByteArray} (n:Nat) (hn:l.length=n) (h:L.map qf=l.map ftxt):L.map qf=told n (fv l):=by
 rw [h,←hn,told_fv]
theorem qhh {u:Nat} (h:u<10):num u=⟨#[UInt8.ofNat (48+u)]⟩:=by
 unfold num;rw [qb0 h]
theorem qdj {q:Rat} (z d:Nat) (hz:q.num=z) (hd:q.den=d) (h1:z<10) (h2:d<10):ftxt q=(⟨#[UInt8.ofNat (48+z)]⟩,⟨#[UInt8.ofNat (48+d)]⟩):=by
 unfold ftxt
 rw [hz,hd,frac.qdO (by omega),qax,qhh h1,qhh h2]
theorem ft_0:ftxt 0=(⟨#[48]⟩,⟨#[49]⟩):=qdj 0 1 rfl rfl (by decide) (by decide)
theorem ft_1:ftxt 1=(⟨#[49]⟩,⟨#[49]⟩):=qdj 1 1 rfl rfl (by decide) (by decide)
theorem ft_2:ftxt 2=(⟨#[50]⟩,⟨#[49]⟩):=qdj 2 1 rfl rfl (by decide) (by decide)
theorem ft_3:ftxt 3=(⟨#[51]⟩,⟨#[49]⟩):=qdj 3 1 rfl rfl (by decide) (by decide)
theorem ft_4:ftxt 4=(⟨#[52]⟩,⟨#[49]⟩):=qdj 4 1 rfl rfl (by decide) (by decide)
theorem ft_5:ftxt 5=(⟨#[53]⟩,⟨#[49]⟩):=qdj 5 1 rfl rfl (by decide) (by decide)
theorem ft_6:ftxt 6=(⟨#[54]⟩,⟨#[49]⟩):=qdj 6 1 rfl rfl (by decide) (by decide)
theorem ft_45:ftxt (4 / 5)=(⟨#[52]⟩,⟨#[53]⟩):=qdj 4 5 (by decide +kernel) (by decide +kernel) (by decide) (by decide)
theorem ft_75:ftxt (7 / 5)=(⟨#[55]⟩,⟨#[53]⟩):=qdj 7 5 (by decide +kernel) (by decide +kernel) (by decide) (by decide)
theorem ft_12:ftxt (1 / 2)=(⟨#[49]⟩,⟨#[50]⟩):=qdj 1 2 (by decide +kernel) (by decide +kernel) (by decide) (by decide)
theorem ft_115:ftxt (11 / 5)=(⟨#[49,49]⟩,⟨#[53]⟩):=by
 unfold ftxt
 rw [show ((11 / 5:Rat)).num=11 by decide +kernel,show ((11 / 5:Rat)).den=5 by decide +kernel,frac.qdO (by decide),qhh (u:=5) (by decide)]
 unfold num
 rw [show (11:Int).natAbs=11 from rfl,qcu (by decide),qb0 (by decide)]
 rfl
theorem ft_m1:ftxt (-1)=(⟨#[45,49]⟩,⟨#[49]⟩):=by
 unfold ftxt
 rw [show ((-1:Rat)).num = -1 by decide +kernel,show ((-1:Rat)).den=1 by decide +kernel,frac.qfz (by decide),show ((-1:Int)).natAbs=1 from rfl,qhh (by decide)]
 rfl
theorem qgH {n:Nat} {A:Nat→Nat→Rat} (B:Nat→Nat→Rat) (h:∀k,k<n→∀j,j<n→sumQ n (fun i=>B k i*A i j)=if k=j then 1 else 0):¬Sing n A:=by
 rintro ⟨y,⟨k,hk,hy⟩,h0⟩
 apply hy
 have e:sumQ n (fun i=>B k i*sumQ n fun j=>A i j*y j)=y k:=by
  have h1:sumQ n (fun i=>B k i*sumQ n fun j=>A i j*y j)=sumQ n fun i=>sumQ n fun j=>y j*(B k i*A i j):=qbY fun i _=>by
   rw [←qcC];exact qbY fun j _=>by grind
  rw [h1,qev]
  have h2:sumQ n (fun j=>sumQ n fun i=>y j*(B k i*A i j))=sumQ n fun j=>y j*(if k=j then 1 else 0):=qbY fun j hj=>by rw [qcC,h k hk j hj]
  rw [h2,qdr n k _ hk fun j _ hjk=>by rw [if_neg (fun h=>hjk h.symm)];grind]
  rw [if_pos rfl];grind
 rw [←e]
 exact qcW _ _ fun i hi=>by rw [h0 i hi];grind
theorem qi4 {R n k:Nat} {A:Nat→Nat→Rat} (B C D:Nat→Nat→Rat) (hB:qct k n B k) (hC:∀i,i<R→∀j,j<n→A i j=sumQ k fun s=>C i s*B s j) (hD:∀s,s<k→∀j,j<n→B s j=sumQ R fun i=>D s i*A i j):qct R n A k:=by
 obtain⟨v,iv,sv⟩:=hB
 have hs:qcG R k n A B:=⟨fun i hi=>⟨C i,fun j hj=>hC i hi j hj⟩,fun s hs=>⟨D s,fun j hj=>hD s hs j hj⟩⟩
 exact⟨v,iv,hs.trans sv⟩
def qg4 (n:Nat) (f:Nat→Nat→Rat) (b:Nat→Rat) (e:Ending) (w':World):Prop :=
 (Sing n f∧e=.returned (.tuple #[.slice none 0 0,.int .i64 7]))∨(¬Sing n f∧∃x,qcq n f b x∧Tells n x e w')
theorem qfB.told {w0:World} {n:Nat} {f:Nat→Nat→Rat} {b:Nat→Rat} {e:Ending} {w':World} (h:qfB w0 (ttab n n f) (told n b) e w') (h1:1≤n) (h2:n≤10) (hf:∀i,i<n→qbZ n (f i)) (hb:qbZ n b):qg4 n f b e w'∧Below w0.heap.size w0 w':=by
 have hT:=qfT h1 (by omega) h1 h2 hf
 refine⟨?_,h.2⟩
 rcases h.1 with h | h | h | h
 ·exact absurd hT h.1
 ·exact absurd (qcU hb) h.2.1
 ·exact absurd ⟨by rw [qbQ,qb8],by rw [qb8,qds h1]⟩ h.2.2.1
 ·have h5:=h.2.2.2.2
  rw [qb8] at h5
  have hc:∀i,i<n→∀j,j<n→tval (ttab n n f) i j=f i j:=fun i hi j hj=>qhW hi hj
  rcases h5 with ⟨hs,he⟩ | ⟨hs,x,hx,ht⟩
  ·exact qau ⟨hs.congr hc,he⟩
  ·exact qaq ⟨fun hs2=>hs (hs2.congr fun i hi j hj=>(hc i hi j hj).symm),x,hx.congr hc (fun i hi=>qdA hi) (fun _ _=>rfl),ht⟩
theorem qeR.told {w0:World} {R n:Nat} {f:Nat→Nat→Rat} {e:Ending} {w':World} (h:qeR w0 (ttab R n f) e w') (h1:1≤R) (h2:R≤40) (h3:1≤n) (h4:n≤10) (hf:∀i,i<R→qbZ n (f i)):(∃k:Nat,qct R n f k∧e=.returned (.tuple #[.int .i64 k,.int .i64 0]))∧Below w0.heap.size w0 w':=by
 have hT:=qfT h1 h2 h3 h4 hf
 refine⟨?_,h.2⟩
 rcases h.1 with ⟨_,k,hk,he⟩ | h
 ·rw [qb8,qds h1] at hk
  exact⟨k,hk.congr fun i hi j hj=>qhW hi hj,he⟩
 ·exact absurd hT h.1
theorem qek.told {w0:World} {R n:Nat} {f:Nat→Nat→Rat} {b w x:Nat→Rat} {e:Ending} {w':World} (h:qek w0 (ttab R n f) (told R b) (told R w) (told n x) e w') (h1:1≤R) (h2:R≤40) (h3:1≤n) (h4:n≤10) (hf:∀i,i<R→qbZ n (f i)) (hb:qbZ R b) (hw:qbZ R w) (hx:qbZ n x) (hw0:∀i,i<R→0≤w i) :
  (Short (msR R n f b w x)∧e=.returned (.tuple #[fstr (msR R n f b w x),.int .i64 0])∨¬Short (msR R n f b w x)∧e=.returned (.tuple #[.agg #[.string ⟨#[]⟩,.string ⟨#[]⟩],.int .i64 6]))∧Below w0.heap.size w0 w':=by
 have hT:=qfT h1 h2 h3 h4 hf
 refine⟨?_,h.2⟩
 rcases h.1 with h | h | h | h
 ·exact absurd hT h.1
 ·exact absurd ⟨qcU hb,qcU hw,qcU hx⟩ h.2.1
 ·exact absurd ⟨by rw [qbQ,qb8],by rw [qbQ,qb8],by rw [qbQ,qds h1],qjD hw0⟩ h.2.2.2.2.1
 ·have h5:=h.2.2.2.2.2.2.2.2
  rw [qds h1,qb8,qki] at h5
  exact h5
theorem Tells.short {n:Nat} {x:Nat→Rat} {e:Ending} {w':World} (h:Tells n x e w') (hs:qbZ n x):∃g,e=.returned (.tuple #[.slice (some ⟨g,0,none⟩) n n,.int .i64 0])∧FCells w' (some ⟨g,0,none⟩) g 0 (told n x):=by
 rcases h with ⟨_,h⟩ | ⟨h,_⟩
 ·exact h
 ·exact absurd hs h
theorem qg4.only {n:Nat} {f:Nat→Nat→Rat} {b x:Nat→Rat} {e:Ending} {w':World} (h:qg4 n f b e w') (hs:¬Sing n f) (hx:qcq n f b x) (hsx:qbZ n x):∃g,e=.returned (.tuple #[.slice (some ⟨g,0,none⟩) n n,.int .i64 0])∧FCells w' (some ⟨g,0,none⟩) g 0 (told n x):=by
 rcases h with ⟨h,_⟩ | ⟨_,y,hy,ht⟩
 ·exact absurd h hs
 ·have he:=hy.uniq hs hx
  rw [←qeG he]
  exact ht.short (hsx.congr fun i hi=>(he i hi).symm)
theorem qe2.only {R n:Nat} {f:Nat→Nat→Rat} {b w x:Nat→Rat} {e:Ending} {w':World} (h:qe2 R n f b w e w') (hs:¬Sing n (normR R n f b w)) (hx:qcq n (normR R n f b w) (fun r=>normR R n f b w r n) x) (hsx:qbZ n x):∃g,e=.returned (.tuple #[.slice (some ⟨g,0,none⟩) n n,.int .i64 0])∧FCells w' (some ⟨g,0,none⟩) g 0 (told n x):=by
 rcases h with ⟨h,_⟩ | ⟨_,y,hy,ht⟩
 ·exact absurd h hs
 ·have he:=hy.uniq hs hx
  rw [←qeG he]
  exact ht.short (hsx.congr fun i hi=>(he i hi).symm)
theorem qi6 {q:Rat} (h:q.num.natAbs<10∧q.den<10):Short q:=⟨by rw [qhh h.1];exact (by decide:1≤600),by rw [qhh h.2];exact (by decide:1≤600)⟩
end Go.Proofs.YtfminfgabiipjaaGreatDoor
namespace Go.Proofs.YtfminfgabiipjaaGreatDoor
open Go.RowKit
theorem qjP (v:Value) (w:World):Calls Tryz.prog 32 #[v] w fun e w'=>e=.returned v∧w'=w:=by
 go_enter Tryz.func32,Tryz.ntmps32
 go_wp2_with fail
 go_ret
 exact⟨rfl,rfl⟩
def IsAt (w:World) (b:Nat) (L:List ByteArray):Prop:=∃gs,w.heap[b]? = some (.cells #[.slice (some ⟨gs,0,none⟩) L.length L.length] 139 (0,0))∧SCells w gs 0 L
theorem IsAt.below {w w':World} {b:Nat} {L:List ByteArray} (h:IsAt w b L) (hb:Below w.heap.size w w'):IsAt w' b L:=by
 obtain⟨gs,h1,h2⟩:=h
 exact⟨gs,zkeep hb _ _ h1,h2.below hb⟩
theorem is_any (gs:Nat) (L:List ByteArray) (w:World) (hs:SCells w gs 0 L) :
  Calls Tryz.prog 34 #[.slice (some ⟨gs,0,none⟩) L.length L.length] w fun e w'=>∃b,e=.returned (.func (.func 91) #[] #[.pointer (some ⟨b,0,none⟩)])∧Below w.heap.size w w'∧IsAt w' b L:=by
 have hb1:Below w.heap.size w (w.alloc (.cells #[.slice (some ⟨gs,0,none⟩) L.length L.length] 139)):=qbI qB qN
 have H:=qH (qA hb1 (show IsAt (w.alloc (.cells #[.slice (some ⟨gs,0,none⟩) L.length L.length] 139)) w.heap.size L from ⟨gs,qM _ _ _ rfl,hs.below hb1⟩))
 clear hb1 hs
 generalize L.length=n at *
 go_enter Tryz.func34,Tryz.ntmps34
 go_wp2_with fail
 go_ret
 exact⟨_,rfl,H.out.1,H.out.2⟩
theorem qhP (n:Int) (w:World) :
  Calls Tryz.prog 35 #[.int .i64 n] w fun e w'=>∃b,e=.returned (.func (.func 92) #[] #[.pointer (some ⟨b,0,none⟩)])∧Below w.heap.size w w'∧w'.heap[b]? = some (.cells #[.int .i64 n] 3 (0,0)):=by
 have H:=qH (qA (qbI (o:=.cells #[.int .i64 n] 3) (Below.refl w.heap.size w) qN) (qM w (.cells #[.int .i64 n] 3) _ rfl))
 go_enter Tryz.func35,Tryz.ntmps35
 go_wp2_with fail
 go_ret
 exact⟨_,rfl,H.out.1,H.out.2⟩
theorem qgw (n:Int) (w:World) :
  Calls Tryz.prog 36 #[.int .i64 n] w fun e w'=>∃b,e=.returned (.func (.func 93) #[] #[.pointer (some ⟨b,0,none⟩)])∧Below w.heap.size w w'∧w'.heap[b]? = some (.cells #[.int .i64 n] 33 (0,0)):=by
 have H:=qH (qA (qbI (o:=.cells #[.int .i64 n] 33) (Below.refl w.heap.size w) qN) (qM w (.cells #[.int .i64 n] 33) _ rfl))
 go_enter Tryz.func36,Tryz.ntmps36
 go_wp2_with fail
 go_ret
 exact⟨_,rfl,H.out.1,H.out.2⟩
theorem qgT (n:Int) (b:Nat) (w:World) (hb:w.heap[b]? = some (.cells #[.int .i64 n] 3 (0,0))) :
  Calls Tryz.prog 92 #[.int .i64 n,.int .i64 0,.pointer (some ⟨b,0,none⟩)] w fun r w'=>r=.returned (.bool true)∧w'=w:=by
 have hc:w.cell? ⟨b,0,none⟩=some (.int .i64 n):=cell_of_row _ _ 0 _ _ _ hb
 clear hb
 go_enter Tryz.func92,Tryz.ntmps92
 go_wp2_with fail
 go_ret
 exact⟨rfl,rfl⟩
theorem qfD (n:Int) (b:Nat) (w:World) (hb:w.heap[b]? = some (.cells #[.int .i64 n] 33 (0,0))) :
  Calls Tryz.prog 93 #[.slice none 0 0,.int .i64 n,.pointer (some ⟨b,0,none⟩)] w fun r w'=>r=.returned (.bool true)∧w'=w:=by
 have hc:w.cell? ⟨b,0,none⟩=some (.int .i64 n):=cell_of_row _ _ 0 _ _ _ hb
 clear hb
 go_enter Tryz.func93,Tryz.ntmps93
 go_wp2_with fail
 go_ret
 exact⟨rfl,rfl⟩
theorem is1_yes (ao:Option Addr) (g off n c b:Nat) (L:List ByteArray) (w:World) (hb:IsAt w b L) (hn:L.length=n) (hn6:n≤1000) (hL:∀k,(L.getD k ⟨#[]⟩).size≤65536) (hf:FCells w ao g off (L.map qf)) :
  Calls Tryz.prog 91 #[.slice ao n c,.int .i64 0,.pointer (some ⟨b,0,none⟩)] w fun r w'=>r=.returned (.bool true)∧Below w.heap.size w w':=by
 obtain⟨gs,h1,h2⟩:=hb
 rw [hn] at h1
 have hc:w.cell? ⟨b,0,none⟩=some (.slice (some ⟨gs,0,none⟩) n n):=cell_of_row _ _ 0 _ _ _ h1
 have HQ:=qH (q_any gs n n L w hn hn6 h2 hL)
 have HF:=qH (qA hf hn)
 clear h1 h2 hn hf hL
 go_enter Tryz.func91,Tryz.ntmps91
 go_wp2_with fail
 refine HQ.out.mono ?_
 rintro e w2 ⟨a2,g2,c2,rfl,hf2,hc2,hb2⟩
 have HS:=qH (qfs ao g off n c (L.map qf) a2 g2 0 n c2 (L.map qf) w2 (by rw [qaD,HF.out.2]) (by omega) (HF.out.1.below hb2) (by rw [qaD,HF.out.2]) (by omega) hf2)
 have HB:=qH hb2
 clear hf2 hb2 hc
 go_wp2_with fail
 refine HS.out.mono ?_
 rintro e w3 ⟨ok,rfl,hok,hb3⟩
 obtain rfl:ok=true:=hok.2 rfl
 have HB3:=qH (HB.out.trans (hb3.mono HB.out.size))
 clear hb3 hok
 go_wp2_with fail
 go_ret
 exact⟨rfl,HB3.out⟩
theorem qg5 {W W':World} {o:Obj} (h:Below (W.alloc o).heap.size (W.alloc o) W'):Below W.heap.size W W':=((Below.refl _ W).alloc qN o).trans (h.mono (by simp only [qab];omega))
theorem qgV {L:List ByteArray} (h:∀s∈L,s.size≤65536):∀k,(L.getD k ⟨#[]⟩).size≤65536:=fun k=>by
 rw [qaa]
 cases e:L[k]? with
 | none=>exact (by decide:0≤65536)
 | some s=>exact h s (qbe e)
theorem q_lit (W:World) (L:List ByteArray) (l:List Rat) (n:Nat) (hL:L.length=n) (hl:l.length=n) (hn:n≤1000) (h:L.map qf=l.map ftxt) (hz:∀s∈L,s.size≤65536) :
  Calls Tryz.prog 30 #[.slice (some ⟨W.heap.size,0,none⟩) n n] (W.alloc (.cells (L.map Value.string).toArray 9)) fun e w'=>∃(ao:Option Addr) (g c:Nat),e=.returned (.slice ao n c)∧FCells w' ao g 0 (told n (fv l))∧Below W.heap.size W w':=by
 refine (q_any W.heap.size n n L _ hL hn (SCells.row (heap_alloc_new W _)) (qgV hz)).mono ?_
 rintro e w' ⟨ao,g,c,rfl,hf,_,hb⟩
 rw [qhU n hl h] at hf
 exact⟨ao,g,c,rfl,hf,qg5 hb⟩
theorem qlt (W:World) (L:List ByteArray) (n:Nat) (hL:L.length=n) :
  Calls Tryz.prog 34 #[.slice (some ⟨W.heap.size,0,none⟩) n n] (W.alloc (.cells (L.map Value.string).toArray 9)) fun e w'=>∃b,e=.returned (.func (.func 91) #[] #[.pointer (some ⟨b,0,none⟩)])∧IsAt w' b L∧Below W.heap.size W w':=by
 subst hL
 refine (is_any W.heap.size L _ (SCells.row (heap_alloc_new W _))).mono ?_
 rintro e w' ⟨b,rfl,hb,hi⟩
 exact⟨b,rfl,hi,qg5 hb⟩
theorem qiZ {ao:Option Addr} {g n c b:Nat} {L:List ByteArray} {l:List Rat} {w:World} (hb:IsAt w b L) (hL:L.length=n) (hl:l.length=n) (hn:n≤1000) (h:L.map qf=l.map ftxt) (hz:∀s∈L,s.size≤65536) (hf:FCells w ao g 0 (told n (fv l))) :
  Calls Tryz.prog 91 #[.slice ao n c,.int .i64 0,.pointer (some ⟨b,0,none⟩)] w fun r w'=>r=.returned (.bool true)∧Below w.heap.size w w' :=
 is1_yes ao g 0 n c b L w hb hL hn (qgV hz) (by rw [qhU n hl h];exact hf)
theorem rows1 (W:World) {ao:Option Addr} {g n c:Nat} {l:List FT} (hl:l.length=n) (h:FCells W ao g 0 l) :
  Calls Tryz.prog 32 #[.slice (some ⟨W.heap.size,0,none⟩) 1 1] (W.alloc (.cells #[.slice ao n c] 23)) fun e w'=>∃gt,e=.returned (.slice (some ⟨gt,0,none⟩) 1 1)∧TCells w' (some ⟨gt,0,none⟩) gt 0 [l]∧Below W.heap.size W w':=by
 refine (qjP _ _).mono ?_
 rintro e w' ⟨rfl,rfl⟩
 have hb:Below W.heap.size W (W.alloc (.cells #[.slice ao n c] 23)):=qbI qB qN
 have hg:=heap_alloc_new W (.cells #[.slice ao n c] 23)
 refine⟨_,rfl,⟨fun _=>rfl,fun k hk=>?_⟩,hb⟩
 obtain rfl:k=0:=by simp at hk;omega
 refine⟨ao,g,0,c,?_,h.below hb⟩
 rw [show ([l]:Tbl).getD 0 []=l from rfl,hl]
 exact cell_of_row _ _ 0 _ _ _ hg
theorem rows2 (W:World) {ao:Option Addr} {g n c:Nat} {l:List FT} {ao2:Option Addr} {g2 n2 c2:Nat} {l2:List FT} (hl:l.length=n) (h:FCells W ao g 0 l) (hl2:l2.length=n2) (h2:FCells W ao2 g2 0 l2) :
  Calls Tryz.prog 32 #[.slice (some ⟨W.heap.size,0,none⟩) 2 2] (W.alloc (.cells #[.slice ao n c,.slice ao2 n2 c2] 23)) fun e w'=>∃gt,e=.returned (.slice (some ⟨gt,0,none⟩) 2 2)∧TCells w' (some ⟨gt,0,none⟩) gt 0 [l,l2]∧Below W.heap.size W w':=by
 refine (qjP _ _).mono ?_
 rintro e w' ⟨rfl,rfl⟩
 have hb:Below W.heap.size W (W.alloc (.cells #[.slice ao n c,.slice ao2 n2 c2] 23)):=qbI qB qN
 have hg:=heap_alloc_new W (.cells #[.slice ao n c,.slice ao2 n2 c2] 23)
 exact⟨_,rfl,qiJ hg hl (h.below hb) hl2 (h2.below hb),hb⟩
theorem qb4 {n:Nat} {x:Nat→Rat} (h:∀i,i<n→(x i).num.natAbs≤1000∧(x i).den≤1000):qbZ n x:=fun i hi=>qjT (N:=1000) (h i hi) (by decide +kernel)
theorem qd4 {n m:Nat} {f:Nat→Nat→Rat} (hm:m≤1000):∀k,k<n→((ttab n m f).getD k []).length≤4611686018427387904:=fun k hk=>by rw [qeg hk,qbQ];omega
theorem qiC {n:Nat} {f:Nat→Nat→Rat} {b:Nat→Rat} {ao:Option Addr} {g c:Nat} {ao2:Option Addr} {g2 c2:Nat} {w:World} (h1:1≤n) (h2:n≤10) (hf:∀i,i<n→qbZ n (f i)) (hb:qbZ n b) (hT:TCells w ao g 0 (ttab n n f)) (hF:FCells w ao2 g2 0 (told n b)) (hP:HasT w) :
  Calls Tryz.prog 18 #[.slice ao n c,.slice ao2 n c2] w fun e w'=>qg4 n f b e w'∧Below w.heap.size w w' :=
 (qfQ ao g 0 n c _ ao2 g2 0 n c2 _ w (qb8 _ _ _) (by omega) (qd4 (by omega)) hT (qbQ _ _) (by omega) hF hP).mono fun _ _ h=>h.told h1 h2 hf hb
theorem qhM {R n:Nat} {f:Nat→Nat→Rat} {ao:Option Addr} {g c:Nat} {w:World} (h1:1≤R) (h2:R≤40) (h3:1≤n) (h4:n≤10) (hf:∀i,i<R→qbZ n (f i)) (hT:TCells w ao g 0 (ttab R n f)) :
  Calls Tryz.prog 16 #[.slice ao R c] w fun e w'=>(∃k:Nat,qct R n f k∧e=.returned (.tuple #[.int .i64 k,.int .i64 0]))∧Below w.heap.size w w' :=
 (qiv ao g 0 R c _ w (qb8 _ _ _) (by omega) (qd4 (by omega)) hT).mono fun _ _ h=>h.told h1 h2 h3 h4 hf
theorem qgE {R n:Nat} {f:Nat→Nat→Rat} {b v:Nat→Rat} {ao:Option Addr} {g c:Nat} {ao2:Option Addr} {g2 c2:Nat} {ao3:Option Addr} {g3 c3:Nat} {w:World} (h1:1≤R) (h2:R≤40) (h3:1≤n) (h4:n≤10) (hf:∀i,i<R→qbZ n (f i)) (hb:qbZ R b) (hv:qbZ R v) (hv0:∀i,i<R→0≤v i) (hT:TCells w ao g 0 (ttab R n f)) (hF:FCells w ao2 g2 0 (told R b)) (hF3:FCells w ao3 g3 0 (told R v)) (hP:HasT w) :
  Calls Tryz.prog 22 #[.slice ao R c,.slice ao2 R c2,.slice ao3 R c3] w fun e w'=>qe2 R n f b v e w'∧Below w.heap.size w w' :=
 (qhc ao g 0 R c _ ao2 g2 0 R c2 _ ao3 g3 0 R c3 _ w (qb8 _ _ _) (by omega) (qd4 (by omega)) hT (qbQ _ _) (by omega) hF (qbQ _ _) (by omega) hF3 hP).mono fun _ _ h=>h.told h1 h2 h3 h4 hf hb hv hv0
theorem meas_tab {R n:Nat} {f:Nat→Nat→Rat} {b v x:Nat→Rat} {ao:Option Addr} {g c:Nat} {ao2:Option Addr} {g2 c2:Nat} {ao3:Option Addr} {g3 c3:Nat} {ao4:Option Addr} {g4 c4:Nat} {w:World} (h1:1≤R) (h2:R≤40) (h3:1≤n) (h4:n≤10) (hf:∀i,i<R→qbZ n (f i)) (hb:qbZ R b) (hv:qbZ R v) (hx:qbZ n x) (hv0:∀i,i<R→0≤v i) (hT:TCells w ao g 0 (ttab R n f)) (hF:FCells w ao2 g2 0 (told R b)) (hF3:FCells w ao3 g3 0 (told R v)) (hF4:FCells w ao4 g4 0 (told n x)) (hP:HasT w) :
  Calls Tryz.prog 24 #[.slice ao R c,.slice ao2 R c2,.slice ao3 R c3,.slice ao4 n c4] w fun e w'=>(Short (msR R n f b v x)∧e=.returned (.tuple #[fstr (msR R n f b v x),.int .i64 0])∨¬Short (msR R n f b v x)∧e=.returned (.tuple #[.agg #[.string ⟨#[]⟩,.string ⟨#[]⟩],.int .i64 6]))∧Below w.heap.size w w' :=
 (qep ao g 0 R c _ ao2 g2 0 R c2 _ ao3 g3 0 R c3 _ ao4 g4 0 n c4 _ w (qb8 _ _ _) (by omega) (qd4 (by omega)) hT (qbQ _ _) (by omega) hF (qbQ _ _) (by omega) hF3 (qbQ _ _) (by omega) hF4 hP).mono fun _ _ h=>h.told h1 h2 h3 h4 hf hb hv hx hv0
theorem qcp {R n:Nat} {f:Nat→Nat→Rat} (h:∀i,i<R→∀j,j<n→(f i j).num.natAbs≤1000∧(f i j).den≤1000):∀i,i<R→qbZ n (f i):=fun i hi=>qb4 (h i hi)
theorem qfK {n k:Nat} {A:Nat→Nat→Rat} (σ:Nat→Nat) (hσ:∀s,s<k→σ s<n∧A s (σ s)≠0∧∀i,i<k→s<i→A i (σ s)=0):qct k n A k :=
 qct.steps qN σ (fun s hs=>⟨(hσ s hs).1,(hσ s hs).2.1,fun i h1 h2=>(hσ s hs).2.2 i h2 h1⟩) (fun i h1 h2=>absurd h1 (by omega))
theorem qg4.sing {n:Nat} {f:Nat→Nat→Rat} {b:Nat→Rat} {e:Ending} {w':World} (h:qg4 n f b e w') (hs:Sing n f):e=.returned (.tuple #[.slice none 0 0,.int .i64 7]):=by
 rcases h with ⟨_,h⟩ | ⟨h,_⟩
 ·exact h
 ·exact absurd hs h
theorem qe2.sing {R n:Nat} {f:Nat→Nat→Rat} {b v:Nat→Rat} {e:Ending} {w':World} (h:qe2 R n f b v e w') (hs:Sing n (normR R n f b v)):e=.returned (.tuple #[.slice none 0 0,.int .i64 7]):=by
 rcases h with ⟨_,h⟩ | ⟨h,_⟩
 ·exact h
 ·exact absurd hs h
theorem qmf {R n m:Nat} {f:Nat→Nat→Rat} {b:Nat→Rat} {ao:Option Addr} {g c:Nat} {ao2:Option Addr} {g2 c2:Nat} {w:World} (h1:1≤R) (h2:R≤40) (h3:1≤n) (h4:n≤10) (hm:m≤1000) (hf:∀i,i<R→qbZ n (f i)) (hb:qbZ m b) (hne:¬(m=R∧R=n)) (hT:TCells w ao g 0 (ttab R n f)) (hF:FCells w ao2 g2 0 (told m b)) (hP:HasT w) :
  Calls Tryz.prog 18 #[.slice ao R c,.slice ao2 m c2] w fun e w'=>e=.returned (.tuple #[.slice none 0 0,.int .i64 2])∧Below w.heap.size w w':=by
 refine (qfQ ao g 0 R c _ ao2 g2 0 m c2 _ w (qb8 _ _ _) (by omega) (qd4 (by omega)) hT (qbQ _ _) (by omega) hF hP).mono ?_
 rintro e w' ⟨h,hb'⟩
 refine⟨?_,hb'⟩
 rcases h with h | h | h | h
 ·exact absurd (qfT h1 h2 h3 h4 hf) h.1
 ·exact absurd (qcU hb) h.2.1
 ·exact h.2.2.2
 ·exact absurd ⟨by have:=h.2.2.1;rwa [qbQ,qb8] at this,by have:=h.2.2.2.1;rwa [qb8,qds h1] at this⟩ hne
theorem meas_neg {R n:Nat} {f:Nat→Nat→Rat} {b v x:Nat→Rat} {ao:Option Addr} {g c:Nat} {ao2:Option Addr} {g2 c2:Nat} {ao3:Option Addr} {g3 c3:Nat} {ao4:Option Addr} {g4 c4:Nat} {w:World} (h1:1≤R) (h2:R≤40) (h3:1≤n) (h4:n≤10) (hf:∀i,i<R→qbZ n (f i)) (hb:qbZ R b) (hv:qbZ R v) (hx:qbZ n x) (hv0:∃i,i<R∧(v i).num<0) (hT:TCells w ao g 0 (ttab R n f)) (hF:FCells w ao2 g2 0 (told R b)) (hF3:FCells w ao3 g3 0 (told R v)) (hF4:FCells w ao4 g4 0 (told n x)) (hP:HasT w) :
  Calls Tryz.prog 24 #[.slice ao R c,.slice ao2 R c2,.slice ao3 R c3,.slice ao4 n c4] w fun e w'=>e=.returned (.tuple #[.agg #[.string ⟨#[]⟩,.string ⟨#[]⟩],.int .i64 2])∧Below w.heap.size w w':=by
 have hneg:Neg (told R v):=by
  obtain⟨i,hi,hlt⟩:=hv0
  refine⟨i,by rw [qbQ];exact hi,?_⟩
  rw [qfS hi,show (ftxt (v i)).1.data.toList=itxt (v i).num from rfl,qc9];exact hlt
 refine (qep ao g 0 R c _ ao2 g2 0 R c2 _ ao3 g3 0 R c3 _ ao4 g4 0 n c4 _ w (qb8 _ _ _) (by omega) (qd4 (by omega)) hT (qbQ _ _) (by omega) hF (qbQ _ _) (by omega) hF3 (qbQ _ _) (by omega) hF4 hP).mono ?_
 rintro e w' ⟨h,hb'⟩
 refine⟨?_,hb'⟩
 rcases h with h | h | h | h
 ·exact absurd (qfT h1 h2 h3 h4 hf) h.1
 ·exact absurd ⟨qcU hb,qcU hv,qcU hx⟩ h.2.1
 ·exact h.2.2.2.2.2
 ·exact absurd hneg h.2.2.2.2.2.2.2.1
theorem frac_at0 {W:World} {ao:Option Addr} {g n:Nat} {x:Nat→Rat} {x1 x2:ByteArray} (hf:FCells W ao g 0 (told n x)) (hn:0<n) (hq:ftxt (x 0)=(x1,x2)):W.cell? ⟨g,0,none⟩=some (.string x1)∧W.cell? ⟨g,1,none⟩=some (.string x2):=by
 obtain⟨h1,h2⟩:=hf.cell 0 (by rw [qbQ];exact hn)
 rw [qfS hn,hq] at h1 h2
 exact⟨h1,h2⟩
theorem qh5 {ao:Option Addr} {g R c:Nat} {t:Tbl} {w:World} (hR:t.length=R) (hl:R≤1000) (hw:∀k,k<R→(t.getD k []).length≤1000) (hT:TCells w ao g 0 t) (hn:¬TOk t) :
  Calls Tryz.prog 12 #[.slice ao R c] w fun e w'=>e=.returned (.int .i64 60)∧Below w.heap.size w w':=by
 refine (qe3 ao g 0 R c t w hR (by omega) (fun k hk=>qai (hw k hk) (by decide)) hT).mono ?_
 rintro e w' ⟨c,rfl,h,hb⟩
 rcases h with h | h
 ·first | exact absurd h.2 hn | exact absurd h.1 hn
 ·exact⟨by rw [h.1],hb⟩
theorem q_1 (W:World) :
  Calls Tryz.prog 30 #[.slice (some ⟨W.heap.size,0,none⟩) 1 1] (W.alloc (.cells #[.string ⟨#[49]⟩] 9)) fun e w'=>∃(ao:Option Addr) (g c:Nat),e=.returned (.slice ao 1 c)∧FCells w' ao g 0 (told 1 (fv [(1:Rat)]))∧Below W.heap.size W w' :=
 q_lit W [⟨#[49]⟩] [(1:Rat)] 1 rfl rfl (by decide) (by simp only [qaM,qaW,ft_1];decide +kernel) (by decide)
theorem q_2 (W:World) :
  Calls Tryz.prog 30 #[.slice (some ⟨W.heap.size,0,none⟩) 1 1] (W.alloc (.cells #[.string ⟨#[50]⟩] 9)) fun e w'=>∃(ao:Option Addr) (g c:Nat),e=.returned (.slice ao 1 c)∧FCells w' ao g 0 (told 1 (fv [(2:Rat)]))∧Below W.heap.size W w' :=
 q_lit W [⟨#[50]⟩] [(2:Rat)] 1 rfl rfl (by decide) (by simp only [qaM,qaW,ft_2];decide +kernel) (by decide)
theorem q_2_1 (W:World) :
  Calls Tryz.prog 30 #[.slice (some ⟨W.heap.size,0,none⟩) 2 2] (W.alloc (.cells #[.string ⟨#[50]⟩,.string ⟨#[49]⟩] 9)) fun e w'=>∃(ao:Option Addr) (g c:Nat),e=.returned (.slice ao 2 c)∧FCells w' ao g 0 (told 2 (fv [(2:Rat),1]))∧Below W.heap.size W w' :=
 q_lit W [⟨#[50]⟩,⟨#[49]⟩] [(2:Rat),1] 2 rfl rfl (by decide) (by simp only [qaM,qaW,ft_1,ft_2];decide +kernel) (by decide)
theorem q_1_3 (W:World) :
  Calls Tryz.prog 30 #[.slice (some ⟨W.heap.size,0,none⟩) 2 2] (W.alloc (.cells #[.string ⟨#[49]⟩,.string ⟨#[51]⟩] 9)) fun e w'=>∃(ao:Option Addr) (g c:Nat),e=.returned (.slice ao 2 c)∧FCells w' ao g 0 (told 2 (fv [(1:Rat),3]))∧Below W.heap.size W w' :=
 q_lit W [⟨#[49]⟩,⟨#[51]⟩] [(1:Rat),3] 2 rfl rfl (by decide) (by simp only [qaM,qaW,ft_1,ft_3];decide +kernel) (by decide)
theorem q_3_5 (W:World) :
  Calls Tryz.prog 30 #[.slice (some ⟨W.heap.size,0,none⟩) 2 2] (W.alloc (.cells #[.string ⟨#[51]⟩,.string ⟨#[53]⟩] 9)) fun e w'=>∃(ao:Option Addr) (g c:Nat),e=.returned (.slice ao 2 c)∧FCells w' ao g 0 (told 2 (fv [(3:Rat),5]))∧Below W.heap.size W w' :=
 q_lit W [⟨#[51]⟩,⟨#[53]⟩] [(3:Rat),5] 2 rfl rfl (by decide) (by simp only [qaM,qaW,ft_3,ft_5];decide +kernel) (by decide)
theorem q_1_2 (W:World) :
  Calls Tryz.prog 30 #[.slice (some ⟨W.heap.size,0,none⟩) 2 2] (W.alloc (.cells #[.string ⟨#[49]⟩,.string ⟨#[50]⟩] 9)) fun e w'=>∃(ao:Option Addr) (g c:Nat),e=.returned (.slice ao 2 c)∧FCells w' ao g 0 (told 2 (fv [(1:Rat),2]))∧Below W.heap.size W w' :=
 q_lit W [⟨#[49]⟩,⟨#[50]⟩] [(1:Rat),2] 2 rfl rfl (by decide) (by simp only [qaM,qaW,ft_1,ft_2];decide +kernel) (by decide)
theorem q_2_4 (W:World) :
  Calls Tryz.prog 30 #[.slice (some ⟨W.heap.size,0,none⟩) 2 2] (W.alloc (.cells #[.string ⟨#[50]⟩,.string ⟨#[52]⟩] 9)) fun e w'=>∃(ao:Option Addr) (g c:Nat),e=.returned (.slice ao 2 c)∧FCells w' ao g 0 (told 2 (fv [(2:Rat),4]))∧Below W.heap.size W w' :=
 q_lit W [⟨#[50]⟩,⟨#[52]⟩] [(2:Rat),4] 2 rfl rfl (by decide) (by simp only [qaM,qaW,ft_2,ft_4];decide +kernel) (by decide)
theorem q_0 (W:World) :
  Calls Tryz.prog 30 #[.slice (some ⟨W.heap.size,0,none⟩) 1 1] (W.alloc (.cells #[.string ⟨#[48]⟩] 9)) fun e w'=>∃(ao:Option Addr) (g c:Nat),e=.returned (.slice ao 1 c)∧FCells w' ao g 0 (told 1 (fv [(0:Rat)]))∧Below W.heap.size W w' :=
 q_lit W [⟨#[48]⟩] [(0:Rat)] 1 rfl rfl (by decide) (by simp only [qaM,qaW,ft_0];decide +kernel) (by decide)
theorem q_1_0_1 (W:World) :
  Calls Tryz.prog 30 #[.slice (some ⟨W.heap.size,0,none⟩) 3 3] (W.alloc (.cells #[.string ⟨#[49]⟩,.string ⟨#[48]⟩,.string ⟨#[49]⟩] 9)) fun e w'=>∃(ao:Option Addr) (g c:Nat),e=.returned (.slice ao 3 c)∧FCells w' ao g 0 (told 3 (fv [(1:Rat),0,1]))∧Below W.heap.size W w' :=
 q_lit W [⟨#[49]⟩,⟨#[48]⟩,⟨#[49]⟩] [(1:Rat),0,1] 3 rfl rfl (by decide) (by simp only [qaM,qaW,ft_0,ft_1];decide +kernel) (by decide)
theorem q_0_1_1 (W:World) :
  Calls Tryz.prog 30 #[.slice (some ⟨W.heap.size,0,none⟩) 3 3] (W.alloc (.cells #[.string ⟨#[48]⟩,.string ⟨#[49]⟩,.string ⟨#[49]⟩] 9)) fun e w'=>∃(ao:Option Addr) (g c:Nat),e=.returned (.slice ao 3 c)∧FCells w' ao g 0 (told 3 (fv [(0:Rat),1,1]))∧Below W.heap.size W w' :=
 q_lit W [⟨#[48]⟩,⟨#[49]⟩,⟨#[49]⟩] [(0:Rat),1,1] 3 rfl rfl (by decide) (by simp only [qaM,qaW,ft_0,ft_1];decide +kernel) (by decide)
theorem q_3_4 (W:World) :
  Calls Tryz.prog 30 #[.slice (some ⟨W.heap.size,0,none⟩) 2 2] (W.alloc (.cells #[.string ⟨#[51]⟩,.string ⟨#[52]⟩] 9)) fun e w'=>∃(ao:Option Addr) (g c:Nat),e=.returned (.slice ao 2 c)∧FCells w' ao g 0 (told 2 (fv [(3:Rat),4]))∧Below W.heap.size W w' :=
 q_lit W [⟨#[51]⟩,⟨#[52]⟩] [(3:Rat),4] 2 rfl rfl (by decide) (by simp only [qaM,qaW,ft_3,ft_4];decide +kernel) (by decide)
theorem q_1_1 (W:World) :
  Calls Tryz.prog 30 #[.slice (some ⟨W.heap.size,0,none⟩) 2 2] (W.alloc (.cells #[.string ⟨#[49]⟩,.string ⟨#[49]⟩] 9)) fun e w'=>∃(ao:Option Addr) (g c:Nat),e=.returned (.slice ao 2 c)∧FCells w' ao g 0 (told 2 (fv [(1:Rat),1]))∧Below W.heap.size W w' :=
 q_lit W [⟨#[49]⟩,⟨#[49]⟩] [(1:Rat),1] 2 rfl rfl (by decide) (by simp only [qaM,qaW,ft_1];decide +kernel) (by decide)
theorem q_0_3 (W:World) :
  Calls Tryz.prog 30 #[.slice (some ⟨W.heap.size,0,none⟩) 2 2] (W.alloc (.cells #[.string ⟨#[48]⟩,.string ⟨#[51]⟩] 9)) fun e w'=>∃(ao:Option Addr) (g c:Nat),e=.returned (.slice ao 2 c)∧FCells w' ao g 0 (told 2 (fv [(0:Rat),3]))∧Below W.heap.size W w' :=
 q_lit W [⟨#[48]⟩,⟨#[51]⟩] [(0:Rat),3] 2 rfl rfl (by decide) (by simp only [qaM,qaW,ft_0,ft_3];decide +kernel) (by decide)
theorem q_1_1o2 (W:World) :
  Calls Tryz.prog 30 #[.slice (some ⟨W.heap.size,0,none⟩) 2 2] (W.alloc (.cells #[.string ⟨#[49]⟩,.string ⟨#[49,47,50]⟩] 9)) fun e w'=>∃(ao:Option Addr) (g c:Nat),e=.returned (.slice ao 2 c)∧FCells w' ao g 0 (told 2 (fv [(1:Rat),1 / 2]))∧Below W.heap.size W w' :=
 q_lit W [⟨#[49]⟩,⟨#[49,47,50]⟩] [(1:Rat),1 / 2] 2 rfl rfl (by decide) (by simp only [qaM,qaW,ft_1,ft_12];decide +kernel) (by decide)
theorem q_m1 (W:World) :
  Calls Tryz.prog 30 #[.slice (some ⟨W.heap.size,0,none⟩) 1 1] (W.alloc (.cells #[.string ⟨#[45,49]⟩] 9)) fun e w'=>∃(ao:Option Addr) (g c:Nat),e=.returned (.slice ao 1 c)∧FCells w' ao g 0 (told 1 (fv [(-1:Rat)]))∧Below W.heap.size W w' :=
 q_lit W [⟨#[45,49]⟩] [(-1:Rat)] 1 rfl rfl (by decide) (by simp only [qaM,qaW,ft_m1];decide +kernel) (by decide)
theorem ex1 {ao:Option Addr} {g c:Nat} {ao2:Option Addr} {g2 c2:Nat} {w:World} (hT:TCells w ao g 0 (ttab 2 2 (fm [[(2:Rat),1],[(1:Rat),3]]))) (hF:FCells w ao2 g2 0 (told 2 (fv [(3:Rat),5]))) (hP:HasT w) :
  Calls Tryz.prog 18 #[.slice ao 2 c,.slice ao2 2 c2] w fun e w'=>(∃g,e=.returned (.tuple #[.slice (some ⟨g,0,none⟩) 2 2,.int .i64 0])∧FCells w' (some ⟨g,0,none⟩) g 0 (told 2 (fv [(4 / 5:Rat),7 / 5])))∧Below w.heap.size w w' :=
 (qiC (by decide) (by decide) (qcp (by decide +kernel)) (qb4 (by decide +kernel)) hT hF hP).mono fun _ _ h=>⟨h.1.only (qgH (fm [[(3 / 5:Rat),-1 / 5],[(-1 / 5:Rat),2 / 5]]) (by decide +kernel)) (show ∀i,i<2→_ from (by decide +kernel)) (qb4 (by decide +kernel)),h.2⟩
theorem ex2 {ao:Option Addr} {g c:Nat} {ao2:Option Addr} {g2 c2:Nat} {w:World} (hT:TCells w ao g 0 (ttab 2 2 (fm [[(1:Rat),2],[(2:Rat),4]]))) (hF:FCells w ao2 g2 0 (told 2 (fv [(1:Rat),2]))) (hP:HasT w) :
  Calls Tryz.prog 18 #[.slice ao 2 c,.slice ao2 2 c2] w fun e w'=>e=.returned (.tuple #[.slice none 0 0,.int .i64 7])∧Below w.heap.size w w' :=
 (qiC (by decide) (by decide) (qcp (by decide +kernel)) (qb4 (by decide +kernel)) hT hF hP).mono fun _ _ h=>⟨h.1.sing ⟨(fv [(2:Rat),-1]),⟨0,by decide,(by decide +kernel)⟩,show ∀i,i<2→_ from (by decide +kernel)⟩,h.2⟩
theorem ex3 {ao:Option Addr} {g c:Nat} {ao2:Option Addr} {g2 c2:Nat} {w:World} (hT:TCells w ao g 0 (ttab 1 2 (fm [[(1:Rat),2]]))) (hF:FCells w ao2 g2 0 (told 1 (fv [(1:Rat)]))) (hP:HasT w) :
  Calls Tryz.prog 18 #[.slice ao 1 c,.slice ao2 1 c2] w fun e w'=>e=.returned (.tuple #[.slice none 0 0,.int .i64 2])∧Below w.heap.size w w' :=
 qmf (by decide) (by decide) (by decide) (by decide) (by decide) (qcp (by decide +kernel)) (qb4 (by decide +kernel)) (by decide) hT hF hP
theorem ex4_r:qct 2 2 (fm [[(1:Rat),2],[(2:Rat),4]]) 1 :=
 qi4 (k:=1) (fm [[(1:Rat),2]]) (fm [[(1:Rat)],[(2:Rat)]]) (fm [[(1:Rat),0]]) (qfK (fun s=>[0].getD s 0) (by decide +kernel)) (by decide +kernel) (by decide +kernel)
theorem ex4 {ao:Option Addr} {g c:Nat} {w:World} (hT:TCells w ao g 0 (ttab 2 2 (fm [[(1:Rat),2],[(2:Rat),4]]))) :
  Calls Tryz.prog 16 #[.slice ao 2 c] w fun e w'=>e=.returned (.tuple #[.int .i64 1,.int .i64 0])∧Below w.heap.size w w':=by
 refine (qhM (by decide) (by decide) (by decide) (by decide) (qcp (by decide +kernel)) hT).mono ?_
 rintro e w' ⟨⟨k,hk,rfl⟩,hb⟩
 obtain rfl:k=1:=hk.uniq ex4_r (qcG.refl _ _ _)
 exact⟨rfl,hb⟩
theorem ex5_r:qct 1 1 (fm [[(0:Rat)]]) 0 :=
 qi4 (k:=0) (fun _ _=>0) (fun _ _=>0) (fun _ _=>0) (qfK (fun _=>0) (by decide +kernel)) (by decide +kernel) (by decide +kernel)
theorem ex5 {ao:Option Addr} {g c:Nat} {w:World} (hT:TCells w ao g 0 (ttab 1 1 (fm [[(0:Rat)]]))) :
  Calls Tryz.prog 16 #[.slice ao 1 c] w fun e w'=>e=.returned (.tuple #[.int .i64 0,.int .i64 0])∧Below w.heap.size w w':=by
 refine (qhM (by decide) (by decide) (by decide) (by decide) (qcp (by decide +kernel)) hT).mono ?_
 rintro e w' ⟨⟨k,hk,rfl⟩,hb⟩
 obtain rfl:k=0:=hk.uniq ex5_r (qcG.refl _ _ _)
 exact⟨rfl,hb⟩
theorem ex6_r:qct 2 3 (fm [[(1:Rat),0,1],[(0:Rat),1,1]]) 2 :=
 qi4 (k:=2) (fm [[(1:Rat),0,1],[(0:Rat),1,1]]) (fm [[(1:Rat),0],[(0:Rat),1]]) (fm [[(1:Rat),0],[(0:Rat),1]]) (qfK (fun s=>[0,1].getD s 0) (by decide +kernel)) (by decide +kernel) (by decide +kernel)
theorem ex6 {ao:Option Addr} {g c:Nat} {w:World} (hT:TCells w ao g 0 (ttab 2 3 (fm [[(1:Rat),0,1],[(0:Rat),1,1]]))) :
  Calls Tryz.prog 16 #[.slice ao 2 c] w fun e w'=>e=.returned (.tuple #[.int .i64 2,.int .i64 0])∧Below w.heap.size w w':=by
 refine (qhM (by decide) (by decide) (by decide) (by decide) (qcp (by decide +kernel)) hT).mono ?_
 rintro e w' ⟨⟨k,hk,rfl⟩,hb⟩
 obtain rfl:k=2:=hk.uniq ex6_r (qcG.refl _ _ _)
 exact⟨rfl,hb⟩
theorem ex7 {ao:Option Addr} {g c:Nat} {ao2:Option Addr} {g2 c2:Nat} {ao3:Option Addr} {g3 c3:Nat} {w:World} (hT:TCells w ao g 0 (ttab 2 1 (fm [[(1:Rat)],[(2:Rat)]]))) (hF:FCells w ao2 g2 0 (told 2 (fv [(3:Rat),4]))) (hF3:FCells w ao3 g3 0 (told 2 (fv [(1:Rat),1]))) (hP:HasT w) :
  Calls Tryz.prog 22 #[.slice ao 2 c,.slice ao2 2 c2,.slice ao3 2 c3] w fun e w'=>(∃g,e=.returned (.tuple #[.slice (some ⟨g,0,none⟩) 1 1,.int .i64 0])∧FCells w' (some ⟨g,0,none⟩) g 0 (told 1 (fv [(11 / 5:Rat)])))∧Below w.heap.size w w' :=
 (qgE (by decide) (by decide) (by decide) (by decide) (qcp (by decide +kernel)) (qb4 (by decide +kernel)) (qb4 (by decide +kernel)) (by decide +kernel) hT hF hF3 hP).mono fun _ _ h=>⟨h.1.only (qgH (fm [[(1 / 5:Rat)]]) (by decide +kernel)) (show ∀i,i<1→_ from (by decide +kernel)) (qb4 (by decide +kernel)),h.2⟩
theorem ex8 {ao:Option Addr} {g c:Nat} {ao2:Option Addr} {g2 c2:Nat} {ao3:Option Addr} {g3 c3:Nat} {w:World} (hT:TCells w ao g 0 (ttab 2 1 (fm [[(1:Rat)],[(1:Rat)]]))) (hF:FCells w ao2 g2 0 (told 2 (fv [(0:Rat),3]))) (hF3:FCells w ao3 g3 0 (told 2 (fv [(2:Rat),1]))) (hP:HasT w) :
  Calls Tryz.prog 22 #[.slice ao 2 c,.slice ao2 2 c2,.slice ao3 2 c3] w fun e w'=>(∃g,e=.returned (.tuple #[.slice (some ⟨g,0,none⟩) 1 1,.int .i64 0])∧FCells w' (some ⟨g,0,none⟩) g 0 (told 1 (fv [(1:Rat)])))∧Below w.heap.size w w' :=
 (qgE (by decide) (by decide) (by decide) (by decide) (qcp (by decide +kernel)) (qb4 (by decide +kernel)) (qb4 (by decide +kernel)) (by decide +kernel) hT hF hF3 hP).mono fun _ _ h=>⟨h.1.only (qgH (fm [[(1 / 3:Rat)]]) (by decide +kernel)) (show ∀i,i<1→_ from (by decide +kernel)) (qb4 (by decide +kernel)),h.2⟩
theorem ex9 {ao:Option Addr} {g c:Nat} {ao2:Option Addr} {g2 c2:Nat} {ao3:Option Addr} {g3 c3:Nat} {w:World} (hT:TCells w ao g 0 (ttab 1 2 (fm [[(1:Rat),1]]))) (hF:FCells w ao2 g2 0 (told 1 (fv [(1:Rat)]))) (hF3:FCells w ao3 g3 0 (told 1 (fv [(1:Rat)]))) (hP:HasT w) :
  Calls Tryz.prog 22 #[.slice ao 1 c,.slice ao2 1 c2,.slice ao3 1 c3] w fun e w'=>e=.returned (.tuple #[.slice none 0 0,.int .i64 7])∧Below w.heap.size w w' :=
 (qgE (by decide) (by decide) (by decide) (by decide) (qcp (by decide +kernel)) (qb4 (by decide +kernel)) (qb4 (by decide +kernel)) (by decide +kernel) hT hF hF3 hP).mono fun _ _ h=>⟨h.1.sing ⟨(fv [(1:Rat),-1]),⟨0,by decide,(by decide +kernel)⟩,show ∀i,i<2→_ from (by decide +kernel)⟩,h.2⟩
theorem ex10 {ao:Option Addr} {g c:Nat} {ao2:Option Addr} {g2 c2:Nat} {ao3:Option Addr} {g3 c3:Nat} {ao4:Option Addr} {g4 c4:Nat} {w:World} (hT:TCells w ao g 0 (ttab 2 1 (fm [[(1:Rat)],[(2:Rat)]]))) (hF:FCells w ao2 g2 0 (told 2 (fv [(3:Rat),4]))) (hF3:FCells w ao3 g3 0 (told 2 (fv [(1:Rat),1 / 2]))) (hF4:FCells w ao4 g4 0 (told 1 (fv [(1:Rat)]))) (hP:HasT w) :
  Calls Tryz.prog 24 #[.slice ao 2 c,.slice ao2 2 c2,.slice ao3 2 c3,.slice ao4 1 c4] w fun e w'=>e=.returned (.tuple #[.agg #[.string ⟨#[54]⟩,.string ⟨#[49]⟩],.int .i64 0])∧Below w.heap.size w w':=by
 refine (meas_tab (by decide) (by decide) (by decide) (by decide) (qcp (by decide +kernel)) (qb4 (by decide +kernel)) (qb4 (by decide +kernel)) (qb4 (by decide +kernel)) (by decide +kernel) hT hF hF3 hF4 hP).mono ?_
 rintro e w' ⟨h,hb⟩
 rw [show msR 2 1 (fm [[(1:Rat)],[(2:Rat)]]) (fv [(3:Rat),4]) (fv [(1:Rat),1 / 2]) (fv [(1:Rat)])=6 by decide +kernel] at h
 rcases h with ⟨_,rfl⟩ | ⟨h,_⟩
 ·exact⟨by rw [qdI,ft_6],hb⟩
 ·exact absurd (qi6 (q:=6) (by decide +kernel)) h
theorem ex11 {ao:Option Addr} {g c:Nat} {ao2:Option Addr} {g2 c2:Nat} {ao3:Option Addr} {g3 c3:Nat} {ao4:Option Addr} {g4 c4:Nat} {w:World} (hT:TCells w ao g 0 (ttab 1 1 (fm [[(1:Rat)]]))) (hF:FCells w ao2 g2 0 (told 1 (fv [(0:Rat)]))) (hF3:FCells w ao3 g3 0 (told 1 (fv [(-1:Rat)]))) (hF4:FCells w ao4 g4 0 (told 1 (fv [(1:Rat)]))) (hP:HasT w) :
  Calls Tryz.prog 24 #[.slice ao 1 c,.slice ao2 1 c2,.slice ao3 1 c3,.slice ao4 1 c4] w fun e w'=>e=.returned (.tuple #[.agg #[.string ⟨#[]⟩,.string ⟨#[]⟩],.int .i64 2])∧Below w.heap.size w w' :=
 meas_neg (by decide) (by decide) (by decide) (by decide) (qcp (by decide +kernel)) (qb4 (by decide +kernel)) (qb4 (by decide +kernel)) (qb4 (by decide +kernel)) ⟨0,by decide,(by decide +kernel)⟩ hT hF hF3 hF4 hP
theorem ex12 (w:World):Calls Tryz.prog 12 #[.slice none 0 0] w fun e w'=>e=.returned (.int .i64 60)∧Below w.heap.size w w' :=
 qh5 (ao:=none) (g:=0) (c:=0) (t:=[]) rfl (by decide) (fun k hk=>absurd hk (by omega)) ⟨fun h=>absurd h (by decide),fun k hk=>absurd hk (by simp)⟩ (fun h=>absurd h.r1 (by decide))
theorem ex13 {ao:Option Addr} {g c:Nat} {w:World} (hT:TCells w ao g 0 [told 1 (fv [(1:Rat)]),told 2 (fv [(1:Rat),2])]) :
  Calls Tryz.prog 12 #[.slice ao 2 c] w fun e w'=>e=.returned (.int .i64 60)∧Below w.heap.size w w' :=
 qh5 rfl (by decide) (fun k hk=>by
  rcases (show k=0∨k=1 by omega) with rfl | rfl
  ·exact (by decide:1≤1000)
  ·exact (by decide:2≤1000)) hT (fun h=>absurd (h.rows 1 (by decide)).1 (by decide))
theorem sc1 (W:World) (s:ByteArray) {g:Nat} (hg:g=W.heap.size):SCells (W.alloc (.cells #[.string s] 9)) g 0 [s]:=by
 subst hg;exact SCells.row (L:=[s]) (heap_alloc_new W _)
theorem sc2 (W:World) (s t:ByteArray) {g:Nat} (hg:g=W.heap.size):SCells (W.alloc (.cells #[.string s,.string t] 9)) g 0 [s,t]:=by
 subst hg;exact SCells.row (L:=[s,t]) (heap_alloc_new W _)
theorem q_at (n:Nat) {w:World} {g:Nat} {L:List ByteArray} {l:List Rat} (hs:SCells w g 0 L) (hL:L.length=n) (hl:l.length=n) (hn:n≤1000) (h:L.map qf=l.map ftxt) (hz:∀s∈L,s.size≤65536) :
  Calls Tryz.prog 30 #[.slice (some ⟨g,0,none⟩) n n] w fun e w'=>∃(ao:Option Addr) (g c:Nat),e=.returned (.slice ao n c)∧FCells w' ao g 0 (told n (fv l))∧Below w.heap.size w w':=by
 refine (q_any g n n L w hL hn hs (qgV hz)).mono ?_
 rintro e w' ⟨ao,g,c,rfl,hf,_,hb⟩
 rw [qhU n hl h] at hf
 exact⟨ao,g,c,rfl,hf,hb⟩
def qeS (W:World) (vs:List Value) (t:Tbl):Prop:=vs.length=t.length∧∀k,k<t.length→∃(ra:Option Addr) (rb ro rc:Nat),vs.getD k undef=.slice ra (t.getD k []).length rc∧FCells W ra rb ro (t.getD k [])
theorem qeS.below {W W':World} {vs:List Value} {t:Tbl} (h:qeS W vs t) (hb:Below W.heap.size W W'):qeS W' vs t :=
 ⟨h.1,fun k hk=>by
  obtain⟨ra,rb,ro,rc,h1,h2⟩:=h.2 k hk
  exact⟨ra,rb,ro,rc,h1,h2.below hb⟩⟩
theorem qeS.append {W:World} {vs vs2:List Value} {t t2:Tbl} (h:qeS W vs t) (h2:qeS W vs2 t2):qeS W (vs++vs2) (t++t2):=by
 refine⟨by rw [qag,qag,h.1,h2.1],fun k hk=>?_⟩
 rw [qag] at hk
 by_cases e:k<t.length
 ·have e1:(vs++vs2).getD k undef=vs.getD k undef:=by rw [qaa,qaB (by rw [h.1];exact e),←qaa]
  have e2:(t++t2).getD k []=t.getD k []:=by rw [qaa,qaB e,←qaa]
  rw [e1,e2];exact h.2 k e
 ·have e1:(vs++vs2).getD k undef=vs2.getD (k-t.length) undef:=by rw [qaa,qas (by rw [h.1];omega),h.1,←qaa]
  have e2:(t++t2).getD k []=t2.getD (k-t.length) []:=by rw [qaa,qas (by omega),←qaa]
  rw [e1,e2];exact h2.2 _ (by omega)
theorem frac_not:∀y∈(Value.agg #[.string ⟨#[]⟩,.string ⟨#[]⟩]).cells.toList,qcg y:=by
 intro y hy
 rcases qaF.1 (show y∈[Value.string ⟨#[]⟩,Value.string ⟨#[]⟩] from hy) with rfl | hy
 ·exact qeu _
 ·rw [qap.1 hy];exact qeu _
theorem slc_not:∀y∈(Value.slice none 0 0).cells.toList,qcg y:=by
 intro y hy
 rw [qap.1 (show y∈[Value.slice none 0 0] from hy)];exact qcF _ _ _
theorem qlb (l:List FT):∀u∈fflat l,qcg u:=fun u hu=>by
 unfold fflat at hu
 obtain⟨x,_,hx⟩:=List.mem_flatMap.1 hu
 rcases qaF.1 hx with rfl | hx
 ·exact qeu _
 ·rw [qap.1 hx];exact qeu _
section
variable {w:World} {ops:Array Oper} {rest:List Oper} {o:Oper} {a:Act} {K:Act→World→Prop} {Q:Exit→Act→World→Prop} {E:Prop}
end
end Go.Proofs.YtfminfgabiipjaaGreatDoor
