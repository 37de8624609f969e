/- Ae, part 25: Lsa Lsb Lsc -/
import Derived.Test.YtfminfgabiipjaaGreatDoorAe0
import Derived.Test.YtfminfgabiipjaaGreatDoorAe24
set_option maxRecDepth 100000
set_option maxHeartbeats 16000000
namespace Go.Proofs.YtfminfgabiipjaaGreatDoor
open Go.RowKit
def lval (l:List FT) (k:Nat):Rat:=fval (l.getD k fd0).1.data.toList (l.getD k fd0).2.data.toList
def tval (t:Tbl) (i:Nat):Nat→Rat:=lval (t.getD i [])
theorem qf7 (n d:List UInt8):fval n d=(ival n:Rat) / ((ival d).natAbs:Rat):=by
 unfold fval
 rw [←Rat.divInt_ofNat,Rat.divInt_eq_div];rfl
theorem flcd_dvd {l:List FT} {k:Nat} (hk:k<l.length):fden (l.getD k fd0)∣flcd l:=by
 have h:=qf9 (l.map fden) (l.map fden).length k (by rw [qaF];exact hk) qN
 rw [qa4] at h
 have e:(l.map fden).getD k 0=fden (l.getD k fd0):=by
  rw [qaa,qaO,qaa,qai hk];rfl
 rw [e] at h
 exact h
theorem qiE {l:List FT} {j:Nat} (hj:j<(l.map fden).length):(l.map fden).getD j 0=fden (l.getD j fd0):=by
 have hj':j<l.length:=by rw [qaF] at hj;exact hj
 rw [qaa,qaO,qaa,qai hj'];rfl
theorem qf5 {l:List FT} (h:FAll l):0<flcd l:=by
 have:=qec (l.map fden) (fun j hj=>by rw [qiE hj];exact (qc5 h (by rw [qaF] at hj;exact hj)).1) (l.map fden).length qN
 rw [qa4] at this
 exact this
theorem qd6 {l:List FT} (h:FAll l) {m:Nat} (hm:l.length≤m):Fit (flcd l) (m*67+1):=by
 have:=qeb (l.map fden) 67 (fun j hj=>by rw [qiE hj];exact qc5 h (by rw [qaF] at hj;exact hj)) (l.map fden).length qN
 rw [qa4,qaF] at this
 exact this.mono (by omega)
theorem qcU {l:List FT} (h:FAll l) {k:Nat} (hk:k<l.length):((ftop l k:Int):Rat)=(flcd l:Rat)*lval l k:=by
 obtain⟨q,hq⟩:=flcd_dvd hk
 have hd:=(qc5 h hk).1
 have e:flcd l / fden (l.getD k fd0)=q:=by rw [hq];exact Nat.mul_div_cancel_left _ hd
 unfold ftop lval
 rw [qf7,e,hq]
 have hd':((fden (l.getD k fd0):Nat):Rat)≠0:=by
  have:=qbj hd
  exact_mod_cast this
 show _=_*((ival _:Rat) / ((fden (l.getD k fd0):Nat):Rat))
 push_cast
 grind
theorem qcm {l:List FT} (h:FAll l) {m:Nat} (hm:l.length≤m) {k:Nat} (hk:k<l.length):Fit (ftop l k).natAbs (67+(m*67+1)):=by
 unfold ftop
 rw [qaQ,qax]
 exact (h k hk).vn.fit.mul ((qd6 h hm).le (qa5 _ _))
theorem qiP {l:List FT} (h:FAll l):(flcd l:Rat)≠0:=by
 have:=qbj (qf5 h)
 exact_mod_cast this
theorem qio {R n:Nat} {A B:Nat→Nat→Rat} (s:Nat→Rat) (hs:∀i,i<R→s i≠0) (h:∀i,i<R→∀j,j<n→A i j=s i*B i j):qcc R R n A B:=by
 refine⟨fun i hi=>?_,fun i hi=>?_⟩
 ·exact Span.congr (Span.comb (Span.row (A:=B) hi) (Span.row (A:=B) hi) (s i) 0) (fun _ _ _ _=>rfl) fun j hj=>by rw [h i hi j hj];grind
 ·refine Span.congr (Span.comb (Span.row (A:=A) hi) (Span.row (A:=A) hi) (1 / s i) 0) (fun _ _ _ _=>rfl) fun j hj=>?_
  have:=hs i hi
  rw [h i hi j hj];grind
theorem qbQ.scale {R n k:Nat} {A B:Nat→Nat→Rat} (s:Nat→Rat) (hs:∀i,i<R→s i≠0) (h:∀i,i<R→∀j,j<n→A i j=s i*B i j) (hr:qbQ R n A k):qbQ R n B k:=by
 obtain⟨v,iv,sv⟩:=hr
 exact⟨v,iv,(qio s hs h).symm.trans sv⟩
theorem Sing.scale {R:Nat} {A B:Nat→Nat→Rat} (s:Nat→Rat) (hs:∀i,i<R→s i≠0) (h:∀i,i<R→∀j,j<R→A i j=s i*B i j):Sing R A↔Sing R B:=by
 have key:∀(y:Nat→Rat) i,i<R→sumQ R (fun j=>A i j*y j)=s i*sumQ R (fun j=>B i j*y j):=fun y i hi=>by
  rw [←qbZ];exact qbz fun j hj=>by rw [h i hi j hj];grind
 constructor
 ·rintro ⟨y,hy,h0⟩
  refine⟨y,hy,fun i hi=>?_⟩
  have:=h0 i hi
  rw [key y i hi] at this
  rcases Rat.mul_eq_zero.1 this with e | e
  ·exact absurd e (hs i hi)
  ·exact e
 ·rintro ⟨y,hy,h0⟩
  exact⟨y,hy,fun i hi=>by rw [key y i hi,h0 i hi];grind⟩
theorem qb6.scale {R:Nat} {A B:Nat→Nat→Rat} {b c x:Nat→Rat} (s:Nat→Rat) (hs:∀i,i<R→s i≠0) (h:∀i,i<R→∀j,j<R→A i j=s i*B i j) (hb:∀i,i<R→b i=s i*c i) (hx:qb6 R A b x):qb6 R B c x:=fun i hi=>by
 have h1:=hx i hi
 have h2:sumQ R (fun j=>A i j*x j)=s i*sumQ R (fun j=>B i j*x j):=by
  rw [←qbZ];exact qbz fun j hj=>by rw [h i hi j hj];grind
 rw [h2,hb i hi] at h1
 have:=hs i hi
 grind
theorem qfd {l:List FT} {x:FT} {k:Nat} (hk:k<l.length):(l++[x]).getD k fd0=l.getD k fd0:=by
 rw [qaa,qaL hk,←qaa]
theorem qfc {l:List FT} {x:FT}:(l++[x]).getD l.length fd0=x:=by
 rw [qaa,qay qN,qaU];rfl
theorem FAll.snoc {l:List FT} {x:FT} (h:FAll l) (hx:FOk x.1.data.toList x.2.data.toList):FAll (l++[x]):=fun k hk=>by
 rw [qag,qaw] at hk
 by_cases e:k<l.length
 ·rw [qfd e];exact h k e
 ·obtain rfl:k=l.length:=by omega
  rw [qfc];exact hx
theorem qdZ {l:List FT} {x:FT} {k:Nat} (hk:k<l.length):lval (l++[x]) k=lval l k:=by unfold lval;rw [qfd hk]
theorem qdY {l:List FT} {x:FT}:lval (l++[x]) l.length=fval x.1.data.toList x.2.data.toList:=by unfold lval;rw [qfc]
structure MatPart (W:World) (tb R k n:Nat) (gs:Nat→Nat) (M:Nat→Nat→Int):Prop where
 row:W.heap[tb]? = some (.cells (rowvs k n gs++List.replicate (R-k) zs0).toArray 79 (0,0))
 rows:∀i,i<k→qbL W (gs i) n (M i)
 le:k≤R
theorem MatPart.below {W W':World} {tb R k n:Nat} {gs:Nat→Nat} {M:Nat→Nat→Int} (h:MatPart W tb R k n gs M) (hb:Below W.heap.size W W'):MatPart W' tb R k n gs M :=
 ⟨(hb.block _ (qG h.row).1).trans h.row,fun i hi=>(h.rows i hi).below hb,h.le⟩
theorem qge {R k n:Nat} {gs:Nat→Nat}:∀x∈(rowvs k n gs++List.replicate (R-k) zs0).toArray.toList,∀d,x≠.int .u32 d:=by
 intro x hx d e
 rcases qaZ.1 (show x∈rowvs k n gs++List.replicate (R-k) zs0 from hx) with h | h
 ·exact qfm x h d e
 ·rw [(List.mem_replicate.1 h).2] at e;cases e
theorem qbL.keepRows {W W':World} {tb g m':Nat} {cs:Array Value} {m:Nat→Int} (h:qbL W g m' m) (hk:W.grownBy W' (some tb)) (ht:W.heap[tb]? = some (.cells cs 79 (0,0))) (hne:∀x∈cs.toList,∀d,x≠.int .u32 d):qbL W' g m' m:=by
 obtain⟨ps,h1,h2,h3⟩:=h
 have hne2:g≠tb:=by
  intro e
  subst e
  have:=h2.1.symm.trans ht
  simp at this
 exact⟨ps,h1,⟨(hk.block _ (qG h2.1).1 (fun e=>hne2 (qam e))).trans h2.1,h2.2⟩,h3.keep hk ht hne⟩
theorem MatPart.at {W:World} {tb R k n:Nat} {gs:Nat→Nat} {M:Nat→Nat→Int} (h:MatPart W tb R k n gs M) (hk:k<R):W.cell? ⟨tb,k,none⟩=some zs0∧W.frozen? ⟨tb,k,none⟩=false:=by
 refine⟨(cell_of_row _ _ _ _ _ _ h.row).trans ?_,frozen_of_row _ _ _ _ _ h.row⟩
 rw [qas,qay (by rw [qca];exact qah _),qca,qaU,qa8,if_pos (by omega)]
theorem MatPart.set {W:World} {tb R k n g:Nat} {gs:Nat→Nat} {M:Nat→Nat→Int} (h:MatPart W tb R k n gs M) (hk:k<R) (hg:qbL W g n (M k)):MatPart (W.setCell ⟨tb,k,none⟩ (rowv g n)) tb R (k+1) n (fun j=>if j=k then g else gs j) M:=by
 refine⟨?_,fun i hi=>?_,hk⟩
 ·rw [heap_setCell_same _ tb k _ _ _ h.row]
  congr 3
  obtain⟨m,hm⟩:∃m,R-k=m+1:=⟨R-k-1,by omega⟩
  rw [qac,hm,qaP,qbb _ _ (by rw [qca];exact qah _),qca,qaU,qae,show R-(k+1)=m by omega]
  have e:rowvs (k+1) n (fun j=>if j=k then g else gs j)=rowvs k n gs++[rowv g n]:=by
   unfold rowvs
   rw [List.range_succ,qbk]
   congr 1
   ·exact List.map_congr_left fun i hi=>by
     have:=qa1.1 hi
     simp only [if_neg (show ¬i=k by omega)]
   ·simp only [qan,qaq,if_true]
  rw [e,qaH];rfl
 ·by_cases e:i=k
  ·subst e;simp only [if_true];exact hg.keepRows (least.qbv _ _ _ _) h.row qge
  ·simp only [if_neg e];exact (h.rows i (by omega)).keepRows (least.qbv _ _ _ _) h.row qge
theorem MatPart.done {W:World} {tb R n:Nat} {gs:Nat→Nat} {M:Nat→Nat→Int} (h:MatPart W tb R R n gs M):MatAt W tb R n gs M:=by
 have:=h.row
 rw [qaU,List.replicate_zero,List.append_nil] at this
 exact⟨this,h.rows⟩
theorem MatPart.made (W:World) (R n:Nat) (gs:Nat→Nat) (M:Nat→Nat→Int):MatPart (W.alloc (.cells (madeCells #[zs0] R) 79)) W.heap.size R 0 n gs M:=by
 refine⟨?_,fun i hi=>absurd hi (by omega),qat _⟩
 rw [qM _ _ _ rfl,Nat.sub_zero,show rowvs 0 n gs=[] from rfl,qbf,←toList_madeCells_one,Array.toArray_toList]
theorem qhv:(Tryz.prog.info? 79).map (fun i=>(i.zero,i.size,i.bytes))=some (some (.slice none 0 0),1,24):=by kernel_rfl
theorem qfg (n:Nat) (hn:n≤1048576) (w:World):(Instr.makeSlice 78 (.int .i64 (n:Int)) (.int .i64 (n:Int))).run Tryz.prog w=.ok (.slice (some ⟨w.heap.size,0,none⟩) n n) (w.alloc (.cells (madeCells #[zs0] n) 79)):=by
 obtain⟨i,hi,hz0,hz1,hz2⟩:=info_parts qhv
 have h:=run_make (P:=Tryz.prog) w 78 79 i _ Tryz.underlying78 hi hz0 .i64 .i64 (n:Int) (n:Int) (by omega) (Int.le_refl _) (by rw [hz2];omega) (by omega)
 rw [hz1,Int.toNat_natCast,Nat.mul_one] at h
 exact h
theorem qdk {w a b:World} {g:Nat} (h:Below w.heap.size w a) (k:a.grownBy b (some g)) (hg:w.heap.size≤g:=by omega):Below w.heap.size w b :=
 h.trans ⟨k.os,k.tape,k.output,k.size,fun i hi=>k.block i (qal hi h.size) (fun e=>by have:=qam e;omega)⟩
theorem qcC {a b:World} {g:Nat} (h:a.grownBy b (some g)) {p:Addr} (hp:p.block<a.heap.size) (hne:p.block≠g):b.cell? p=a.cell? p:=World.cell?_of_block (h.block _ hp (fun e=>hne (qam e)))
theorem qcG {W:World} {ao:Option Addr} {b off n c:Nat} {l:List FT} (hl:l.length=n) (hn:n≤64) (hcells:FCells W ao b off l) (hf:FAll l) :
  Calls Tryz.prog 50 #[.slice ao n c] W fun e W'=>∃g v,e=.returned (.tuple #[rowv g n,v])∧W.heap.size≤g∧Below W.heap.size W W'∧MagAt W' v (flcd l)∧qbL W' g n (ftop l):=by
 refine (qgy ao b off n c l W hl hn hcells hf).mono ?_
 rintro e W' ⟨g,v,ps,rfl,hg,hb,hm,hp,hr,hps⟩
 exact⟨g,v,rfl,hg,hb,hm,ps,hp,hr,hps⟩
def qg0 (w:World) (t:Tbl) (e:Ending) (w':World):Prop :=
 ((TOk t∧∃k:Nat,qbQ t.length (wid t) (tval t) k∧e=.returned (.tuple #[.int .i64 k,.int .i64 0]))∨(¬TOk t∧e=.returned (.tuple #[.int .i64 0,.int .i64 60])))∧Below w.heap.size w w'
theorem qgK (ao:Option Addr) (b off R c:Nat) (t:Tbl) (w:World) (hR:t.length=R) (hl:R≤4611686018427387904) (hw:∀k,k<R→(t.getD k []).length≤4611686018427387904) (hc:TCells w ao b off t) :
  Calls Tryz.prog 16 #[.slice ao R c] w fun e w'=>qg0 w t e w':=by
 have HK:=qH (qd1 ao b off R c t w hR hl hw hc)
 have HC:=qH (qA hc hR)
 clear hR hw hc
 go_enter Tryz.func16,Tryz.ntmps16
 go_wp2_with fail
 refine HK.out.mono ?_
 rintro e w2 ⟨cc,rfl,hcc,hb2⟩
 rcases hcc with ⟨rfl,hT⟩ | ⟨rfl,hT⟩
 case inr =>
  have HX:=qH (qA hT hb2)
  clear hT hb2
  go_wp2_with fail
  go_ret2
  exact⟨qaA ⟨HX.out.1,rfl⟩,HX.out.2⟩
 have hR40:R≤40:=by have:=hT.r2;have:=HC.out.2;omega
 have hR1:1≤R:=by have:=hT.r1;have:=HC.out.2;omega
 have haw:=HC.out.1.addr (by have:=HC.out.2;omega)
 subst haw
 obtain⟨n,hn⟩:∃n,wid t=n:=⟨_,rfl⟩
 have hn10:n≤10:=by have:=hT.c2;omega
 have hn1:1≤n:=by have:=hT.c1;omega
 have hmk:=qfg R (by omega) w2
 have HX:=qH (qA hT (qA hb2 hn))
 clear hT hb2 hn
 go_wp2_with fail
 go_loopw [18] (fun x18 W=>∃(k:Nat) (gs:Nat→Nat),k≤R∧x18=.int .i64 k∧Hid (MatPart W w2.heap.size R k n gs (fun i=>ftop (t.getD i [])))∧Hid (Below w2.heap.size w2 W)) (fun x18 _=>R-(intOf x18).toNat)
 case atStart=>exact⟨0,fun _=>0,qat _,rfl,qH (MatPart.made _ _ _ _ _),qH (qbp qB qN)⟩
 case round =>
  clear hmk
  obtain⟨k,gs,hk,rfl,hM,hB⟩:=hrel
  have hBw:=HX.out.2.1.trans (hB.out.mono HX.out.2.1.size)
  by_cases hkR:k<R
  ·have hki:(k:Int)<R:=by omega
   have hkl:k<t.length:=by have:=HC.out.2;omega
   obtain⟨ra,rb,ro,rc,hck,hfk⟩:=(HC.out.1.below hBw).row k hkl
   have hrk:=HX.out.1.rows k hkl
   rw [HX.out.2.2] at hrk
   rw [hrk.1] at hck
   have HI:=qH (qcG (c:=rc) hrk.1 (show n≤64 by omega) hfk hrk.2)
   clear hrk hfk hBw
   go_wp2_with fail
   refine HI.out.mono ?_
   rintro e w3 ⟨g,v,rfl,_,hb3,_,hg⟩
   have hM3:=hM.out.below hb3
   obtain⟨q0,q1⟩:=hM3.at hkR
   have hset:=hM3.set hkR hg
   have hbb:=(hB.out.trans (hb3.mono hB.out.size)).setCell (p:=⟨w2.heap.size,k,none⟩) qN (rowv g n)
   have H3:=qH (qA hset hbb)
   clear hM3 hset hbb hb3 hg
   go_wp2_with fail
   go_roundw
   case rel=>exact⟨k+1,_,hkR,by go_num,qH H3.out.1,qH H3.out.2⟩
   case measure=>simp [intOf];omega
  ·obtain rfl:k=R:=by omega
   have hMd:=hM.out.done
   have hrk:=rank_any w2.heap.size k n 4356 gs (fun i=>ftop (t.getD i [])) wr (by omega) (by omega) hn10 (by omega) (by omega) hMd (fun i hi=>by
    obtain⟨ps,_,h,_⟩:=hMd.rows i hi
    exact (qG h.1).1) (fun i hi j hj=>by
    have hi':i<t.length:=by have:=HC.out.2;omega
    have h:=HX.out.1.rows i hi'
    have e:=HX.out.2.2
    exact (qcm h.2 (m:=63) (by omega) (show j<(t.getD i []).length by omega)).mono (by omega))
   have HR:=qH hrk
   have HBw:=qH hBw
   clear hMd hrk hBw
   go_wp2_with fail
   refine HR.out.mono ?_
   rintro e w3 ⟨r,rfl,hg3,hr3⟩
   have hr4:=qbQ.scale (B:=tval t) (fun i=>(flcd (t.getD i []):Rat)) (fun i hi=>qiP (HX.out.1.rows i (by have:=HC.out.2;omega)).2) (fun i hi j hj=>by
    have h:=HX.out.1.rows i (by have:=HC.out.2;omega)
    have e:=HX.out.2.2
    exact qcU h.2 (by omega)) hr3
   have H4:=qH (qA hr4 hg3)
   clear hr4 hg3 hr3
   go_wp2_with fail
   go_ret2
   exact⟨qaJ ⟨HX.out.1,r,by rw [HC.out.2,HX.out.2.2];exact H4.out.1,rfl⟩,qdk HX.out.2.1 (qbs (qbu _ hB.out) H4.out.2) HX.out.2.1.size⟩
def qfY (w:World) (t:Tbl) (l:List FT) (e:Ending) (w':World):Prop :=
  ((¬TOk t∧e=.returned (.tuple #[.slice none 0 0,.int .i64 60])) ∨
   (TOk t∧¬FAll l∧e=.returned (.tuple #[.slice none 0 0,.int .i64 20])) ∨
   (TOk t∧FAll l∧¬(l.length=t.length∧t.length=wid t)∧e=.returned (.tuple #[.slice none 0 0,.int .i64 2])) ∨
   (TOk t∧FAll l∧l.length=t.length∧t.length=wid t ∧
     ((Sing t.length (tval t)∧e=.returned (.tuple #[.slice none 0 0,.int .i64 7])) ∨
      (¬Sing t.length (tval t)∧∃x,qb6 t.length (tval t) (lval l) x∧Tells t.length x e w'))))∧Below w.heap.size w w'
theorem qds {W:World} {ao:Option Addr} {b off n c:Nat} {l:List FT} {g:Nat} {ty:TypeId} (hg:W.heap[g]? = some (.cells #[.slice ao n c] ty (0,0))) (hn:l.length=n) (h:FCells W ao b off l):TCells W (some ⟨g,0,none⟩) g 0 [l]:=by
 refine⟨fun _=>rfl,fun k hk=>?_⟩
 obtain rfl:k=0:=by simp at hk;omega
 exact⟨ao,b,off,c,by rw [show ([l]:Tbl).getD 0 []=l from rfl,hn];exact cell_of_row _ _ 0 _ _ _ hg,h⟩
theorem qiw {l:List FT}:(∀k,k<([l]:Tbl).length→FAll (([l]:Tbl).getD k []))↔FAll l :=
 ⟨fun h=>h 0 (by simp),fun h k hk=>by
  obtain rfl:k=0:=by simp at hk;omega
  exact h⟩
def besides (t:Tbl) (l:List FT) (i:Nat):List FT:=t.getD i []++[l.getD i fd0]
theorem qdg (ao:Option Addr) (b off R c:Nat) (t:Tbl) (ao2:Option Addr) (b2 off2 m c2:Nat) (l:List FT) (w:World) (hR:t.length=R) (hl:R≤4611686018427387904) (hw:∀k,k<R→(t.getD k []).length≤4611686018427387904) (hc:TCells w ao b off t)
  (hm:l.length=m) (hl2:m≤4611686018427387904) (hc2:FCells w ao2 b2 off2 l) (hT:HasT w) :
  Calls Tryz.prog 18 #[.slice ao R c,.slice ao2 m c2] w fun e w'=>qfY w t l e w':=by
 obtain⟨W1,hW1⟩:∃W1,W1=w.alloc (.cells #[.slice ao2 m c2] 23):=⟨_,rfl⟩
 have hb1:Below w.heap.size w W1:=hW1▸qbp qB qN
 have hr1:W1.heap[w.heap.size]? = some (.cells #[.slice ao2 m c2] 23 (0,0)):=by rw [hW1];exact qM _ _ _ rfl
 have HK:=qH (qcZ ao b off R c t (some ⟨w.heap.size,0,none⟩) w.heap.size 0 1 1 [l] W1 hR hl hw (hc.below hb1) rfl (by omega) (fun k hk=>by
  obtain rfl:k=0:=by omega
  show l.length≤_
  omega) (qds hr1 hm (hc2.below hb1)))
 have HC:=qH (qA hc (qA hR (qA hc2 (qA hm hT))))
 have HB1:=qH hb1
 clear hR hw hc hm hc2 hb1 hr1 hT
 go_enter Tryz.func18,Tryz.ntmps18
 go_wp2_with fail
 rw [←hW1]
 clear hW1
 refine HK.out.mono ?_
 rintro e w2 ⟨cc,rfl,hcc,hb2⟩
 have HB:=qH (HB1.out.trans (hb2.mono HB1.out.size))
 clear hb2
 rcases hcc with ⟨rfl,hT⟩ | ⟨rfl,hT,hL⟩ | ⟨rfl,hT,hL⟩
 ·have HT:=qH hT
  clear hT
  go_wp2_with fail
  go_ret2
  exact⟨qaJ ⟨HT.out,rfl⟩,HB.out⟩
 ·have HT:=qH (qA hT hL)
  clear hT hL
  go_wp2_with fail
  go_ret2
  exact⟨qaA (qaJ ⟨HT.out.1,fun h=>HT.out.2 (qiw.2 h),rfl⟩),HB.out⟩
 have hL:=qiw.1 hL
 have hR40:R≤40:=by have:=hT.r2;have:=HC.out.2.1;omega
 have hR1:1≤R:=by have:=hT.r1;have:=HC.out.2.1;omega
 have hR0i:(0:Int)<R:=by omega
 have haw:=HC.out.1.addr (by have:=HC.out.2.1;omega)
 subst haw
 obtain⟨n,hn⟩:∃n,wid t=n:=⟨_,rfl⟩
 have hn10:n≤10:=by have:=hT.c2;omega
 have hn1:1≤n:=by have:=hT.c1;omega
 obtain⟨ra0,rb0,ro0,rc0,hc0,_⟩:=(HC.out.1.below HB.out).row 0 (by have:=HC.out.2.1;omega)
 rw [qba] at hc0
 have hn':(t.getD 0 []).length=n:=hn
 rw [hn'] at hc0
 have HX:=qH (qA hT (qA hL hn))
 clear hT hL hn hn'
 by_cases e1:m=R
 case neg =>
  have e1b:((m:Int) != (R:Int))=true:=by rw [bne_iff_ne];omega
  have He:=qH e1
  clear e1
  go_wp2_with fail
  go_ret2
  exact⟨qaA (qaA (qaJ ⟨HX.out.1,HX.out.2.1,fun h=>He.out (by rw [←HC.out.2.2.2.1,←HC.out.2.1];exact h.1),rfl⟩)),HB.out⟩
 by_cases e2:R=n
 case neg =>
  have e1b:((m:Int) != (R:Int))=false:=by simp [e1]
  have e2b:((R:Int) != (n:Int))=true:=by rw [bne_iff_ne];omega
  have He:=qH e2
  clear e2 e1
  go_wp2_with fail
  go_ret2
  exact⟨qaA (qaA (qaJ ⟨HX.out.1,HX.out.2.1,fun h=>He.out (by rw [←HX.out.2.2,←HC.out.2.1];exact h.2),rfl⟩)),HB.out⟩
 have e1b:((m:Int) != (R:Int))=false:=by simp [e1]
 subst e2
 have e2b:((R:Int) != (R:Int))=false:=by simp
 have He:=qH e1
 have hmR:(m:Int)≤R∧(R:Int)≤m:=by omega
 obtain⟨hmR1,hmR2⟩:=hmR
 have haw2:=HC.out.2.2.1.addr (by have:=HC.out.2.2.2.1;omega)
 subst haw2
 clear e1
 have hmk:=qfg R (by omega) w2
 obtain⟨W3,hW3⟩:∃W3,W3=w2.alloc (.cells (madeCells #[zs0] R) 79):=⟨_,rfl⟩
 have hm3:=MatPart.made w2 R (R+1) (fun _=>0) (fun i=>ftop (besides t l i))
 rw [←hW3] at hm3 hmk
 have hs3:W3.heap.size=w2.heap.size+1:=by rw [hW3,qab]
 have hb3:Below w2.heap.size w2 W3:=hW3▸qbp qB qN
 clear hW3
 obtain⟨W4,hW4⟩:∃W4,W4=W3.alloc (.cells #[.slice (some ⟨w2.heap.size,0,none⟩) R R] 92):=⟨_,rfl⟩
 have hb4:Below W3.heap.size W3 W4:=hW4▸qbp qB qN
 have hr4:W4.heap[W3.heap.size]? = some (.cells #[.slice (some ⟨w2.heap.size,0,none⟩) R R] 92 (0,0)):=by rw [hW4];exact qM _ _ _ rfl
 have H4:=qH (qA (hm3.below hb4) (qA hr4 (hb3.trans (hb4.mono hb3.size))))
 have Hs3:=qH hs3
 clear hm3 hb3 hb4 hr4 hs3
 go_wp2_with fail
 rw [←hW4]
 go_loopw [37] (fun x37 W=>∃(k:Nat) (gs:Nat→Nat),k≤R∧x37=.int .i64 k∧Hid (MatPart W w2.heap.size R k (R+1) gs (fun i=>ftop (besides t l i)))∧Hid (W.heap[W3.heap.size]? = some (.cells #[.slice (some ⟨w2.heap.size,0,none⟩) R R] 92 (0,0)))∧Hid (Below w2.heap.size w2 W)) (fun x37 _=>R-(intOf x37).toNat)
 case atStart=>exact⟨0,fun _=>0,qat _,rfl,qH H4.out.1,qH H4.out.2.1,qH H4.out.2.2⟩
 case round =>
  clear hmk hW4
  obtain⟨k,gs,hk,rfl,hM,hr,hB⟩:=hrel
  have hBw:=HB.out.trans (hB.out.mono HB.out.size)
  by_cases hkR:k<R
  ·have hki:(k:Int)<R:=by omega
   have hkm:(k:Int)<m:=by omega
   have hkt:k<t.length:=by have:=HC.out.2.1;omega
   have hkl:k<l.length:=by have:=HC.out.2.2.2.1;omega
   obtain⟨ra,rb,ro,rc,hck,hfk⟩:=(HC.out.1.below hBw).row k hkt
   have hrk:=HX.out.1.rows k hkt
   rw [HX.out.2.2] at hrk
   rw [hrk.1] at hck
   obtain⟨d0,d1⟩:=(HC.out.2.2.1.below hBw).cell k hkl
   have hb2w:b2<w2.heap.size:=by
    obtain⟨x0,_⟩:=(HC.out.2.2.1.below HB.out).cell k hkl
    exact qad w2 _ x0
   have hb2l:=qad wr _ d0
   obtain⟨N,hN⟩:∃N,(l.getD k fd0).1=N:=⟨_,rfl⟩
   obtain⟨D,hD⟩:∃D,(l.getD k fd0).2=D:=⟨_,rfl⟩
   have hND:l.getD k fd0=(N,D):=by rw [←hN,←hD]
   have hok:=HX.out.2.1 k hkl
   rw [hND] at hok
   rw [hN] at d0
   rw [hD] at d1
   have C0:∀W,wr.grownBy W (some w2.heap.size)→W.cell? ⟨W3.heap.size,0,none⟩=some (.slice (some ⟨w2.heap.size,0,none⟩) R R):=fun W h=>qck h hr.out (by have:=Hs3.out;omega) 0
   have C1:∀W,wr.grownBy W (some w2.heap.size)→W.cell? ⟨b2,off2+k*2,none⟩=some (.string N):=fun W h=>(qcC h (p:=⟨b2,off2+k*2,none⟩) hb2l (Nat.ne_of_lt hb2w)).trans d0
   have C2:∀W,wr.grownBy W (some w2.heap.size)→W.cell? ⟨b2,off2+k*2+1,none⟩=some (.string D):=fun W h=>(qcC h (p:=⟨b2,off2+k*2+1,none⟩) hb2l (Nat.ne_of_lt hb2w)).trans d1
   have HBS:=qH (fun W (h:Below wr.heap.size wr W)=>qes ra rb ro R rc (t.getD k []) (N,D) W hrk.1 (by omega) (by omega) (hfk.below h))
   have HI:=qH (fun W g (h:FCells W (some ⟨g,0,none⟩) g 0 (t.getD k []++[(N,D)]))=>qcG (c:=R+1) (show (t.getD k []++[(N,D)]).length=R+1 by rw [qag,hrk.1];rfl) (show R+1≤64 by omega) h (FAll.snoc hrk.2 hok))
   have HE:=qH (show besides t l k=t.getD k []++[(N,D)] by unfold besides;rw [hND])
   have hst:Below wr.heap.size wr wr:=Below.refl _ _
   have hstD:Below wr.heap.size wr wr.drew:=hst.drew
   clear hrk hfk hBw hb2w hb2l hN hD hND hok d0 d1
   go_wp2_with fail
   go_region_held3 (fun W=>wr.grownBy W (some w2.heap.size)) (first | with_reducible exact qb8 _ _ | with_reducible exact qbu _ hstD | with_reducible exact qbu _ HB5 | with_reducible exact qbu _ HB6 | exact qbs (qbu _ HB6) (least.qbv _ _ _ _)) (first | (go_at_call 55;refine (HBS.out _ hstD).mono ?_;rintro e w5 ⟨g5,rfl,hb5,hf5⟩;have HB5:Below wr.heap.size wr w5:=bjoin hstD hb5;have HF5:=qH hf5;clear hb5 hf5) | (go_at_call 50;refine (HI.out _ _ HF5.out).mono ?_;rintro e w6 ⟨g6,v6,rfl,_,hb6,hm6,hg6⟩;have HB6:Below wr.heap.size wr w6:=bjoin HB5 hb6;obtain⟨q0,q1⟩:=(hM.out.below HB6).at hkR;have HG6:=qH hg6;obtain⟨s6,_,_,u6,t6,_,rfl,_,_⟩:=hm6;clear hb6 hg6))
   all_goals go_wp2_with fail
   all_goals go_roundw
   all_goals first
    | exact⟨k+1,_,hkR,by go_num,qH ((hM.out.below HB6).set hkR (by show qbL _ _ _ (ftop (besides t l k));rw [HE.out];exact HG6.out)),qH ((Below.heap_setCell _ _ _ _ (by have:=Hs3.out;show W3.heap.size≠w2.heap.size;omega)).trans ((HB6.block _ (qG hr.out).1).trans hr.out)),qH ((hB.out.trans (HB6.mono hB.out.size)).setCell (p:=⟨w2.heap.size,k,none⟩) qN _)⟩
    | (simp [intOf];omega)
  ·obtain rfl:k=R:=by omega
   have hMd:=hM.out.done
   have hfb:∀i,i<k→(besides t l i).length=k+1∧FAll (besides t l i):=fun i hi=>by
    have h:=HX.out.1.rows i (by have:=HC.out.2.1;omega)
    rw [HX.out.2.2] at h
    exact⟨by unfold besides;rw [qag,h.1];rfl,h.2.snoc (HX.out.2.1 i (by have:=HC.out.2.2.2.1;omega))⟩
   have hsv:=qgP w2.heap.size k 4356 gs (fun i=>ftop (besides t l i)) wr (by omega) hn10 (by omega) (by omega) hMd (fun i hi=>by
    obtain⟨ps,_,h,_⟩:=hMd.rows i hi
    exact (qG h.1).1) (fun i hi j hj=>(qcm (hfb i hi).2 (m:=63) (by have:=(hfb i hi).1;omega) (by have:=(hfb i hi).1;omega)).mono (by omega)) (HC.out.2.2.2.2.below hBw)
   have HS:=qH hsv
   have HFB:=qH hfb
   have bx:=cell_of_row _ _ 0 _ _ _ hr.out
   clear hMd hsv hfb hBw
   go_wp2_with fail
   refine HS.out.mono ?_
   rintro e w7 ⟨hg7,h7⟩
   have hbb:=qdk HB.out (qbs (qbu _ hB.out) hg7) HB.out.size
   have hA:∀i,i<k→∀j,j<k→castM (fun i=>ftop (besides t l i)) i j=(flcd (besides t l i):Rat)*tval t i j:=fun i hi j hj=>by
    have h:=HX.out.1.rows i (by have:=HC.out.2.1;omega)
    rw [HX.out.2.2] at h
    show ((ftop (besides t l i) j:Int):Rat)=_
    rw [qcU (HFB.out i hi).2 (by have:=(HFB.out i hi).1;omega)]
    congr 1
    exact qdZ (by omega)
   have hAb:∀i,i<k→castM (fun i=>ftop (besides t l i)) i k=(flcd (besides t l i):Rat)*lval l i:=fun i hi=>by
    have h:=HX.out.1.rows i (by have:=HC.out.2.1;omega)
    rw [HX.out.2.2] at h
    show ((ftop (besides t l i) k:Int):Rat)=_
    rw [qcU (HFB.out i hi).2 (by have:=(HFB.out i hi).1;omega)]
    congr 1
    have:=qdY (l:=t.getD i []) (x:=l.getD i fd0)
    rw [h.1] at this
    exact this
   have hne:∀i,i<k→(flcd (besides t l i):Rat)≠0:=fun i hi=>qiP (HFB.out i hi).2
   have hsg:=Sing.scale (fun i=>(flcd (besides t l i):Rat)) hne hA
   have hsol:∀x,qb6 k (castM (fun i=>ftop (besides t l i))) (fun i=>castM (fun i=>ftop (besides t l i)) i k) x→qb6 k (tval t) (lval l) x:=fun x hx=>qb6.scale (fun i=>(flcd (besides t l i):Rat)) hne hA hAb hx
   have HZ:=qH (qA hbb (qA hsg hsol))
   clear hbb hA hAb hne hsg hsol hg7
   have fin:∀e,((Sing k (castM fun i=>ftop (besides t l i))∧e=.returned (.tuple #[.slice none 0 0,.int .i64 7])) ∨
  (¬Sing k (castM fun i=>ftop (besides t l i))∧∃x,qb6 k (castM fun i=>ftop (besides t l i)) (fun i=>castM (fun i=>ftop (besides t l i)) i k) x∧Tells k x e w7))→qfY w t l e w7:=fun e h=>by
    refine⟨qaA (qaA (qaA ⟨HX.out.1,HX.out.2.1,by rw [HC.out.2.2.2.1,HC.out.2.1,He.out],by rw [HX.out.2.2,HC.out.2.1],?_⟩)),HZ.out.1⟩
    rw [HC.out.2.1]
    rcases h with ⟨h,e⟩ | ⟨h,x,hx,ht⟩
    ·exact qaJ ⟨HZ.out.2.1.1 h,e⟩
    ·exact qaA ⟨fun hs=>h (HZ.out.2.1.2 hs),x,HZ.out.2.2 x hx,ht⟩
   have FIN:=qH fin
   have h7':=h7
   rcases h7 with ⟨_,rfl⟩ | ⟨_,x,_,⟨_,g,rfl,_⟩ | ⟨_,rfl⟩⟩
   all_goals
    have H7:=qH (FIN.out _ h7')
    clear h7' fin
    go_wp2_with fail
    go_ret2
    exact H7.out
end Go.Proofs.YtfminfgabiipjaaGreatDoor
