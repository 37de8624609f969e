/- Ae, part 42: Kr Kn0 Gs -/
import Derived.Test.YtfminfgabiipjaaGreatDoorAe0
import Derived.Test.YtfminfgabiipjaaGreatDoorAe28
import Derived.Test.YtfminfgabiipjaaGreatDoorAe40
set_option maxRecDepth 100000
set_option maxHeartbeats 16000000
namespace Go.Proofs.YtfminfgabiipjaaGreatDoor
open Go.RowKit
theorem qg1 {P:Program} (w:World) (dT ty elem:TypeId) (m g d s dLen dCap sLen sCap:Nat) (cur:Array Value) (t:TypeId) (cs:List Value)
  (hu:P.underlying dT=some (.slice elem)) (hs:(P.info? elem).map (·.size)=some m)
  (hg:w.heap[g]? = some (.cells cur t (0,0))) (hn:cs.length=Nat.min sLen dLen*m)
  (hsrc:∀j v,cs[j]? = some v→w.cell? ((⟨g,s,none⟩:Addr).add j)=some v) (hfit:d+cs.length≤cur.size) (h1:∀v∈cs,v.oneCell'=true) :
  (Builtin.copy_ #[dT,dT] ty #[.slice (some ⟨g,d,none⟩) dLen dCap,.slice (some ⟨g,s,none⟩) sLen sCap]).run P w =
   .ok (goInt (Nat.min sLen dLen:Nat)) (w.setRow g (cur.toList.take d++cs++cur.toList.drop (d+cs.length)).toArray):=by
 have hl:=run_loadCells_list (P:=P) w ⟨g,s,none⟩ cs hsrc
 have hst:=run_storeCells_at P g d t cs 0 cur w hg (by simpa using hfit) h1
 cases hq:P.info? elem with
 | none=>simp [hq] at hs
 | some i =>
  have hi:i.size=m:=by simpa [hq] using hs
  rw [hn] at hl
  simp [Builtin.copy_,run_underlying hu,Builtin.lenOf,Builtin.firstCells,sizeOf,typeInfo,hq,hi,hl,hst]
theorem qeN {P:Program} {w:World} {ops:Array Oper} {o:Oper} {a:Act} {K:Act→World→Prop} {Q:Exit→Act→World→Prop} {X:Prop} (hgd:o.guard=none) (d s:Operand) (dT:TypeId)
  (ho:o.op=.call { callee:=.builtin .copy,args:=#[d,s],argTypes:=#[dT,dT] }) (elem:TypeId) (m g dd ss dLen dCap sLen sCap:Nat) (cur:Array Value) (t:TypeId) (cs:List Value) (n:Nat)
  (hu:P.underlying dT=some (.slice elem)) (hs:(P.info? elem).map (·.size)=some m) (hd:a.eval d=.slice (some ⟨g,dd,none⟩) dLen dCap) (hsv:a.eval s=.slice (some ⟨g,ss,none⟩) sLen sCap)
  (hg:w.heap[g]? = some (.cells cur t (0,0))) (hmn:Nat.min sLen dLen=n) (hn:cs.length=n*m)
  (hsrc:∀j v,cs[j]? = some v→w.cell? ((⟨g,ss,none⟩:Addr).add j)=some v) (hfit:dd+cs.length≤cur.size) (h1:∀v∈cs,v.oneCell'=true)
  (h:K (a.put o.dst (.int .i64 n)) (w.setRow g (cur.toList.take dd++cs++cur.toList.drop (dd+cs.length)).toArray)):if Region.wanted o (yielded ops a.tmps)=true then Oper.wp P o a w K Q else X:=by
 subst hmn
 rw [if_pos (by simp [Region.wanted,hgd])]
 have hrun:=qg1 (P:=P) w dT o.type elem m g dd ss dLen dCap sLen sCap cur t cs hu hs hg hn hsrc hfit h1
 unfold Oper.wp
 simp [execOp,ho,resolve,invoke,builtin,hd,hsv,hrun,Result.andThen]
 rw [←qaH]
 exact h
def reps (k:Nat) (c:List Value):List Value:=(List.replicate k c).flatten
theorem qcy (k:Nat) (c:List Value):(reps k c).length=k*c.length:=by
 induction k with
 | zero=>simp [reps]
 | succ k ih=>unfold reps at *;rw [qaP,List.flatten_cons,qag,ih,Nat.succ_mul,Nat.add_comm]
theorem qhJ (k n:Nat) (c:List Value):reps (k+n) c=reps k c++reps n c:=by
 unfold reps;rw [←List.replicate_append_replicate,List.flatten_append]
theorem qhK (k:Nat) {c:List Value} (h:∀v∈c,v.oneCell'=true):∀v∈reps k c,v.oneCell'=true:=fun v hv=>by
 obtain⟨l,hl,hv⟩:=List.mem_flatten.1 hv
 rw [List.eq_of_mem_replicate hl] at hv
 exact h v hv
theorem qgN {k n:Nat} (hn:n≤k) (c r:List Value):(reps k c++r).take (n*c.length)=reps n c:=by
 obtain⟨j,rfl⟩:=Nat.le.dest hn
 rw [qhJ,qaH,←qcy,List.take_left]
theorem qhL {k n m:Nat} {c r:List Value} (hc:c.length=m) (hr:r.length=(40-k)*m) (_hn:n≤40-k) :
  ((reps k c++r).toArray.toList.take (k*m)++reps n c++(reps k c++r).toArray.toList.drop (k*m+(reps n c).length))=reps (k+n) c++r.drop (n*m):=by
 subst hc
 rw [List.toList_toArray,qhJ,←qcy k c,List.take_left,qcy n c,List.drop_append,List.drop_eq_nil_of_le (by omega),qbf]
 congr 2
 omega
theorem qgM (b off c:Nat) (cs:List Value) (w:World) (hl:cs.length=2) (h1:∀v∈cs,v.oneCell'=true) (hcell:∀j v,cs[j]? = some v→w.cell? ((⟨b,off,none⟩:Addr).add j)=some v) :
  Calls Tryz.prog 33 #[.slice (some ⟨b,off,none⟩) 1 c,.int .i64 40] w fun e w'=>∃g,e=.returned (.slice (some ⟨g,0,none⟩) 40 40)∧w'.heap[g]? = some (.cells (reps 40 cs).toArray 46 (0,0))∧Below w.heap.size w w':=by
 obtain⟨W2,hW2⟩:∃W2,W2=w.alloc (.cells (madeCells #[.string ⟨#[]⟩,.string ⟨#[]⟩] (40*2)) 46):=⟨_,rfl⟩
 have hmk:(Instr.makeSlice 23 (.int .i64 40) (.int .i64 40)).run Tryz.prog w=.ok (.slice (some ⟨w.heap.size,0,none⟩) 40 40) W2:=by
  obtain⟨i,hi,hz0,hz1,hz2⟩:=info_parts infoF
  have h:=run_make (P:=Tryz.prog) w 23 46 i _ Tryz.underlying23 hi hz0 .i64 .i64 40 40 (by decide) (Int.le_refl _) (by rw [hz2];decide) (by decide)
  rw [hz1] at h
  rw [hW2];exact h
 have hr2:W2.heap[w.heap.size]? = some (.cells (madeCells #[.string ⟨#[]⟩,.string ⟨#[]⟩] (40*2)) 46 (0,0)):=by rw [hW2];exact qM _ _ _ rfl
 have hb2:Below w.heap.size w W2:=hW2▸qbp qB qN
 have hcell2:∀j v,cs[j]? = some v→W2.cell? ((⟨b,off,none⟩:Addr).add j)=some v:=fun j v hj=>by
  have h:=hcell j v hj
  rw [Addr.add_mid] at h ⊢
  exact (hb2.cell (qad w _ h)).trans h
 have hcp:=qdx (P:=Tryz.prog) W2 23 23 3 46 2 w.heap.size 40 40 ⟨b,off,none⟩ 1 c _ 46 cs Tryz.underlying23 (by kernel_rfl) hr2 (by rw [hl];rfl) hcell2 (by rw [hl,size_madeCells];decide) h1
 obtain⟨R,hR⟩:∃R,R=((madeCells #[.string ⟨#[]⟩,.string ⟨#[]⟩] (40*2):Array Value)).toList.drop (0+cs.length):=⟨_,rfl⟩
 have hRl:R.length=(40-1)*2:=by rw [hR,qa0,Array.length_toList,size_madeCells,hl]
 rw [←hR,List.take_zero,qbf] at hcp
 obtain⟨W3,hW3⟩:∃W3,W3=W2.setRow w.heap.size (cs++R).toArray:=⟨_,rfl⟩
 rw [←hW3] at hcp
 have hr3:W3.heap[w.heap.size]? = some (.cells (reps 1 cs++R).toArray 46 (0,0)):=by
  rw [hW3,show reps 1 cs=cs by simp [reps]];exact setRow_heap _ _ _ _ _ _ hr2
 have hb3:Below w.heap.size w W3:=hW3▸below_setRow hb2 qN _
 have H3:=qH (qA hr3 hb3)
 have HC:=qH (qA hl h1)
 clear hcell hcell2 hr2 hb2 hR hr3 hb3 hW3 hW2
 go_enter Tryz.func33,Tryz.ntmps33
 go_wp2_with fail
 refine (Tryz.bits_Mul 1 40 (by decide) (by decide) _).mono ?_
 rintro e w1 ⟨rfl,rfl⟩
 rw [show ((1*40 / 18446744073709551616:Nat):Int)=0 by decide,show ((1*40 % 18446744073709551616:Nat):Int)=40 by decide]
 go_wp2_with fail
 clear hcp hmk
 go_loopw [8] (fun x8 W=>∃(k:Nat) (r:List Value),x8=.int .i64 k∧1≤k∧k≤40∧Hid (W.heap[w1.heap.size]? = some (.cells (reps k cs++r).toArray 46 (0,0))∧r.length=(40-k)*2)∧Hid (Below w1.heap.size w1 W)) (fun x8 _=>40-(intOf x8).toNat)
 case atStart=>exact⟨1,R,rfl,qah _,by decide,qH ⟨H3.out.1,hRl⟩,qH H3.out.2⟩
 case round =>
  obtain⟨k,r,rfl,hk1,hk2,hR2,hB⟩:=hrel
  by_cases hlt:k<40
  ·have hki:(k:Int)<40:=by omega
   have hk0:(0:Int)≤k:=by omega
   have hk40:(k:Int)≤40:=by omega
   have hkne:¬40=k:=by omega
   have hst:Below wr.heap.size wr wr.drew:=qB.drew
   go_wp2_with fail
   refine wp_region_held_drew (S:=fun W=>Below w1.heap.size w1 W) (by kernel_rfl) (hB.out.drew) (fun hS0=>?_)
   refine qbC 0 (v:=?_) rfl (by kernel_rfl) (fun _ _ _ h=>h) (by assumption) (by rfl) (fun w hSw=>?_) ?_
   rotate_left 1
   ·(try dsimp only at hSw);go_simp <;> with_reducible rfl
   try simp only [Act.put,qac,qae,qaf]
   refine qbC 1 (v:=?_) rfl (by kernel_rfl) (fun _ _ _ h=>h) (by assumption) (by rfl) (fun w hSw=>?_) ?_
   rotate_left 1
   ·(try dsimp only at hSw);go_simp <;> with_reducible rfl
   try simp only [Act.put,qac,qae,qaf]
   refine qbC 2 (v:=?_) rfl (by kernel_rfl) (fun _ _ _ h=>h) (by assumption) (by rfl) (fun w hSw=>?_) ?_
   rotate_left 1
   ·(try dsimp only at hSw);go_simp <;> with_reducible rfl
   try simp only [Act.put,qac,qae,qaf]
   refine qbC 3 (v:=?_) rfl (by kernel_rfl) (fun _ _ _ h=>h) (by assumption) (by rfl) (fun w hSw=>?_) ?_
   rotate_left 1
   ·(try dsimp only at hSw);go_simp <;> with_reducible rfl
   try simp only [Act.put,qac,qae,qaf]
   refine qbC 4 (v:=?_) rfl (by kernel_rfl) (fun _ _ _ h=>h) (by assumption) (by rfl) (fun w hSw=>?_) ?_
   rotate_left 1
   ·(try dsimp only at hSw);go_simp <;> with_reducible rfl
   try simp only [Act.put,qac,qae,qaf]
   refine qbC 5 (v:=?_) rfl (by kernel_rfl) (fun _ _ _ h=>h) (by assumption) (by rfl) (fun w hSw=>?_) ?_
   rotate_left 1
   ·(try dsimp only at hSw);go_simp <;> with_reducible rfl
   try simp only [Act.put,qac,qae,qaf]
   refine qbC 6 (v:=?_) rfl (by kernel_rfl) (fun _ _ _ h=>h) (by assumption) (by rfl) (fun w hSw=>?_) ?_
   rotate_left 1
   ·(try dsimp only at hSw);go_simp <;> with_reducible rfl
   try simp only [Act.put,qac,qae,qaf]
   refine qcd 7 rfl (by kernel_rfl) (fun K hK=>?_)
   obtain⟨n,hn⟩:∃n,Nat.min k (40-k)=n:=⟨_,rfl⟩
   have hnk:n≤k:=by rw [←hn];exact Nat.min_le_left _ _
   have hnk2:n≤40-k:=by rw [←hn];exact Nat.min_le_right _ _
   have hn1:1≤n:=by rw [←hn];exact Nat.le_min.2 ⟨hk1,by omega⟩
   have hfl:(reps k cs++r).length=40*2:=by rw [qag,qcy,HC.out.1,hR2.out.2];omega
   refine qeN rfl _ _ 23 rfl 46 2 w1.heap.size (k*2) 0 (40-k) (40-k) k 40 (reps k cs++r).toArray 46 (reps n cs) n Tryz.underlying23 (by kernel_rfl) ?cd ?cs hR2.out.1 hn (by rw [qcy,HC.out.1]) ?csrc (by rw [qcy,HC.out.1,List.size_toArray,hfl,←qaE];exact qaS _ (by omega)) (qhK n HC.out.2) ?_
   case cd=>first | rfl | (simp [Act.eval];try omega)
   case cs=>first | rfl | simp [Act.eval]
   case csrc =>
    intro j v hj
    rw [Addr.add_mid,qaW]
    have hjl:=(qa3.1 hj).1
    refine (cell_of_row _ _ j _ _ _ (show wr.drew.heap[w1.heap.size]? = _ from hR2.out.1)).trans ?_
    rw [qas,←hj,←qgN hnk cs r,HC.out.1,qa9 (by rw [qcy,HC.out.1] at hjl;exact hjl)]
   rw [qhL HC.out.1 hR2.out.2 hnk2]
   have hfin:(wr.drew.setRow w1.heap.size (reps (k+n) cs++r.drop (n*2)).toArray).heap[w1.heap.size]? = some (.cells (reps (k+n) cs++r.drop (n*2)).toArray 46 (0,0)):=setRow_heap _ _ _ _ _ _ (show wr.drew.heap[w1.heap.size]? = _ from hR2.out.1)
   have hrl:(r.drop (n*2)).length=(40-(k+n))*2:=by rw [qa0,hR2.out.2];omega
   have hnn:1≤n∧k+n≤40:=by omega
   have hkn1:(1:Int)≤n:=by omega
   have hkn2:(k:Int)+n≤40:=by omega
   have HN:=qH hnn
   have HFin:=qH (qA (qA hfin hrl) (below_setRow (B:=w1.heap.size) hB.out.drew qN (reps (k+n) cs++r.drop (n*2)).toArray))
   clear hfin hrl hfl hnn
   refine Way.on hK (fun W=>Below w1.heap.size w1 W) _ _ (fun W h=>h) (HFin.out.2) (fun hS0=>?_)
   clear hK K
   try simp only [Act.put,qac,qae,qaf]
   refine qbC 8 (v:=?_) rfl (by kernel_rfl) (fun _ _ _ h=>h) (by assumption) (by rfl) (fun w hSw=>?_) ?_
   rotate_left 1
   ·(try dsimp only at hSw);go_simp <;> with_reducible rfl
   try simp only [Act.put,qac,qae,qaf]
   rw [Go.IntWalk.i64_in ((k:Int)+n) (by omega),←Int.natCast_add]
   refine qbC 9 (v:=?_) rfl (by kernel_rfl) (fun _ _ _ h=>h) (by assumption) (by rfl) (fun w hSw=>?_) ?_
   rotate_left 1
   ·(try dsimp only at hSw);go_simp <;> with_reducible rfl
   try simp only [Act.put,qac,qae,qaf]
   refine wpAnyH_done (by kernel_rfl) ?_ _
   go_wp2_with fail
   go_roundw
   case rel=>exact⟨k+n,r.drop (n*2),by go_num,qak hk1 (Nat.le_add_right _ _),HN.out.2,qH HFin.out.1,qH HFin.out.2⟩
   case measure=>have:=HN.out;simp [intOf];omega
  ·obtain rfl:k=40:=by omega
   go_wp2_with fail
   go_ret
   have h:=hR2.out.1
   rw [show r=[] from List.eq_nil_of_length_eq_zero (by rw [hR2.out.2]),List.append_nil] at h
   exact⟨_,rfl,h,hB.out⟩
theorem qhd (b off c:Nat) (cs:List Value) (w:World) (hl:cs.length=1) (h1:∀v∈cs,v.oneCell'=true) (hcell:∀j v,cs[j]? = some v→w.cell? ((⟨b,off,none⟩:Addr).add j)=some v) :
  Calls Tryz.prog 31 #[.slice (some ⟨b,off,none⟩) 1 c,.int .i64 40] w fun e w'=>∃g,e=.returned (.slice (some ⟨g,0,none⟩) 40 40)∧w'.heap[g]? = some (.cells (reps 40 cs).toArray 23 (0,0))∧Below w.heap.size w w':=by
 obtain⟨W2,hW2⟩:∃W2,W2=w.alloc (.cells (madeCells #[.slice none 0 0] (40*1)) 23):=⟨_,rfl⟩
 have hmk:(Instr.makeSlice 22 (.int .i64 40) (.int .i64 40)).run Tryz.prog w=.ok (.slice (some ⟨w.heap.size,0,none⟩) 40 40) W2:=by
  obtain⟨i,hi,hz0,hz1,hz2⟩:=info_parts infoFs
  have h:=run_make (P:=Tryz.prog) w 22 23 i _ Tryz.underlying22 hi hz0 .i64 .i64 40 40 (by decide) (Int.le_refl _) (by rw [hz2];decide) (by decide)
  rw [hz1] at h
  rw [hW2];exact h
 have hr2:W2.heap[w.heap.size]? = some (.cells (madeCells #[.slice none 0 0] (40*1)) 23 (0,0)):=by rw [hW2];exact qM _ _ _ rfl
 have hb2:Below w.heap.size w W2:=hW2▸qbp qB qN
 have hcell2:∀j v,cs[j]? = some v→W2.cell? ((⟨b,off,none⟩:Addr).add j)=some v:=fun j v hj=>by
  have h:=hcell j v hj
  rw [Addr.add_mid] at h ⊢
  exact (hb2.cell (qad w _ h)).trans h
 have hcp:=qdx (P:=Tryz.prog) W2 22 22 3 23 1 w.heap.size 40 40 ⟨b,off,none⟩ 1 c _ 23 cs Tryz.underlying22 (by kernel_rfl) hr2 (by rw [hl];rfl) hcell2 (by rw [hl,size_madeCells];decide) h1
 obtain⟨R,hR⟩:∃R,R=((madeCells #[.slice none 0 0] (40*1):Array Value)).toList.drop (0+cs.length):=⟨_,rfl⟩
 have hRl:R.length=(40-1)*1:=by rw [hR,qa0,Array.length_toList,size_madeCells,hl]
 rw [←hR,List.take_zero,qbf] at hcp
 obtain⟨W3,hW3⟩:∃W3,W3=W2.setRow w.heap.size (cs++R).toArray:=⟨_,rfl⟩
 rw [←hW3] at hcp
 have hr3:W3.heap[w.heap.size]? = some (.cells (reps 1 cs++R).toArray 23 (0,0)):=by
  rw [hW3,show reps 1 cs=cs by simp [reps]];exact setRow_heap _ _ _ _ _ _ hr2
 have hb3:Below w.heap.size w W3:=hW3▸below_setRow hb2 qN _
 have H3:=qH (qA hr3 hb3)
 have HC:=qH (qA hl h1)
 clear hcell hcell2 hr2 hb2 hR hr3 hb3 hW3 hW2
 go_enter Tryz.func31,Tryz.ntmps31
 go_wp2_with fail
 refine (Tryz.bits_Mul 1 40 (by decide) (by decide) _).mono ?_
 rintro e w1 ⟨rfl,rfl⟩
 rw [show ((1*40 / 18446744073709551616:Nat):Int)=0 by decide,show ((1*40 % 18446744073709551616:Nat):Int)=40 by decide]
 go_wp2_with fail
 clear hcp hmk
 go_loopw [8] (fun x8 W=>∃(k:Nat) (r:List Value),x8=.int .i64 k∧1≤k∧k≤40∧Hid (W.heap[w1.heap.size]? = some (.cells (reps k cs++r).toArray 23 (0,0))∧r.length=(40-k)*1)∧Hid (Below w1.heap.size w1 W)) (fun x8 _=>40-(intOf x8).toNat)
 case atStart=>exact⟨1,R,rfl,qah _,by decide,qH ⟨H3.out.1,hRl⟩,qH H3.out.2⟩
 case round =>
  obtain⟨k,r,rfl,hk1,hk2,hR2,hB⟩:=hrel
  by_cases hlt:k<40
  ·have hki:(k:Int)<40:=by omega
   have hk0:(0:Int)≤k:=by omega
   have hk40:(k:Int)≤40:=by omega
   have hkne:¬40=k:=by omega
   have hst:Below wr.heap.size wr wr.drew:=qB.drew
   go_wp2_with fail
   refine wp_region_held_drew (S:=fun W=>Below w1.heap.size w1 W) (by kernel_rfl) (hB.out.drew) (fun hS0=>?_)
   refine qbC 0 (v:=?_) rfl (by kernel_rfl) (fun _ _ _ h=>h) (by assumption) (by rfl) (fun w hSw=>?_) ?_
   rotate_left 1
   ·(try dsimp only at hSw);go_simp <;> with_reducible rfl
   try simp only [Act.put,qac,qae,qaf]
   refine qbC 1 (v:=?_) rfl (by kernel_rfl) (fun _ _ _ h=>h) (by assumption) (by rfl) (fun w hSw=>?_) ?_
   rotate_left 1
   ·(try dsimp only at hSw);go_simp <;> with_reducible rfl
   try simp only [Act.put,qac,qae,qaf]
   refine qbC 2 (v:=?_) rfl (by kernel_rfl) (fun _ _ _ h=>h) (by assumption) (by rfl) (fun w hSw=>?_) ?_
   rotate_left 1
   ·(try dsimp only at hSw);go_simp <;> with_reducible rfl
   try simp only [Act.put,qac,qae,qaf]
   refine qbC 3 (v:=?_) rfl (by kernel_rfl) (fun _ _ _ h=>h) (by assumption) (by rfl) (fun w hSw=>?_) ?_
   rotate_left 1
   ·(try dsimp only at hSw);go_simp <;> with_reducible rfl
   try simp only [Act.put,qac,qae,qaf]
   refine qbC 4 (v:=?_) rfl (by kernel_rfl) (fun _ _ _ h=>h) (by assumption) (by rfl) (fun w hSw=>?_) ?_
   rotate_left 1
   ·(try dsimp only at hSw);go_simp <;> with_reducible rfl
   try simp only [Act.put,qac,qae,qaf]
   refine qbC 5 (v:=?_) rfl (by kernel_rfl) (fun _ _ _ h=>h) (by assumption) (by rfl) (fun w hSw=>?_) ?_
   rotate_left 1
   ·(try dsimp only at hSw);go_simp <;> with_reducible rfl
   try simp only [Act.put,qac,qae,qaf]
   refine qbC 6 (v:=?_) rfl (by kernel_rfl) (fun _ _ _ h=>h) (by assumption) (by rfl) (fun w hSw=>?_) ?_
   rotate_left 1
   ·(try dsimp only at hSw);go_simp <;> with_reducible rfl
   try simp only [Act.put,qac,qae,qaf]
   refine qcd 7 rfl (by kernel_rfl) (fun K hK=>?_)
   obtain⟨n,hn⟩:∃n,Nat.min k (40-k)=n:=⟨_,rfl⟩
   have hnk:n≤k:=by rw [←hn];exact Nat.min_le_left _ _
   have hnk2:n≤40-k:=by rw [←hn];exact Nat.min_le_right _ _
   have hn1:1≤n:=by rw [←hn];exact Nat.le_min.2 ⟨hk1,by omega⟩
   have hfl:(reps k cs++r).length=40*1:=by rw [qag,qcy,HC.out.1,hR2.out.2];omega
   refine qeN rfl _ _ 22 rfl 23 1 w1.heap.size (k*1) 0 (40-k) (40-k) k 40 (reps k cs++r).toArray 23 (reps n cs) n Tryz.underlying22 (by kernel_rfl) ?cd ?cs hR2.out.1 hn (by rw [qcy,HC.out.1]) ?csrc (by rw [qcy,HC.out.1,List.size_toArray,hfl,←qaE];exact qaS _ (by omega)) (qhK n HC.out.2) ?_
   case cd=>first | rfl | (simp [Act.eval];try omega)
   case cs=>first | rfl | simp [Act.eval]
   case csrc =>
    intro j v hj
    rw [Addr.add_mid,qaW]
    have hjl:=(qa3.1 hj).1
    refine (cell_of_row _ _ j _ _ _ (show wr.drew.heap[w1.heap.size]? = _ from hR2.out.1)).trans ?_
    rw [qas,←hj,←qgN hnk cs r,HC.out.1,qa9 (by rw [qcy,HC.out.1] at hjl;exact hjl)]
   rw [qhL HC.out.1 hR2.out.2 hnk2]
   have hfin:(wr.drew.setRow w1.heap.size (reps (k+n) cs++r.drop (n*1)).toArray).heap[w1.heap.size]? = some (.cells (reps (k+n) cs++r.drop (n*1)).toArray 23 (0,0)):=setRow_heap _ _ _ _ _ _ (show wr.drew.heap[w1.heap.size]? = _ from hR2.out.1)
   have hrl:(r.drop (n*1)).length=(40-(k+n))*1:=by rw [qa0,hR2.out.2];omega
   have hnn:1≤n∧k+n≤40:=by omega
   have hkn1:(1:Int)≤n:=by omega
   have hkn2:(k:Int)+n≤40:=by omega
   have HN:=qH hnn
   have HFin:=qH (qA (qA hfin hrl) (below_setRow (B:=w1.heap.size) hB.out.drew qN (reps (k+n) cs++r.drop (n*1)).toArray))
   clear hfin hrl hfl hnn
   refine Way.on hK (fun W=>Below w1.heap.size w1 W) _ _ (fun W h=>h) (HFin.out.2) (fun hS0=>?_)
   clear hK K
   try simp only [Act.put,qac,qae,qaf]
   refine qbC 8 (v:=?_) rfl (by kernel_rfl) (fun _ _ _ h=>h) (by assumption) (by rfl) (fun w hSw=>?_) ?_
   rotate_left 1
   ·(try dsimp only at hSw);go_simp <;> with_reducible rfl
   try simp only [Act.put,qac,qae,qaf]
   rw [Go.IntWalk.i64_in ((k:Int)+n) (by omega),←Int.natCast_add]
   refine qbC 9 (v:=?_) rfl (by kernel_rfl) (fun _ _ _ h=>h) (by assumption) (by rfl) (fun w hSw=>?_) ?_
   rotate_left 1
   ·(try dsimp only at hSw);go_simp <;> with_reducible rfl
   try simp only [Act.put,qac,qae,qaf]
   refine wpAnyH_done (by kernel_rfl) ?_ _
   go_wp2_with fail
   go_roundw
   case rel=>exact⟨k+n,r.drop (n*1),by go_num,qak hk1 (Nat.le_add_right _ _),HN.out.2,qH HFin.out.1,qH HFin.out.2⟩
   case measure=>have:=HN.out;simp [intOf];omega
  ·obtain rfl:k=40:=by omega
   go_wp2_with fail
   go_ret
   have h:=hR2.out.1
   rw [show r=[] from List.eq_nil_of_length_eq_zero (by rw [hR2.out.2]),List.append_nil] at h
   exact⟨_,rfl,h,hB.out⟩
theorem qfF (w:World):FCells w none 0 0 []:=⟨fun h=>absurd h (by decide),fun k h=>absurd h (by simp)⟩
theorem qeV:FAll []:=fun k h=>absurd h (by simp)
theorem qe6:¬FAll [fd0]:=fun h=>by
 have:=(h 0 (by decide)).vd.pos
 exact absurd this (by decide)
theorem qhg:¬TOk [[fd0]]:=fun h=>qe6 (h.rows 0 (by decide)).2
theorem tab_nil:¬TOk []:=fun h=>absurd h.r1 (by decide)
theorem one_ok:TOk (ttab 1 1 (fm [[(1:Rat)]])):=qc2 (by decide) (by decide) (by decide) (by decide) (qby (by decide +kernel))
theorem qet:FAll (told 1 (fv [(1:Rat)])):=qb7 (qbr (by decide +kernel))
theorem qhp {ao:Option Addr} {g R c:Nat} {t:Tbl} {w:World} (hR:t.length=R) (hl:R≤1000) (hw:∀k,k<R→(t.getD k []).length≤1000) (hT:TCells w ao g 0 t) (hn:TOk t) :
  Calls Tryz.prog 12 #[.slice ao R c] w fun e w'=>e=.returned (.int .i64 0)∧Below w.heap.size w w':=by
 refine (qd1 ao g 0 R c t w hR (by omega) (fun k hk=>qak (hw k hk) (by decide)) hT).mono ?_
 rintro e w' ⟨c,rfl,h,hb⟩
 rcases h with h | h
 ·first | exact⟨by rw [h.1],hb⟩ | exact⟨by rw [h.2],hb⟩
 ·first | exact absurd hn h.2 | exact absurd hn h.1
section
variable {ao:Option Addr} {g R c:Nat} {ao2:Option Addr} {g2 n2 c2:Nat} {ao3:Option Addr} {g3 n3 c3:Nat} {ao4:Option Addr} {g4 n4 c4:Nat} {t:Tbl} {bl wl xl:List FT} {w:World}
theorem rank_60 (hR:t.length=R) (hl:R≤1000) (hw:∀k,k<R→(t.getD k []).length≤1000) (hT:TCells w ao g 0 t) (hn:¬TOk t) :
  Calls Tryz.prog 16 #[.slice ao R c] w fun e w'=>e=.returned (.tuple #[.int .i64 0,.int .i64 60])∧Below w.heap.size w w':=by
 refine (qgK ao g 0 R c t w hR (by omega) (fun k hk=>qak (hw k hk) (by decide)) hT).mono ?_
 rintro e w' ⟨h,hb⟩
 rcases h with h | h
 ·exact absurd h.1 hn
 ·exact⟨h.2,hb⟩
theorem solve_60 (hR:t.length=R) (hl:R≤1000) (hw:∀k,k<R→(t.getD k []).length≤1000) (hT:TCells w ao g 0 t) (h2:bl.length=n2) (hl2:n2≤1000) (hF:FCells w ao2 g2 0 bl) (hP:HasT w) (hn:¬TOk t) :
  Calls Tryz.prog 18 #[.slice ao R c,.slice ao2 n2 c2] w fun e w'=>e=.returned (.tuple #[.slice none 0 0,.int .i64 60])∧Below w.heap.size w w':=by
 refine (qdg ao g 0 R c t ao2 g2 0 n2 c2 bl w hR (by omega) (fun k hk=>qak (hw k hk) (by decide)) hT h2 (by omega) hF hP).mono ?_
 rintro e w' ⟨h,hb⟩
 rcases h with h | h | h | h
 ·exact⟨h.2,hb⟩
 all_goals exact absurd h.1 hn
theorem solve_20 (hR:t.length=R) (hl:R≤1000) (hw:∀k,k<R→(t.getD k []).length≤1000) (hT:TCells w ao g 0 t) (h2:bl.length=n2) (hl2:n2≤1000) (hF:FCells w ao2 g2 0 bl) (hP:HasT w) (hn:TOk t) (hb2:¬FAll bl) :
  Calls Tryz.prog 18 #[.slice ao R c,.slice ao2 n2 c2] w fun e w'=>e=.returned (.tuple #[.slice none 0 0,.int .i64 20])∧Below w.heap.size w w':=by
 refine (qdg ao g 0 R c t ao2 g2 0 n2 c2 bl w hR (by omega) (fun k hk=>qak (hw k hk) (by decide)) hT h2 (by omega) hF hP).mono ?_
 rintro e w' ⟨h,hb⟩
 rcases h with h | h | h | h
 ·exact absurd hn h.1
 ·exact⟨h.2.2,hb⟩
 all_goals exact absurd h.2.1 hb2
theorem qjs (hR:t.length=R) (hl:R≤1000) (hw:∀k,k<R→(t.getD k []).length≤1000) (hT:TCells w ao g 0 t) (h2:bl.length=n2) (hl2:n2≤1000) (hF:FCells w ao2 g2 0 bl) (hP:HasT w) (hn:TOk t) (hb2:FAll bl) (hne:¬(bl.length=t.length∧t.length=wid t)) :
  Calls Tryz.prog 18 #[.slice ao R c,.slice ao2 n2 c2] w fun e w'=>e=.returned (.tuple #[.slice none 0 0,.int .i64 2])∧Below w.heap.size w w':=by
 refine (qdg ao g 0 R c t ao2 g2 0 n2 c2 bl w hR (by omega) (fun k hk=>qak (hw k hk) (by decide)) hT h2 (by omega) hF hP).mono ?_
 rintro e w' ⟨h,hb⟩
 rcases h with h | h | h | h
 ·exact absurd hn h.1
 ·exact absurd hb2 h.2.1
 ·exact⟨h.2.2.2,hb⟩
 ·exact absurd ⟨h.2.2.1,h.2.2.2.1⟩ hne
theorem qhB (hR:t.length=R) (hl:R≤1000) (hw:∀k,k<R→(t.getD k []).length≤1000) (hT:TCells w ao g 0 t) (h2:bl.length=n2) (hl2:n2≤1000) (hF:FCells w ao2 g2 0 bl) (h3:wl.length=n3) (hl3:n3≤1000) (hF3:FCells w ao3 g3 0 wl) (hP:HasT w) (hn:TOk t) (hne:¬(FAll bl∧FAll wl)) :
  Calls Tryz.prog 22 #[.slice ao R c,.slice ao2 n2 c2,.slice ao3 n3 c3] w fun e w'=>e=.returned (.tuple #[.slice none 0 0,.int .i64 20])∧Below w.heap.size w w':=by
 refine (qev ao g 0 R c t ao2 g2 0 n2 c2 bl ao3 g3 0 n3 c3 wl w hR (by omega) (fun k hk=>qak (hw k hk) (by decide)) hT h2 (by omega) hF h3 (by omega) hF3 hP).mono ?_
 rintro e w' ⟨h,hb⟩
 rcases h with h | h | h | h
 ·exact absurd hn h.1
 ·exact⟨h.2.2,hb⟩
 ·exact absurd ⟨h.2.1,h.2.2.1⟩ hne
 ·exact absurd ⟨h.2.1,h.2.2.1⟩ hne
theorem qha (hR:t.length=R) (hl:R≤1000) (hw:∀k,k<R→(t.getD k []).length≤1000) (hT:TCells w ao g 0 t) (h2:bl.length=n2) (hl2:n2≤1000) (hF:FCells w ao2 g2 0 bl) (h3:wl.length=n3) (hl3:n3≤1000) (hF3:FCells w ao3 g3 0 wl) (hP:HasT w) (hn:TOk t) (hb2:FAll bl) (hw2:FAll wl) (hne:¬(bl.length=t.length∧wl.length=t.length∧¬Neg wl)) :
  Calls Tryz.prog 22 #[.slice ao R c,.slice ao2 n2 c2,.slice ao3 n3 c3] w fun e w'=>e=.returned (.tuple #[.slice none 0 0,.int .i64 2])∧Below w.heap.size w w':=by
 refine (qev ao g 0 R c t ao2 g2 0 n2 c2 bl ao3 g3 0 n3 c3 wl w hR (by omega) (fun k hk=>qak (hw k hk) (by decide)) hT h2 (by omega) hF h3 (by omega) hF3 hP).mono ?_
 rintro e w' ⟨h,hb⟩
 rcases h with h | h | h | h
 ·exact absurd hn h.1
 ·exact absurd ⟨hb2,hw2⟩ h.2.1
 ·exact⟨h.2.2.2.2,hb⟩
 ·exact absurd ⟨h.2.2.2.1,h.2.2.2.2.1,h.2.2.2.2.2.1⟩ hne
theorem meas_60 (hR:t.length=R) (hl:R≤1000) (hw:∀k,k<R→(t.getD k []).length≤1000) (hT:TCells w ao g 0 t) (h2:bl.length=n2) (hl2:n2≤1000) (hF:FCells w ao2 g2 0 bl) (h3:wl.length=n3) (hl3:n3≤1000) (hF3:FCells w ao3 g3 0 wl) (h4:xl.length=n4) (hl4:n4≤1000) (hF4:FCells w ao4 g4 0 xl) (hP:HasT w) (hn:¬TOk t) :
  Calls Tryz.prog 24 #[.slice ao R c,.slice ao2 n2 c2,.slice ao3 n3 c3,.slice ao4 n4 c4] w fun e w'=>e=.returned (.tuple #[.agg #[.string ⟨#[]⟩,.string ⟨#[]⟩],.int .i64 60])∧Below w.heap.size w w':=by
 refine (qcI ao g 0 R c t ao2 g2 0 n2 c2 bl ao3 g3 0 n3 c3 wl ao4 g4 0 n4 c4 xl w hR (by omega) (fun k hk=>qak (hw k hk) (by decide)) hT h2 (by omega) hF h3 (by omega) hF3 h4 (by omega) hF4 hP).mono ?_
 rintro e w' ⟨h,hb⟩
 rcases h with h | h | h | h
 ·exact⟨h.2,hb⟩
 all_goals exact absurd h.1 hn
theorem meas_20 (hR:t.length=R) (hl:R≤1000) (hw:∀k,k<R→(t.getD k []).length≤1000) (hT:TCells w ao g 0 t) (h2:bl.length=n2) (hl2:n2≤1000) (hF:FCells w ao2 g2 0 bl) (h3:wl.length=n3) (hl3:n3≤1000) (hF3:FCells w ao3 g3 0 wl) (h4:xl.length=n4) (hl4:n4≤1000) (hF4:FCells w ao4 g4 0 xl) (hP:HasT w) (hn:TOk t) (hne:¬(FAll bl∧FAll wl∧FAll xl)) :
  Calls Tryz.prog 24 #[.slice ao R c,.slice ao2 n2 c2,.slice ao3 n3 c3,.slice ao4 n4 c4] w fun e w'=>e=.returned (.tuple #[.agg #[.string ⟨#[]⟩,.string ⟨#[]⟩],.int .i64 20])∧Below w.heap.size w w':=by
 refine (qcI ao g 0 R c t ao2 g2 0 n2 c2 bl ao3 g3 0 n3 c3 wl ao4 g4 0 n4 c4 xl w hR (by omega) (fun k hk=>qak (hw k hk) (by decide)) hT h2 (by omega) hF h3 (by omega) hF3 h4 (by omega) hF4 hP).mono ?_
 rintro e w' ⟨h,hb⟩
 rcases h with h | h | h | h
 ·exact absurd hn h.1
 ·exact⟨h.2.2,hb⟩
 ·exact absurd ⟨h.2.1,h.2.2.1,h.2.2.2.1⟩ hne
 ·exact absurd ⟨h.2.1,h.2.2.1,h.2.2.2.1⟩ hne
theorem meas_2 (hR:t.length=R) (hl:R≤1000) (hw:∀k,k<R→(t.getD k []).length≤1000) (hT:TCells w ao g 0 t) (h2:bl.length=n2) (hl2:n2≤1000) (hF:FCells w ao2 g2 0 bl) (h3:wl.length=n3) (hl3:n3≤1000) (hF3:FCells w ao3 g3 0 wl) (h4:xl.length=n4) (hl4:n4≤1000) (hF4:FCells w ao4 g4 0 xl) (hP:HasT w) (hn:TOk t) (hb2:FAll bl) (hw2:FAll wl) (hx2:FAll xl) (hne:¬(bl.length=t.length∧wl.length=t.length∧xl.length=wid t∧¬Neg wl)) :
  Calls Tryz.prog 24 #[.slice ao R c,.slice ao2 n2 c2,.slice ao3 n3 c3,.slice ao4 n4 c4] w fun e w'=>e=.returned (.tuple #[.agg #[.string ⟨#[]⟩,.string ⟨#[]⟩],.int .i64 2])∧Below w.heap.size w w':=by
 refine (qcI ao g 0 R c t ao2 g2 0 n2 c2 bl ao3 g3 0 n3 c3 wl ao4 g4 0 n4 c4 xl w hR (by omega) (fun k hk=>qak (hw k hk) (by decide)) hT h2 (by omega) hF h3 (by omega) hF3 h4 (by omega) hF4 hP).mono ?_
 rintro e w' ⟨h,hb⟩
 rcases h with h | h | h | h
 ·exact absurd hn h.1
 ·exact absurd ⟨hb2,hw2,hx2⟩ h.2.1
 ·exact⟨h.2.2.2.2.2,hb⟩
 ·exact absurd ⟨h.2.2.2.2.1,h.2.2.2.2.2.1,h.2.2.2.2.2.2.1,h.2.2.2.2.2.2.2.1⟩ hne
end
theorem neg_m1:Neg (told 1 (fv [(-1:Rat)])):=⟨0,by rw [qbo];decide,by rw [qdG (by decide),show (ftxt (fv [(-1:Rat)] 0)).1.data.toList=itxt (fv [(-1:Rat)] 0).num from rfl,qcH];decide +kernel⟩
theorem qeM (l:List UInt8):∀c,Lib.repeatL l c++l=Lib.repeatL l (c+1)
 | 0=>by simp [Lib.repeatL]
 | c+1=>by
  show (l++Lib.repeatL l c)++l=l++Lib.repeatL l (c+1)
  rw [qaH,qeM l c]
theorem qeJ:∀k,Lib.decDigits (10 ^ (k+1)-1)=Lib.repeatL [57] (k+1)
 | 0=>by rw [qbx (by decide)];rfl
 | k+1=>by
  have hp:0<10 ^ k:=Nat.pow_pos (by decide)
  have e:10 ^ (k+1+1)-1=10*(10 ^ (k+1)-1)+9:=by rw [qaz 10 (k+1),qaz];omega
  rw [qbM (by rw [e,qaz];omega),e,show (10*(10 ^ (k+1)-1)+9) / 10=10 ^ (k+1)-1 by omega,show (10*(10 ^ (k+1)-1)+9) % 10=9 by omega,qeJ k]
  exact qeM [57] (k+1)
def n9:Nat:=10 ^ (599+1)-1
def s9:ByteArray:=⟨(Lib.repeatL [57] 600).toArray⟩
theorem num_n9:num n9=s9:=by unfold num n9 s9;rw [qeJ 599]
def q9:Rat:=((n9:Int):Rat)
theorem q9_num:q9.num=n9:=rfl
theorem q9_den:q9.den=1:=rfl
theorem wtxt_n9:frac.wtxt (n9:Int)=num n9:=by
 unfold frac.wtxt itxt num
 rw [if_neg (Int.not_lt.2 (Int.natCast_nonneg n9)),qax]
theorem ft_q9:ftxt q9=(s9,⟨#[49]⟩):=by
 unfold ftxt
 rw [q9_num,q9_den,qfi (by decide),wtxt_n9,num_n9]
 rfl
theorem qgi:Short q9:=⟨qcw (by decide) (by rw [q9_num];decide +kernel),qcw (by decide) (by rw [q9_den];decide +kernel)⟩
def i9:Rat:=1 / q9
theorem ft_i9:ftxt i9=(⟨#[49]⟩,s9):=by
 have h:i9.num=1∧i9.den=n9:=by decide +kernel
 unfold ftxt
 rw [h.1,h.2,num_n9]
 congr 1
 show (⟨(itxt 1).toArray⟩:ByteArray)=_
 unfold itxt
 rw [if_neg (by decide),show (1:Int).natAbs=1 from rfl,qbx (by decide)]
 rfl
theorem short_i9:Short i9:=by
 have h:i9.num=1∧i9.den=n9:=by decide +kernel
 exact⟨qcw (by decide) (by rw [h.1];decide +kernel),qcw (by decide) (by rw [h.2];decide +kernel)⟩
theorem qi3 {q:Rat} (h:10 ^ 600≤q.num.natAbs):¬Short q:=fun hs=>by
 have h1:=hs.1
 rw [qdL] at h1
 have:=qdw 600 _ h
 omega
def qcq (W:World) (vs:List Value) (t:Tbl):Prop:=vs.length=t.length∧∀k,k<t.length→∃(ra:Option Addr) (rb ro rc:Nat),vs.getD k undef=.slice ra (t.getD k []).length rc∧FCells W ra rb ro (t.getD k [])
theorem qcq.below {W W':World} {vs:List Value} {t:Tbl} (h:qcq W vs t) (hb:Below W.heap.size W W'):qcq W' vs t :=
 ⟨h.1,fun k hk=>by
  obtain⟨ra,rb,ro,rc,h1,h2⟩:=h.2 k hk
  exact⟨ra,rb,ro,rc,h1,h2.below hb⟩⟩
theorem TCells.vals {W:World} {ao:Option Addr} {b off:Nat} {t:Tbl} (h:TCells W ao b off t):∃vs,qcq W vs t∧VCells W ao b off vs:=by
 refine⟨(List.range t.length).map fun k=>(W.cell? ⟨b,off+k,none⟩).getD undef,⟨by rw [qaF,List.length_range],fun k hk=>?_⟩,⟨fun h0=>h.addr (by rw [qaF,List.length_range] at h0;exact h0),fun k hk=>?_⟩⟩
 ·obtain⟨ra,rb,ro,rc,h1,h2⟩:=h.row k hk
  refine⟨ra,rb,ro,rc,?_,h2⟩
  rw [qaa,qaO,qbh hk]
  show (W.cell? ⟨b,off+k,none⟩).getD undef=_
  rw [h1];rfl
 ·rw [qaF,List.length_range] at hk
  obtain⟨ra,rb,ro,rc,h1,h2⟩:=h.row k hk
  rw [qaa,qaO,qbh hk,h1]
  show _=some ((W.cell? ⟨b,off+k,none⟩).getD undef)
  rw [h1];rfl
theorem qcq.tcells {W:World} {ao:Option Addr} {b off:Nat} {vs:List Value} {t:Tbl} (h:qcq W vs t) (hv:VCells W ao b off vs):TCells W ao b off t :=
 ⟨fun h0=>hv.addr (by rw [h.1];exact h0),fun k hk=>by
  obtain⟨ra,rb,ro,rc,h1,h2⟩:=h.2 k hk
  exact⟨ra,rb,ro,rc,by rw [←h1];exact hv.cell k (by rw [h.1];exact hk),h2⟩⟩
theorem qcq.append {W:World} {vs vs2:List Value} {t t2:Tbl} (h:qcq W vs t) (h2:qcq W vs2 t2):qcq W (vs++vs2) (t++t2):=by
 refine⟨by rw [qag,qag,h.1,h2.1],fun k hk=>?_⟩
 rw [qag] at hk
 by_cases e:k<t.length
 ·have e1:(vs++vs2).getD k undef=vs.getD k undef:=by rw [qaa,qaL (by rw [h.1];exact e),←qaa]
  have e2:(t++t2).getD k []=t.getD k []:=by rw [qaa,qaL e,←qaa]
  rw [e1,e2];exact h.2 k e
 ·have e1:(vs++vs2).getD k undef=vs2.getD (k-t.length) undef:=by rw [qaa,qay (by rw [h.1];omega),h.1,←qaa]
  have e2:(t++t2).getD k []=t2.getD (k-t.length) []:=by rw [qaa,qay (by omega),←qaa]
  rw [e1,e2];exact h2.2 _ (by omega)
theorem qcq.one {W:World} {ra:Option Addr} {rb ro m rc:Nat} {l:List FT} (hl:l.length=m) (h:FCells W ra rb ro l):qcq W [.slice ra m rc] [l] :=
 ⟨rfl,fun k hk=>by
  obtain rfl:k=0:=by simp at hk;omega
  exact⟨ra,rb,ro,rc,by rw [show ([l]:Tbl).getD 0 []=l from rfl,hl];rfl,h⟩⟩
section
variable {w:World} {ops:Array Oper} {rest:List Oper} {o:Oper} {a:Act} {K:Act→World→Prop} {Q:Exit→Act→World→Prop} {E:Prop}
end
end Go.Proofs.YtfminfgabiipjaaGreatDoor
