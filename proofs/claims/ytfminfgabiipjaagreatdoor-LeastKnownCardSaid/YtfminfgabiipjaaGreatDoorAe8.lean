/- Ae, part 8: Tab Int Rat -/
import Derived.Lib.AppendIntMem
import Derived.Test.YtfminfgabiipjaaGreatDoorAe0
import Derived.Test.YtfminfgabiipjaaGreatDoorAe2
import Derived.Test.YtfminfgabiipjaaGreatDoorAe5
import Derived.Test.YtfminfgabiipjaaGreatDoorAe6
import Derived.Test.YtfminfgabiipjaaGreatDoorAe7
set_option maxRecDepth 100000
set_option maxHeartbeats 16000000
namespace Go.Proofs.YtfminfgabiipjaaGreatDoor
open Go.RowKit
def HasT (w:World):Prop:=Lib.TabIs Tryz.prog w "internal/strconv.uint64pow10" .u64 Lib.pow10Tab
theorem HasT.below {w w':World} (h:HasT w) (hb:Below w.heap.size w w'):HasT w':=Lib.tabBelow_of_tabIs h w' hb
def num (x:Nat):ByteArray:=⟨(Lib.decDigits x).toArray⟩
theorem qdL (x:Nat):(num x).size=(Lib.decDigits x).length:=rfl
theorem qhy (n:Nat) (hn:n<9223372036854775808) (w:World) (hT:HasT w) :
  Calls Tryz.prog 162 #[.int .i64 (n:Int)] w fun e w'=>e=.returned (.string (num n))∧Below w.heap.size w w':=by
 refine (Tryz.strconv_Itoa (n:Int) (by omega) (by omega) w hT).mono ?_
 rintro e w' ⟨rfl,k,os,rfl⟩
 refine⟨?_,Lib.below_grow _ _ qN _ _⟩
 have:Lib.itoa (n:Int)=Lib.decDigits n:=by
  unfold Lib.itoa;rw [if_neg (by omega),Int.toNat_natCast]
 rw [this];rfl
theorem qho {B b:Nat} {p:Value} {bs:List Value} {w w':World} (h:Bd B b p bs w) (hb:Below w.heap.size w w'):Bd B b p bs w':=by
 obtain⟨h1,v,h2,h3,h4⟩:=h
 have hlt:=(qG h2).1
 have hg:w.grownBy w' none:=⟨hb.os,hb.tape,hb.output,hb.size,fun k hk _=>hb.block k hk⟩
 refine⟨h1,v,(hb.block b hlt).trans h2,h3.kept hg ?_,h4⟩
 cases v.ownBlock with
 | none=>exact qaJ rfl
 | some k=>exact qaA (by simp)
theorem qh9 {B b:Nat} {bs:List Value} {w w':World} (h:IsBd B b bs w) (hb:Below w.heap.size w w'):IsBd B b bs w':=h.elim (fun h=>.inl (qho h hb)) (fun h=>.inr (qho h hb))
end Go.Proofs.YtfminfgabiipjaaGreatDoor
namespace Go.Proofs.YtfminfgabiipjaaGreatDoor
open Go.RowKit Go.Lib
def body (s:List UInt8):List UInt8:=trimPrefix s [45]
def signd (s:List UInt8):Bool:=hasPrefix s [45]
theorem qf2 (s:List UInt8):body (45 :: s)=s∧signd (45 :: s)=true:=⟨rfl,rfl⟩
theorem qf3 {s:List UInt8} (h:s.head?≠some 45):body s=s∧signd s=false:=by
 cases s with
 | nil=>exact⟨rfl,rfl⟩
 | cons c t =>
  have hc:c≠45:=fun e=>h (by rw [e];rfl)
  have hp:hasPrefix (c :: t) [45]=false:=by
   show (45 == c && _)=false
   rw [beq_eq_false_iff_ne.2 (Ne.symm hc)];rfl
  refine⟨?_,hp⟩
  show trimPrefix (c :: t) [45]=c :: t
  unfold trimPrefix
  rw [hp];rfl
structure Valid (s:List UInt8):Prop where
 nums:Nums (body s)
 pos:0<(body s).length
 le:(body s).length≤600
 lead:(body s).head? = some 48→(body s).length=1∧signd s=false
def ival (s:List UInt8):Int:=if signd s=true then -(dval (body s):Int) else dval (body s)
theorem Valid.plainly {s:List UInt8} (h:Valid s):qgY (body s):=⟨fun e=>by have:=h.pos;rw [e] at this;exact absurd this (by simp),h.nums,fun e=>(h.lead e).1⟩
theorem Valid.natAbs {s:List UInt8} (_h:Valid s):(ival s).natAbs=dval (body s):=by
 unfold ival;split
 ·rw [Int.natAbs_neg,qax]
 ·rw [qax]
theorem Valid.neg {s:List UInt8} (h:Valid s):decide (ival s<0)=signd s:=by
 unfold ival
 cases hs:signd s with
 | false=>rw [if_neg (by simp)];exact decide_eq_false (by omega)
 | true =>
  rw [if_pos rfl]
  refine decide_eq_true ?_
  rcases qaI (dval (body s)) with h0 | h0
  ·have h1:=qfO _ h.plainly
   rw [h0,qbx (by decide)] at h1
   have:=(h.lead (by rw [h1];rfl)).2
   rw [hs] at this;cases this
  ·omega
theorem qh0 {v n k:Nat} (h:v<10 ^ n) (hn:n≤9*k):Fit v k:=by
 unfold Fit;rw [pow9]
 exact qal h (qa6 (by decide) hn)
theorem Valid.fit {s:List UInt8} (h:Valid s):Fit (ival s).natAbs 67:=by
 rw [h.natAbs]
 exact qh0 (qiH _ _ rfl h.nums) (by have:=h.le;omega)
def itxt (z:Int):List UInt8:=if z<0 then 45 :: decDigits z.natAbs else decDigits z.natAbs
theorem qeP (u:Nat):(decDigits u).head?≠some 45:=by
 cases h:decDigits u with
 | nil=>exact absurd h (qcT u)
 | cons c t =>
  intro e
  have hc:c=45:=qam e
  have:=qdQ u c (by rw [h];exact List.mem_cons_self)
  rw [hc] at this
  have h45:(45:UInt8).toNat=45:=rfl
  omega
theorem qe7 (z:Int):body (itxt z)=decDigits z.natAbs∧signd (itxt z)=decide (z<0):=by
 unfold itxt
 by_cases h:z<0
 ·rw [if_pos h,decide_eq_true h];exact qf2 _
 ·rw [if_neg h,decide_eq_false h];exact qf3 (qeP _)
theorem qcH (z:Int):ival (itxt z)=z:=by
 unfold ival
 rw [(qe7 z).1,(qe7 z).2,qfz]
 by_cases h:z<0
 ·rw [if_pos (decide_eq_true h)];omega
 ·rw [if_neg (by rw [decide_eq_false h];simp)];omega
theorem qfT {z:Int} (h:(decDigits z.natAbs).length≤600):Valid (itxt z):=by
 obtain⟨h1,h2⟩:=qe7 z
 refine⟨by rw [h1];exact qdQ _,by rw [h1];exact List.length_pos_iff.2 (qcT _),by rw [h1];exact h,fun e=>?_⟩
 rw [h1] at e
 have h0:=qfy _ e
 rw [h1,h2,h0,qbx (by decide)]
 exact⟨rfl,decide_eq_false (by omega)⟩
theorem Valid.eq {s:List UInt8} (h:Valid s):s=itxt (ival s):=by
 have h1:=qfO _ h.plainly
 have h2:=h.natAbs
 have h3:=h.neg
 unfold itxt
 rw [h2,←h1]
 by_cases hs:s.head? = some 45
 ·obtain⟨t,rfl⟩:∃t,s=45 :: t:=by
   cases s with
   | nil=>cases hs
   | cons c t=>exact⟨t,by rw [qam hs]⟩
  rw [(qf2 t).2] at h3
  rw [if_pos (of_decide_eq_true h3),(qf2 t).1]
 ·rw [(qf3 hs).2] at h3
  rw [if_neg (of_decide_eq_false h3),(qf3 hs).1]
theorem isM_ne {W:World} {ao:Option Addr} {b off c n g:Nat} {L:List Nat} {cs:Array Value} {t:TypeId} {fz:Nat×Nat} (h:IsM W ao b off c n L) (hg:W.heap[g]? = some (.cells cs t fz)) (hne:∀x∈cs.toList,∀d,x≠.int .u32 d) (h0:0<n):b≠g:=by
 rintro rfl
 have h1:=h.cell 0 h0
 unfold World.cell? at h1
 simp only [hg] at h1
 have h2:cs[off+0]? = some (.int .u32 ((dg L 0:Nat):Int)):=by
  simpa using h1
 exact hne _ (by rw [Array.mem_toList_iff];exact Array.mem_of_getElem? h2) _ rfl
theorem qhf (W:World) (g:Nat) (cs:Array Value):W.grownBy (W.setRow g cs) (some g):=by
 refine⟨rfl,rfl,rfl,by simp [World.setRow],fun k hk hr=>?_⟩
 exact setRow_other _ _ _ _ (fun e=>hr (by rw [e]))
theorem qb2 {W W':World} {v:Value} {x g:Nat} {cs:Array Value} {t:TypeId} {fz:Nat×Nat} (h:MagAt W v x) (hk:W.grownBy W' (some g)) (hg:W.heap[g]? = some (.cells cs t fz)) (hne:∀x∈cs.toList,∀d,x≠.int .u32 d):MagAt W' v x:=by
 obtain⟨ao,b,off,c,n,L,rfl,h1,h2⟩:=h
 exact⟨ao,b,off,c,n,L,rfl,⟨h1.len,h1.cap,qfI hk h1.cells (fun h0=>isM_ne h1 hg hne (by rw [←h1.len];exact h0)),h1.dig,h1.nrm⟩,h2⟩
theorem qdb {W:World} {v:Value} {x g:Nat} {cs cs':Array Value} {t:TypeId} {fz:Nat×Nat} (h:MagAt W v x) (hg:W.heap[g]? = some (.cells cs t fz)) (hne:∀x∈cs.toList,∀d,x≠.int .u32 d):MagAt (W.setRow g cs') v x:=qb2 h (qhf W g cs') hg hne
theorem qdv:∀x∈(#[.slice none 0 0,.bool false]:Array Value).toList,∀d,x≠.int .u32 d:=by
 intro x hx d
 rcases qaN.1 hx with rfl | hx
 ·intro h;cases h
 ·rw [qao.1 hx];intro h;cases h
def IntAt (W:World) (v:Value) (z:Int):Prop:=∃m,v=.agg #[m,.bool (decide (z<0))]∧MagAt W m z.natAbs
theorem IntAt.below {W W':World} {v:Value} {z:Int} (h:IntAt W v z) (hb:Below W.heap.size W W'):IntAt W' v z:=by
 obtain⟨m,h1,h2⟩:=h
 exact⟨m,h1,h2.below hb⟩
theorem qim {W:World} {m:Value} {x:Nat} {neg:Bool} (h:MagAt W m x):IntAt W (.agg #[m,.bool (neg && !decide (x=0))]) (if neg=true then -(x:Int) else x):=by
 have hb:(neg && !decide (x=0))=decide ((if neg=true then -(x:Int) else x)<0):=by
  cases neg with
  | false=>rw [Bool.false_and,if_neg (by simp)];exact (decide_eq_false (by omega)).symm
  | true =>
   rw [if_pos rfl,Bool.true_and]
   by_cases h0:x=0
   ·rw [decide_eq_true h0];exact (decide_eq_false (by omega)).symm
   ·rw [decide_eq_false h0];exact (decide_eq_true (by omega)).symm
 rw [hb]
 refine⟨m,rfl,?_⟩
 ·cases neg with
  | false=>simpa using h
  | true=>rw [if_pos rfl,Int.natAbs_neg,qax];exact h
end Go.Proofs.YtfminfgabiipjaaGreatDoor
namespace Go.Proofs.YtfminfgabiipjaaGreatDoor
theorem rat_mk {z N:Int} {d D:Nat} (hd:d≠0) (hc:z.natAbs.Coprime d) (hD:D≠0) (h:z*D=N*d) {q:Rat} (hq:q=mkRat N D):q.num=z∧q.den=d:=by
 have e:q=(⟨z,d,hd,hc⟩:Rat):=by
  rw [hq,Rat.mk_eq_mkRat]
  exact ((Rat.mkRat_eq_iff hd hD).2 h).symm
 rw [e];exact⟨rfl,rfl⟩
end Go.Proofs.YtfminfgabiipjaaGreatDoor
