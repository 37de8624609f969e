import Derived.Test.YtplkdeknjghobaaGreatDoorBa17
set_option maxRecDepth 100000
set_option maxHeartbeats 0
namespace Go.Proofs.YtplkdeknjghobaaGreatDoor
open Go.RowKit
def qjQ (w:World) (t:Tbl) (bl wl xl:List FT) (e:Ending) (w':World):Prop :=
  ((¬TOk t∧e=.returned (.tuple #[.agg #[.string ⟨#[]⟩,.string ⟨#[]⟩],.int .i64 60])) ∨
   (TOk t∧¬(FAll bl∧FAll wl∧FAll xl)∧e=.returned (.tuple #[.agg #[.string ⟨#[]⟩,.string ⟨#[]⟩],.int .i64 20])) ∨
   (TOk t∧FAll bl∧FAll wl∧FAll xl∧¬(bl.length=t.length∧wl.length=t.length∧xl.length=wid t∧¬Neg wl)∧e=.returned (.tuple #[.agg #[.string ⟨#[]⟩,.string ⟨#[]⟩],.int .i64 2])) ∨
   (TOk t∧FAll bl∧FAll wl∧FAll xl∧bl.length=t.length∧wl.length=t.length∧xl.length=wid t∧¬Neg wl ∧
     (Short (measQ t bl wl xl (wid t) t.length)∧e=.returned (.tuple #[fstr (measQ t bl wl xl (wid t) t.length),.int .i64 0]) ∨
      ¬Short (measQ t bl wl xl (wid t) t.length)∧e=.returned (.tuple #[.agg #[.string ⟨#[]⟩,.string ⟨#[]⟩],.int .i64 6]))))∧Below w.heap.size w w'
theorem qjL {W:World} {ao:Option Addr} {b off n c:Nat} {l:List FT} {ao2:Option Addr} {b2 off2 n2 c2:Nat} {l2:List FT} {ao3:Option Addr} {b3 off3 n3 c3:Nat} {l3:List FT} {g:Nat} {ty:TypeId} (hg:W.heap[g]? = some (.cells #[.slice ao n c,.slice ao2 n2 c2,.slice ao3 n3 c3] ty (0,0))) (hn:l.length=n) (h:FCells W ao b off l) (hn2:l2.length=n2) (h2:FCells W ao2 b2 off2 l2) (hn3:l3.length=n3) (h3:FCells W ao3 b3 off3 l3):TCells W (some ⟨g,0,none⟩) g 0 [l,l2,l3]:=by
 refine⟨fun _=>rfl,fun k hk=>?_⟩
 rcases (show k=0∨k=1∨k=2 by simp at hk;omega) with rfl | rfl | rfl
 ·exact⟨ao,b,off,c,by rw [show ([l,l2,l3]:Tbl).getD 0 []=l from rfl,hn];exact qC _ _ 0 _ _ _ hg,h⟩
 ·exact⟨ao2,b2,off2,c2,by rw [show ([l,l2,l3]:Tbl).getD 1 []=l2 from rfl,hn2];exact qC _ _ 1 _ _ _ hg,h2⟩
 ·exact⟨ao3,b3,off3,c3,by rw [show ([l,l2,l3]:Tbl).getD 2 []=l3 from rfl,hn3];exact qC _ _ 2 _ _ _ hg,h3⟩
theorem qif {l l2 l3:List FT}:(∀k,k<([l,l2,l3]:Tbl).length→FAll (([l,l2,l3]:Tbl).getD k []))↔FAll l∧FAll l2∧FAll l3 :=
 ⟨fun h=>⟨h 0 (by simp),h 1 (by simp),h 2 (by simp)⟩,fun h k hk=>by
  rcases (show k=0∨k=1∨k=2 by simp at hk;omega) with rfl | rfl | rfl
  ·exact h.1
  ·exact h.2.1
  ·exact h.2.2⟩
theorem qcb.soft {W W':World} {g:Nat} {z:Int} {row:Option Nat} (h:qcb W g z) (s:Soft W W' row) (hne:row≠some g):qcb W' g z:=by
 obtain⟨a,m,c,b,h1,x,e,h2⟩:=h
 exact⟨a,m,c,b,s.blk h1 hne,x,e,s.mag h2⟩
theorem qcb.soften {W:World} {g:Nat} {z:Int} (h:qcb W g z) (u v:Value):Soft W ((W.setCell ⟨g,0,none⟩ u).setCell ⟨g,1,none⟩ v) (some g):=by
 obtain⟨a,m,c,b,h1,_⟩:=h
 have hn:∀x∈(#[.slice a m c,.bool b]:Array Value).toList,qcy x:=by
  intro x hx k d e
  rcases qaL.1 hx with h | h
  ·rw [h] at e;cases e
  ·rw [qaq.1 h] at e;cases e
 exact⟨qd1 W g u v,fun g' e=>by cases e;exact⟨_,_,_,h1,hn⟩⟩
theorem qcb.soft0 {W:World} {g:Nat} {z:Int} (h:qcb W g z):Soft W W (some g):=by
 have s:=h.soften (.slice none 0 0) (.bool false)
 exact⟨qcG _ _,s.nn⟩
theorem Soft.trans {W V U:World} {row:Option Nat} (s:Soft W V row) (r:Soft V U row):Soft W U row:=⟨qbO s.grown r.grown,s.nn⟩
theorem Soft.any {W V:World} (h:Below W.heap.size W V) {row:Option Nat} (hn:∀g,row=some g→∃(cs:Array Value) (t:TypeId) (fz:Nat×Nat),W.heap[g]? = some (.cells cs t fz)∧∀x∈cs.toList,qcy x):Soft W V row :=
 ⟨⟨h.os,h.tape,h.output,h.size,fun i hi _=>h.block i hi⟩,hn⟩
theorem Soft.more {W V U:World} {row:Option Nat} (s:Soft W V row) (h:Below V.heap.size V U):Soft W U row:=⟨qb9 s.grown h,s.nn⟩
theorem Soft.new {W V U:World} {row:Option Nat} {g:Nat} (s:Soft W V row) (r:Soft V U (some g)) (hg:W.heap.size≤g):Soft W U row :=
 ⟨⟨r.grown.os.trans s.grown.os,r.grown.tape.trans s.grown.tape,r.grown.output.trans s.grown.output,qaj s.grown.size r.grown.size,fun i hi hne=>(r.grown.block i (qah hi s.grown.size) (fun e=>by have:=qai e;omega)).trans (s.grown.block i hi hne)⟩,s.nn⟩
def LOne (W2 W:World) (g:Nat) (z:Int):Prop:=qcb W g z∧Below W2.heap.size W2 W∧W2.heap.size≤g
theorem lone_a {W2 W:World} {a:Option Addr} {n c:Nat} {b:Bool} {z:Int} (h:IntAt W (.agg #[.slice a n c,.bool b]) z) (hb:Below W2.heap.size W2 W):LOne W2 (W.alloc (.cells #[.slice a n c,.bool b] 242)) W.heap.size z :=
 ⟨⟨a,n,c,b,qM _ _ _ rfl,h.below (qbK qB qN)⟩,qbK hb qN,hb.size⟩
theorem lone_p {W2 W:World} {g:Nat} {a:Option Addr} {n c:Nat} {b:Bool} {z:Int} (h:IntAt W (.agg #[.slice a n c,.bool b]) z) (hb:Below W2.heap.size W2 W) (hg:W2.heap.size≤g) (hz:W.heap[g]? = some (.cells #[.slice none 0 0,.bool false] 242 (0,0))):LOne W2 ((W.setCell ⟨g,0,none⟩ (.slice a n c)).setCell ⟨g,1,none⟩ (.bool b)) g z :=
 have hib:qcb W g 0:=⟨_,_,_,_,hz,_,rfl,MagAt.nil _⟩
 ⟨hib.put h,(hb.setCell (p:=⟨g,0,none⟩) hg _).setCell (p:=⟨g,1,none⟩) hg _,hg⟩
theorem fw_end {q:Rat} {x1 x2:ByteArray} {c:Int} (h:Short q∧(x1,x2)=ftxt q∧c=0∨¬Short q∧(x1,x2)=fd0∧c=6) :
  Short q∧Ending.returned (.tuple #[.agg #[.string x1,.string x2],.int .i64 c])=.returned (.tuple #[fstr q,.int .i64 0])∨¬Short q∧Ending.returned (.tuple #[.agg #[.string x1,.string x2],.int .i64 c])=.returned (.tuple #[.agg #[.string ⟨#[]⟩,.string ⟨#[]⟩],.int .i64 6]):=by
 rcases h with ⟨h,e,rfl⟩ | ⟨h,e,rfl⟩
 ·refine qal ⟨h,?_⟩
  rw [qfe,←e]
 ·refine qag ⟨h,?_⟩
  have h1:x1=⟨#[]⟩:=congrArg Prod.fst e
  have h2:x2=⟨#[]⟩:=congrArg Prod.snd e
  rw [h1,h2]
theorem qiI (ao:Option Addr) (b off R c:Nat) (t:Tbl) (ao2:Option Addr) (b2 off2 m c2:Nat) (bl:List FT) (ao3:Option Addr) (b3 off3 q c3:Nat) (wl:List FT) (ao4:Option Addr) (b4 off4 p c4:Nat) (xl:List FT) (w:World) (hR:t.length=R) (hl:R≤4611686018427387904) (hw:∀k,k<R→(t.getD k []).length≤4611686018427387904) (hc:TCells w ao b off t)
  (hm:bl.length=m) (hl2:m≤4611686018427387904) (hc2:FCells w ao2 b2 off2 bl) (hq:wl.length=q) (hl3:q≤4611686018427387904) (hc3:FCells w ao3 b3 off3 wl) (hp:xl.length=p) (hl4:p≤4611686018427387904) (hc4:FCells w ao4 b4 off4 xl) (hT:HasT w) :
  Calls Tryz.prog 104 #[.slice ao R c,.slice ao2 m c2,.slice ao3 q c3,.slice ao4 p c4] w fun e w'=>qjQ w t bl wl xl e w':=by
 obtain⟨W0,hW0⟩:∃W0,W0=w.alloc (.cells #[.string ⟨#[]⟩,.string ⟨#[]⟩] 44):=⟨_,rfl⟩
 have hb0:Below w.heap.size w W0:=hW0▸qbK qB qN
 have hr0:W0.heap[w.heap.size]? = some (.cells #[.string ⟨#[]⟩,.string ⟨#[]⟩] 44 (0,0)):=by rw [hW0];exact qM _ _ _ rfl
 have hs0:W0.heap.size=w.heap.size+1:=by rw [hW0,qab]
 obtain⟨W1,hW1⟩:∃W1,W1=W0.alloc (.cells #[.slice ao2 m c2,.slice ao3 q c3,.slice ao4 p c4] 35):=⟨_,rfl⟩
 have hb1:Below W0.heap.size W0 W1:=hW1▸qbK qB qN
 have hr1:W1.heap[w.heap.size+1]? = some (.cells #[.slice ao2 m c2,.slice ao3 q c3,.slice ao4 p c4] 35 (0,0)):=by rw [hW1];exact qM _ _ _ hs0
 have hb01:=hb0.trans (hb1.mono hb0.size)
 have hr01:=zkeep hb1 _ _ hr0
 have HK:=qH (qeV ao b off R c t (some ⟨w.heap.size+1,0,none⟩) (w.heap.size+1) 0 3 3 [bl,wl,xl] W1 hR hl hw (hc.below hb01) rfl (by omega) (fun k hk=>by
  rcases (show k=0∨k=1∨k=2 by omega) with rfl | rfl | rfl
  ·show bl.length≤_;omega
  ·show wl.length≤_;omega
  ·show xl.length≤_;omega) (qjL hr1 hm (hc2.below hb01) hq (hc3.below hb01) hp (hc4.below hb01)))
 have HC:=qH (qA hc (qA hR (qA hc2 (qA hm (qA hc3 (qA hq (qA hc4 (qA hp hT))))))))
 have HB1:=qH (qA hb01 hr01)
 have Hs0:=qH hs0
 have hfi:=qfc
 clear hR hw hc hm hc2 hb1 hr1 hT hq hc3 hp hc4 hb0 hr0 hb01 hr01
 go_enter Tryz.func104,Tryz.ntmps104
 go_wp2_with fail
 rw [←hW0,←hW1]
 clear hW1 hW0 hs0
 refine HK.out.mono ?_
 rintro e w2 ⟨cc,rfl,hcc,hb2⟩
 have hr2:=zkeep hb2 _ _ HB1.out.2
 have HB:=qH (qA (HB1.out.1.trans (hb2.mono HB1.out.1.size)) hr2)
 have z0:=qC _ _ 0 _ _ _ hr2
 have z1:=qC _ _ 1 _ _ _ hr2
 have y0:=qF _ _ 0 _ _ hr2
 have y1:=qF _ _ 1 _ _ hr2
 clear hb2 hr2
 have emp:∀(W:World) (er:Int),Below w.heap.size w W→W.heap[w.heap.size]? = some (.cells #[.string ⟨#[]⟩,.string ⟨#[]⟩] 44 (0,0))→((W.setCell ⟨w.heap.size,0,none⟩ (.string ⟨#[]⟩)).setCell ⟨w.heap.size,1,none⟩ (.string ⟨#[]⟩)).heap[w.heap.size]? = some (.cells #[.string ⟨#[]⟩,.string ⟨#[]⟩] 44 (0,0))∧Below w.heap.size w ((W.setCell ⟨w.heap.size,0,none⟩ (.string ⟨#[]⟩)).setCell ⟨w.heap.size,1,none⟩ (.string ⟨#[]⟩)):=fun W er hb hr =>
  ⟨heap_setCell_same _ _ 1 _ _ _ (heap_setCell_same _ _ 0 _ _ _ hr),(hb.setCell (p:=⟨w.heap.size,0,none⟩) qN _).setCell (p:=⟨w.heap.size,1,none⟩) qN _⟩
 have EMP:=qH emp
 clear emp
 rcases hcc with ⟨rfl,hT⟩ | ⟨rfl,hT,hL⟩ | ⟨rfl,hT,hL⟩
 ·have HT:=qH (qA hT (EMP.out w2 0 HB.out.1 HB.out.2))
  clear hT
  go_wp2_with fail
  exact qR (v:=.tuple #[.agg #[.string ⟨#[]⟩,.string ⟨#[]⟩],.int .i64 60]) (qbN rfl _ _ w.heap.size 44 _ _ rfl HT.out.2.1 Tryz.underlying44 rfl 2 (by kernel_rfl) rfl _ rfl) rfl ⟨qal ⟨HT.out.1,rfl⟩,HT.out.2.2⟩
 ·have HT:=qH (qA (qA hT hL) (EMP.out w2 0 HB.out.1 HB.out.2))
  clear hT hL
  go_wp2_with fail
  exact qR (v:=.tuple #[.agg #[.string ⟨#[]⟩,.string ⟨#[]⟩],.int .i64 20]) (qbN rfl _ _ w.heap.size 44 _ _ rfl HT.out.2.1 Tryz.underlying44 rfl 2 (by kernel_rfl) rfl _ rfl) rfl ⟨qag (qal ⟨HT.out.1.1,fun h=>HT.out.1.2 (qif.2 h),rfl⟩),HT.out.2.2⟩
 obtain⟨hLb,hLw,hLx⟩:=qif.1 hL
 have hR40:R≤40:=by have:=hT.r2;have:=HC.out.2.1;omega
 have hR1:1≤R:=by have:=hT.r1;have:=HC.out.2.1;omega
 have hR0i:(0:Int)<R:=by omega
 have haw:=HC.out.1.addr (by have:=HC.out.2.1;omega)
 subst haw
 obtain⟨n,hn⟩:∃n,wid t=n:=⟨_,rfl⟩
 have hn10:n≤10:=by have:=hT.c2;omega
 have hn1:1≤n:=by have:=hT.c1;omega
 obtain⟨ra0,rb0,ro0,rc0,hc0,_⟩:=(HC.out.1.below HB.out.1).row 0 (by have:=HC.out.2.1;omega)
 rw [qbi] at hc0
 have hn':(t.getD 0 []).length=n:=hn
 rw [hn'] at hc0
 have HX:=qH (qA hT (qA hLb (qA hLw (qA hLx hn))))
 clear hT hL hLb hLw hLx hn hn'
 have bad:∀(W:World),Below w.heap.size w W→¬(bl.length=t.length∧wl.length=t.length∧xl.length=wid t∧¬Neg wl)→qjQ w t bl wl xl (.returned (.tuple #[.agg #[.string ⟨#[]⟩,.string ⟨#[]⟩],.int .i64 2])) W:=fun W h hn=>⟨qag (qag (qal ⟨HX.out.1,HX.out.2.1,HX.out.2.2.1,HX.out.2.2.2.1,hn,rfl⟩)),h⟩
 have BAD:=qH bad
 clear bad
 by_cases e1:m=R
 case neg =>
  have e1b:((m:Int) != (R:Int))=true:=by rw [bne_iff_ne];omega
  have hE:=EMP.out w2 0 HB.out.1 HB.out.2
  have HE:=qH (qA hE.1 (BAD.out _ hE.2 (fun h=>e1 (by rw [←HC.out.2.2.2.1,h.1,HC.out.2.1]))))
  clear e1 hE
  go_wp2_with fail
  exact qR (v:=.tuple #[.agg #[.string ⟨#[]⟩,.string ⟨#[]⟩],.int .i64 2]) (qbN rfl _ _ w.heap.size 44 _ _ rfl HE.out.1 Tryz.underlying44 rfl 2 (by kernel_rfl) rfl _ rfl) rfl HE.out.2
 have e1b:((m:Int) != (R:Int))=false:=by simp [e1]
 by_cases e2:q=R
 case neg =>
  have e2b:((q:Int) != (R:Int))=true:=by rw [bne_iff_ne];omega
  have hE:=EMP.out w2 0 HB.out.1 HB.out.2
  have HE:=qH (qA hE.1 (BAD.out _ hE.2 (fun h=>e2 (by rw [←HC.out.2.2.2.2.2.1,h.2.1,HC.out.2.1]))))
  clear e2 e1 hE
  go_wp2_with fail
  exact qR (v:=.tuple #[.agg #[.string ⟨#[]⟩,.string ⟨#[]⟩],.int .i64 2]) (qbN rfl _ _ w.heap.size 44 _ _ rfl HE.out.1 Tryz.underlying44 rfl 2 (by kernel_rfl) rfl _ rfl) rfl HE.out.2
 have e2b:((q:Int) != (R:Int))=false:=by simp [e2]
 by_cases e3:p=n
 case neg =>
  have e3b:((p:Int) != (n:Int))=true:=by rw [bne_iff_ne];omega
  have hE:=EMP.out w2 0 HB.out.1 HB.out.2
  have HE:=qH (qA hE.1 (BAD.out _ hE.2 (fun h=>e3 (by rw [←HC.out.2.2.2.2.2.2.2.1,h.2.2.1,HX.out.2.2.2.2]))))
  clear e3 e2 e1 hE
  go_wp2_with fail
  exact qR (v:=.tuple #[.agg #[.string ⟨#[]⟩,.string ⟨#[]⟩],.int .i64 2]) (qbN rfl _ _ w.heap.size 44 _ _ rfl HE.out.1 Tryz.underlying44 rfl 2 (by kernel_rfl) rfl _ rfl) rfl HE.out.2
 have e3b:((p:Int) != (n:Int))=false:=by simp [e3]
 have He:=qH (qA e1 (qA e2 e3))
 have haw2:=HC.out.2.2.1.addr (by have:=HC.out.2.2.2.1;omega)
 subst haw2
 have haw3:=HC.out.2.2.2.2.1.addr (by have:=HC.out.2.2.2.2.2.1;omega)
 subst haw3
 have haw4:=HC.out.2.2.2.2.2.2.1.addr (by have:=HC.out.2.2.2.2.2.2.2.1;omega)
 subst haw4
 have hng:=qga (some ⟨b3,off3,none⟩) b3 off3 q c3 wl w2 HC.out.2.2.2.2.2.1 (by omega) (HC.out.2.2.2.2.1.below HB.out.1) HX.out.2.2.1
 have HN:=qH hng
 clear e1 e2 e3 hng
 go_wp2_with fail
 refine HN.out.mono ?_
 rintro e w3 ⟨x,rfl,hx,hb3⟩
 have hr3:=zkeep hb3 _ _ HB.out.2
 have z0':=qC _ _ 0 _ _ _ hr3
 have z1':=qC _ _ 1 _ _ _ hr3
 have y0':=qF _ _ 0 _ _ hr3
 have y1':=qF _ _ 1 _ _ hr3
 have HB3:=qH (qA (HB.out.1.trans (hb3.mono HB.out.1.size)) hr3)
 clear hb3 hr3
 cases x with
 | true =>
  have hE:=EMP.out w3 0 HB3.out.1 HB3.out.2
  have HE:=qH (qA hE.1 (BAD.out _ hE.2 (fun h=>h.2.2.2 (hx.1 rfl))))
  clear hx hE
  go_wp2_with fail
  exact qR (v:=.tuple #[.agg #[.string ⟨#[]⟩,.string ⟨#[]⟩],.int .i64 2]) (qbN rfl _ _ w.heap.size 44 _ _ rfl HE.out.1 Tryz.underlying44 rfl 2 (by kernel_rfl) rfl _ rfl) rfl HE.out.2
 | false =>
  have hnn:¬Neg wl:=fun h=>by have:=hx.2 h;cases this
  have Hnn:=qH hnn
  obtain rfl:m=R:=He.out.1
  obtain rfl:q=m:=He.out.2.1
  obtain rfl:p=n:=He.out.2.2
  clear hx hnn z0 z1 y0 y1 hc0
  go_wp2_with fail
  refine (qeu (c:=c4) (show xl.length=p from HC.out.2.2.2.2.2.2.2.1) (by omega) (HC.out.2.2.2.2.2.2.1.below HB3.out.1) HX.out.2.2.2.1).mono ?_
  rintro e w4 ⟨gx,vx,rfl,hgx,hb4,hmx,hrx⟩
  obtain⟨ax,nx,cx,rfl⟩:=qb4 hmx
  obtain⟨V1,hV1⟩:∃V1,V1=w4.alloc (.cells #[rowv gx p] 237):=⟨_,rfl⟩
  have c1:Below w4.heap.size w4 V1:=hV1▸qbK qB qN
  have d1:V1.heap[w4.heap.size]? = some (.cells #[rowv gx p] 237 (0,0)):=by rw [hV1];exact qM _ _ _ rfl
  have s1:V1.heap.size=w4.heap.size+1:=by rw [hV1,qab]
  obtain⟨V2,hV2⟩:∃V2,V2=V1.alloc (.cells #[.int .u32 1] 232):=⟨_,rfl⟩
  have c2:Below V1.heap.size V1 V2:=hV2▸qbK qB qN
  have s2:V2.heap.size=w4.heap.size+1+1:=by rw [hV2,qab,s1]
  have o2:MagAt V2 (.slice (some ⟨w4.heap.size+1,0,none⟩) 1 1) 1:=by
   have:=qdL V1 232 (s:=1) (by decide) (by decide)
   rw [s1] at this
   rw [hV2];exact this
  obtain⟨V3,hV3⟩:∃V3,V3=V2.alloc (.cells #[.slice none 0 0,.bool false] 242):=⟨_,rfl⟩
  have c3:Below V2.heap.size V2 V3:=hV3▸qbK qB qN
  have d3:qcb V3 (w4.heap.size+1+1) 0:=⟨_,_,_,_,by rw [hV3];exact qM _ _ _ s2,_,rfl,MagAt.nil _⟩
  have c23:=c2.trans (c3.mono c2.size)
  have c13:=c1.trans (c23.mono c1.size)
  have hb3':=HB3.out.1.trans ((hb4.trans (c13.mono hb4.size)).mono HB3.out.1.size)
  have H3:=qH (qA d3 (qA (zkeep c23 _ _ d1) (qA (o2.below c3) (qA (hmx.below c13) (qA (hrx.below c13) (qA hb3' (zkeep (hb4.trans (c13.mono hb4.size)) _ _ HB3.out.2)))))))
  have Hlt0:=qH (show w.heap.size<w4.heap.size by have:=(qG HB3.out.2).1;have:=hb4.size;omega)
  have Hle:=qH (show w.heap.size≤w4.heap.size+1+1 by have:=(HB3.out.1.trans (hb4.mono HB3.out.1.size)).size;omega)
  have Hs:=qH (qA s1 (qA s2 (show gx<w4.heap.size by
   obtain⟨_,_,h2,_⟩:=hrx
   exact (qG h2.1).1)))
  clear hb4 hmx hrx c1 d1 c2 o2 c3 d3 c23 c13 hb3' s1 s2 hgx z0' z1' y0' y1'
  go_wp2_with fail
  rw [←hV1,←hV2,←hV3]
  clear hV1 hV2 hV3
  go_loopw [14,72] (fun x14 x72 W=>∃(i:Nat) (T:Int) (D:Nat),i≤q∧x72=.int .i64 i∧Hid (MSt t bl wl xl p i T D)∧Hid (qcb W (w4.heap.size+1+1) T)∧Hid (MagAt W x14 D)∧Hid (Below w.heap.size w W)∧Hid (Soft V3 W (some (w4.heap.size+1+1)))) (fun _ x72 _=>q-(intOf x72).toNat)
  case atStart=>exact⟨0,0,1,qam _,rfl,qH (MSt.start _ _ _ _ _),qH H3.out.1,qH H3.out.2.2.1,qH H3.out.2.2.2.2.2.1,qH H3.out.1.soft0⟩
  case round =>
   obtain⟨i,T,D,hi,rfl,hS,hI,hA,hB,hF⟩:=hrel
   by_cases hiR:i<q
   ·have hii:(i:Int)<q:=by omega
    have hit:i<t.length:=by have:=HC.out.2.1;omega
    obtain⟨ra,rb,ro,rc,hck,hfk⟩:=(HC.out.1.below hB.out).row i hit
    have hrl:=HX.out.1.rows i hit
    rw [HX.out.2.2.2.2] at hrl
    rw [hrl.1] at hck
    obtain⟨d0,d1⟩:=(HC.out.2.2.2.2.1.below hB.out).cell i (by have:=HC.out.2.2.2.2.2.1;omega)
    have hok:=HX.out.2.2.1 i (by have:=HC.out.2.2.2.2.2.1;omega)
    obtain⟨WN,hWN⟩:∃N,(wl.getD i fd0).1=N:=⟨_,rfl⟩
    obtain⟨WD,hWD⟩:∃D,(wl.getD i fd0).2=D:=⟨_,rfl⟩
    rw [hWN,hWD] at hok
    rw [hWN] at d0
    rw [hWD] at d1
    obtain⟨e0,e1⟩:=(HC.out.2.2.1.below hB.out).cell i (by have:=HC.out.2.2.2.1;omega)
    obtain⟨BN,hBN⟩:∃N,(bl.getD i fd0).1=N:=⟨_,rfl⟩
    obtain⟨BD,hBD⟩:∃D,(bl.getD i fd0).2=D:=⟨_,rfl⟩
    rw [hBN] at e0
    rw [hBD] at e1
    obtain⟨aD,nD,cD,rfl⟩:=qb4 hA.out
    have HW:=qH (qA hWN (qA hWD (qA hok (qA hBN (qA hBD (qA hrl hfk))))))
    clear hWN hWD hok hBN hBD hrl hfk
    have HR:=qH (qme HX.out.1 HC.out.2.1 HX.out.2.2.2.2 HX.out.2.1 HC.out.2.2.2.1 HX.out.2.2.1 HC.out.2.2.2.2.2.1 Hnn.out hiR)
    go_wp2_with fail
    refine (least.qco WN HW.out.2.2.1.vn _).mono ?_
    rintro e w5 ⟨u5,rfl,hb5,hu5⟩
    obtain⟨a5,n5,c5,b5,rfl⟩:=least.qbL hu5
    have H5:=qH (qA hb5 hu5)
    clear hb5 hu5
    go_wp2_with fail
    obtain⟨W6,hW6⟩:∃W6,W6=w5.alloc (.cells #[.slice a5 n5 c5,.bool b5] 242):=⟨_,rfl⟩
    have hb56:Below w5.heap.size w5 W6:=hW6▸qbK qB qN
    have hg6:qcb W6 w5.heap.size (ival WN.data.toList):=⟨_,_,_,_,by rw [hW6];exact qM _ _ _ rfl,H5.out.2.below hb56⟩
    have hm6:=(qhV H5.out.2).below hb56
    rw [show (ival WN.data.toList).natAbs=wnum wl i by unfold wnum;rw [HW.out.1]] at hm6
    rw [←hW6]
    have H6:=qH (qA (bjoin H5.out.1 hb56) hg6)
    clear hW6 hb56 hg6
    refine (least.qcv (wnum wl i) _ W6 hm6).mono ?_
    rintro e w6 ⟨rfl,hw6⟩
    subst hw6
    clear hm6
    by_cases hz:wnum wl i=0
    ·rw [qV hz]
     have HZ:=qH hz
     clear hz
     go_wp2_with fail
     go_roundw
     case rel=>exact⟨i+1,T,D,hiR,by go_num,qH (hS.out.skip HZ.out),qH (hI.out.below H6.out.1),qH (hA.out.below H6.out.1),qH (hB.out.trans (H6.out.1.mono hB.out.size)),qH (hF.out.more H6.out.1)⟩
     case measure=>simp [intOf];omega
    ·rw [qU hz]
     clear hz
     have hb6:=H6.out.1
     have e0':=(hb6.cell (qac wr _ e0)).trans e0
     have e1':=(hb6.cell (qac wr _ e1)).trans e1
     clear hb6
     go_wp2_with fail
     refine (qhm ra rb ro p rc (t.getD i []) (BN,BD) _ HW.out.2.2.2.2.2.1.1 hn1 (by omega) (HW.out.2.2.2.2.2.2.below H6.out.1)).mono ?_
     rintro e w7 ⟨g7,rfl,hb7,hf7⟩
     have hbes:t.getD i []++[(BN,BD)]=besides t bl i:=by unfold besides;rw [←HW.out.2.2.2.1,←HW.out.2.2.2.2.1]
     rw [hbes] at hf7
     have H7:=qH (qA (bjoin H6.out.1 hb7) (qA hf7 (H6.out.2.below hb7)))
     clear hb7 hf7 hbes e0' e1'
     go_wp2_with fail
     refine (qeu (c:=p+1) HR.out.2 (by omega) H7.out.2.1 HR.out.1.fa).mono ?_
     rintro e w8 ⟨g8,v8,rfl,hg8s,hb8,hm8,hr8⟩
     obtain⟨a8,n8,c8,rfl⟩:=qb4 hm8
     obtain⟨W9,hW9⟩:∃W9,W9=w8.alloc (.cells #[rowv g8 (p+1)] 237):=⟨_,rfl⟩
     have hb89:Below w8.heap.size w8 W9:=hW9▸qbK qB qN
     have hl9:W9.heap[w8.heap.size]? = some (.cells #[rowv g8 (p+1)] 237 (0,0)):=by rw [hW9];exact qM _ _ _ rfl
     have h78:=hb8.trans (hb89.mono hb8.size)
     have h9:=bjoin H7.out.1 h78
     have H9:=qH (qA h9 (qA hl9 (qA (hm8.below hb89) (qA (hr8.below hb89) (qA (H7.out.2.2.below h78) (hF.out.more h9))))))
     clear hb8 hm8 hr8 hb89 hl9 h78 h9 hg8s
     have hsum:=qk0 p (.pointer (some ⟨w8.heap.size,0,none⟩)) (.pointer (some ⟨w4.heap.size,0,none⟩)) (fun j=>ftop (besides t bl i) j*ftop xl j) 1610 (by omega) W9 (by omega) (fun W' j hj hb'=>by
      have hF':=H9.out.2.2.2.2.2.more hb'
      exact ql8 w8.heap.size w4.heap.size g8 gx (p+1) p j _ _ 805 805 (by omega) W' (qC _ _ 0 _ _ _ (zkeep hb' _ _ H9.out.2.1)) (qC _ _ 0 _ _ _ (hF'.blk H3.out.2.1 (fun e=>by have:=qai e;omega))) (H9.out.2.2.2.1.below hb') (hF'.introw H3.out.2.2.2.2.1 (fun e=>by have:=qai e;have:=Hs.out.2.2;omega)) (by omega) hj (by omega) (by omega) ((qc7 HR.out.1.fa (m:=11) (by have:=HR.out.2;omega) (by have:=HR.out.2;omega)).mono (by omega)) ((qc7 HX.out.2.2.2.1 (m:=11) (by have:=HC.out.2.2.2.2.2.2.2.1;omega) (by have:=HC.out.2.2.2.2.2.2.2.1;omega)).mono (by omega))) (fun j hj=>by
       rw [qaz]
       exact ((qc7 HR.out.1.fa (m:=11) (by have:=HR.out.2;omega) (by have:=HR.out.2;omega)).mul (qc7 HX.out.2.2.2.1 (m:=11) (by have:=HC.out.2.2.2.2.2.2.2.1;omega) (by have:=HC.out.2.2.2.2.2.2.2.1;omega))).mono (by omega))
     have HSm:=qH hsum
     clear hsum
     go_wp2_with fail
     rw [←hW9]
     clear hW9
     refine HSm.out.mono ?_
     rintro e w10 ⟨u10,rfl,hb10,hu10⟩
     obtain⟨a10,n10,c10,b10,rfl⟩:=least.qbL hu10
     obtain⟨W11,hW11⟩:∃W11,W11=w10.alloc (.cells #[.slice a10 n10 c10,.bool b10] 242):=⟨_,rfl⟩
     have hb1011:Below w10.heap.size w10 W11:=hW11▸qbK qB qN
     have hv11:qcb W11 w10.heap.size (isum (fun j=>ftop (besides t bl i) j*ftop xl j) p):=⟨_,_,_,_,by rw [hW11];exact qM _ _ _ rfl,hu10.below hb1011⟩
     have h911:=hb10.trans (hb1011.mono hb10.size)
     have hlt10:w8.heap.size<w10.heap.size:=qah (qG H9.out.2.1).1 hb10.size
     have hlt5:w5.heap.size<w10.heap.size:=qah H9.out.2.2.2.2.1.lt hb10.size
     have H11:=qH (qA (bjoin H9.out.1 h911) (qA hv11 (qA (H9.out.2.2.1.below h911) (qA (H9.out.2.2.2.2.1.below h911) (qA (H9.out.2.2.2.2.2.more h911) (qA hlt10 (qA hlt5 (qaj H9.out.1.size hb10.size))))))))
     obtain⟨a2,m2,d2,b2',p0,p1,hin⟩:=(H9.out.2.2.2.1.below h911).pair (show p<p+1 by omega)
     obtain⟨av,mv,dv,bv,⟨v0,v1⟩,_,hiv⟩:=hv11.cells
     have l0:=qC _ _ 0 _ _ _ (zkeep h911 _ _ H9.out.2.1)
     have hun:MagAt W11 (.slice ax nx cx) (flcd xl):=(H9.out.2.2.2.2.2.more h911).mag H3.out.2.2.2.1
     have hfs:=qfq HR.out.1.fa HR.out.2 hn10 HX.out.2.2.2.1 HC.out.2.2.2.2.2.2.2.1
     have hpi:(p:Int)<p+1:=by omega
     have hst:Below W11.heap.size W11 W11:=Below.refl _ _
     have hstD:Below W11.heap.size W11 W11.drew:=hst.drew
     have HA1:=qH (fun W (h:Below W11.heap.size W11 W)=>least.qcB (ftop (besides t bl i) p) (flcd xl) 805 738 (by omega) _ _ W (hin.below h) (hun.below h) ((qc7 HR.out.1.fa (m:=11) (by have:=HR.out.2;omega) (by have:=HR.out.2;omega)).mono (by omega)) ((qfd HX.out.2.2.2.1 (m:=11) (by have:=HC.out.2.2.2.2.2.2.2.1;omega)).mono (by omega)))
     have hfn:Fit (-(ftop (besides t bl i) p*((flcd xl:Nat):Int))).natAbs 1621:=by rw [qbl];exact hfs.2.1.mono (by omega)
     have HA3:=qH (fun W u (h:Below W11.heap.size W11 W) (hu:IntAt W u (-(ftop (besides t bl i) p*((flcd xl:Nat):Int))))=>least.qdE (isum (fun j=>ftop (besides t bl i) j*ftop xl j) p) (-(ftop (besides t bl i) p*((flcd xl:Nat):Int))) 1621 (by omega) _ u W (hiv.below h) hu hfs.1 hfn)
     clear hb10 hu10 hb1011 hv11 h911 hlt10 hlt5 hin hiv hun hfs hfn
     go_wp2_with fail
     rw [←hW11]
     clear hW11
     go_cut [110] (fun x110 W=>Hid (qcb W w10.heap.size (mval2 t bl xl p i))∧Hid (Soft W11 W (some w10.heap.size)))
     case first =>
      go_region_with (first | (go_at_call 174;refine (HA1.out _ hstD).mono ?_;rintro e w12 ⟨u12,rfl,hb12,hu12⟩;have HB12:Below W11.heap.size W11 w12:=hstD.trans hb12;have x0:=HB12.cell (qac W11 _ v0) |>.trans v0;have x1:=HB12.cell (qac W11 _ v1) |>.trans v1;obtain⟨a12,n12,c12,b12,rfl⟩:=least.qbL hu12;have HU12:=qH hu12;clear hb12 hu12) | (go_at_call 175;refine (least.qdH _ _ _ HU12.out).mono ?_;rintro e w13 ⟨u13,rfl,hb13,hu13⟩;have HB13:Below W11.heap.size W11 w13:=bjoin HB12 hb13;have x2:=HB13.cell (qac W11 _ v0) |>.trans v0;have x3:=HB13.cell (qac W11 _ v1) |>.trans v1;obtain⟨a13,n13,c13,b13,rfl⟩:=least.qbL hu13;have HU13:=qH hu13;clear hb13 hu13) | (go_at_call 173;refine (HA3.out _ _ HB13 HU13.out).mono ?_;rintro e w14 ⟨u14,rfl,hb14,hu14⟩;have HB14:Below W11.heap.size W11 w14:=bjoin HB13 hb14;obtain⟨a14,n14,c14,b14,rfl⟩:=least.qbL hu14;obtain⟨_,_,_,_,⟨x4,x5⟩,⟨x6,x7⟩,_⟩:=(H11.out.2.1.below HB14).cells;have HU14:=qH (qA HB14 ((H11.out.2.1.below HB14).put (z:=mval2 t bl xl p i) hu14));clear hb14 hu14))
      all_goals go_wp2_with fail
      all_goals go_meet
      all_goals exact⟨qH HU14.out.2,qH (((Soft.any HU14.out.1 H11.out.2.1.soft0.nn)).trans ((H11.out.2.1.below HU14.out.1).soften _ _))⟩
     case rest =>
      obtain⟨hvc,hsc⟩:=hcut
      obtain⟨we,hwe⟩:∃we:World,we=wc:=⟨_,rfl⟩
      subst hwe
      have hne:∀{x:Nat},x<w10.heap.size→(some w10.heap.size:Option Nat)≠some x:=fun hx e=>by have:=qai e;omega
      have hwr10:=H11.out.2.2.2.2.2.2.2
      have hwc:=H11.out.2.2.2.1.soft hsc.out (hne H11.out.2.2.2.2.2.2.1)
      have hIc:=(hI.out.below H11.out.1).soft hsc.out (hne (qah hI.out.lt hwr10))
      have hAc:=hsc.out.mag (hA.out.below H11.out.1)
      have hBc:=hsc.out.old (hB.out.trans (H11.out.1.mono hB.out.size)) (fun x e=>by have:=qai e;have:=hB.out.size;omega) (qaj hB.out.size H11.out.1.size)
      have hFc:=H11.out.2.2.2.2.1.new hsc.out (by have:=hF.out.grown.size;omega)
      have h8c:=hsc.out.mag H11.out.2.2.1
      have hdc:we.cell? ⟨b3,off3+i*2+1,none⟩=some (.string WD):=by
       have h:=(HC.out.2.2.2.2.1.below hBc).cell i (by have:=HC.out.2.2.2.2.2.1;omega)
       rw [HW.out.2.1] at h
       exact h.2
      obtain⟨aw,mw,dw,bw,⟨g0,g1⟩,_,hiw⟩:=hwc.cells
      obtain⟨av',mv',dv',bv',⟨f0,f1⟩,_,hiv'⟩:=hvc.out.cells
      have G0:∀W,Below we.heap.size we W→W.cell? ⟨w5.heap.size,0,none⟩=some (.slice aw mw dw):=fun W h=>(h.cell (qac we _ g0)).trans g0
      have G1:∀W,Below we.heap.size we W→W.cell? ⟨w5.heap.size,1,none⟩=some (.bool bw):=fun W h=>(h.cell (qac we _ g1)).trans g1
      have F0:∀W,Below we.heap.size we W→W.cell? ⟨w10.heap.size,0,none⟩=some (.slice av' mv' dv'):=fun W h=>(h.cell (qac we _ f0)).trans f0
      have F1:∀W,Below we.heap.size we W→W.cell? ⟨w10.heap.size,1,none⟩=some (.bool bv'):=fun W h=>(h.cell (qac we _ f1)).trans f1
      have hfs:=(qfq HR.out.1.fa HR.out.2 hn10 HX.out.2.2.2.1 HC.out.2.2.2.2.2.2.2.1).2.2
      have hwnz:ival WN.data.toList=((wnum wl i:Nat):Int):=by
       have h1:=HR.out.1.nn
       unfold wnum
       rw [HW.out.1] at h1 ⊢
       omega
      rw [hwnz] at hiw
      have hfw:Fit ((wnum wl i:Nat):Int).natAbs 67:=by rw [qan];exact HR.out.1.wn
      have hfwv:Fit (((wnum wl i:Nat):Int)*mval2 t bl xl p i).natAbs (67+1622):=by rw [qaz];exact hfw.mul hfs
      have HP1:=qH (fun W (h:Below we.heap.size we W)=>least.qc3 ((wnum wl i:Nat):Int) (mval2 t bl xl p i) 67 1622 (by omega) _ _ W (hiw.below h) (hiv'.below h) hfw hfs)
      have HP2:=qH (fun W u (h:Below we.heap.size we W) (hu:IntAt W u (((wnum wl i:Nat):Int)*mval2 t bl xl p i))=>least.qc3 (((wnum wl i:Nat):Int)*mval2 t bl xl p i) (mval2 t bl xl p i) (67+1622) 1622 (by omega) u _ W hu (hiv'.below h) hfwv hfs)
      have hct:Below we.heap.size we we:=Below.refl _ _
      have hctD:Below we.heap.size we we.drew:=hct.drew
      have hctA:Below we.heap.size we (we.alloc (.cells #[.slice none 0 0,.bool false] 242)).drew:=(qbK hct qN).drew
      have Hc:=qH (qA hIc (qA hAc (qA hBc (qA hFc (qA h8c hdc)))))
      clear hne hwr10 hwc hIc hAc hBc hFc h8c hdc g0 g1 f0 f1 hiw hiv' hfs hwnz hfw hfwv hst hstD p0 p1 v0 v1 l0
      go_wp2_with fail
      go_cut [21] (fun x21 W=>∃g21:Nat,x21=.pointer (some ⟨g21,0,none⟩)∧LOne we W g21 (((wnum wl i:Nat):Int)*mval2 t bl xl p i*mval2 t bl xl p i))
      case first =>
       go_region_held3 (fun W=>Below we.heap.size we W) (first | with_reducible exact hct | with_reducible exact hctD | with_reducible exact hctA | with_reducible exact HB15 | with_reducible exact HB16 | exact qbK HB16 qN | exact qbK HB15 qN | exact (HB16.setCell qN _).setCell qN _ | exact (HB16.setCell HB15.size _).setCell HB15.size _ | exact (HB16.setCell HB16.size _).setCell HB16.size _) (first | (go_at_call_of 172 (Value.agg #[.slice aw mw dw,.bool bw]);refine (HP1.out _ (by first | with_reducible exact hctD | with_reducible exact hctA)).mono ?_;rintro e w15 ⟨u15,rfl,hb15,hu15⟩;have HB15:Below we.heap.size we w15:=bjoin (by first | with_reducible exact hctD | with_reducible exact hctA) hb15;obtain⟨a15,n15,c15,b15,rfl⟩:=least.qbL hu15;have HU15:=qH hu15;have Z15:=qH (zkeep hb15);clear hb15 hu15) | (go_at_call 172;refine (HP2.out _ _ (by first | with_reducible exact HB15 | exact qbK HB15 qN) (by first | with_reducible exact HU15.out | exact HU15.out.below (qbK qB qN))).mono ?_;rintro e w16 ⟨u16,rfl,hb16,hu16⟩;have HB16:Below we.heap.size we w16:=bjoin (by first | with_reducible exact HB15 | exact qbK HB15 qN) hb16;obtain⟨a16,n16,c16,b16,rfl⟩:=least.qbL hu16;have HU16:=qH hu16;(first | (have z16:=zkeep hb16 _ _ (Z15.out we.heap.size _ (qM we (.cells #[.slice none 0 0,.bool false] 242) _ rfl));have o0:=qC _ _ 0 _ _ _ z16;have o1:=qC _ _ 1 _ _ _ z16;have o2:=qF _ _ 0 _ _ z16;have o3:=qF _ _ 1 _ _ z16;have Z16:=qH z16;clear z16) | (have z16:=zkeep hb16 _ _ (qM w15 (.cells #[.slice none 0 0,.bool false] 242) _ rfl);have o0:=qC _ _ 0 _ _ _ z16;have o1:=qC _ _ 1 _ _ _ z16;have o2:=qF _ _ 0 _ _ z16;have o3:=qF _ _ 1 _ _ z16;have Z16:=qH z16;clear z16) | skip);clear hb16 hu16))
       all_goals go_wp2_with fail
       all_goals go_meet
       all_goals refine⟨_,rfl,?_⟩
       all_goals first
        | with_reducible exact lone_a HU16.out HB16
        | exact lone_p HU16.out HB16 qN Z16.out
        | exact lone_p HU16.out HB16 HB15.size Z16.out
      case rest =>
       obtain⟨g21,rfl,hl1,hl2,hl3⟩:=hcut
       have hd21:=(hl2.cell (qac we _ Hc.out.2.2.2.2.2)).trans Hc.out.2.2.2.2.2
       have H21:=qH (qA hl1 (qA hl2 hl3))
       clear hl1 hl2 hl3 G0 G1 F0 F1 HP1 HP2 hct hctD hctA
       go_wp2_with fail
       refine (least.qco WD HW.out.2.2.1.vd _).mono ?_
       rintro e w22 ⟨u22,rfl,hb22,hu22⟩
       obtain⟨a22,n22,c22,b22,rfl⟩:=least.qbL hu22
       have hm22:=qhV hu22
       rw [show (ival WD.data.toList).natAbs=fden (wl.getD i fd0) by unfold fden;rw [HW.out.2.1]] at hm22
       have H22:=qH (qA hb22 (qA hm22 (Hc.out.2.2.2.2.1.below (bjoin H21.out.2.1 hb22))))
       clear hb22 hu22 hm22 hd21
       go_wp2_with fail
       refine (least.qce _ _ 67 738 (by omega) _ _ w22 H22.out.2.1 H22.out.2.2 HR.out.1.wd.2 HR.out.1.below.2).mono ?_
       rintro e w23 ⟨u23,rfl,hb23,hu23⟩
       obtain⟨a23,n23,c23,rfl⟩:=qb4 hu23
       have H23:=qH (qA (bjoin H22.out.1 hb23) (qA hu23 (H22.out.2.2.below hb23)))
       clear hb23 hu23
       go_wp2_with fail
       refine (least.qce _ _ 805 738 (by omega) _ _ w23 H23.out.2.1 H23.out.2.2 ((HR.out.1.wd.2.mul HR.out.1.below.2).mono (by omega)) HR.out.1.below.2).mono ?_
       rintro e w24 ⟨u24,rfl,hb24,hu24⟩
       obtain⟨a24,n24,c24,rfl⟩:=qb4 hu24
       have H24:=qH (qA (bjoin H23.out.1 hb24) (qA (show MagAt w24 (.slice a24 n24 c24) (wdn t bl wl i) from hu24) (Hc.out.2.1.below (bjoin H21.out.2.1 (bjoin H23.out.1 hb24)))))
       clear hb24 hu24
       go_wp2_with fail
       refine (least.qf9 D (wdn t bl wl i) (1543*i+1) 1543 (by omega) (by omega) hS.out.pos HR.out.1.d.1 _ _ w24 H24.out.2.2 H24.out.2.1 hS.out.fitD HR.out.1.d.2).mono ?_
       rintro e w25 ⟨u25,rfl,hb25,hu25⟩
       obtain⟨a25,n25,c25,rfl⟩:=qb4 hu25
       have hfl:Fit (D.lcm (wdn t bl wl i)) 65000:=((hS.out.fitD.mul HR.out.1.d.2).le (qbD (qbF hS.out.pos HR.out.1.d.1) (Nat.lcm_dvd_mul _ _))).mono (by omega)
       have H25:=qH (qA (bjoin H24.out.1 hb25) (qA hu25 (qA (H24.out.2.1.below hb25) (qA (H24.out.2.2.below hb25) hfl))))
       clear hb25 hu25 hfl
       go_wp2_with fail
       refine (least.qbZ _ D 65000 (by omega) _ _ w25 H25.out.2.1 H25.out.2.2.2.1 H25.out.2.2.2.2 (hS.out.fitD.mono (by omega)) hS.out.pos).mono ?_
       rintro e w26 ⟨u26,r26,rfl,hb26,hu26,hr26⟩
       obtain⟨a26,n26,c26,rfl⟩:=qb4 hu26
       obtain⟨a26',n26',c26',rfl⟩:=qb4 hr26
       have H26:=qH (qA (bjoin H25.out.1 hb26) (qA hu26 (qA (H25.out.2.1.below hb26) (H25.out.2.2.1.below hb26))))
       clear hb26 hu26 hr26
       go_wp2_with fail
       refine (least.qbZ _ (wdn t bl wl i) 65000 (by omega) _ _ w26 H26.out.2.2.1 H26.out.2.2.2 H25.out.2.2.2.2 (HR.out.1.d.2.mono (by omega)) HR.out.1.d.1).mono ?_
       rintro e w27 ⟨u27,r27,rfl,hb27,hu27,hr27⟩
       obtain⟨a27,n27,c27,rfl⟩:=qb4 hu27
       obtain⟨a27',n27',c27',rfl⟩:=qb4 hr27
       have h2127:=bjoin H26.out.1 hb27
       have hwe27:=bjoin H21.out.2.1 h2127
       have hI27:=Hc.out.1.below hwe27
       have hT27:=H21.out.1.below h2127
       obtain⟨aT,mT,dT,bT,⟨k0,k1⟩,_,hiT⟩:=hI27.cells
       obtain⟨aU,mU,dU,bU,⟨j0,j1⟩,_,hiU⟩:=hT27.cells
       have hst:Below w27.heap.size w27 w27:=Below.refl _ _
       have hstD:Below w27.heap.size w27 w27.drew:=hst.drew
       obtain⟨q1,q2,q3,q4⟩:=qiC hS.out.pos HR.out.1.d.1
       have hfU:Fit (((wnum wl i:Nat):Int)*mval2 t bl xl p i*mval2 t bl xl p i).natAbs (67+1622+1622):=by
        have hfs:=(qfq HR.out.1.fa HR.out.2 hn10 HX.out.2.2.2.1 HC.out.2.2.2.2.2.2.2.1).2.2
        rw [qaz,qaz,qan]
        exact (HR.out.1.wn.mul hfs).mul hfs
       have hf1:=hS.out.fitT.mul (HR.out.1.d.2.le q3)
       have hf2:=hfU.mul (hS.out.fitD.le q4)
       rw [←qan (D.lcm (wdn t bl wl i) / D),←qaz] at hf1
       rw [←qan (D.lcm (wdn t bl wl i) / wdn t bl wl i),←qaz] at hf2
       have HP1:=qH (fun W (h:Below w27.heap.size w27 W)=>least.qcB T (D.lcm (wdn t bl wl i) / D) (3400+1545*i) 1543 (by omega) _ _ W (hiT.below h) ((H26.out.2.1.below hb27).below h) hS.out.fitT (HR.out.1.d.2.le q3))
       have HP2:=qH (fun W (h:Below w27.heap.size w27 W)=>least.qcB (((wnum wl i:Nat):Int)*mval2 t bl xl p i*mval2 t bl xl p i) (D.lcm (wdn t bl wl i) / wdn t bl wl i) (67+1622+1622) (1543*i+1) (by omega) _ _ W (hiU.below h) (hu27.below h) hfU (hS.out.fitD.le q4))
       have HP3:=qH (fun W u v (hu:IntAt W u (T*((D.lcm (wdn t bl wl i) / D:Nat):Int))) (hv:IntAt W v (((wnum wl i:Nat):Int)*mval2 t bl xl p i*mval2 t bl xl p i*((D.lcm (wdn t bl wl i) / wdn t bl wl i:Nat):Int)))=>least.qdE _ _ 70000 (by omega) u v W hu hv (hf1.mono (by omega)) (hf2.mono (by omega)))
       have H27:=qH (qA hI27 (qA hwe27 (H26.out.2.2.1.below hb27)))
       clear hb27 hu27 hr27 h2127 hwe27 hI27 hT27 hiT hiU q1 q2 q3 q4 hfU hf1 hf2
       go_wp2_with fail
       go_region_with (first | (go_at_call_of 174 (Value.agg #[.slice aT mT dT,.bool bT]);refine (HP1.out _ (by first | with_reducible exact hstD | with_reducible exact HB29)).mono ?_;rintro e w28 ⟨u28,rfl,hb28,hu28⟩;have HB28:Below w27.heap.size w27 w28:=(by first | exact bjoin hstD hb28 | exact bjoin HB29 hb28);obtain⟨a28,n28,c28,b28,rfl⟩:=least.qbL hu28;have c28x0:=HB28.cell (qac w27 _ k0) |>.trans k0;have c28x1:=HB28.cell (qac w27 _ k1) |>.trans k1;have c28x2:=HB28.cell (qac w27 _ j0) |>.trans j0;have c28x3:=HB28.cell (qac w27 _ j1) |>.trans j1;(first | (have HV29:=qH (HU29.out.below hb28);have HV28:=qH hu28) | skip);have HU28:=qH hu28;clear hb28 hu28) | (go_at_call 174;refine (HP2.out _ (by first | with_reducible exact hstD | with_reducible exact HB28)).mono ?_;rintro e w29 ⟨u29,rfl,hb29,hu29⟩;have HB29:Below w27.heap.size w27 w29:=(by first | exact bjoin hstD hb29 | exact bjoin HB28 hb29);obtain⟨a29,n29,c29,b29,rfl⟩:=least.qbL hu29;have c29x0:=HB29.cell (qac w27 _ k0) |>.trans k0;have c29x1:=HB29.cell (qac w27 _ k1) |>.trans k1;have c29x2:=HB29.cell (qac w27 _ j0) |>.trans j0;have c29x3:=HB29.cell (qac w27 _ j1) |>.trans j1;(first | (have HV28:=qH (HU28.out.below hb29);have HV29:=qH hu29) | skip);have HU29:=qH hu29;clear hb29 hu29) | (go_at_call 173;refine (HP3.out _ _ _ HV28.out HV29.out).mono ?_;rintro e w30 ⟨u30,rfl,hb30,hu30⟩;have HB30:Below w27.heap.size w27 w30:=(by first | exact bjoin HB29 hb30 | exact bjoin HB28 hb30);obtain⟨a30,n30,c30,b30,rfl⟩:=least.qbL hu30;obtain⟨_,_,_,_,⟨x4,x5⟩,⟨x6,x7⟩,_⟩:=(H27.out.1.below HB30).cells;have HU30:=qH (qA HB30 ((H27.out.1.below HB30).put hu30));clear hb30 hu30))
       all_goals go_wp2_with fail
       all_goals go_roundw
       all_goals first
        | exact⟨i+1,_,_,hiR,by go_num,qH (hS.out.next HR.out.1 HR.out.2 HW.out.2.2.2.2.2.1.1 HX.out.2.2.2.1 HC.out.2.2.2.2.2.2.2.1 hn10),qH HU30.out.2,qH ((H27.out.1.below HU30.out.1).soften _ _ |>.mag (H27.out.2.2.below HU30.out.1)),qH (((Hc.out.2.2.1.trans (H27.out.2.1.mono Hc.out.2.2.1.size)).trans (HU30.out.1.mono (qaj Hc.out.2.2.1.size H27.out.2.1.size))).setCell (p:=⟨w4.heap.size+1+1,0,none⟩) Hle.out _ |>.setCell (p:=⟨w4.heap.size+1+1,1,none⟩) Hle.out _),qH ((Hc.out.2.2.2.1.more (H27.out.2.1.trans (HU30.out.1.mono H27.out.2.1.size))).trans ((H27.out.1.below HU30.out.1).soften _ _))⟩
        | (simp [intOf];omega)
   ·obtain rfl:i=q:=by omega
    obtain⟨aD,nD,cD,rfl⟩:=qb4 hA.out
    have hunit:=hF.out.mag H3.out.2.2.2.1
    have hup:=qj0 HX.out.2.2.2.1
    have huf:Fit (flcd xl) 738:=(qfd HX.out.2.2.2.1 (m:=11) (by have:=HC.out.2.2.2.2.2.2.2.1;omega)).mono (by omega)
    have hr0:=hF.out.blk H3.out.2.2.2.2.2.2 (fun e=>by have:=qai e;have:=Hle.out;have:=HB3.out.1.size;have:=(qG HB3.out.2).1;have:=Hlt0.out;omega)
    have hlt0:w4.heap.size+1+1≠w.heap.size:=by have:=Hlt0.out;omega
    obtain⟨aT,mT,dT,bT,⟨k0,k1⟩,_,hiT⟩:=hI.out.cells
    have hkl:=hI.out.lt
    have C0:∀W,wr.grownBy W (some w.heap.size)→W.cell? ⟨w4.heap.size+1+1,0,none⟩=some (.slice aT mT dT):=fun W h=>(qdV h (p:=⟨w4.heap.size+1+1,0,none⟩) hkl hlt0).trans k0
    have C1:∀W,wr.grownBy W (some w.heap.size)→W.cell? ⟨w4.heap.size+1+1,1,none⟩=some (.bool bT):=fun W h=>(qdV h (p:=⟨w4.heap.size+1+1,1,none⟩) hkl hlt0).trans k1
    have hD:=hS.out.pos
    have hfD:Fit D 61721:=hS.out.fitD.mono (by omega)
    have hfT:Fit T.natAbs 66000:=hS.out.fitT.mono (by omega)
    have hDu:Fit (D*flcd xl) 62459:=(hfD.mul huf).mono (by omega)
    have hDuu:Fit (D*flcd xl*flcd xl) 63197:=(hDu.mul huf).mono (by omega)
    have HP1:=qH (fun W (h:Below wr.heap.size wr W)=>least.qce D (flcd xl) 61721 738 (by omega) _ _ W (hA.out.below h) (hunit.below h) hfD huf)
    have HP2:=qH (fun W u (h:Below wr.heap.size wr W) (hu:MagAt W u (D*flcd xl))=>least.qce (D*flcd xl) (flcd xl) 62459 738 (by omega) u _ W hu (hunit.below h) hDu huf)
    have HP4:=qH (fun W u (h:Below wr.heap.size wr W) (hu:IntAt W u ((D*flcd xl*flcd xl:Nat):Int))=>qhu T ((D*flcd xl*flcd xl:Nat):Int) (by have:=qbF (qbF hD hup) hup;omega) 66000 (by omega) (by omega) _ u W (hiT.below h) hu hfT (by rw [qan];exact hDuu.mono (by omega)) ((HC.out.2.2.2.2.2.2.2.2.below hB.out).below h))
    have hval:Rat.divInt T ((D*flcd xl*flcd xl:Nat):Int)=measQ t bl wl xl p i:=by
     rw [qgx,hS.out.val]
     have h1:((D:Nat):Rat)≠0:=by have:=qbq hD;exact_mod_cast this
     have h2:((flcd xl:Nat):Rat)≠0:=by have:=qbq hup;exact_mod_cast this
     push_cast
     grind
    have hst:Below wr.heap.size wr wr:=Below.refl _ _
    have hstD:Below wr.heap.size wr wr.drew:=hst.drew
    have HV:=qH (qA hval (qA hr0 hB.out))
    clear hunit hup huf hr0 k0 k1 hiT hD hfD hfT hDu hDuu hval hkl hlt0
    go_wp2_with fail
    go_region_held3 (fun W=>wr.grownBy W (some w.heap.size)) (first | with_reducible exact qcG _ _ | with_reducible exact qbX _ hstD | with_reducible exact qbX _ HB31 | with_reducible exact qbX _ HB32 | with_reducible exact qbX _ HB33 | with_reducible exact qbX _ HB34 | exact qbO (qbO (qbX _ HB34) (least.qbT _ _ _ _)) (least.qbT _ _ _ _)) (first | (go_at_call_of 176 (Value.slice aD nD cD);refine (HP1.out _ hstD).mono ?_;rintro e w31 ⟨u31,rfl,hb31,hu31⟩;have HB31:Below wr.heap.size wr w31:=bjoin hstD hb31;have HU31:=qH hu31;obtain⟨a31,n31,c31,rfl⟩:=qb4 hu31;clear hb31 hu31) | (go_at_call 176;refine (HP2.out _ _ HB31 HU31.out).mono ?_;rintro e w32 ⟨u32,rfl,hb32,hu32⟩;have HB32:Below wr.heap.size wr w32:=bjoin HB31 hb32;have HU32:=qH hu32;obtain⟨a32,n32,c32,rfl⟩:=qb4 hu32;clear hb32 hu32) | (go_at_call 180;refine (least.qbY (D*flcd xl*flcd xl) false _ _ HU32.out).mono ?_;rintro e w33 ⟨u33,rfl,hb33,hu33⟩;have HB33:Below wr.heap.size wr w33:=bjoin HB32 hb33;have HU33:=qH (show IntAt w33 u33 ((D*flcd xl*flcd xl:Nat):Int) from hu33);obtain⟨a33,n33,c33,b33,rfl⟩:=least.qbL hu33;clear hb33 hu33) | (go_at_call 179;refine (HP4.out _ _ HB33 HU33.out).mono ?_;rintro e w34 hx;obtain⟨x1,x2,c6,rfl,hx,hb34⟩:=qf5 hx;have HB34:Below wr.heap.size wr w34:=bjoin HB33 hb34;have hz34:=zkeep HB34 _ _ HV.out.2.1;have m0:=qC _ _ 0 _ _ _ hz34;have m1:=qC _ _ 1 _ _ _ hz34;have m2:=qF _ _ 0 _ _ hz34;have m3:=qF _ _ 1 _ _ hz34;have HX6:=qH (qA hx hz34);clear hx hb34 hz34))
    all_goals go_wp2_with fail
    all_goals refine qR (v:=.tuple #[.agg #[.string x1,.string x2],.int .i64 c6]) (qbN rfl _ _ w.heap.size 44 _ _ rfl (heap_setCell_same _ _ 1 _ _ _ (heap_setCell_same _ _ 0 _ _ _ HX6.out.2)) Tryz.underlying44 rfl 2 (by kernel_rfl) rfl _ rfl) rfl ⟨qag (qag (qag ⟨HX.out.1,HX.out.2.1,HX.out.2.2.1,HX.out.2.2.2.1,by rw [HC.out.2.2.2.1,HC.out.2.1],by rw [HC.out.2.2.2.2.2.1,HC.out.2.1],by rw [HC.out.2.2.2.2.2.2.2.1,HX.out.2.2.2.2],Hnn.out,?_⟩)),((HV.out.2.2.trans (HB34.mono HV.out.2.2.size)).setCell (p:=⟨w.heap.size,0,none⟩) qN _).setCell (p:=⟨w.heap.size,1,none⟩) qN _⟩
    all_goals rw [HC.out.2.1,HX.out.2.2.2.2]
    all_goals have hx:=HX6.out.1
    all_goals rw [HV.out.1] at hx
    all_goals exact fw_end hx
