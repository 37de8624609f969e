import Derived.Test.YtjalhnlhcdfncaaGreatDoorBg16
set_option maxRecDepth 100000
set_option maxHeartbeats 0
namespace Go.Proofs.YtjalhnlhcdfncaaGreatDoor
open Go.RowKit Go.Proofs.Tryz
def qjk (w:World) (t:Tbl) (bl wl E:List FT) (e:Ending) (F:World):Prop :=
  ((¬TOk t/\e=.returned (.tuple #[.agg #[.string ⟨#[]⟩,.string ⟨#[]⟩],.int .i64 60])) \/
   (TOk t/\¬(FAll bl/\FAll wl/\FAll E)/\e=.returned (.tuple #[.agg #[.string ⟨#[]⟩,.string ⟨#[]⟩],.int .i64 20])) \/
   (TOk t/\FAll bl/\FAll wl/\FAll E/\¬(bl.length=t.length/\wl.length=t.length/\E.length=wid t/\¬Neg wl)/\e=.returned (.tuple #[.agg #[.string ⟨#[]⟩,.string ⟨#[]⟩],.int .i64 2])) \/
   (TOk t/\FAll bl/\FAll wl/\FAll E/\bl.length=t.length/\wl.length=t.length/\E.length=wid t/\¬Neg wl /\
     (Short (measQ t bl wl E (wid t) t.length)/\e=.returned (.tuple #[fstr (measQ t bl wl E (wid t) t.length),.int .i64 0]) \/
      ¬Short (measQ t bl wl E (wid t) t.length)/\e=.returned (.tuple #[.agg #[.string ⟨#[]⟩,.string ⟨#[]⟩],.int .i64 6]))))/\Below w.heap.size w F
theorem qje {W:World} {J:Option Addr} {b off n c:Nat} {l:List FT} {G:Option Addr} {b2 E n2 c2:Nat} {l2:List FT} {H:Option Addr} {V F Y c3:Nat} {I:List FT} {g:Nat} {ty:TypeId} (hg:W.heap[g]? = some (.cells #[.slice J n c,.slice G n2 c2,.slice H Y c3] ty (0,0))) (hn:l.length=n) (h:FCells W J b off l) (O:l2.length=n2) (Z:FCells W G b2 E l2) (U:I.length=Y) (h3:FCells W H V F I):TCells W (some ⟨g,0,none⟩) g 0 [l,l2,I]:=by
 refine⟨fun _=>rfl,fun k hk=>?_⟩;rcases (show k=0\/k=1\/k=2 by simp at hk;omega) with rfl | rfl | rfl
 ·exact⟨J,b,off,c,by rw [show ([l,l2,I]:Tbl).getD 0 []=l from rfl,hn];exact qC _ _ 0 _ _ _ hg,h⟩
 ·exact⟨G,b2,E,c2,by rw [show ([l,l2,I]:Tbl).getD 1 []=l2 from rfl,O];exact qC _ _ 1 _ _ _ hg,Z⟩
 ·exact⟨H,V,F,c3,by rw [show ([l,l2,I]:Tbl).getD 2 []=I from rfl,U];exact qC _ _ 2 _ _ _ hg,h3⟩
theorem qhG {l l2 E:List FT}:(∀k,k<([l,l2,E]:Tbl).length->FAll (([l,l2,E]:Tbl).getD k []))↔FAll l/\FAll l2/\FAll E :=
 ⟨fun h=>⟨h 0 (by simp),h 1 (by simp),h 2 (by simp)⟩,fun h k F=>by
  rcases (show k=0\/k=1\/k=2 by simp at F;omega) with rfl | rfl | rfl
  ·exact h.1
  ·exact h.2.1
  ·exact h.2.2⟩
theorem qb5.soft {W W':World} {g:Nat} {z:Int} {row:Option Nat} (h:qb5 W g z) (s:Soft W W' row) (hne:row≠some g):qb5 W' g z:=by
 obtain⟨a,m,c,b,E,x,e,F⟩:=h;exact⟨a,m,c,b,s.blk E hne,x,e,s.mag F⟩
theorem qb5.soften {W:World} {g:Nat} {z:Int} (h:qb5 W g z) (u v:Value):Soft W ((W.setCell ⟨g,0,none⟩ u).setCell ⟨g,1,none⟩ v) (some g):=by
 obtain⟨a,m,c,b,E,_⟩:=h;have F:∀x∈(#[.slice a m c,.bool b]:Array Value).toList,qcs x:=by
  intro x G k d e;rcases qaD.1 G with h | h
  ·rw [h] at e;cases e
  ·rw [qao.1 h] at e;cases e
 exact⟨qdM W g u v,fun H e=>by cases e;exact⟨_,_,_,E,F⟩⟩
theorem qb5.soft0 {W:World} {g:Nat} {z:Int} (h:qb5 W g z):Soft W W (some g):=by
 have s:=h.soften (.slice none 0 0) (.bool false);exact⟨qcz _ _,s.nn⟩
theorem Soft.trans {W V U:World} {row:Option Nat} (s:Soft W V row) (r:Soft V U row):Soft W U row:=⟨qbR s.grown r.grown,s.nn⟩
theorem Soft.any {W V:World} (h:Below W.heap.size W V) {row:Option Nat} (G:∀g,row=some g->∃(cs:Array Value) (t:TypeId) (E:Nat×Nat),W.heap[g]? = some (.cells cs t E)/\∀x∈cs.toList,qcs x):Soft W V row :=
 ⟨⟨h.os,h.tape,h.output,h.size,fun i F _=>h.block i F⟩,G⟩
theorem Soft.more {W V U:World} {row:Option Nat} (s:Soft W V row) (h:Below V.heap.size V U):Soft W U row:=⟨qcb s.grown h,s.nn⟩
theorem Soft.new {W V U:World} {row:Option Nat} {g:Nat} (s:Soft W V row) (r:Soft V U (some g)) (hg:W.heap.size<=g):Soft W U row :=
 ⟨⟨r.grown.os.trans s.grown.os,r.grown.tape.trans s.grown.tape,r.grown.output.trans s.grown.output,qak s.grown.size r.grown.size,fun i E hne=>(r.grown.block i (qai E s.grown.size) (fun e=>by have:=qag e;omega)).trans (s.grown.block i E hne)⟩,s.nn⟩
def LOne (E W:World) (g:Nat) (z:Int):Prop:=qb5 W g z/\Below E.heap.size E W/\E.heap.size<=g
theorem lone_a {E W:World} {a:Option Addr} {n c:Nat} {b:Bool} {z:Int} (h:IntAt W (.agg #[.slice a n c,.bool b]) z) (F:Below E.heap.size E W):LOne E (W.alloc (.cells #[.slice a n c,.bool b] 217)) W.heap.size z :=
 ⟨⟨a,n,c,b,qM _ _ _ rfl,h.below (qbM qB qN)⟩,qbM F qN,F.size⟩
theorem lone_p {E W:World} {g:Nat} {a:Option Addr} {n c:Nat} {b:Bool} {z:Int} (h:IntAt W (.agg #[.slice a n c,.bool b]) z) (G:Below E.heap.size E W) (hg:E.heap.size<=g) (H:W.heap[g]? = some (.cells #[.slice none 0 0,.bool false] 217 (0,0))):LOne E ((W.setCell ⟨g,0,none⟩ (.slice a n c)).setCell ⟨g,1,none⟩ (.bool b)) g z :=
 have F:qb5 W g 0:=⟨_,_,_,_,H,_,rfl,MagAt.nil _⟩
 ⟨F.put h,(G.setCell (p:=⟨g,0,none⟩) hg _).setCell (p:=⟨g,1,none⟩) hg _,hg⟩
theorem fw_end {q:Rat} {x1 x2:ByteArray} {c:Int} (h:Short q/\(x1,x2)=ftxt q/\c=0\/¬Short q/\(x1,x2)=fd0/\c=6) :
  Short q/\Ending.returned (.tuple #[.agg #[.string x1,.string x2],.int .i64 c])=.returned (.tuple #[fstr q,.int .i64 0])\/¬Short q/\Ending.returned (.tuple #[.agg #[.string x1,.string x2],.int .i64 c])=.returned (.tuple #[.agg #[.string ⟨#[]⟩,.string ⟨#[]⟩],.int .i64 6]):=by
 rcases h with ⟨h,e,rfl⟩ | ⟨h,e,rfl⟩
 ·refine qav ⟨h,?_⟩;rw [qfD,<-e]
 ·refine qaj ⟨h,?_⟩;have E:x1=⟨#[]⟩:=congrArg Prod.fst e;have F:x2=⟨#[]⟩:=congrArg Prod.snd e;rw [E,F]
theorem qh6 (ao:Option Addr) (b off R c:Nat) (t:Tbl) (dO:Option Addr) (b2 jA m c2:Nat) (bl:List FT) (dP:Option Addr) (b3 bg q c3:Nat) (wl:List FT) (dQ:Option Addr) (b4 jB p c4:Nat) (E:List FT) (w:World) (hR:t.length=R) (hl:R<=4611686018427387904) (hw:∀k,k<R->(t.getD k []).length<=4611686018427387904) (hc:TCells w ao b off t)
  (hm:bl.length=m) (ed:m<=4611686018427387904) (gI:FCells w dO b2 jA bl) (hq:wl.length=q) (ib:q<=4611686018427387904) (gJ:FCells w dP b3 bg wl) (hp:E.length=p) (lW:p<=4611686018427387904) (gL:FCells w dQ b4 jB E) (hT:HasT w) :
  Calls prog 90 #[.slice ao R c,.slice dO m c2,.slice dP q c3,.slice dQ p c4] w fun e w'=>qjk w t bl wl E e w':=by
 obtain⟨W0,bP⟩:=qY (w.alloc (.cells #[.string ⟨#[]⟩,.string ⟨#[]⟩] 27));have gm:Below w.heap.size w W0:=bP▸qbM qB qN;have cB:W0.heap[w.heap.size]? = some (.cells #[.string ⟨#[]⟩,.string ⟨#[]⟩] 27 (0,0)):=by rw [bP];exact qM _ _ _ rfl
 have iw:W0.heap.size=w.heap.size+1:=by rw [bP,qaa]
 obtain⟨W1,dV⟩:=qY (W0.alloc (.cells #[.slice dO m c2,.slice dP q c3,.slice dQ p c4] 22));have gu:Below W0.heap.size W0 W1:=dV▸qbM qB qN;have jr:W1.heap[w.heap.size+1]? = some (.cells #[.slice dO m c2,.slice dP q c3,.slice dQ p c4] 22 (0,0)):=by rw [dV];exact qM _ _ _ iw
 have au:=gm.trans (gu.mono gm.size);have fC:=zkeep gu _ _ cB;have HK:=qH (qeu ao b off R c t (some ⟨w.heap.size+1,0,none⟩) (w.heap.size+1) 0 3 3 [bl,wl,E] W1 hR hl hw (hc.below au) rfl (by omega) (fun k hk=>by
  rcases (show k=0\/k=1\/k=2 by omega) with rfl | rfl | rfl
  ·show bl.length<=_;omega
  ·show wl.length<=_;omega
  ·show E.length<=_;omega) (qje jr hm (gI.below au) hq (gJ.below au) hp (gL.below au)))
 have F:=qH (qA hc (qA hR (qA gI (qA hm (qA gJ (qA hq (qA gL (qA hp hT))))))));have fJ:=qH (qA au fC);have lm:=qH iw;have lU:=qeP;clear hR hw hc hm gI gu jr hT hq gJ hp gL gm cB au fC;go_enter func90,ntmps90;go_wp2_with fail;rw [<-bP,<-dV];clear dV bP iw;refine HK.o.mono ?_;rintro e w2 ⟨cc,rfl,ku,gz⟩;have bz:=zkeep gz _ _ fJ.o.2;have HB:=qH (qA (fJ.o.1.trans (gz.mono fJ.o.1.size)) bz);have z0:=qC _ _ 0 _ _ _ bz;have z1:=qC _ _ 1 _ _ _ bz;have y0:=qF _ _ 0 _ _ bz;have y1:=qF _ _ 1 _ _ bz;clear gz bz;have iJ:∀(W:World) (er:Int),Below w.heap.size w W->W.heap[w.heap.size]? = some (.cells #[.string ⟨#[]⟩,.string ⟨#[]⟩] 27 (0,0))->((W.setCell ⟨w.heap.size,0,none⟩ (.string ⟨#[]⟩)).setCell ⟨w.heap.size,1,none⟩ (.string ⟨#[]⟩)).heap[w.heap.size]? = some (.cells #[.string ⟨#[]⟩,.string ⟨#[]⟩] 27 (0,0))/\Below w.heap.size w ((W.setCell ⟨w.heap.size,0,none⟩ (.string ⟨#[]⟩)).setCell ⟨w.heap.size,1,none⟩ (.string ⟨#[]⟩)):=fun W er hb hr =>
  ⟨heap_setCell_same _ _ 1 _ _ _ (heap_setCell_same _ _ 0 _ _ _ hr),(hb.setCell (p:=⟨w.heap.size,0,none⟩) qN _).setCell (p:=⟨w.heap.size,1,none⟩) qN _⟩
 have bi:=qH iJ;clear iJ;rcases ku with ⟨rfl,hT⟩ | ⟨rfl,hT,hL⟩ | ⟨rfl,hT,hL⟩
 ·have HT:=qH (qA hT (bi.o w2 0 HB.o.1 HB.o.2));clear hT;go_wp2_with fail;exact qR (v:=.tuple #[.agg #[.string ⟨#[]⟩,.string ⟨#[]⟩],.int .i64 60]) (rB_ rfl w.heap.size HT.o.2.1 underlying27 2) rfl ⟨qav ⟨HT.o.1,rfl⟩,HT.o.2.2⟩
 ·have HT:=qH (qA (qA hT hL) (bi.o w2 0 HB.o.1 HB.o.2));clear hT hL;go_wp2_with fail;exact qR (v:=.tuple #[.agg #[.string ⟨#[]⟩,.string ⟨#[]⟩],.int .i64 20]) (rB_ rfl w.heap.size HT.o.2.1 underlying27 2) rfl ⟨qaj (qav ⟨HT.o.1.1,fun h=>HT.o.1.2 (qhG.2 h),rfl⟩),HT.o.2.2⟩
 obtain⟨iP,iQ,iR⟩:=qhG.1 hL;have lh:R<=40:=by have:=hT.r2;have:=F.o.2.1;omega
 have lT:1<=R:=by have:=hT.r1;have:=F.o.2.1;omega
 have lg:(0:Int)<R:=by omega
 have kr:=F.o.1.addr (by have:=F.o.2.1;omega);subst kr;obtain⟨n,hn⟩:=qX (wid t);have aY:n<=10:=by have:=hT.c2;omega
 have ky:1<=n:=by have:=hT.c1;omega
 obtain⟨l5,l6,l8,l7,gH,_⟩:=(F.o.1.below HB.o.1).row 0 (by have:=F.o.2.1;omega);rw [qbp] at gH;have jm:(t.getD 0 []).length=n:=hn;rw [jm] at gH;have Y:=qH (qA hT (qA iP (qA iQ (qA iR hn))));clear hT hL iP iQ iR hn jm;have bad:∀(W:World),Below w.heap.size w W->¬(bl.length=t.length/\wl.length=t.length/\E.length=wid t/\¬Neg wl)->qjk w t bl wl E (.returned (.tuple #[.agg #[.string ⟨#[]⟩,.string ⟨#[]⟩],.int .i64 2])) W:=fun W h hn=>⟨qaj (qaj (qav ⟨Y.o.1,Y.o.2.1,Y.o.2.2.1,Y.o.2.2.2.1,hn,rfl⟩)),h⟩
 have dJ:=qH bad;clear bad
 by_cases e1:m=R
 case neg =>
  have jZ:((m:Int) != (R:Int))=true:=by rw [bne_iff_ne];omega
  have hE:=bi.o w2 0 HB.o.1 HB.o.2;have HE:=qH (qA hE.1 (dJ.o _ hE.2 (fun h=>e1 (by rw [<-F.o.2.2.2.1,h.1,F.o.2.1]))));clear e1 hE;go_wp2_with fail;exact qR (v:=.tuple #[.agg #[.string ⟨#[]⟩,.string ⟨#[]⟩],.int .i64 2]) (rB_ rfl w.heap.size HE.o.1 underlying27 2) rfl HE.o.2
 have jZ:((m:Int) != (R:Int))=false:=by simp [e1]
 by_cases e2:q=R
 case neg =>
  have kg:((q:Int) != (R:Int))=true:=by rw [bne_iff_ne];omega
  have hE:=bi.o w2 0 HB.o.1 HB.o.2;have HE:=qH (qA hE.1 (dJ.o _ hE.2 (fun h=>e2 (by rw [<-F.o.2.2.2.2.2.1,h.2.1,F.o.2.1]))));clear e2 e1 hE;go_wp2_with fail;exact qR (v:=.tuple #[.agg #[.string ⟨#[]⟩,.string ⟨#[]⟩],.int .i64 2]) (rB_ rfl w.heap.size HE.o.1 underlying27 2) rfl HE.o.2
 have kg:((q:Int) != (R:Int))=false:=by simp [e2]
 by_cases e3:p=n
 case neg =>
  have ko:((p:Int) != (n:Int))=true:=by rw [bne_iff_ne];omega
  have hE:=bi.o w2 0 HB.o.1 HB.o.2;have HE:=qH (qA hE.1 (dJ.o _ hE.2 (fun h=>e3 (by rw [<-F.o.2.2.2.2.2.2.2.1,h.2.2.1,Y.o.2.2.2.2]))));clear e3 e2 e1 hE;go_wp2_with fail;exact qR (v:=.tuple #[.agg #[.string ⟨#[]⟩,.string ⟨#[]⟩],.int .i64 2]) (rB_ rfl w.heap.size HE.o.1 underlying27 2) rfl HE.o.2
 have ko:((p:Int) != (n:Int))=false:=by simp [e3]
 have He:=qH (qA e1 (qA e2 e3));have iT:=F.o.2.2.1.addr (by have:=F.o.2.2.2.1;omega);subst iT;have iU:=F.o.2.2.2.2.1.addr (by have:=F.o.2.2.2.2.2.1;omega);subst iU;have iV:=F.o.2.2.2.2.2.2.1.addr (by have:=F.o.2.2.2.2.2.2.2.1;omega);subst iV;have jo:=qfw (some ⟨b3,bg,none⟩) b3 bg q c3 wl w2 F.o.2.2.2.2.2.1 (by omega) (F.o.2.2.2.2.1.below HB.o.1) Y.o.2.2.1;have HN:=qH jo;clear e1 e2 e3 jo;go_wp2_with fail;refine HN.o.mono ?_;rintro e w3 ⟨x,rfl,hx,gB⟩;have bA:=zkeep gB _ _ HB.o.2;have kV:=qC _ _ 0 _ _ _ bA;have kW:=qC _ _ 1 _ _ _ bA;have kT:=qF _ _ 0 _ _ bA;have kU:=qF _ _ 1 _ _ bA;have ai:=qH (qA (HB.o.1.trans (gB.mono HB.o.1.size)) bA);clear gB bA;cases x with
 | true =>
  have hE:=bi.o w3 0 ai.o.1 ai.o.2;have HE:=qH (qA hE.1 (dJ.o _ hE.2 (fun h=>h.2.2.2 (hx.1 rfl))));clear hx hE;go_wp2_with fail;exact qR (v:=.tuple #[.agg #[.string ⟨#[]⟩,.string ⟨#[]⟩],.int .i64 2]) (rB_ rfl w.heap.size HE.o.1 underlying27 2) rfl HE.o.2
 | false =>
  have jq:¬Neg wl:=fun h=>by have:=hx.2 h;cases this
  have iI:=qH jq;obtain rfl:m=R:=He.o.1;obtain rfl:q=m:=He.o.2.1;obtain rfl:p=n:=He.o.2.2;clear hx jq z0 z1 y0 y1 gH;go_wp2_with fail;refine (qd8 (c:=c4) (show E.length=p from F.o.2.2.2.2.2.2.2.1) (by omega) (F.o.2.2.2.2.2.2.1.below ai.o.1) Y.o.2.2.2.1).mono ?_;rintro e w4 ⟨gx,vx,rfl,kw,aG,ik,iq⟩;obtain⟨ax,nx,cx,rfl⟩:=qbZ ik;obtain⟨V1,bN⟩:=qY (w4.alloc (.cells #[rowv gx p] 212));have c1:Below w4.heap.size w4 V1:=bN▸qbM qB qN;have d1:V1.heap[w4.heap.size]? = some (.cells #[rowv gx p] 212 (0,0)):=by rw [bN];exact qM _ _ _ rfl
  have s1:V1.heap.size=w4.heap.size+1:=by rw [bN,qaa]
  obtain⟨V2,bO⟩:=qY (V1.alloc (.cells #[.int .u32 1] 201));have c2:Below V1.heap.size V1 V2:=bO▸qbM qB qN;have s2:V2.heap.size=w4.heap.size+1+1:=by rw [bO,qaa,s1]
  have o2:MagAt V2 (.slice (some ⟨w4.heap.size+1,0,none⟩) 1 1) 1:=by
   have:=qfh V1 201 (s:=1) (by decide) (by decide);rw [s1] at this;rw [bO];exact this
  obtain⟨V3,dS⟩:=qY (V2.alloc (.cells #[.slice none 0 0,.bool false] 217));have c3:Below V2.heap.size V2 V3:=dS▸qbM qB qN;have d3:qb5 V3 (w4.heap.size+1+1) 0:=⟨_,_,_,_,by rw [dS];exact qM _ _ _ s2,_,rfl,MagAt.nil _⟩;have dR:=c2.trans (c3.mono c2.size);have bu:=c1.trans (dR.mono c1.size);have eX:=ai.o.1.trans ((aG.trans (bu.mono aG.size)).mono ai.o.1.size);have H3:=qH (qA d3 (qA (zkeep dR _ _ d1) (qA (o2.below c3) (qA (ik.below bu) (qA (iq.below bu) (qA eX (zkeep (aG.trans (bu.mono aG.size)) _ _ ai.o.2)))))));have eH:=qH (show w.heap.size<w4.heap.size by have:=(qG ai.o.2).1;have:=aG.size;omega);have fK:=qH (show w.heap.size<=w4.heap.size+1+1 by have:=(ai.o.1.trans (aG.mono ai.o.1.size)).size;omega);have Hs:=qH (qA s1 (qA s2 (show gx<w4.heap.size by
   obtain⟨_,_,h2,_⟩:=iq;exact (qG h2.1).1)))
  clear aG ik iq c1 d1 c2 o2 c3 d3 dR bu eX s1 s2 kw kV kW kT kU;go_wp2_with fail;rw [<-bN,<-bO,<-dS];clear bN bO dS
  go_loopw [14,72] (fun x14 x72 W=>∃(i:Nat) (T:Int) (D:Nat),i<=q/\x72=.int .i64 i/\Hu (MSt t bl wl E p i T D)/\Hu (qb5 W (w4.heap.size+1+1) T)/\Hu (MagAt W x14 D)/\Hu (Below w.heap.size w W)/\Hu (Soft V3 W (some (w4.heap.size+1+1)))) (fun _ x72 _=>q-(intOf x72).toNat)
  case atStart=>exact⟨0,0,1,qan _,rfl,qH (MSt.start _ _ _ _ _),qH H3.o.1,qH H3.o.2.2.1,qH H3.o.2.2.2.2.2.1,qH H3.o.1.soft0⟩
  case round =>
   obtain⟨i,T,D,hi,rfl,hS,hI,hA,hB,hF⟩:=hrel
   by_cases gX:i<q
   ·have lV:(i:Int)<q:=by omega
    have jh:i<t.length:=by have:=F.o.2.1;omega
    obtain⟨ra,rb,ro,rc,kv,ja⟩:=(F.o.1.below hB.o).row i jh;have ek:=Y.o.1.rows i jh;rw [Y.o.2.2.2.2] at ek;rw [ek.1] at kv;obtain⟨d0,d1⟩:=(F.o.2.2.2.2.1.below hB.o).cell i (by have:=F.o.2.2.2.2.2.1;omega);have il:=Y.o.2.2.1 i (by have:=F.o.2.2.2.2.2.1;omega);obtain⟨WN,dZ⟩:∃N,(wl.getD i fd0).1=N:=⟨_,rfl⟩;obtain⟨WD,dY⟩:∃D,(wl.getD i fd0).2=D:=⟨_,rfl⟩;rw [dZ,dY] at il;rw [dZ] at d0;rw [dY] at d1;obtain⟨e0,e1⟩:=(F.o.2.2.1.below hB.o).cell i (by have:=F.o.2.2.2.1;omega);obtain⟨BN,fT⟩:∃N,(bl.getD i fd0).1=N:=⟨_,rfl⟩;obtain⟨BD,fQ⟩:∃D,(bl.getD i fd0).2=D:=⟨_,rfl⟩;rw [fT] at e0;rw [fQ] at e1;obtain⟨aD,nD,cD,rfl⟩:=qbZ hA.o;have HW:=qH (qA dZ (qA dY (qA il (qA fT (qA fQ (qA ek ja))))));clear dZ dY il fT fQ ek ja;have J:=qH (qlP Y.o.1 F.o.2.1 Y.o.2.2.2.2 Y.o.2.1 F.o.2.2.2.1 Y.o.2.2.1 F.o.2.2.2.2.2.1 iI.o gX);go_wp2_with fail;refine ((qb7 .l) WN HW.o.2.2.1.vn _).mono ?_;rintro e w5 ⟨u5,rfl,iW,iy⟩;obtain⟨a5,n5,c5,b5,rfl⟩:=qbN iy;have H5:=qH (qA iW iy);clear iW iy;go_wp2_with fail;obtain⟨W6,dW⟩:=qY (w5.alloc (.cells #[.slice a5 n5 c5,.bool b5] 217));have aS:Below w5.heap.size w5 W6:=dW▸qbM qB qN;have jd:qb5 W6 w5.heap.size (ival WN.data.toList):=⟨_,_,_,_,by rw [dW];exact qM _ _ _ rfl,H5.o.2.below aS⟩;have ic:=(qhl H5.o.2).below aS;rw [show (ival WN.data.toList).natAbs=wnum wl i by unfold wnum;rw [HW.o.1]] at ic;rw [<-dW];have H6:=qH (qA (bjoin H5.o.1 aS) jd);clear dW aS jd;refine ((qcr .l) (wnum wl i) _ W6 ic).mono ?_;rintro e w6 ⟨rfl,kC⟩;subst kC;clear ic
    by_cases hz:wnum wl i=0
    ·rw [qV hz];have HZ:=qH hz;clear hz;go_wp2;go_roundw
     case rel=>exact⟨i+1,T,D,gX,by go_num,qH (hS.o.skip HZ.o),qH (hI.o.below H6.o.1),qH (hA.o.below H6.o.1),qH (hB.o.trans (H6.o.1.mono hB.o.size)),qH (hF.o.more H6.o.1)⟩
     case measure=>simp [intOf];omega
    ·rw [qU hz];clear hz;have gD:=H6.o.1;have jX:=(gD.cell (qac wr _ e0)).trans e0;have jY:=(gD.cell (qac wr _ e1)).trans e1;clear gD;go_wp2_with fail;refine (qgE ra rb ro p rc (t.getD i []) (BN,BD) _ HW.o.2.2.2.2.2.1.1 ky (by omega) (HW.o.2.2.2.2.2.2.below H6.o.1)).mono ?_;rintro e w7 ⟨g7,rfl,gF,gP⟩;have fq:t.getD i []++[(BN,BD)]=besides t bl i:=by unfold besides;rw [<-HW.o.2.2.2.1,<-HW.o.2.2.2.2.1]
     rw [fq] at gP;have H7:=qH (qA (bjoin H6.o.1 gF) (qA gP (H6.o.2.below gF)));clear gF gP fq jX jY;go_wp2_with fail;refine (qd8 (c:=p+1) J.o.2 (by omega) H7.o.2.1 J.o.1.fa).mono ?_;rintro e w8 ⟨g8,v8,rfl,je,gG,ig,jv⟩;obtain⟨a8,n8,c8,rfl⟩:=qbZ ig;obtain⟨W9,dX⟩:=qY (w8.alloc (.cells #[rowv g8 (p+1)] 212));have aV:Below w8.heap.size w8 W9:=dX▸qbM qB qN;have jl:W9.heap[w8.heap.size]? = some (.cells #[rowv g8 (p+1)] 212 (0,0)):=by rw [dX];exact qM _ _ _ rfl
     have fP:=gG.trans (aV.mono gG.size);have h9:=bjoin H7.o.1 fP;have H9:=qH (qA h9 (qA jl (qA (ig.below aV) (qA (jv.below aV) (qA (H7.o.2.2.below fP) (hF.o.more h9))))));clear gG ig jv aV jl fP h9 je;have fG:=qkC p (.pointer (some ⟨w8.heap.size,0,none⟩)) (.pointer (some ⟨w4.heap.size,0,none⟩)) (fun j=>ftop (besides t bl i) j*ftop E j) 1610 (by omega) W9 (by omega) (fun W' j hj fZ=>by
      have iM:=H9.o.2.2.2.2.2.more fZ;exact qlJ w8.heap.size w4.heap.size g8 gx (p+1) p j _ _ 805 805 (by omega) W' (qC _ _ 0 _ _ _ (zkeep fZ _ _ H9.o.2.1)) (qC _ _ 0 _ _ _ (iM.blk H3.o.2.1 (fun e=>by have:=qag e;omega))) (H9.o.2.2.2.1.below fZ) (iM.introw H3.o.2.2.2.2.1 (fun e=>by have:=qag e;have:=Hs.o.2.2;omega)) (by omega) hj (by omega) (by omega) ((qcR J.o.1.fa (m:=11) (by have:=J.o.2;omega) (by have:=J.o.2;omega)).mono (by omega)) ((qcR Y.o.2.2.2.1 (m:=11) (by have:=F.o.2.2.2.2.2.2.2.1;omega) (by have:=F.o.2.2.2.2.2.2.2.1;omega)).mono (by omega))) (fun j hj=>by
       rw [qaB];exact ((qcR J.o.1.fa (m:=11) (by have:=J.o.2;omega) (by have:=J.o.2;omega)).mul (qcR Y.o.2.2.2.1 (m:=11) (by have:=F.o.2.2.2.2.2.2.2.1;omega) (by have:=F.o.2.2.2.2.2.2.2.1;omega))).mono (by omega))
     have jJ:=qH fG;clear fG;go_wp2_with fail;rw [<-dX];clear dX;refine jJ.o.mono ?_;rintro e af ⟨u10,rfl,ay,cK⟩;obtain⟨jL,n10,c10,b10,rfl⟩:=qbN cK;obtain⟨G,aL⟩:=qY (af.alloc (.cells #[.slice jL n10 c10,.bool b10] 217));have aB:Below af.heap.size af G:=aL▸qbM qB qN;have dH:qb5 G af.heap.size (isum (fun j=>ftop (besides t bl i) j*ftop E j) p):=⟨_,_,_,_,by rw [aL];exact qM _ _ _ rfl,cK.below aB⟩;have ae:=ay.trans (aB.mono ay.size);have cu:w8.heap.size<af.heap.size:=qai (qG H9.o.2.1).1 ay.size;have fw:w5.heap.size<af.heap.size:=qai H9.o.2.2.2.2.1.lt ay.size;have Z:=qH (qA (bjoin H9.o.1 ae) (qA dH (qA (H9.o.2.2.1.below ae) (qA (H9.o.2.2.2.2.1.below ae) (qA (H9.o.2.2.2.2.2.more ae) (qA cu (qA fw (qak H9.o.1.size ay.size))))))));obtain⟨a2,m2,d2,b2',p0,p1,jg⟩:=(H9.o.2.2.2.1.below ae).pair (show p<p+1 by omega);obtain⟨av,mv,dv,bv,⟨v0,v1⟩,_,ji⟩:=dH.cells;have l0:=qC _ _ 0 _ _ _ (zkeep ae _ _ H9.o.2.1);have jw:MagAt G (.slice ax nx cx) (flcd E):=(H9.o.2.2.2.2.2.more ae).mag H3.o.2.2.2.1;have aj:=qe3 J.o.1.fa J.o.2 aY Y.o.2.2.2.1 F.o.2.2.2.2.2.2.2.1;have lX:(p:Int)<p+1:=by omega
     have bC:Below G.heap.size G G:=Below.refl _ _;have I:Below G.heap.size G G.drew:=bC.drew;have jF:=qH (fun W (h:Below G.heap.size G W)=>(qci .l) (ftop (besides t bl i) p) (flcd E) 805 738 (by omega) _ _ W (jg.below h) (jw.below h) ((qcR J.o.1.fa (m:=11) (by have:=J.o.2;omega) (by have:=J.o.2;omega)).mono (by omega)) ((qeR Y.o.2.2.2.1 (m:=11) (by have:=F.o.2.2.2.2.2.2.2.1;omega)).mono (by omega)));have jc:Fit (-(ftop (besides t bl i) p*((flcd E:Nat):Int))).natAbs 1621:=by rw [qby];exact aj.2.1.mono (by omega)
     have jG:=qH (fun W u (h:Below G.heap.size G W) (hu:IntAt W u (-(ftop (besides t bl i) p*((flcd E:Nat):Int))))=>(qc5 .l) (isum (fun j=>ftop (besides t bl i) j*ftop E j) p) (-(ftop (besides t bl i) p*((flcd E:Nat):Int))) 1621 (by omega) _ u W (ji.below h) hu aj.1 jc);clear ay cK aB dH ae cu fw jg ji jw aj jc;go_wp2_with fail;rw [<-aL];clear aL
     go_cut [110] (fun x110 W=>Hu (qb5 W af.heap.size (mval2 t bl E p i))/\Hu (Soft G W (some af.heap.size)))
     case first =>
      go_region_with (first | (go_at_call 155;refine (jF.o _ I).mono ?_;rintro e kE ⟨u12,rfl,eQ,cO⟩;have bF:Below G.heap.size G kE:=I.trans eQ;have x0:=bF.cell (qac G _ v0) |>.trans v0;have x1:=bF.cell (qac G _ v1) |>.trans v1;obtain⟨a12,n12,c12,b12,rfl⟩:=qbN cO;have iA:=qH cO;clear eQ cO) | (go_at_call 156;refine ((qdr .l) _ _ _ iA.o).mono ?_;rintro e kF ⟨u13,rfl,eT,cZ⟩;have aJ:Below G.heap.size G kF:=bjoin bF eT;have x2:=aJ.cell (qac G _ v0) |>.trans v0;have x3:=aJ.cell (qac G _ v1) |>.trans v1;obtain⟨lq,n13,bu,b13,rfl⟩:=qbN cZ;have iB:=qH cZ;clear eT cZ) | (go_at_call 154;refine (jG.o _ _ aJ iB.o).mono ?_;rintro e kG ⟨u14,rfl,eU,df⟩;have bG:Below G.heap.size G kG:=bjoin aJ eU;obtain⟨lw,n14,c14,b14,rfl⟩:=qbN df;obtain⟨_,_,_,_,⟨x4,x5⟩,⟨x6,x7⟩,_⟩:=(Z.o.2.1.below bG).cells;have bK:=qH (qA bG ((Z.o.2.1.below bG).put (z:=mval2 t bl E p i) df));clear eU df))
      all_goals go_wp2_with fail
      all_goals go_meet
      all_goals exact⟨qH bK.o.2,qH (((Soft.any bK.o.1 Z.o.2.1.soft0.nn)).trans ((Z.o.2.1.below bK.o.1).soften _ _))⟩
     case rest =>
      obtain⟨kz,bB⟩:=hcut;obtain⟨O,kD⟩:=qY wc;subst kD;have hne:∀{x:Nat},x<af.heap.size->(some af.heap.size:Option Nat)≠some x:=fun hx e=>by have:=qag e;omega
      have dI:=Z.o.2.2.2.2.2.2.2;have jy:=Z.o.2.2.2.1.soft bB.o (hne Z.o.2.2.2.2.2.2.1);have iO:=(hI.o.below Z.o.1).soft bB.o (hne (qai hI.o.lt dI));have iL:=bB.o.mag (hA.o.below Z.o.1);have fU:=bB.o.old (hB.o.trans (Z.o.1.mono hB.o.size)) (fun x e=>by have:=qag e;have:=hB.o.size;omega) (qak hB.o.size Z.o.1.size);have iN:=Z.o.2.2.2.2.1.new bB.o (by have:=hF.o.grown.size;omega);have iK:=bB.o.mag Z.o.2.2.1;have iY:O.cell? ⟨b3,bg+i*2+1,none⟩=some (.string WD):=by
       have h:=(F.o.2.2.2.2.1.below fU).cell i (by have:=F.o.2.2.2.2.2.1;omega);rw [HW.o.2.1] at h;exact h.2
      obtain⟨aw,mw,dw,bw,⟨g0,g1⟩,_,gY⟩:=jy.cells;obtain⟨jM,mv',jW,jN,⟨f0,f1⟩,_,bY⟩:=kz.o.cells;have G0:∀W,Below O.heap.size O W->W.cell? ⟨w5.heap.size,0,none⟩=some (.slice aw mw dw):=fun W h=>(h.cell (qac O _ g0)).trans g0
      have G1:∀W,Below O.heap.size O W->W.cell? ⟨w5.heap.size,1,none⟩=some (.bool bw):=fun W h=>(h.cell (qac O _ g1)).trans g1
      have F0:∀W,Below O.heap.size O W->W.cell? ⟨af.heap.size,0,none⟩=some (.slice jM mv' jW):=fun W h=>(h.cell (qac O _ f0)).trans f0
      have F1:∀W,Below O.heap.size O W->W.cell? ⟨af.heap.size,1,none⟩=some (.bool jN):=fun W h=>(h.cell (qac O _ f1)).trans f1
      have aj:=(qe3 J.o.1.fa J.o.2 aY Y.o.2.2.2.1 F.o.2.2.2.2.2.2.2.1).2.2;have fI:ival WN.data.toList=((wnum wl i:Nat):Int):=by
       have h1:=J.o.1.nn;unfold wnum;rw [HW.o.1] at h1 ⊢;omega
      rw [fI] at gY;have gU:Fit ((wnum wl i:Nat):Int).natAbs 67:=by rw [qaq];exact J.o.1.wn
      have fu:Fit (((wnum wl i:Nat):Int)*mval2 t bl E p i).natAbs (67+1622):=by rw [qaB];exact gU.mul aj
      have bn:=qH (fun W (h:Below O.heap.size O W)=>qcq ((wnum wl i:Nat):Int) (mval2 t bl E p i) 67 1622 (by omega) _ _ W (gY.below h) (bY.below h) gU aj);have bq:=qH (fun W u (h:Below O.heap.size O W) (hu:IntAt W u (((wnum wl i:Nat):Int)*mval2 t bl E p i))=>qcq (((wnum wl i:Nat):Int)*mval2 t bl E p i) (mval2 t bl E p i) (67+1622) 1622 (by omega) u _ W hu (bY.below h) fu aj);have d9:Below O.heap.size O O:=Below.refl _ _;have aX:Below O.heap.size O O.drew:=d9.drew;have aW:Below O.heap.size O (O.alloc (.cells #[.slice none 0 0,.bool false] 217)).drew:=(qbM d9 qN).drew;have Hc:=qH (qA iO (qA iL (qA fU (qA iN (qA iK iY)))));clear hne dI jy iO iL fU iN iK iY g0 g1 f0 f1 gY bY aj fI gU fu bC I p0 p1 v0 v1 l0;go_wp2_with fail
      go_cut [21] (fun x21 W=>∃fO:Nat,x21=.pointer (some ⟨fO,0,none⟩)/\LOne O W fO (((wnum wl i:Nat):Int)*mval2 t bl E p i*mval2 t bl E p i))
      case first =>
       go_region_held3 (fun W=>Below O.heap.size O W) (first | with_reducible exact d9 | with_reducible exact aX | with_reducible exact aW | with_reducible exact V | with_reducible exact U | exact qbM U qN | exact qbM V qN | exact (U.setCell qN _).setCell qN _ | exact (U.setCell V.size _).setCell V.size _ | exact (U.setCell U.size _).setCell U.size _) (first | (go_at_call_of 153 (Value.agg #[.slice aw mw dw,.bool bw]);refine (bn.o _ (by first | with_reducible exact aX | with_reducible exact aW)).mono ?_;rintro e jC ⟨u15,rfl,bQ,dh⟩;have V:Below O.heap.size O jC:=bjoin (by first | with_reducible exact aX | with_reducible exact aW) bQ;obtain⟨lC,n15,c15,b15,rfl⟩:=qbN dh;have eD:=qH dh;have jK:=qH (zkeep bQ);clear bQ dh) | (go_at_call 153;refine (bq.o _ _ (by first | with_reducible exact V | exact qbM V qN) (by first | with_reducible exact eD.o | exact eD.o.below (qbM qB qN))).mono ?_;rintro e kH ⟨u16,rfl,aM,di⟩;have U:Below O.heap.size O kH:=bjoin (by first | with_reducible exact V | exact qbM V qN) aM;obtain⟨a16,n16,c16,b16,rfl⟩:=qbN di;have bL:=qH di;(first | (have aa:=zkeep aM _ _ (jK.o O.heap.size _ (qM O (.cells #[.slice none 0 0,.bool false] 217) _ rfl));have o0:=qC _ _ 0 _ _ _ aa;have o1:=qC _ _ 1 _ _ _ aa;have o2:=qF _ _ 0 _ _ aa;have o3:=qF _ _ 1 _ _ aa;have fM:=qH aa;clear aa) | (have aa:=zkeep aM _ _ (qM jC (.cells #[.slice none 0 0,.bool false] 217) _ rfl);have o0:=qC _ _ 0 _ _ _ aa;have o1:=qC _ _ 1 _ _ _ aa;have o2:=qF _ _ 0 _ _ aa;have o3:=qF _ _ 1 _ _ aa;have fM:=qH aa;clear aa) | skip);clear aM di))
       all_goals go_wp2_with fail
       all_goals go_meet
       all_goals refine⟨_,rfl,?_⟩
       all_goals first
        | with_reducible exact lone_a bL.o U
        | exact lone_p bL.o U qN fM.o
        | exact lone_p bL.o U V.size fM.o
      case rest =>
       obtain⟨fO,rfl,jk,ed,ib⟩:=hcut;have iX:=(ed.cell (qac O _ Hc.o.2.2.2.2.2)).trans Hc.o.2.2.2.2.2;have dK:=qH (qA jk (qA ed ib));clear jk ed ib G0 G1 F0 F1 bn bq d9 aX aW;go_wp2_with fail;refine ((qb7 .l) WD HW.o.2.2.1.vd _).mono ?_;rintro e kI ⟨u22,rfl,bR,dm⟩;obtain⟨a22,n22,lJ,lD,rfl⟩:=qbN dm;have cz:=qhl dm;rw [show (ival WD.data.toList).natAbs=fden (wl.getD i fd0) by unfold fden;rw [HW.o.2.1]] at cz;have dL:=qH (qA bR (qA cz (Hc.o.2.2.2.2.1.below (bjoin dK.o.2.1 bR))));clear bR dm cz iX;go_wp2_with fail;refine ((qca .l) _ _ 67 738 (by omega) _ _ kI dL.o.2.1 dL.o.2.2 J.o.1.wd.2 J.o.1.below.2).mono ?_;rintro e kJ ⟨u23,rfl,bS,dn⟩;obtain⟨a23,n23,dR,rfl⟩:=qbZ dn;have dM:=qH (qA (bjoin dL.o.1 bS) (qA dn (dL.o.2.2.below bS)));clear bS dn;go_wp2_with fail;refine ((qca .l) _ _ 805 738 (by omega) _ _ kJ dM.o.2.1 dM.o.2.2 ((J.o.1.wd.2.mul J.o.1.below.2).mono (by omega)) J.o.1.below.2).mono ?_;rintro e jD ⟨u24,rfl,bV,dx⟩;obtain⟨a24,n24,c24,rfl⟩:=qbZ dx;have bD:=qH (qA (bjoin dM.o.1 bV) (qA (show MagAt jD (.slice a24 n24 c24) (wdn t bl wl i) from dx) (Hc.o.2.1.below (bjoin dK.o.2.1 (bjoin dM.o.1 bV)))));clear bV dx;go_wp2_with fail;refine (qed D (wdn t bl wl i) (1543*i+1) 1543 (by omega) (by omega) hS.o.pos J.o.1.d.1 _ _ jD bD.o.2.2 bD.o.2.1 hS.o.fitD J.o.1.d.2).mono ?_;rintro e kK ⟨u25,rfl,aN,dz⟩;obtain⟨a25,n25,lK,rfl⟩:=qbZ dz;have jb:Fit (D.lcm (wdn t bl wl i)) 65000:=((hS.o.fitD.mul J.o.1.d.2).le (qbG (qbL hS.o.pos J.o.1.d.1) (Nat.lcm_dvd_mul _ _))).mono (by omega);have aC:=qH (qA (bjoin bD.o.1 aN) (qA dz (qA (bD.o.2.1.below aN) (qA (bD.o.2.2.below aN) jb))));clear aN dz jb;go_wp2_with fail;refine ((qbU .l) _ D 65000 (by omega) _ _ kK aC.o.2.1 aC.o.2.2.2.1 aC.o.2.2.2.2 (hS.o.fitD.mono (by omega)) hS.o.pos).mono ?_;rintro e kL ⟨u26,lY,rfl,aO,dA,fD⟩;obtain⟨a26,n26,lL,rfl⟩:=qbZ dA;obtain⟨kX,n26',kZ,rfl⟩:=qbZ fD;have bE:=qH (qA (bjoin aC.o.1 aO) (qA dA (qA (aC.o.2.1.below aO) (aC.o.2.2.1.below aO))));clear aO dA fD;go_wp2_with fail;refine ((qbU .l) _ (wdn t bl wl i) 65000 (by omega) _ _ kL bE.o.2.2.1 bE.o.2.2.2 aC.o.2.2.2.2 (J.o.1.d.2.mono (by omega)) J.o.1.d.1).mono ?_;rintro e H ⟨u27,lZ,rfl,aP,dB,fE⟩;obtain⟨a27,n27,lM,rfl⟩:=qbZ dB;obtain⟨kY,ll,lc,rfl⟩:=qbZ fE;have aF:=bjoin bE.o.1 aP;have aI:=bjoin dK.o.2.1 aF;have bM:=Hc.o.1.below aI;have eP:=dK.o.1.below aF;obtain⟨aT,mT,dT,bT,⟨k0,k1⟩,_,bX⟩:=bM.cells;obtain⟨aU,mU,dU,bU,⟨j0,j1⟩,_,jf⟩:=eP.cells;have bC:Below H.heap.size H H:=Below.refl _ _;have I:Below H.heap.size H H.drew:=bC.drew;obtain⟨q1,q2,q3,q4⟩:=qh1 hS.o.pos J.o.1.d.1;have gT:Fit (((wnum wl i:Nat):Int)*mval2 t bl E p i*mval2 t bl E p i).natAbs (67+1622+1622):=by
        have aj:=(qe3 J.o.1.fa J.o.2 aY Y.o.2.2.2.1 F.o.2.2.2.2.2.2.2.1).2.2;rw [qaB,qaB,qaq];exact (J.o.1.wn.mul aj).mul aj
       have gM:=hS.o.fitT.mul (J.o.1.d.2.le q3);have gN:=gT.mul (hS.o.fitD.le q4);rw [<-qaq (D.lcm (wdn t bl wl i) / D),<-qaB] at gM;rw [<-qaq (D.lcm (wdn t bl wl i) / wdn t bl wl i),<-qaB] at gN;have bn:=qH (fun W (h:Below H.heap.size H W)=>(qci .l) T (D.lcm (wdn t bl wl i) / D) (3400+1545*i) 1543 (by omega) _ _ W (bX.below h) ((bE.o.2.1.below aP).below h) hS.o.fitT (J.o.1.d.2.le q3));have bq:=qH (fun W (h:Below H.heap.size H W)=>(qci .l) (((wnum wl i:Nat):Int)*mval2 t bl E p i*mval2 t bl E p i) (D.lcm (wdn t bl wl i) / wdn t bl wl i) (67+1622+1622) (1543*i+1) (by omega) _ _ W (jf.below h) (dB.below h) gT (hS.o.fitD.le q4));have jH:=qH (fun W u v (hu:IntAt W u (T*((D.lcm (wdn t bl wl i) / D:Nat):Int))) (hv:IntAt W v (((wnum wl i:Nat):Int)*mval2 t bl E p i*mval2 t bl E p i*((D.lcm (wdn t bl wl i) / wdn t bl wl i:Nat):Int)))=>(qc5 .l) _ _ 70000 (by omega) u v W hu hv (gM.mono (by omega)) (gN.mono (by omega)));have aA:=qH (qA bM (qA aI (bE.o.2.2.1.below aP)));clear aP dB fE aF aI bM eP bX jf q1 q2 q3 q4 gT gM gN;go_wp2_with fail
       go_region_with (first | (go_at_call_of 155 (Value.agg #[.slice aT mT dT,.bool bT]);refine (bn.o _ (by first | with_reducible exact I | with_reducible exact ah)).mono ?_;rintro e kM ⟨u28,rfl,aQ,aZ⟩;have ag:Below H.heap.size H kM:=(by first | exact bjoin I aQ | exact bjoin ah aQ);obtain⟨a28,n28,c28,lF,rfl⟩:=qbN aZ;have jO:=ag.cell (qac H _ k0) |>.trans k0;have jP:=ag.cell (qac H _ k1) |>.trans k1;have jQ:=ag.cell (qac H _ j0) |>.trans j0;have jR:=ag.cell (qac H _ j1) |>.trans j1;(first | (have eG:=qH (iD.o.below aQ);have eF:=qH aZ) | skip);have iC:=qH aZ;clear aQ aZ) | (go_at_call 155;refine (bq.o _ (by first | with_reducible exact I | with_reducible exact ag)).mono ?_;rintro e kN ⟨u29,rfl,aR,bf⟩;have ah:Below H.heap.size H kN:=(by first | exact bjoin I aR | exact bjoin ag aR);obtain⟨a29,n29,lN,lG,rfl⟩:=qbN bf;have jS:=ah.cell (qac H _ k0) |>.trans k0;have jT:=ah.cell (qac H _ k1) |>.trans k1;have jU:=ah.cell (qac H _ j0) |>.trans j0;have jV:=ah.cell (qac H _ j1) |>.trans j1;(first | (have eF:=qH (iC.o.below aR);have eG:=qH bf) | skip);have iD:=qH bf;clear aR bf) | (go_at_call 154;refine (jH.o _ _ _ eF.o eG.o).mono ?_;rintro e kP ⟨u30,rfl,bW,dC⟩;have bH:Below H.heap.size H kP:=(by first | exact bjoin ah bW | exact bjoin ag bW);obtain⟨a30,n30,lQ,lH,rfl⟩:=qbN dC;obtain⟨_,_,_,_,⟨x4,x5⟩,⟨x6,x7⟩,_⟩:=(aA.o.1.below bH).cells;have ak:=qH (qA bH ((aA.o.1.below bH).put dC));clear bW dC))
       all_goals go_wp2_with fail
       all_goals go_roundw
       all_goals first
        | exact⟨i+1,_,_,gX,by go_num,qH (hS.o.next J.o.1 J.o.2 HW.o.2.2.2.2.2.1.1 Y.o.2.2.2.1 F.o.2.2.2.2.2.2.2.1 aY),qH ak.o.2,qH ((aA.o.1.below ak.o.1).soften _ _ |>.mag (aA.o.2.2.below ak.o.1)),qH (((Hc.o.2.2.1.trans (aA.o.2.1.mono Hc.o.2.2.1.size)).trans (ak.o.1.mono (qak Hc.o.2.2.1.size aA.o.2.1.size))).setCell (p:=⟨w4.heap.size+1+1,0,none⟩) fK.o _ |>.setCell (p:=⟨w4.heap.size+1+1,1,none⟩) fK.o _),qH ((Hc.o.2.2.2.1.more (aA.o.2.1.trans (ak.o.1.mono aA.o.2.1.size))).trans ((aA.o.1.below ak.o.1).soften _ _))⟩
        | (simp [intOf];omega)
   ·obtain rfl:i=q:=by omega
    obtain⟨aD,nD,cD,rfl⟩:=qbZ hA.o;have aH:=hF.o.mag H3.o.2.2.2.1;have eu:=qjt Y.o.2.2.2.1;have dG:Fit (flcd E) 738:=(qeR Y.o.2.2.2.1 (m:=11) (by have:=F.o.2.2.2.2.2.2.2.1;omega)).mono (by omega);have cB:=hF.o.blk H3.o.2.2.2.2.2.2 (fun e=>by have:=qag e;have:=fK.o;have:=ai.o.1.size;have:=(qG ai.o.2).1;have:=eH.o;omega);have bZ:w4.heap.size+1+1≠w.heap.size:=by have:=eH.o;omega
    obtain⟨aT,mT,dT,bT,⟨k0,k1⟩,_,bX⟩:=hI.o.cells;have gZ:=hI.o.lt;have C0:∀W,wr.grownBy W (some w.heap.size)->W.cell? ⟨w4.heap.size+1+1,0,none⟩=some (.slice aT mT dT):=fun W h=>(qdH h (p:=⟨w4.heap.size+1+1,0,none⟩) gZ bZ).trans k0
    have C1:∀W,wr.grownBy W (some w.heap.size)->W.cell? ⟨w4.heap.size+1+1,1,none⟩=some (.bool bT):=fun W h=>(qdH h (p:=⟨w4.heap.size+1+1,1,none⟩) gZ bZ).trans k1
    have hD:=hS.o.pos;have gQ:Fit D 61721:=hS.o.fitD.mono (by omega);have iZ:Fit T.natAbs 66000:=hS.o.fitT.mono (by omega);have fV:Fit (D*flcd E) 62459:=(gQ.mul dG).mono (by omega);have eO:Fit (D*flcd E*flcd E) 63197:=(fV.mul dG).mono (by omega);have bn:=qH (fun W (h:Below wr.heap.size wr W)=>(qca .l) D (flcd E) 61721 738 (by omega) _ _ W (hA.o.below h) (aH.below h) gQ dG);have bq:=qH (fun W u (h:Below wr.heap.size wr W) (hu:MagAt W u (D*flcd E))=>(qca .l) (D*flcd E) (flcd E) 62459 738 (by omega) u _ W hu (aH.below h) fV dG);have jI:=qH (fun W u (h:Below wr.heap.size wr W) (hu:IntAt W u ((D*flcd E*flcd E:Nat):Int))=>qgT T ((D*flcd E*flcd E:Nat):Int) (by have:=qbL (qbL hD eu) eu;omega) 66000 (by omega) (by omega) _ u W (bX.below h) hu iZ (by rw [qaq];exact eO.mono (by omega)) ((F.o.2.2.2.2.2.2.2.2.below hB.o).below h));have fH:Rat.divInt T ((D*flcd E*flcd E:Nat):Int)=measQ t bl wl E p i:=by
     rw [qfL,hS.o.val];have h1:((D:Nat):Rat)≠0:=by have:=qbi hD;exact_mod_cast this
     have h2:((flcd E:Nat):Rat)≠0:=by have:=qbi eu;exact_mod_cast this
     push_cast
     grind
    have bC:Below wr.heap.size wr wr:=Below.refl _ _;have I:Below wr.heap.size wr wr.drew:=bC.drew;have HV:=qH (qA fH (qA cB hB.o));clear aH eu dG cB k0 k1 bX hD gQ iZ fV eO fH gZ bZ;go_wp2_with fail
    go_region_held3 (fun W=>wr.grownBy W (some w.heap.size)) (first | with_reducible exact qcz _ _ | with_reducible exact qbV _ I | with_reducible exact qbV _ bI | with_reducible exact qbV _ eB | with_reducible exact qbV _ bJ | with_reducible exact qbV _ aK | exact qbR (qbR (qbV _ aK) (qbO _ _ _ _)) (qbO _ _ _ _)) (first | (go_at_call_of 157 (Value.slice aD nD cD);refine (bn.o _ I).mono ?_;rintro e kQ ⟨u31,rfl,eY,dD⟩;have bI:Below wr.heap.size wr kQ:=bjoin I eY;have iE:=qH dD;obtain⟨a31,n31,c31,rfl⟩:=qbZ dD;clear eY dD) | (go_at_call 157;refine (bq.o _ _ bI iE.o).mono ?_;rintro e kR ⟨u32,rfl,eZ,dE⟩;have eB:Below wr.heap.size wr kR:=bjoin bI eZ;have iF:=qH dE;obtain⟨a32,n32,c32,rfl⟩:=qbZ dE;clear eZ dE) | (go_at_call 161;refine ((qb0 .l) (D*flcd E*flcd E) false _ _ iF.o).mono ?_;rintro e jE ⟨u33,rfl,fe,dF⟩;have bJ:Below wr.heap.size wr jE:=bjoin eB fe;have iG:=qH (show IntAt jE u33 ((D*flcd E*flcd E:Nat):Int) from dF);obtain⟨a33,n33,lS,lI,rfl⟩:=qbN dF;clear fe dF) | (go_at_call 160;refine (jI.o _ _ bJ iG.o).mono ?_;rintro e kS hx;obtain⟨x1,x2,c6,rfl,hx,fo⟩:=qfp hx;have aK:Below wr.heap.size wr kS:=bjoin bJ fo;have az:=zkeep aK _ _ HV.o.2.1;have m0:=qC _ _ 0 _ _ _ az;have m1:=qC _ _ 1 _ _ _ az;have m2:=qF _ _ 0 _ _ az;have m3:=qF _ _ 1 _ _ az;have iH:=qH (qA hx az);clear hx fo az))
    all_goals go_wp2_with fail
    all_goals refine qR (v:=.tuple #[.agg #[.string x1,.string x2],.int .i64 c6]) (rB_ rfl w.heap.size (heap_setCell_same _ _ 1 _ _ _ (heap_setCell_same _ _ 0 _ _ _ iH.o.2)) underlying27 2) rfl ⟨qaj (qaj (qaj ⟨Y.o.1,Y.o.2.1,Y.o.2.2.1,Y.o.2.2.2.1,by rw [F.o.2.2.2.1,F.o.2.1],by rw [F.o.2.2.2.2.2.1,F.o.2.1],by rw [F.o.2.2.2.2.2.2.2.1,Y.o.2.2.2.2],iI.o,?_⟩)),((HV.o.2.2.trans (aK.mono HV.o.2.2.size)).setCell (p:=⟨w.heap.size,0,none⟩) qN _).setCell (p:=⟨w.heap.size,1,none⟩) qN _⟩
    all_goals rw [F.o.2.1,Y.o.2.2.2.2]
    all_goals have hx:=iH.o.1
    all_goals rw [HV.o.1] at hx
    all_goals exact fw_end hx
