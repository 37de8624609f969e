import Derived.Test.YtjalhnlhcdfncaaGreatDoorBu16
set_option maxRecDepth 100000
set_option maxHeartbeats 0
namespace Go.Proofs.YtjalhnlhcdfncaaGreatDoor
open Go.RowKit Go.Proofs.Tryz
def qka (w:World) (t:Tbl) (bl wl E:List FT) (e:Ending) (F:World):Prop :=
  ((¬TOk t/\e=.returned (.tuple #[.agg #[.string ⟨#[]⟩,.string ⟨#[]⟩],.int .i64 60])) \/
   (TOk t/\¬(FAll bl/\FAll wl/\FAll E)/\e=.returned (.tuple #[.agg #[.string ⟨#[]⟩,.string ⟨#[]⟩],.int .i64 20])) \/
   (TOk t/\FAll bl/\FAll wl/\FAll E/\¬(bl.length=t.length/\wl.length=t.length/\E.length=wid t/\¬Neg wl)/\e=.returned (.tuple #[.agg #[.string ⟨#[]⟩,.string ⟨#[]⟩],.int .i64 2])) \/
   (TOk t/\FAll bl/\FAll wl/\FAll E/\bl.length=t.length/\wl.length=t.length/\E.length=wid t/\¬Neg wl /\
     (Short (measQ t bl wl E (wid t) t.length)/\e=.returned (.tuple #[fstr (measQ t bl wl E (wid t) t.length),.int .i64 0]) \/
      ¬Short (measQ t bl wl E (wid t) t.length)/\e=.returned (.tuple #[.agg #[.string ⟨#[]⟩,.string ⟨#[]⟩],.int .i64 6]))))/\Below w.heap.size w F
theorem qj4 {W:World} {O:Option Addr} {b J n c:Nat} {l:List FT} {G:Option Addr} {Y E n2 c2:Nat} {l2:List FT} {H:Option Addr} {Z F n3 c3:Nat} {I:List FT} {g:Nat} {ty:TypeId} (hg:W.heap[g]? = some (.cells #[.slice O n c,.slice G n2 c2,.slice H n3 c3] ty (0,0))) (hn:l.length=n) (h:FCells W O b J l) (U:l2.length=n2) (h2:FCells W G Y E l2) (V:I.length=n3) (h3:FCells W H Z F I):TCells W (some ⟨g,0,none⟩) g 0 [l,l2,I]:=by
 refine⟨fun _=>rfl,fun k hk=>?_⟩;rcases (show k=0\/k=1\/k=2 by simp at hk;omega) with rfl | rfl | rfl
 ·exact⟨O,b,J,c,by rw [show ([l,l2,I]:Tbl).getD 0 []=l from rfl,hn];exact qC _ _ 0 _ _ _ hg,h⟩
 ·exact⟨G,Y,E,c2,by rw [show ([l,l2,I]:Tbl).getD 1 []=l2 from rfl,U];exact qC _ _ 1 _ _ _ hg,h2⟩
 ·exact⟨H,Z,F,c3,by rw [show ([l,l2,I]:Tbl).getD 2 []=I from rfl,V];exact qC _ _ 2 _ _ _ hg,h3⟩
theorem qik {l l2 E:List FT}:(∀k,k<([l,l2,E]:Tbl).length->FAll (([l,l2,E]:Tbl).getD k []))↔FAll l/\FAll l2/\FAll E :=
 ⟨fun h=>⟨h 0 (by simp),h 1 (by simp),h 2 (by simp)⟩,fun h k F=>by
  rcases (show k=0\/k=1\/k=2 by simp at F;omega) with rfl | rfl | rfl
  ·exact h.1
  ·exact h.2.1
  ·exact h.2.2⟩
theorem qcj.soft {W W':World} {g:Nat} {z:Int} {row:Option Nat} (h:qcj W g z) (s:Soft W W' row) (hne:row≠some g):qcj W' g z:=by
 obtain⟨a,m,c,b,E,x,e,F⟩:=h;exact⟨a,m,c,b,s.blk E hne,x,e,s.mag F⟩
theorem qcj.soften {W:World} {g:Nat} {z:Int} (h:qcj W g z) (u v:Value):Soft W ((W.setCell ⟨g,0,none⟩ u).setCell ⟨g,1,none⟩ v) (some g):=by
 obtain⟨a,m,c,b,E,_⟩:=h;have F:∀x∈(#[.slice a m c,.bool b]:Array Value).toList,qcL x:=by
  intro x hx k d e;rcases qav.1 hx with h | h
  ·rw [h] at e;cases e
  ·rw [qan.1 h] at e;cases e
 exact⟨qd8 W g u v,fun G e=>by cases e;exact⟨_,_,_,E,F⟩⟩
theorem qcj.soft0 {W:World} {g:Nat} {z:Int} (h:qcj W g z):Soft W W (some g):=by
 have s:=h.soften (.slice none 0 0) (.bool false);exact⟨qcs _ _,s.nn⟩
theorem Soft.trans {W V U:World} {row:Option Nat} (s:Soft W V row) (r:Soft V U row):Soft W U row:=⟨qbX s.grown r.grown,s.nn⟩
theorem Soft.any {W V:World} (h:Below W.heap.size W V) {row:Option Nat} (G:∀g,row=some g->∃(cs:Array Value) (t:TypeId) (E:Nat×Nat),W.heap[g]? = some (.cells cs t E)/\∀x∈cs.toList,qcL x):Soft W V row :=
 ⟨⟨h.os,h.tape,h.output,h.size,fun i F _=>h.block i F⟩,G⟩
theorem Soft.more {W V U:World} {row:Option Nat} (s:Soft W V row) (h:Below V.heap.size V U):Soft W U row:=⟨qco s.grown h,s.nn⟩
theorem Soft.new {W V U:World} {row:Option Nat} {g:Nat} (s:Soft W V row) (r:Soft V U (some g)) (hg:W.heap.size<=g):Soft W U row :=
 ⟨⟨r.grown.os.trans s.grown.os,r.grown.tape.trans s.grown.tape,r.grown.output.trans s.grown.output,qal s.grown.size r.grown.size,fun i E hne=>(r.grown.block i (qak E s.grown.size) (fun e=>by have:=qag e;omega)).trans (s.grown.block i E hne)⟩,s.nn⟩
def LOne (E W:World) (g:Nat) (z:Int):Prop:=qcj W g z/\Below E.heap.size E W/\E.heap.size<=g
theorem lone_a {E W:World} {a:Option Addr} {n c:Nat} {b:Bool} {z:Int} (h:IntAt W (.agg #[.slice a n c,.bool b]) z) (F:Below E.heap.size E W):LOne E (W.alloc (.cells #[.slice a n c,.bool b] 217)) W.heap.size z :=
 ⟨⟨a,n,c,b,qM _ _ _ rfl,h.below (qbY qB qN)⟩,qbY F qN,F.size⟩
theorem lone_p {E W:World} {g:Nat} {a:Option Addr} {n c:Nat} {b:Bool} {z:Int} (h:IntAt W (.agg #[.slice a n c,.bool b]) z) (G:Below E.heap.size E W) (hg:E.heap.size<=g) (H:W.heap[g]? = some (.cells #[.slice none 0 0,.bool false] 217 (0,0))):LOne E ((W.setCell ⟨g,0,none⟩ (.slice a n c)).setCell ⟨g,1,none⟩ (.bool b)) g z :=
 have F:qcj W g 0:=⟨_,_,_,_,H,_,rfl,MagAt.nil _⟩
 ⟨F.put h,(G.setCell (p:=⟨g,0,none⟩) hg _).setCell (p:=⟨g,1,none⟩) hg _,hg⟩
theorem fw_end {q:Rat} {x1 x2:ByteArray} {c:Int} (h:Short q/\(x1,x2)=ftxt q/\c=0\/¬Short q/\(x1,x2)=fd0/\c=6) :
  Short q/\Ending.returned (.tuple #[.agg #[.string x1,.string x2],.int .i64 c])=.returned (.tuple #[fstr q,.int .i64 0])\/¬Short q/\Ending.returned (.tuple #[.agg #[.string x1,.string x2],.int .i64 c])=.returned (.tuple #[.agg #[.string ⟨#[]⟩,.string ⟨#[]⟩],.int .i64 6]):=by
 rcases h with ⟨h,e,rfl⟩ | ⟨h,e,rfl⟩
 ·refine qax ⟨h,?_⟩;rw [qeG,<-e]
 ·refine qam ⟨h,?_⟩;have E:x1=⟨#[]⟩:=congrArg Prod.fst e;have F:x2=⟨#[]⟩:=congrArg Prod.snd e;rw [E,F]
theorem qiK (ao:Option Addr) (b jr R c:Nat) (t:Tbl) (dN:Option Addr) (b2 jv m c2:Nat) (bl:List FT) (dO:Option Addr) (b3 bg q c3:Nat) (wl:List FT) (dP:Option Addr) (b4 jw p c4:Nat) (E:List FT) (w:World) (hR:t.length=R) (hl:R<=4611686018427387904) (hw:∀k,k<R->(t.getD k []).length<=4611686018427387904) (hc:TCells w ao b jr t)
  (hm:bl.length=m) (d9:m<=4611686018427387904) (gD:FCells w dN b2 jv bl) (hq:wl.length=q) (gU:q<=4611686018427387904) (gF:FCells w dO b3 bg wl) (hp:E.length=p) (lT:p<=4611686018427387904) (gG:FCells w dP b4 jw E) (hT:HasT w) :
  Calls prog 90 #[.slice ao R c,.slice dN m c2,.slice dO q c3,.slice dP p c4] w fun e w'=>qka w t bl wl E e w':=by
 obtain⟨W0,bP⟩:=qY (w.alloc (.cells #[.string ⟨#[]⟩,.string ⟨#[]⟩] 27));have fT:Below w.heap.size w W0:=bP▸qbY qB qN;have cB:W0.heap[w.heap.size]? = some (.cells #[.string ⟨#[]⟩,.string ⟨#[]⟩] 27 (0,0)):=by rw [bP];exact qM _ _ _ rfl
 have ig:W0.heap.size=w.heap.size+1:=by rw [bP,qab]
 obtain⟨W1,dS⟩:=qY (W0.alloc (.cells #[.slice dN m c2,.slice dO q c3,.slice dP p c4] 22));have fU:Below W0.heap.size W0 W1:=dS▸qbY qB qN;have jl:W1.heap[w.heap.size+1]? = some (.cells #[.slice dN m c2,.slice dO q c3,.slice dP p c4] 22 (0,0)):=by rw [dS];exact qM _ _ _ ig
 have au:=fT.trans (fU.mono fT.size);have fw:=zkeep fU _ _ cB;have HK:=qH (qeW ao b jr R c t (some ⟨w.heap.size+1,0,none⟩) (w.heap.size+1) 0 3 3 [bl,wl,E] W1 hR hl hw (hc.below au) rfl (by omega) (fun k hk=>by
  rcases (show k=0\/k=1\/k=2 by omega) with rfl | rfl | rfl
  ·show bl.length<=_;omega
  ·show wl.length<=_;omega
  ·show E.length<=_;omega) (qj4 jl hm (gD.below au) hq (gF.below au) hp (gG.below au)))
 have F:=qH (qA hc (qA hR (qA gD (qA hm (qA gF (qA hq (qA gG (qA hp hT))))))));have fF:=qH (qA au fw);have lg:=qH ig;have lQ:=qfj;clear hR hw hc hm gD fU jl hT hq gF hp gG fT cB au fw;go_enter func90,ntmps90;go_wp2_with fail;rw [<-bP,<-dS];clear dS bP ig;refine HK.o.mono ?_;rintro e w2 ⟨cc,rfl,kg,fV⟩;have bz:=zkeep fV _ _ fF.o.2;have HB:=qH (qA (fF.o.1.trans (fV.mono fF.o.1.size)) bz);have z0:=qC _ _ 0 _ _ _ bz;have z1:=qC _ _ 1 _ _ _ bz;have y0:=qF _ _ 0 _ _ bz;have y1:=qF _ _ 1 _ _ bz;clear fV bz;have iF:∀(W:World) (er:Int),Below w.heap.size w W->W.heap[w.heap.size]? = some (.cells #[.string ⟨#[]⟩,.string ⟨#[]⟩] 27 (0,0))->((W.setCell ⟨w.heap.size,0,none⟩ (.string ⟨#[]⟩)).setCell ⟨w.heap.size,1,none⟩ (.string ⟨#[]⟩)).heap[w.heap.size]? = some (.cells #[.string ⟨#[]⟩,.string ⟨#[]⟩] 27 (0,0))/\Below w.heap.size w ((W.setCell ⟨w.heap.size,0,none⟩ (.string ⟨#[]⟩)).setCell ⟨w.heap.size,1,none⟩ (.string ⟨#[]⟩)):=fun W er hb hr =>
  ⟨heap_setCell_same _ _ 1 _ _ _ (heap_setCell_same _ _ 0 _ _ _ hr),(hb.setCell (p:=⟨w.heap.size,0,none⟩) qN _).setCell (p:=⟨w.heap.size,1,none⟩) qN _⟩
 have bi:=qH iF;clear iF;rcases kg with ⟨rfl,hT⟩ | ⟨rfl,hT,hL⟩ | ⟨rfl,hT,hL⟩
 ·have HT:=qH (qA hT (bi.o w2 0 HB.o.1 HB.o.2));clear hT;go_wp2_with fail;exact qR (v:=.tuple #[.agg #[.string ⟨#[]⟩,.string ⟨#[]⟩],.int .i64 60]) (rB_ rfl w.heap.size HT.o.2.1 underlying27 2) rfl ⟨qax ⟨HT.o.1,rfl⟩,HT.o.2.2⟩
 ·have HT:=qH (qA (qA hT hL) (bi.o w2 0 HB.o.1 HB.o.2));clear hT hL;go_wp2_with fail;exact qR (v:=.tuple #[.agg #[.string ⟨#[]⟩,.string ⟨#[]⟩],.int .i64 20]) (rB_ rfl w.heap.size HT.o.2.1 underlying27 2) rfl ⟨qam (qax ⟨HT.o.1.1,fun h=>HT.o.1.2 (qik.2 h),rfl⟩),HT.o.2.2⟩
 obtain⟨iL,iM,iN⟩:=qik.1 hL;have kZ:R<=40:=by have:=hT.r2;have:=F.o.2.1;omega
 have lN:1<=R:=by have:=hT.r1;have:=F.o.2.1;omega
 have kY:(0:Int)<R:=by omega
 have jZ:=F.o.1.addr (by have:=F.o.2.1;omega);subst jZ;obtain⟨n,hn⟩:=qX (wid t);have aY:n<=10:=by have:=hT.c2;omega
 have ku:1<=n:=by have:=hT.c1;omega
 obtain⟨lX,lY,l5,lZ,gB,_⟩:=(F.o.1.below HB.o.1).row 0 (by have:=F.o.2.1;omega);rw [qbA] at gB;have jh:(t.getD 0 []).length=n:=hn;rw [jh] at gB;have Y:=qH (qA hT (qA iL (qA iM (qA iN hn))));clear hT hL iL iM iN hn jh;have bad:∀(W:World),Below w.heap.size w W->¬(bl.length=t.length/\wl.length=t.length/\E.length=wid t/\¬Neg wl)->qka w t bl wl E (.returned (.tuple #[.agg #[.string ⟨#[]⟩,.string ⟨#[]⟩],.int .i64 2])) W:=fun W h hn=>⟨qam (qam (qax ⟨Y.o.1,Y.o.2.1,Y.o.2.2.1,Y.o.2.2.2.1,hn,rfl⟩)),h⟩
 have dJ:=qH bad;clear bad
 by_cases e1:m=R
 case neg =>
  have jW:((m:Int) != (R:Int))=true:=by rw [bne_iff_ne];omega
  have hE:=bi.o w2 0 HB.o.1 HB.o.2;have HE:=qH (qA hE.1 (dJ.o _ hE.2 (fun h=>e1 (by rw [<-F.o.2.2.2.1,h.1,F.o.2.1]))));clear e1 hE;go_wp2_with fail;exact qR (v:=.tuple #[.agg #[.string ⟨#[]⟩,.string ⟨#[]⟩],.int .i64 2]) (rB_ rfl w.heap.size HE.o.1 underlying27 2) rfl HE.o.2
 have jW:((m:Int) != (R:Int))=false:=by simp [e1]
 by_cases e2:q=R
 case neg =>
  have jX:((q:Int) != (R:Int))=true:=by rw [bne_iff_ne];omega
  have hE:=bi.o w2 0 HB.o.1 HB.o.2;have HE:=qH (qA hE.1 (dJ.o _ hE.2 (fun h=>e2 (by rw [<-F.o.2.2.2.2.2.1,h.2.1,F.o.2.1]))));clear e2 e1 hE;go_wp2_with fail;exact qR (v:=.tuple #[.agg #[.string ⟨#[]⟩,.string ⟨#[]⟩],.int .i64 2]) (rB_ rfl w.heap.size HE.o.1 underlying27 2) rfl HE.o.2
 have jX:((q:Int) != (R:Int))=false:=by simp [e2]
 by_cases e3:p=n
 case neg =>
  have jY:((p:Int) != (n:Int))=true:=by rw [bne_iff_ne];omega
  have hE:=bi.o w2 0 HB.o.1 HB.o.2;have HE:=qH (qA hE.1 (dJ.o _ hE.2 (fun h=>e3 (by rw [<-F.o.2.2.2.2.2.2.2.1,h.2.2.1,Y.o.2.2.2.2]))));clear e3 e2 e1 hE;go_wp2_with fail;exact qR (v:=.tuple #[.agg #[.string ⟨#[]⟩,.string ⟨#[]⟩],.int .i64 2]) (rB_ rfl w.heap.size HE.o.1 underlying27 2) rfl HE.o.2
 have jY:((p:Int) != (n:Int))=false:=by simp [e3]
 have He:=qH (qA e1 (qA e2 e3));have iO:=F.o.2.2.1.addr (by have:=F.o.2.2.2.1;omega);subst iO;have iP:=F.o.2.2.2.2.1.addr (by have:=F.o.2.2.2.2.2.1;omega);subst iP;have iQ:=F.o.2.2.2.2.2.2.1.addr (by have:=F.o.2.2.2.2.2.2.2.1;omega);subst iQ;have ji:=qf9 (some ⟨b3,bg,none⟩) b3 bg q c3 wl w2 F.o.2.2.2.2.2.1 (by omega) (F.o.2.2.2.2.1.below HB.o.1) Y.o.2.2.1;have HN:=qH ji;clear e1 e2 e3 ji;go_wp2_with fail;refine HN.o.mono ?_;rintro e w3 ⟨x,rfl,hx,fZ⟩;have bA:=zkeep fZ _ _ HB.o.2;have kS:=qC _ _ 0 _ _ _ bA;have kT:=qC _ _ 1 _ _ _ bA;have kQ:=qF _ _ 0 _ _ bA;have kR:=qF _ _ 1 _ _ bA;have ai:=qH (qA (HB.o.1.trans (fZ.mono HB.o.1.size)) bA);clear fZ bA;cases x with
 | true =>
  have hE:=bi.o w3 0 ai.o.1 ai.o.2;have HE:=qH (qA hE.1 (dJ.o _ hE.2 (fun h=>h.2.2.2 (hx.1 rfl))));clear hx hE;go_wp2_with fail;exact qR (v:=.tuple #[.agg #[.string ⟨#[]⟩,.string ⟨#[]⟩],.int .i64 2]) (rB_ rfl w.heap.size HE.o.1 underlying27 2) rfl HE.o.2
 | false =>
  have jk:¬Neg wl:=fun h=>by have:=hx.2 h;cases this
  have iE:=qH jk;obtain rfl:m=R:=He.o.1;obtain rfl:q=m:=He.o.2.1;obtain rfl:p=n:=He.o.2.2;clear hx jk z0 z1 y0 y1 gB;go_wp2_with fail;refine (qer (c:=c4) (show E.length=p from F.o.2.2.2.2.2.2.2.1) (by omega) (F.o.2.2.2.2.2.2.1.below ai.o.1) Y.o.2.2.2.1).mono ?_;rintro e w4 ⟨gx,vx,rfl,kr,aG,gZ,ic⟩;obtain⟨ax,nx,cx,rfl⟩:=qcc gZ;obtain⟨V1,bN⟩:=qY (w4.alloc (.cells #[rowv gx p] 212));have c1:Below w4.heap.size w4 V1:=bN▸qbY qB qN;have d1:V1.heap[w4.heap.size]? = some (.cells #[rowv gx p] 212 (0,0)):=by rw [bN];exact qM _ _ _ rfl
  have s1:V1.heap.size=w4.heap.size+1:=by rw [bN,qab]
  obtain⟨V2,bO⟩:=qY (V1.alloc (.cells #[.int .u32 1] 201));have c2:Below V1.heap.size V1 V2:=bO▸qbY qB qN;have s2:V2.heap.size=w4.heap.size+1+1:=by rw [bO,qab,s1]
  have o2:MagAt V2 (.slice (some ⟨w4.heap.size+1,0,none⟩) 1 1) 1:=by
   have:=qfO V1 201 (s:=1) (by decide) (by decide);rw [s1] at this;rw [bO];exact this
  obtain⟨V3,dR⟩:=qY (V2.alloc (.cells #[.slice none 0 0,.bool false] 217));have c3:Below V2.heap.size V2 V3:=dR▸qbY qB qN;have d3:qcj V3 (w4.heap.size+1+1) 0:=⟨_,_,_,_,by rw [dR];exact qM _ _ _ s2,_,rfl,MagAt.nil _⟩;have dQ:=c2.trans (c3.mono c2.size);have bu:=c1.trans (dQ.mono c1.size);have eU:=ai.o.1.trans ((aG.trans (bu.mono aG.size)).mono ai.o.1.size);have H3:=qH (qA d3 (qA (zkeep dQ _ _ d1) (qA (o2.below c3) (qA (gZ.below bu) (qA (ic.below bu) (qA eU (zkeep (aG.trans (bu.mono aG.size)) _ _ ai.o.2)))))));have eG:=qH (show w.heap.size<w4.heap.size by have:=(qG ai.o.2).1;have:=aG.size;omega);have fG:=qH (show w.heap.size<=w4.heap.size+1+1 by have:=(ai.o.1.trans (aG.mono ai.o.1.size)).size;omega);have Hs:=qH (qA s1 (qA s2 (show gx<w4.heap.size by
   obtain⟨_,_,h2,_⟩:=ic;exact (qG h2.1).1)))
  clear aG gZ ic c1 d1 c2 o2 c3 d3 dQ bu eU s1 s2 kr kS kT kQ kR;go_wp2_with fail;rw [<-bN,<-bO,<-dR];clear bN bO dR
  go_loopw [14,72] (fun x14 x72 W=>∃(i:Nat) (T:Int) (D:Nat),i<=q/\x72=.int .i64 i/\Hu (MSt t bl wl E p i T D)/\Hu (qcj W (w4.heap.size+1+1) T)/\Hu (MagAt W x14 D)/\Hu (Below w.heap.size w W)/\Hu (Soft V3 W (some (w4.heap.size+1+1)))) (fun _ x72 _=>q-(intOf x72).toNat)
  case atStart=>exact⟨0,0,1,qaj _,rfl,qH (MSt.start _ _ _ _ _),qH H3.o.1,qH H3.o.2.2.1,qH H3.o.2.2.2.2.2.1,qH H3.o.1.soft0⟩
  case round =>
   obtain⟨i,T,D,hi,rfl,hS,hI,hA,hB,hF⟩:=hrel
   by_cases gP:i<q
   ·have lS:(i:Int)<q:=by omega
    have jd:i<t.length:=by have:=F.o.2.1;omega
    obtain⟨ra,rb,ro,rc,ko,iW⟩:=(F.o.1.below hB.o).row i jd;have ed:=Y.o.1.rows i jd;rw [Y.o.2.2.2.2] at ed;rw [ed.1] at ko;obtain⟨d0,d1⟩:=(F.o.2.2.2.2.1.below hB.o).cell i (by have:=F.o.2.2.2.2.2.1;omega);have ib:=Y.o.2.2.1 i (by have:=F.o.2.2.2.2.2.1;omega);obtain⟨WN,dY⟩:∃N,(wl.getD i fd0).1=N:=⟨_,rfl⟩;obtain⟨WD,dX⟩:∃D,(wl.getD i fd0).2=D:=⟨_,rfl⟩;rw [dY,dX] at ib;rw [dY] at d0;rw [dX] at d1;obtain⟨e0,e1⟩:=(F.o.2.2.1.below hB.o).cell i (by have:=F.o.2.2.2.1;omega);obtain⟨BN,fM⟩:∃N,(bl.getD i fd0).1=N:=⟨_,rfl⟩;obtain⟨BD,fK⟩:∃D,(bl.getD i fd0).2=D:=⟨_,rfl⟩;rw [fM] at e0;rw [fK] at e1;obtain⟨aD,nD,cD,rfl⟩:=qcc hA.o;have HW:=qH (qA dY (qA dX (qA ib (qA fM (qA fK (qA ed iW))))));clear dY dX ib fM fK ed iW;have J:=qH (qm9 Y.o.1 F.o.2.1 Y.o.2.2.2.2 Y.o.2.1 F.o.2.2.2.1 Y.o.2.2.1 F.o.2.2.2.2.2.1 iE.o gP);go_wp2_with fail;refine ((qcl .l) WN HW.o.2.2.1.vn _).mono ?_;rintro e w5 ⟨u5,rfl,iR,ik⟩;obtain⟨a5,n5,c5,b5,rfl⟩:=qbZ ik;have H5:=qH (qA iR ik);clear iR ik;go_wp2_with fail;obtain⟨W6,dV⟩:=qY (w5.alloc (.cells #[.slice a5 n5 c5,.bool b5] 217));have aS:Below w5.heap.size w5 W6:=dV▸qbY qB qN;have iZ:qcj W6 w5.heap.size (ival WN.data.toList):=⟨_,_,_,_,by rw [dV];exact qM _ _ _ rfl,H5.o.2.below aS⟩;have gX:=(qhS H5.o.2).below aS;rw [show (ival WN.data.toList).natAbs=wnum wl i by unfold wnum;rw [HW.o.1]] at gX;rw [<-dV];have H6:=qH (qA (bjoin H5.o.1 aS) iZ);clear dV aS iZ;refine ((qcK .l) (wnum wl i) _ W6 gX).mono ?_;rintro e w6 ⟨rfl,kw⟩;subst kw;clear gX
    by_cases hz:wnum wl i=0
    ·rw [qV hz];have HZ:=qH hz;clear hz;go_wp2;go_roundw
     case rel=>exact⟨i+1,T,D,gP,by go_num,qH (hS.o.skip HZ.o),qH (hI.o.below H6.o.1),qH (hA.o.below H6.o.1),qH (hB.o.trans (H6.o.1.mono hB.o.size)),qH (hF.o.more H6.o.1)⟩
     case measure=>simp [intOf];omega
    ·rw [qU hz];clear hz;have gm:=H6.o.1;have jU:=(gm.cell (qac wr _ e0)).trans e0;have jV:=(gm.cell (qac wr _ e1)).trans e1;clear gm;go_wp2_with fail;refine (qhk ra rb ro p rc (t.getD i []) (BN,BD) _ HW.o.2.2.2.2.2.1.1 ku (by omega) (HW.o.2.2.2.2.2.2.below H6.o.1)).mono ?_;rintro e w7 ⟨g7,rfl,gu,gJ⟩;have fo:t.getD i []++[(BN,BD)]=besides t bl i:=by unfold besides;rw [<-HW.o.2.2.2.1,<-HW.o.2.2.2.2.1]
     rw [fo] at gJ;have H7:=qH (qA (bjoin H6.o.1 gu) (qA gJ (H6.o.2.below gu)));clear gu gJ fo jU jV;go_wp2_with fail;refine (qer (c:=p+1) J.o.2 (by omega) H7.o.2.1 J.o.1.fa).mono ?_;rintro e w8 ⟨g8,v8,rfl,ja,gz,gY,jm⟩;obtain⟨a8,n8,c8,rfl⟩:=qcc gY;obtain⟨W9,dW⟩:=qY (w8.alloc (.cells #[rowv g8 (p+1)] 212));have aV:Below w8.heap.size w8 W9:=dW▸qbY qB qN;have jg:W9.heap[w8.heap.size]? = some (.cells #[rowv g8 (p+1)] 212 (0,0)):=by rw [dW];exact qM _ _ _ rfl
     have fJ:=gz.trans (aV.mono gz.size);have h9:=bjoin H7.o.1 fJ;have H9:=qH (qA h9 (qA jg (qA (gY.below aV) (qA (jm.below aV) (qA (H7.o.2.2.below fJ) (hF.o.more h9))))));clear gz gY jm aV jg fJ h9 ja;have fC:=qlJ p (.pointer (some ⟨w8.heap.size,0,none⟩)) (.pointer (some ⟨w4.heap.size,0,none⟩)) (fun j=>ftop (besides t bl i) j*ftop E j) 1610 (by omega) W9 (by omega) (fun W' j hj fQ=>by
      have iI:=H9.o.2.2.2.2.2.more fQ;exact qm2 w8.heap.size w4.heap.size g8 gx (p+1) p j _ _ 805 805 (by omega) W' (qC _ _ 0 _ _ _ (zkeep fQ _ _ H9.o.2.1)) (qC _ _ 0 _ _ _ (iI.blk H3.o.2.1 (fun e=>by have:=qag e;omega))) (H9.o.2.2.2.1.below fQ) (iI.introw H3.o.2.2.2.2.1 (fun e=>by have:=qag e;have:=Hs.o.2.2;omega)) (by omega) hj (by omega) (by omega) ((qdc J.o.1.fa (m:=11) (by have:=J.o.2;omega) (by have:=J.o.2;omega)).mono (by omega)) ((qdc Y.o.2.2.2.1 (m:=11) (by have:=F.o.2.2.2.2.2.2.2.1;omega) (by have:=F.o.2.2.2.2.2.2.2.1;omega)).mono (by omega))) (fun j hj=>by
       rw [qaK];exact ((qdc J.o.1.fa (m:=11) (by have:=J.o.2;omega) (by have:=J.o.2;omega)).mul (qdc Y.o.2.2.2.1 (m:=11) (by have:=F.o.2.2.2.2.2.2.2.1;omega) (by have:=F.o.2.2.2.2.2.2.2.1;omega))).mono (by omega))
     have jG:=qH fC;clear fC;go_wp2_with fail;rw [<-dW];clear dW;refine jG.o.mono ?_;rintro e af ⟨u10,rfl,ay,cK⟩;obtain⟨jI,n10,c10,b10,rfl⟩:=qbZ cK;obtain⟨G,aL⟩:=qY (af.alloc (.cells #[.slice jI n10 c10,.bool b10] 217));have aB:Below af.heap.size af G:=aL▸qbY qB qN;have dH:qcj G af.heap.size (isum (fun j=>ftop (besides t bl i) j*ftop E j) p):=⟨_,_,_,_,by rw [aL];exact qM _ _ _ rfl,cK.below aB⟩;have ae:=ay.trans (aB.mono ay.size);have cu:w8.heap.size<af.heap.size:=qak (qG H9.o.2.1).1 ay.size;have fu:w5.heap.size<af.heap.size:=qak H9.o.2.2.2.2.1.lt ay.size;have Z:=qH (qA (bjoin H9.o.1 ae) (qA dH (qA (H9.o.2.2.1.below ae) (qA (H9.o.2.2.2.2.1.below ae) (qA (H9.o.2.2.2.2.2.more ae) (qA cu (qA fu (qal H9.o.1.size ay.size))))))));obtain⟨a2,m2,d2,b2',p0,p1,jc⟩:=(H9.o.2.2.2.1.below ae).pair (show p<p+1 by omega);obtain⟨av,mv,dv,bv,⟨v0,v1⟩,_,je⟩:=dH.cells;have l0:=qC _ _ 0 _ _ _ (zkeep ae _ _ H9.o.2.1);have jo:MagAt G (.slice ax nx cx) (flcd E):=(H9.o.2.2.2.2.2.more ae).mag H3.o.2.2.2.1;have aj:=qfx J.o.1.fa J.o.2 aY Y.o.2.2.2.1 F.o.2.2.2.2.2.2.2.1;have lU:(p:Int)<p+1:=by omega
     have bC:Below G.heap.size G G:=Below.refl _ _;have I:Below G.heap.size G G.drew:=bC.drew;have jC:=qH (fun W (h:Below G.heap.size G W)=>(qcz .l) (ftop (besides t bl i) p) (flcd E) 805 738 (by omega) _ _ W (jc.below h) (jo.below h) ((qdc J.o.1.fa (m:=11) (by have:=J.o.2;omega) (by have:=J.o.2;omega)).mono (by omega)) ((qfl Y.o.2.2.2.1 (m:=11) (by have:=F.o.2.2.2.2.2.2.2.1;omega)).mono (by omega)));have iY:Fit (-(ftop (besides t bl i) p*((flcd E:Nat):Int))).natAbs 1621:=by rw [qbv];exact aj.2.1.mono (by omega)
     have jD:=qH (fun W u (h:Below G.heap.size G W) (hu:IntAt W u (-(ftop (besides t bl i) p*((flcd E:Nat):Int))))=>(qdq .l) (isum (fun j=>ftop (besides t bl i) j*ftop E j) p) (-(ftop (besides t bl i) p*((flcd E:Nat):Int))) 1621 (by omega) _ u W (je.below h) hu aj.1 iY);clear ay cK aB dH ae cu fu jc je jo aj iY;go_wp2_with fail;rw [<-aL];clear aL
     go_cut [110] (fun x110 W=>Hu (qcj W af.heap.size (mval2 t bl E p i))/\Hu (Soft G W (some af.heap.size)))
     case first =>
      go_region_with (first | (go_at_call 155;refine (jC.o _ I).mono ?_;rintro e kz ⟨u12,rfl,eP,cO⟩;have bF:Below G.heap.size G kz:=I.trans eP;have x0:=bF.cell (qac G _ v0) |>.trans v0;have x1:=bF.cell (qac G _ v1) |>.trans v1;obtain⟨a12,n12,c12,b12,rfl⟩:=qbZ cO;have il:=qH cO;clear eP cO) | (go_at_call 156;refine ((qdR .l) _ _ _ il.o).mono ?_;rintro e kC ⟨u13,rfl,eQ,cZ⟩;have aJ:Below G.heap.size G kC:=bjoin bF eQ;have x2:=aJ.cell (qac G _ v0) |>.trans v0;have x3:=aJ.cell (qac G _ v1) |>.trans v1;obtain⟨lh,n13,bu,b13,rfl⟩:=qbZ cZ;have iq:=qH cZ;clear eQ cZ) | (go_at_call 154;refine (jD.o _ _ aJ iq.o).mono ?_;rintro e kD ⟨u14,rfl,eT,df⟩;have bG:Below G.heap.size G kD:=bjoin aJ eT;obtain⟨ll,n14,c14,b14,rfl⟩:=qbZ df;obtain⟨_,_,_,_,⟨x4,x5⟩,⟨x6,x7⟩,_⟩:=(Z.o.2.1.below bG).cells;have bK:=qH (qA bG ((Z.o.2.1.below bG).put (z:=mval2 t bl E p i) df));clear eT df))
      all_goals go_wp2_with fail
      all_goals go_meet
      all_goals exact⟨qH bK.o.2,qH (((Soft.any bK.o.1 Z.o.2.1.soft0.nn)).trans ((Z.o.2.1.below bK.o.1).soften _ _))⟩
     case rest =>
      obtain⟨kv,bB⟩:=hcut;obtain⟨O,ky⟩:=qY wc;subst ky;have hne:∀{x:Nat},x<af.heap.size->(some af.heap.size:Option Nat)≠some x:=fun hx e=>by have:=qag e;omega
      have dI:=Z.o.2.2.2.2.2.2.2;have jq:=Z.o.2.2.2.1.soft bB.o (hne Z.o.2.2.2.2.2.2.1);have iK:=(hI.o.below Z.o.1).soft bB.o (hne (qak hI.o.lt dI));have iH:=bB.o.mag (hA.o.below Z.o.1);have fO:=bB.o.old (hB.o.trans (Z.o.1.mono hB.o.size)) (fun x e=>by have:=qag e;have:=hB.o.size;omega) (qal hB.o.size Z.o.1.size);have iJ:=Z.o.2.2.2.2.1.new bB.o (by have:=hF.o.grown.size;omega);have iG:=bB.o.mag Z.o.2.2.1;have iU:O.cell? ⟨b3,bg+i*2+1,none⟩=some (.string WD):=by
       have h:=(F.o.2.2.2.2.1.below fO).cell i (by have:=F.o.2.2.2.2.2.1;omega);rw [HW.o.2.1] at h;exact h.2
      obtain⟨aw,mw,dw,bw,⟨g0,g1⟩,_,gQ⟩:=jq.cells;obtain⟨jJ,mv',jT,jK,⟨f0,f1⟩,_,bY⟩:=kv.o.cells;have G0:∀W,Below O.heap.size O W->W.cell? ⟨w5.heap.size,0,none⟩=some (.slice aw mw dw):=fun W h=>(h.cell (qac O _ g0)).trans g0
      have G1:∀W,Below O.heap.size O W->W.cell? ⟨w5.heap.size,1,none⟩=some (.bool bw):=fun W h=>(h.cell (qac O _ g1)).trans g1
      have F0:∀W,Below O.heap.size O W->W.cell? ⟨af.heap.size,0,none⟩=some (.slice jJ mv' jT):=fun W h=>(h.cell (qac O _ f0)).trans f0
      have F1:∀W,Below O.heap.size O W->W.cell? ⟨af.heap.size,1,none⟩=some (.bool jK):=fun W h=>(h.cell (qac O _ f1)).trans f1
      have aj:=(qfx J.o.1.fa J.o.2 aY Y.o.2.2.2.1 F.o.2.2.2.2.2.2.2.1).2.2;have fE:ival WN.data.toList=((wnum wl i:Nat):Int):=by
       have h1:=J.o.1.nn;unfold wnum;rw [HW.o.1] at h1 ⊢;omega
      rw [fE] at gQ;have gN:Fit ((wnum wl i:Nat):Int).natAbs 67:=by rw [qar];exact J.o.1.wn
      have fq:Fit (((wnum wl i:Nat):Int)*mval2 t bl E p i).natAbs (67+1622):=by rw [qaK];exact gN.mul aj
      have bn:=qH (fun W (h:Below O.heap.size O W)=>qcJ ((wnum wl i:Nat):Int) (mval2 t bl E p i) 67 1622 (by omega) _ _ W (gQ.below h) (bY.below h) gN aj);have bq:=qH (fun W u (h:Below O.heap.size O W) (hu:IntAt W u (((wnum wl i:Nat):Int)*mval2 t bl E p i))=>qcJ (((wnum wl i:Nat):Int)*mval2 t bl E p i) (mval2 t bl E p i) (67+1622) 1622 (by omega) u _ W hu (bY.below h) fq aj);have dZ:Below O.heap.size O O:=Below.refl _ _;have aX:Below O.heap.size O O.drew:=dZ.drew;have aW:Below O.heap.size O (O.alloc (.cells #[.slice none 0 0,.bool false] 217)).drew:=(qbY dZ qN).drew;have Hc:=qH (qA iK (qA iH (qA fO (qA iJ (qA iG iU)))));clear hne dI jq iK iH fO iJ iG iU g0 g1 f0 f1 gQ bY aj fE gN fq bC I p0 p1 v0 v1 l0;go_wp2_with fail
      go_cut [21] (fun x21 W=>∃fI:Nat,x21=.pointer (some ⟨fI,0,none⟩)/\LOne O W fI (((wnum wl i:Nat):Int)*mval2 t bl E p i*mval2 t bl E p i))
      case first =>
       go_region_held3 (fun W=>Below O.heap.size O W) (first | with_reducible exact dZ | with_reducible exact aX | with_reducible exact aW | with_reducible exact V | with_reducible exact U | exact qbY U qN | exact qbY V qN | exact (U.setCell qN _).setCell qN _ | exact (U.setCell V.size _).setCell V.size _ | exact (U.setCell U.size _).setCell U.size _) (first | (go_at_call_of 153 (Value.agg #[.slice aw mw dw,.bool bw]);refine (bn.o _ (by first | with_reducible exact aX | with_reducible exact aW)).mono ?_;rintro e jy ⟨u15,rfl,bQ,dh⟩;have V:Below O.heap.size O jy:=bjoin (by first | with_reducible exact aX | with_reducible exact aW) bQ;obtain⟨lm,n15,c15,b15,rfl⟩:=qbZ dh;have eB:=qH dh;have jH:=qH (zkeep bQ);clear bQ dh) | (go_at_call 153;refine (bq.o _ _ (by first | with_reducible exact V | exact qbY V qN) (by first | with_reducible exact eB.o | exact eB.o.below (qbY qB qN))).mono ?_;rintro e kE ⟨u16,rfl,aM,di⟩;have U:Below O.heap.size O kE:=bjoin (by first | with_reducible exact V | exact qbY V qN) aM;obtain⟨a16,n16,c16,b16,rfl⟩:=qbZ di;have bL:=qH di;(first | (have aa:=zkeep aM _ _ (jH.o O.heap.size _ (qM O (.cells #[.slice none 0 0,.bool false] 217) _ rfl));have o0:=qC _ _ 0 _ _ _ aa;have o1:=qC _ _ 1 _ _ _ aa;have o2:=qF _ _ 0 _ _ aa;have o3:=qF _ _ 1 _ _ aa;have fH:=qH aa;clear aa) | (have aa:=zkeep aM _ _ (qM jy (.cells #[.slice none 0 0,.bool false] 217) _ rfl);have o0:=qC _ _ 0 _ _ _ aa;have o1:=qC _ _ 1 _ _ _ aa;have o2:=qF _ _ 0 _ _ aa;have o3:=qF _ _ 1 _ _ aa;have fH:=qH aa;clear aa) | skip);clear aM di))
       all_goals go_wp2_with fail
       all_goals go_meet
       all_goals refine⟨_,rfl,?_⟩
       all_goals first
        | with_reducible exact lone_a bL.o U
        | exact lone_p bL.o U qN fH.o
        | exact lone_p bL.o U V.size fH.o
      case rest =>
       obtain⟨fI,rfl,jf,d9,gU⟩:=hcut;have iT:=(d9.cell (qac O _ Hc.o.2.2.2.2.2)).trans Hc.o.2.2.2.2.2;have dK:=qH (qA jf (qA d9 gU));clear jf d9 gU G0 G1 F0 F1 bn bq dZ aX aW;go_wp2_with fail;refine ((qcl .l) WD HW.o.2.2.1.vd _).mono ?_;rintro e kF ⟨u22,rfl,bR,dm⟩;obtain⟨a22,n22,lG,lq,rfl⟩:=qbZ dm;have cz:=qhS dm;rw [show (ival WD.data.toList).natAbs=fden (wl.getD i fd0) by unfold fden;rw [HW.o.2.1]] at cz;have dL:=qH (qA bR (qA cz (Hc.o.2.2.2.2.1.below (bjoin dK.o.2.1 bR))));clear bR dm cz iT;go_wp2_with fail;refine ((qcn .l) _ _ 67 738 (by omega) _ _ kF dL.o.2.1 dL.o.2.2 J.o.1.wd.2 J.o.1.below.2).mono ?_;rintro e kG ⟨u23,rfl,bS,dn⟩;obtain⟨a23,n23,dQ,rfl⟩:=qcc dn;have dM:=qH (qA (bjoin dL.o.1 bS) (qA dn (dL.o.2.2.below bS)));clear bS dn;go_wp2_with fail;refine ((qcn .l) _ _ 805 738 (by omega) _ _ kG dM.o.2.1 dM.o.2.2 ((J.o.1.wd.2.mul J.o.1.below.2).mono (by omega)) J.o.1.below.2).mono ?_;rintro e jA ⟨u24,rfl,bV,dx⟩;obtain⟨a24,n24,c24,rfl⟩:=qcc dx;have bD:=qH (qA (bjoin dM.o.1 bV) (qA (show MagAt jA (.slice a24 n24 c24) (wdn t bl wl i) from dx) (Hc.o.2.1.below (bjoin dK.o.2.1 (bjoin dM.o.1 bV)))));clear bV dx;go_wp2_with fail;refine (qew D (wdn t bl wl i) (1543*i+1) 1543 (by omega) (by omega) hS.o.pos J.o.1.d.1 _ _ jA bD.o.2.2 bD.o.2.1 hS.o.fitD J.o.1.d.2).mono ?_;rintro e kH ⟨u25,rfl,aN,dz⟩;obtain⟨a25,n25,lH,rfl⟩:=qcc dz;have iX:Fit (D.lcm (wdn t bl wl i)) 65000:=((hS.o.fitD.mul J.o.1.d.2).le (qbT (qbW hS.o.pos J.o.1.d.1) (Nat.lcm_dvd_mul _ _))).mono (by omega);have aC:=qH (qA (bjoin bD.o.1 aN) (qA dz (qA (bD.o.2.1.below aN) (qA (bD.o.2.2.below aN) iX))));clear aN dz iX;go_wp2_with fail;refine ((qb5 .l) _ D 65000 (by omega) _ _ kH aC.o.2.1 aC.o.2.2.2.1 aC.o.2.2.2.2 (hS.o.fitD.mono (by omega)) hS.o.pos).mono ?_;rintro e kI ⟨u26,lV,rfl,aO,dA,fA⟩;obtain⟨a26,n26,lI,rfl⟩:=qcc dA;obtain⟨kU,n26',kW,rfl⟩:=qcc fA;have bE:=qH (qA (bjoin aC.o.1 aO) (qA dA (qA (aC.o.2.1.below aO) (aC.o.2.2.1.below aO))));clear aO dA fA;go_wp2_with fail;refine ((qb5 .l) _ (wdn t bl wl i) 65000 (by omega) _ _ kI bE.o.2.2.1 bE.o.2.2.2 aC.o.2.2.2.2 (J.o.1.d.2.mono (by omega)) J.o.1.d.1).mono ?_;rintro e H ⟨u27,lW,rfl,aP,dB,fB⟩;obtain⟨a27,n27,lJ,rfl⟩:=qcc dB;obtain⟨kV,lc,kX,rfl⟩:=qcc fB;have aF:=bjoin bE.o.1 aP;have aI:=bjoin dK.o.2.1 aF;have bM:=Hc.o.1.below aI;have eO:=dK.o.1.below aF;obtain⟨aT,mT,dT,bT,⟨k0,k1⟩,_,bX⟩:=bM.cells;obtain⟨aU,mU,dU,bU,⟨j0,j1⟩,_,jb⟩:=eO.cells;have bC:Below H.heap.size H H:=Below.refl _ _;have I:Below H.heap.size H H.drew:=bC.drew;obtain⟨q1,q2,q3,q4⟩:=qiF hS.o.pos J.o.1.d.1;have gM:Fit (((wnum wl i:Nat):Int)*mval2 t bl E p i*mval2 t bl E p i).natAbs (67+1622+1622):=by
        have aj:=(qfx J.o.1.fa J.o.2 aY Y.o.2.2.2.1 F.o.2.2.2.2.2.2.2.1).2.2;rw [qaK,qaK,qar];exact (J.o.1.wn.mul aj).mul aj
       have gH:=hS.o.fitT.mul (J.o.1.d.2.le q3);have gI:=gM.mul (hS.o.fitD.le q4);rw [<-qar (D.lcm (wdn t bl wl i) / D),<-qaK] at gH;rw [<-qar (D.lcm (wdn t bl wl i) / wdn t bl wl i),<-qaK] at gI;have bn:=qH (fun W (h:Below H.heap.size H W)=>(qcz .l) T (D.lcm (wdn t bl wl i) / D) (3400+1545*i) 1543 (by omega) _ _ W (bX.below h) ((bE.o.2.1.below aP).below h) hS.o.fitT (J.o.1.d.2.le q3));have bq:=qH (fun W (h:Below H.heap.size H W)=>(qcz .l) (((wnum wl i:Nat):Int)*mval2 t bl E p i*mval2 t bl E p i) (D.lcm (wdn t bl wl i) / wdn t bl wl i) (67+1622+1622) (1543*i+1) (by omega) _ _ W (jb.below h) (dB.below h) gM (hS.o.fitD.le q4));have jE:=qH (fun W u v (hu:IntAt W u (T*((D.lcm (wdn t bl wl i) / D:Nat):Int))) (hv:IntAt W v (((wnum wl i:Nat):Int)*mval2 t bl E p i*mval2 t bl E p i*((D.lcm (wdn t bl wl i) / wdn t bl wl i:Nat):Int)))=>(qdq .l) _ _ 70000 (by omega) u v W hu hv (gH.mono (by omega)) (gI.mono (by omega)));have aA:=qH (qA bM (qA aI (bE.o.2.2.1.below aP)));clear aP dB fB aF aI bM eO bX jb q1 q2 q3 q4 gM gH gI;go_wp2_with fail
       go_region_with (first | (go_at_call_of 155 (Value.agg #[.slice aT mT dT,.bool bT]);refine (bn.o _ (by first | with_reducible exact I | with_reducible exact ah)).mono ?_;rintro e kJ ⟨u28,rfl,aQ,aZ⟩;have ag:Below H.heap.size H kJ:=(by first | exact bjoin I aQ | exact bjoin ah aQ);obtain⟨a28,n28,c28,lw,rfl⟩:=qbZ aZ;have jL:=ag.cell (qac H _ k0) |>.trans k0;have jM:=ag.cell (qac H _ k1) |>.trans k1;have jN:=ag.cell (qac H _ j0) |>.trans j0;have jO:=ag.cell (qac H _ j1) |>.trans j1;(first | (have eF:=qH (iy.o.below aQ);have eD:=qH aZ) | skip);have iw:=qH aZ;clear aQ aZ) | (go_at_call 155;refine (bq.o _ (by first | with_reducible exact I | with_reducible exact ag)).mono ?_;rintro e kK ⟨u29,rfl,aR,bf⟩;have ah:Below H.heap.size H kK:=(by first | exact bjoin I aR | exact bjoin ag aR);obtain⟨a29,n29,lK,lC,rfl⟩:=qbZ bf;have jP:=ah.cell (qac H _ k0) |>.trans k0;have jQ:=ah.cell (qac H _ k1) |>.trans k1;have jR:=ah.cell (qac H _ j0) |>.trans j0;have jS:=ah.cell (qac H _ j1) |>.trans j1;(first | (have eD:=qH (iw.o.below aR);have eF:=qH bf) | skip);have iy:=qH bf;clear aR bf) | (go_at_call 154;refine (jE.o _ _ _ eD.o eF.o).mono ?_;rintro e kL ⟨u30,rfl,bW,dC⟩;have bH:Below H.heap.size H kL:=(by first | exact bjoin ah bW | exact bjoin ag bW);obtain⟨a30,n30,lL,lD,rfl⟩:=qbZ dC;obtain⟨_,_,_,_,⟨x4,x5⟩,⟨x6,x7⟩,_⟩:=(aA.o.1.below bH).cells;have ak:=qH (qA bH ((aA.o.1.below bH).put dC));clear bW dC))
       all_goals go_wp2_with fail
       all_goals go_roundw
       all_goals first
        | exact⟨i+1,_,_,gP,by go_num,qH (hS.o.next J.o.1 J.o.2 HW.o.2.2.2.2.2.1.1 Y.o.2.2.2.1 F.o.2.2.2.2.2.2.2.1 aY),qH ak.o.2,qH ((aA.o.1.below ak.o.1).soften _ _ |>.mag (aA.o.2.2.below ak.o.1)),qH (((Hc.o.2.2.1.trans (aA.o.2.1.mono Hc.o.2.2.1.size)).trans (ak.o.1.mono (qal Hc.o.2.2.1.size aA.o.2.1.size))).setCell (p:=⟨w4.heap.size+1+1,0,none⟩) fG.o _ |>.setCell (p:=⟨w4.heap.size+1+1,1,none⟩) fG.o _),qH ((Hc.o.2.2.2.1.more (aA.o.2.1.trans (ak.o.1.mono aA.o.2.1.size))).trans ((aA.o.1.below ak.o.1).soften _ _))⟩
        | (simp [intOf];omega)
   ·obtain rfl:i=q:=by omega
    obtain⟨aD,nD,cD,rfl⟩:=qcc hA.o;have aH:=hF.o.mag H3.o.2.2.2.1;have ek:=qkk Y.o.2.2.2.1;have dG:Fit (flcd E) 738:=(qfl Y.o.2.2.2.1 (m:=11) (by have:=F.o.2.2.2.2.2.2.2.1;omega)).mono (by omega);have cB:=hF.o.blk H3.o.2.2.2.2.2.2 (fun e=>by have:=qag e;have:=fG.o;have:=ai.o.1.size;have:=(qG ai.o.2).1;have:=eG.o;omega);have bZ:w4.heap.size+1+1≠w.heap.size:=by have:=eG.o;omega
    obtain⟨aT,mT,dT,bT,⟨k0,k1⟩,_,bX⟩:=hI.o.cells;have gT:=hI.o.lt;have C0:∀W,wr.grownBy W (some w.heap.size)->W.cell? ⟨w4.heap.size+1+1,0,none⟩=some (.slice aT mT dT):=fun W h=>(qd5 h (p:=⟨w4.heap.size+1+1,0,none⟩) gT bZ).trans k0
    have C1:∀W,wr.grownBy W (some w.heap.size)->W.cell? ⟨w4.heap.size+1+1,1,none⟩=some (.bool bT):=fun W h=>(qd5 h (p:=⟨w4.heap.size+1+1,1,none⟩) gT bZ).trans k1
    have hD:=hS.o.pos;have gL:Fit D 61721:=hS.o.fitD.mono (by omega);have iV:Fit T.natAbs 66000:=hS.o.fitT.mono (by omega);have fP:Fit (D*flcd E) 62459:=(gL.mul dG).mono (by omega);have eH:Fit (D*flcd E*flcd E) 63197:=(fP.mul dG).mono (by omega);have bn:=qH (fun W (h:Below wr.heap.size wr W)=>(qcn .l) D (flcd E) 61721 738 (by omega) _ _ W (hA.o.below h) (aH.below h) gL dG);have bq:=qH (fun W u (h:Below wr.heap.size wr W) (hu:MagAt W u (D*flcd E))=>(qcn .l) (D*flcd E) (flcd E) 62459 738 (by omega) u _ W hu (aH.below h) fP dG);have jF:=qH (fun W u (h:Below wr.heap.size wr W) (hu:IntAt W u ((D*flcd E*flcd E:Nat):Int))=>qhx T ((D*flcd E*flcd E:Nat):Int) (by have:=qbW (qbW hD ek) ek;omega) 66000 (by omega) (by omega) _ u W (bX.below h) hu iV (by rw [qar];exact eH.mono (by omega)) ((F.o.2.2.2.2.2.2.2.2.below hB.o).below h));have fD:Rat.divInt T ((D*flcd E*flcd E:Nat):Int)=measQ t bl wl E p i:=by
     rw [qgt,hS.o.val];have h1:((D:Nat):Rat)≠0:=by have:=qbo hD;exact_mod_cast this
     have h2:((flcd E:Nat):Rat)≠0:=by have:=qbo ek;exact_mod_cast this
     push_cast
     grind
    have bC:Below wr.heap.size wr wr:=Below.refl _ _;have I:Below wr.heap.size wr wr.drew:=bC.drew;have HV:=qH (qA fD (qA cB hB.o));clear aH ek dG cB k0 k1 bX hD gL iV fP eH fD gT bZ;go_wp2_with fail
    go_region_held3 (fun W=>wr.grownBy W (some w.heap.size)) (first | with_reducible exact qcs _ _ | with_reducible exact qb6 _ I | with_reducible exact qb6 _ bI | with_reducible exact qb6 _ eu | with_reducible exact qb6 _ bJ | with_reducible exact qb6 _ aK | exact qbX (qbX (qb6 _ aK) (qb0 _ _ _ _)) (qb0 _ _ _ _)) (first | (go_at_call_of 157 (Value.slice aD nD cD);refine (bn.o _ I).mono ?_;rintro e kM ⟨u31,rfl,eX,dD⟩;have bI:Below wr.heap.size wr kM:=bjoin I eX;have iA:=qH dD;obtain⟨a31,n31,c31,rfl⟩:=qcc dD;clear eX dD) | (go_at_call 157;refine (bq.o _ _ bI iA.o).mono ?_;rintro e kN ⟨u32,rfl,eY,dE⟩;have eu:Below wr.heap.size wr kN:=bjoin bI eY;have iB:=qH dE;obtain⟨a32,n32,c32,rfl⟩:=qcc dE;clear eY dE) | (go_at_call 161;refine ((qcf .l) (D*flcd E*flcd E) false _ _ iB.o).mono ?_;rintro e jB ⟨u33,rfl,eZ,dF⟩;have bJ:Below wr.heap.size wr jB:=bjoin eu eZ;have iC:=qH (show IntAt jB u33 ((D*flcd E*flcd E:Nat):Int) from dF);obtain⟨a33,n33,lM,lF,rfl⟩:=qbZ dF;clear eZ dF) | (go_at_call 160;refine (jF.o _ _ bJ iC.o).mono ?_;rintro e kP hx;obtain⟨x1,x2,c6,rfl,hx,fe⟩:=qfZ hx;have aK:Below wr.heap.size wr kP:=bjoin bJ fe;have az:=zkeep aK _ _ HV.o.2.1;have m0:=qC _ _ 0 _ _ _ az;have m1:=qC _ _ 1 _ _ _ az;have m2:=qF _ _ 0 _ _ az;have m3:=qF _ _ 1 _ _ az;have iD:=qH (qA hx az);clear hx fe az))
    all_goals go_wp2_with fail
    all_goals refine qR (v:=.tuple #[.agg #[.string x1,.string x2],.int .i64 c6]) (rB_ rfl w.heap.size (heap_setCell_same _ _ 1 _ _ _ (heap_setCell_same _ _ 0 _ _ _ iD.o.2)) underlying27 2) rfl ⟨qam (qam (qam ⟨Y.o.1,Y.o.2.1,Y.o.2.2.1,Y.o.2.2.2.1,by rw [F.o.2.2.2.1,F.o.2.1],by rw [F.o.2.2.2.2.2.1,F.o.2.1],by rw [F.o.2.2.2.2.2.2.2.1,Y.o.2.2.2.2],iE.o,?_⟩)),((HV.o.2.2.trans (aK.mono HV.o.2.2.size)).setCell (p:=⟨w.heap.size,0,none⟩) qN _).setCell (p:=⟨w.heap.size,1,none⟩) qN _⟩
    all_goals rw [F.o.2.1,Y.o.2.2.2.2]
    all_goals have hx:=iD.o.1
    all_goals rw [HV.o.1] at hx
    all_goals exact fw_end hx
