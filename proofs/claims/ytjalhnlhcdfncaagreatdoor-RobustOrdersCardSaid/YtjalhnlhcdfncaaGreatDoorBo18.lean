import Derived.Test.YtjalhnlhcdfncaaGreatDoorBo16
set_option maxRecDepth 100000
set_option maxHeartbeats 0
namespace Go.Proofs.YtjalhnlhcdfncaaGreatDoor
open Go.RowKit Go.Proofs.Tryz
def qk4 (w:World) (t:Tbl) (bl wl E:List FT) (e:Ending) (w':World):Prop :=
  ((¬TOk t/\e=.returned (.tuple #[.agg #[.string ⟨#[]⟩,.string ⟨#[]⟩],.int .i64 60])) \/
   (TOk t/\¬(FAll bl/\FAll wl/\FAll E)/\e=.returned (.tuple #[.agg #[.string ⟨#[]⟩,.string ⟨#[]⟩],.int .i64 20])) \/
   (TOk t/\FAll bl/\FAll wl/\FAll E/\¬(bl.length=t.length/\wl.length=t.length/\E.length=wid t/\¬Neg wl)/\e=.returned (.tuple #[.agg #[.string ⟨#[]⟩,.string ⟨#[]⟩],.int .i64 2])) \/
   (TOk t/\FAll bl/\FAll wl/\FAll E/\bl.length=t.length/\wl.length=t.length/\E.length=wid t/\¬Neg wl /\
     (Short (measQ t bl wl E (wid t) t.length)/\e=.returned (.tuple #[fstr (measQ t bl wl E (wid t) t.length),.int .i64 0]) \/
      ¬Short (measQ t bl wl E (wid t) t.length)/\e=.returned (.tuple #[.agg #[.string ⟨#[]⟩,.string ⟨#[]⟩],.int .i64 6]))))/\Below w.heap.size w w'
theorem qk0 {W:World} {O:Option Addr} {b off n c:Nat} {l:List FT} {H:Option Addr} {Y E n2 c2:Nat} {l2:List FT} {I:Option Addr} {Z F n3 c3:Nat} {J:List FT} {g:Nat} {ty:TypeId} (hg:W.heap[g]? = some (.cells #[.slice O n c,.slice H n2 c2,.slice I n3 c3] ty (0,0))) (hn:l.length=n) (h:FCells W O b off l) (U:l2.length=n2) (h2:FCells W H Y E l2) (V:J.length=n3) (h3:FCells W I Z F J):TCells W (some ⟨g,0,none⟩) g 0 [l,l2,J]:=by
 refine⟨fun _=>rfl,fun k hk=>?_⟩;rcases (show k=0\/k=1\/k=2 by simp at hk;omega) with rfl | rfl | rfl
 ·exact⟨O,b,off,c,by rw [show ([l,l2,J]:Tbl).getD 0 []=l from rfl,hn];exact qC _ _ 0 _ _ _ hg,h⟩
 ·exact⟨H,Y,E,c2,by rw [show ([l,l2,J]:Tbl).getD 1 []=l2 from rfl,U];exact qC _ _ 1 _ _ _ hg,h2⟩
 ·exact⟨I,Z,F,c3,by rw [show ([l,l2,J]:Tbl).getD 2 []=J from rfl,V];exact qC _ _ 2 _ _ _ hg,h3⟩
theorem qi4 {l l2 E:List FT}:(∀k,k<([l,l2,E]:Tbl).length->FAll (([l,l2,E]:Tbl).getD k []))↔FAll l/\FAll l2/\FAll E :=
 ⟨fun h=>⟨h 0 (by simp),h 1 (by simp),h 2 (by simp)⟩,fun h k F=>by
  rcases (show k=0\/k=1\/k=2 by simp at F;omega) with rfl | rfl | rfl
  ·exact h.1
  ·exact h.2.1
  ·exact h.2.2⟩
theorem qcu.soft {W W':World} {g:Nat} {z:Int} {row:Option Nat} (h:qcu W g z) (s:Soft W W' row) (hne:row≠some g):qcu W' g z:=by
 obtain⟨a,m,c,b,E,x,e,F⟩:=h;exact⟨a,m,c,b,s.blk E hne,x,e,s.mag F⟩
theorem qcu.soften {W:World} {g:Nat} {z:Int} (h:qcu W g z) (u v:Value):Soft W ((W.setCell ⟨g,0,none⟩ u).setCell ⟨g,1,none⟩ v) (some g):=by
 obtain⟨a,m,c,b,E,_⟩:=h;have F:∀x∈(#[.slice a m c,.bool b]:Array Value).toList,qcM x:=by
  intro x hx k d e;rcases qat.1 hx with h | h
  ·rw [h] at e;cases e
  ·rw [qap.1 h] at e;cases e
 exact⟨qew W g u v,fun H e=>by cases e;exact⟨_,_,_,E,F⟩⟩
theorem qcu.soft0 {W:World} {g:Nat} {z:Int} (h:qcu W g z):Soft W W (some g):=by
 have s:=h.soften (.slice none 0 0) (.bool false);exact⟨qcw _ _,s.nn⟩
theorem Soft.trans {W V U:World} {row:Option Nat} (s:Soft W V row) (r:Soft V U row):Soft W U row:=⟨qb5 s.grown r.grown,s.nn⟩
theorem Soft.any {W V:World} (h:Below W.heap.size W V) {row:Option Nat} (H:∀g,row=some g->∃(cs:Array Value) (t:TypeId) (E:Nat×Nat),W.heap[g]? = some (.cells cs t E)/\∀x∈cs.toList,qcM x):Soft W V row :=
 ⟨⟨h.os,h.tape,h.output,h.size,fun i F _=>h.block i F⟩,H⟩
theorem Soft.more {W V U:World} {row:Option Nat} (s:Soft W V row) (h:Below V.heap.size V U):Soft W U row:=⟨qcl s.grown h,s.nn⟩
theorem Soft.new {W V U:World} {row:Option Nat} {g:Nat} (s:Soft W V row) (r:Soft V U (some g)) (hg:W.heap.size<=g):Soft W U row :=
 ⟨⟨r.grown.os.trans s.grown.os,r.grown.tape.trans s.grown.tape,r.grown.output.trans s.grown.output,qak s.grown.size r.grown.size,fun i E hne=>(r.grown.block i (qai E s.grown.size) (fun e=>by have:=qag e;omega)).trans (s.grown.block i E hne)⟩,s.nn⟩
def LOne (E W:World) (g:Nat) (z:Int):Prop:=qcu W g z/\Below E.heap.size E W/\E.heap.size<=g
theorem lone_a {E W:World} {a:Option Addr} {n c:Nat} {b:Bool} {z:Int} (h:IntAt W (.agg #[.slice a n c,.bool b]) z) (F:Below E.heap.size E W):LOne E (W.alloc (.cells #[.slice a n c,.bool b] 217)) W.heap.size z :=
 ⟨⟨a,n,c,b,qM _ _ _ rfl,h.below (qb4 qB qN)⟩,qb4 F qN,F.size⟩
theorem lone_p {E W:World} {g:Nat} {a:Option Addr} {n c:Nat} {b:Bool} {z:Int} (h:IntAt W (.agg #[.slice a n c,.bool b]) z) (H:Below E.heap.size E W) (hg:E.heap.size<=g) (I:W.heap[g]? = some (.cells #[.slice none 0 0,.bool false] 217 (0,0))):LOne E ((W.setCell ⟨g,0,none⟩ (.slice a n c)).setCell ⟨g,1,none⟩ (.bool b)) g z :=
 have F:qcu W g 0:=⟨_,_,_,_,I,_,rfl,MagAt.nil _⟩
 ⟨F.put h,(H.setCell (p:=⟨g,0,none⟩) hg _).setCell (p:=⟨g,1,none⟩) hg _,hg⟩
theorem fw_end {q:Rat} {x1 x2:ByteArray} {c:Int} (h:Short q/\(x1,x2)=ftxt q/\c=0\/¬Short q/\(x1,x2)=fd0/\c=6) :
  Short q/\Ending.returned (.tuple #[.agg #[.string x1,.string x2],.int .i64 c])=.returned (.tuple #[fstr q,.int .i64 0])\/¬Short q/\Ending.returned (.tuple #[.agg #[.string x1,.string x2],.int .i64 c])=.returned (.tuple #[.agg #[.string ⟨#[]⟩,.string ⟨#[]⟩],.int .i64 6]):=by
 rcases h with ⟨h,e,rfl⟩ | ⟨h,e,rfl⟩
 ·refine qaw ⟨h,?_⟩;rw [qe7,<-e]
 ·refine qam ⟨h,?_⟩;have E:x1=⟨#[]⟩:=congrArg Prod.fst e;have F:x2=⟨#[]⟩:=congrArg Prod.snd e;rw [E,F]
theorem qjw (ao:Option Addr) (b off R c:Nat) (t:Tbl) (dO:Option Addr) (b2 jv m c2:Nat) (bl:List FT) (dP:Option Addr) (b3 bi q c3:Nat) (wl:List FT) (dQ:Option Addr) (b4 jw p c4:Nat) (E:List FT) (w:World) (hR:t.length=R) (hl:R<=4611686018427387904) (hw:∀k,k<R->(t.getD k []).length<=4611686018427387904) (hc:TCells w ao b off t)
  (hm:bl.length=m) (ed:m<=4611686018427387904) (gF:FCells w dO b2 jv bl) (hq:wl.length=q) (gX:q<=4611686018427387904) (gG:FCells w dP b3 bi wl) (hp:E.length=p) (lT:p<=4611686018427387904) (gH:FCells w dQ b4 jw E) (hT:HasT w) :
  Calls prog 90 #[.slice ao R c,.slice dO m c2,.slice dP q c3,.slice dQ p c4] w fun e w'=>qk4 w t bl wl E e w':=by
 obtain⟨W0,bQ⟩:=qY (w.alloc (.cells #[.string ⟨#[]⟩,.string ⟨#[]⟩] 27));have fU:Below w.heap.size w W0:=bQ▸qb4 qB qN;have cK:W0.heap[w.heap.size]? = some (.cells #[.string ⟨#[]⟩,.string ⟨#[]⟩] 27 (0,0)):=by rw [bQ];exact qM _ _ _ rfl
 have ik:W0.heap.size=w.heap.size+1:=by rw [bQ,qab]
 obtain⟨W1,dV⟩:=qY (W0.alloc (.cells #[.slice dO m c2,.slice dP q c3,.slice dQ p c4] 22));have fV:Below W0.heap.size W0 W1:=dV▸qb4 qB qN;have jm:W1.heap[w.heap.size+1]? = some (.cells #[.slice dO m c2,.slice dP q c3,.slice dQ p c4] 22 (0,0)):=by rw [dV];exact qM _ _ _ ik
 have ay:=fU.trans (fV.mono fU.size);have fA:=zkeep fV _ _ cK;have HK:=qH (qfp ao b off R c t (some ⟨w.heap.size+1,0,none⟩) (w.heap.size+1) 0 3 3 [bl,wl,E] W1 hR hl hw (hc.below ay) rfl (by omega) (fun k hk=>by
  rcases (show k=0\/k=1\/k=2 by omega) with rfl | rfl | rfl
  ·show bl.length<=_;omega
  ·show wl.length<=_;omega
  ·show E.length<=_;omega) (qk0 jm hm (gF.below ay) hq (gG.below ay) hp (gH.below ay)))
 have F:=qH (qA hc (qA hR (qA gF (qA hm (qA gG (qA hq (qA gH (qA hp hT))))))));have fG:=qH (qA ay fA);have lg:=qH ik;have lQ:=qfR;clear hR hw hc hm gF fV jm hT hq gG hp gH fU cK ay fA;go_enter func90,ntmps90;go_wp2_with fail;rw [<-bQ,<-dV];clear dV bQ ik;refine HK.o.mono ?_;rintro e w2 ⟨cc,rfl,kg,fZ⟩;have bA:=zkeep fZ _ _ fG.o.2;have HB:=qH (qA (fG.o.1.trans (fZ.mono fG.o.1.size)) bA);have z0:=qC _ _ 0 _ _ _ bA;have z1:=qC _ _ 1 _ _ _ bA;have y0:=qF _ _ 0 _ _ bA;have y1:=qF _ _ 1 _ _ bA;clear fZ bA;have iG:∀(W:World) (er:Int),Below w.heap.size w W->W.heap[w.heap.size]? = some (.cells #[.string ⟨#[]⟩,.string ⟨#[]⟩] 27 (0,0))->((W.setCell ⟨w.heap.size,0,none⟩ (.string ⟨#[]⟩)).setCell ⟨w.heap.size,1,none⟩ (.string ⟨#[]⟩)).heap[w.heap.size]? = some (.cells #[.string ⟨#[]⟩,.string ⟨#[]⟩] 27 (0,0))/\Below w.heap.size w ((W.setCell ⟨w.heap.size,0,none⟩ (.string ⟨#[]⟩)).setCell ⟨w.heap.size,1,none⟩ (.string ⟨#[]⟩)):=fun W er hb hr =>
  ⟨heap_setCell_same _ _ 1 _ _ _ (heap_setCell_same _ _ 0 _ _ _ hr),(hb.setCell (p:=⟨w.heap.size,0,none⟩) qN _).setCell (p:=⟨w.heap.size,1,none⟩) qN _⟩
 have bn:=qH iG;clear iG;rcases kg with ⟨rfl,hT⟩ | ⟨rfl,hT,hL⟩ | ⟨rfl,hT,hL⟩
 ·have HT:=qH (qA hT (bn.o w2 0 HB.o.1 HB.o.2));clear hT;go_wp2_with fail;exact qR (v:=.tuple #[.agg #[.string ⟨#[]⟩,.string ⟨#[]⟩],.int .i64 60]) (rB_ rfl w.heap.size HT.o.2.1 underlying27 2) rfl ⟨qaw ⟨HT.o.1,rfl⟩,HT.o.2.2⟩
 ·have HT:=qH (qA (qA hT hL) (bn.o w2 0 HB.o.1 HB.o.2));clear hT hL;go_wp2_with fail;exact qR (v:=.tuple #[.agg #[.string ⟨#[]⟩,.string ⟨#[]⟩],.int .i64 20]) (rB_ rfl w.heap.size HT.o.2.1 underlying27 2) rfl ⟨qam (qaw ⟨HT.o.1.1,fun h=>HT.o.1.2 (qi4.2 h),rfl⟩),HT.o.2.2⟩
 obtain⟨iM,iN,iO⟩:=qi4.1 hL;have kZ:R<=40:=by have:=hT.r2;have:=F.o.2.1;omega
 have lN:1<=R:=by have:=hT.r1;have:=F.o.2.1;omega
 have kY:(0:Int)<R:=by omega
 have jZ:=F.o.1.addr (by have:=F.o.2.1;omega);subst jZ;obtain⟨n,hn⟩:=qX (wid t);have aZ:n<=10:=by have:=hT.c2;omega
 have ku:1<=n:=by have:=hT.c1;omega
 obtain⟨lX,lY,l5,lZ,gD,_⟩:=(F.o.1.below HB.o.1).row 0 (by have:=F.o.2.1;omega);rw [qbt] at gD;have ji:(t.getD 0 []).length=n:=hn;rw [ji] at gD;have Z:=qH (qA hT (qA iM (qA iN (qA iO hn))));clear hT hL iM iN iO hn ji;have bad:∀(W:World),Below w.heap.size w W->¬(bl.length=t.length/\wl.length=t.length/\E.length=wid t/\¬Neg wl)->qk4 w t bl wl E (.returned (.tuple #[.agg #[.string ⟨#[]⟩,.string ⟨#[]⟩],.int .i64 2])) W:=fun W h hn=>⟨qam (qam (qaw ⟨Z.o.1,Z.o.2.1,Z.o.2.2.1,Z.o.2.2.2.1,hn,rfl⟩)),h⟩
 have dK:=qH bad;clear bad
 by_cases e1:m=R
 case neg =>
  have jW:((m:Int) != (R:Int))=true:=by rw [bne_iff_ne];omega
  have hE:=bn.o w2 0 HB.o.1 HB.o.2;have HE:=qH (qA hE.1 (dK.o _ hE.2 (fun h=>e1 (by rw [<-F.o.2.2.2.1,h.1,F.o.2.1]))));clear e1 hE;go_wp2_with fail;exact qR (v:=.tuple #[.agg #[.string ⟨#[]⟩,.string ⟨#[]⟩],.int .i64 2]) (rB_ rfl w.heap.size HE.o.1 underlying27 2) rfl HE.o.2
 have jW:((m:Int) != (R:Int))=false:=by simp [e1]
 by_cases e2:q=R
 case neg =>
  have jX:((q:Int) != (R:Int))=true:=by rw [bne_iff_ne];omega
  have hE:=bn.o w2 0 HB.o.1 HB.o.2;have HE:=qH (qA hE.1 (dK.o _ hE.2 (fun h=>e2 (by rw [<-F.o.2.2.2.2.2.1,h.2.1,F.o.2.1]))));clear e2 e1 hE;go_wp2_with fail;exact qR (v:=.tuple #[.agg #[.string ⟨#[]⟩,.string ⟨#[]⟩],.int .i64 2]) (rB_ rfl w.heap.size HE.o.1 underlying27 2) rfl HE.o.2
 have jX:((q:Int) != (R:Int))=false:=by simp [e2]
 by_cases e3:p=n
 case neg =>
  have jY:((p:Int) != (n:Int))=true:=by rw [bne_iff_ne];omega
  have hE:=bn.o w2 0 HB.o.1 HB.o.2;have HE:=qH (qA hE.1 (dK.o _ hE.2 (fun h=>e3 (by rw [<-F.o.2.2.2.2.2.2.2.1,h.2.2.1,Z.o.2.2.2.2]))));clear e3 e2 e1 hE;go_wp2_with fail;exact qR (v:=.tuple #[.agg #[.string ⟨#[]⟩,.string ⟨#[]⟩],.int .i64 2]) (rB_ rfl w.heap.size HE.o.1 underlying27 2) rfl HE.o.2
 have jY:((p:Int) != (n:Int))=false:=by simp [e3]
 have He:=qH (qA e1 (qA e2 e3));have iP:=F.o.2.2.1.addr (by have:=F.o.2.2.2.1;omega);subst iP;have iQ:=F.o.2.2.2.2.1.addr (by have:=F.o.2.2.2.2.2.1;omega);subst iQ;have iR:=F.o.2.2.2.2.2.2.1.addr (by have:=F.o.2.2.2.2.2.2.2.1;omega);subst iR;have jk:=qgH (some ⟨b3,bi,none⟩) b3 bi q c3 wl w2 F.o.2.2.2.2.2.1 (by omega) (F.o.2.2.2.2.1.below HB.o.1) Z.o.2.2.1;have HN:=qH jk;clear e1 e2 e3 jk;go_wp2_with fail;refine HN.o.mono ?_;rintro e w3 ⟨x,rfl,hx,gm⟩;have bB:=zkeep gm _ _ HB.o.2;have kS:=qC _ _ 0 _ _ _ bB;have kT:=qC _ _ 1 _ _ _ bB;have kQ:=qF _ _ 0 _ _ bB;have kR:=qF _ _ 1 _ _ bB;have aj:=qH (qA (HB.o.1.trans (gm.mono HB.o.1.size)) bB);clear gm bB;cases x with
 | true =>
  have hE:=bn.o w3 0 aj.o.1 aj.o.2;have HE:=qH (qA hE.1 (dK.o _ hE.2 (fun h=>h.2.2.2 (hx.1 rfl))));clear hx hE;go_wp2_with fail;exact qR (v:=.tuple #[.agg #[.string ⟨#[]⟩,.string ⟨#[]⟩],.int .i64 2]) (rB_ rfl w.heap.size HE.o.1 underlying27 2) rfl HE.o.2
 | false =>
  have jl:¬Neg wl:=fun h=>by have:=hx.2 h;cases this
  have iF:=qH jl;obtain rfl:m=R:=He.o.1;obtain rfl:q=m:=He.o.2.1;obtain rfl:p=n:=He.o.2.2;clear hx jl z0 z1 y0 y1 gD;go_wp2_with fail;refine (qeO (c:=c4) (show E.length=p from F.o.2.2.2.2.2.2.2.1) (by omega) (F.o.2.2.2.2.2.2.1.below aj.o.1) Z.o.2.2.2.1).mono ?_;rintro e w4 ⟨gx,vx,rfl,kr,aH,ib,ig⟩;obtain⟨ax,nx,cx,rfl⟩:=qco ib;obtain⟨V1,bO⟩:=qY (w4.alloc (.cells #[rowv gx p] 212));have c1:Below w4.heap.size w4 V1:=bO▸qb4 qB qN;have d1:V1.heap[w4.heap.size]? = some (.cells #[rowv gx p] 212 (0,0)):=by rw [bO];exact qM _ _ _ rfl
  have s1:V1.heap.size=w4.heap.size+1:=by rw [bO,qab]
  obtain⟨V2,bP⟩:=qY (V1.alloc (.cells #[.int .u32 1] 201));have c2:Below V1.heap.size V1 V2:=bP▸qb4 qB qN;have s2:V2.heap.size=w4.heap.size+1+1:=by rw [bP,qab,s1]
  have o2:MagAt V2 (.slice (some ⟨w4.heap.size+1,0,none⟩) 1 1) 1:=by
   have:=qgp V1 201 (s:=1) (by decide) (by decide);rw [s1] at this;rw [bP];exact this
  obtain⟨V3,dS⟩:=qY (V2.alloc (.cells #[.slice none 0 0,.bool false] 217));have c3:Below V2.heap.size V2 V3:=dS▸qb4 qB qN;have d3:qcu V3 (w4.heap.size+1+1) 0:=⟨_,_,_,_,by rw [dS];exact qM _ _ _ s2,_,rfl,MagAt.nil _⟩;have dR:=c2.trans (c3.mono c2.size);have bz:=c1.trans (dR.mono c1.size);have eX:=aj.o.1.trans ((aH.trans (bz.mono aH.size)).mono aj.o.1.size);have H3:=qH (qA d3 (qA (zkeep dR _ _ d1) (qA (o2.below c3) (qA (ib.below bz) (qA (ig.below bz) (qA eX (zkeep (aH.trans (bz.mono aH.size)) _ _ aj.o.2)))))));have eH:=qH (show w.heap.size<w4.heap.size by have:=(qG aj.o.2).1;have:=aH.size;omega);have fH:=qH (show w.heap.size<=w4.heap.size+1+1 by have:=(aj.o.1.trans (aH.mono aj.o.1.size)).size;omega);have Hs:=qH (qA s1 (qA s2 (show gx<w4.heap.size by
   obtain⟨_,_,h2,_⟩:=ig;exact (qG h2.1).1)))
  clear aH ib ig c1 d1 c2 o2 c3 d3 dR bz eX s1 s2 kr kS kT kQ kR;go_wp2_with fail;rw [<-bO,<-bP,<-dS];clear bO bP dS
  go_loopw [14,72] (fun x14 x72 W=>∃(i:Nat) (T:Int) (D:Nat),i<=q/\x72=.int .i64 i/\Hu (MSt t bl wl E p i T D)/\Hu (qcu W (w4.heap.size+1+1) T)/\Hu (MagAt W x14 D)/\Hu (Below w.heap.size w W)/\Hu (Soft V3 W (some (w4.heap.size+1+1)))) (fun _ x72 _=>q-(intOf x72).toNat)
  case atStart=>exact⟨0,0,1,qaj _,rfl,qH (MSt.start _ _ _ _ _),qH H3.o.1,qH H3.o.2.2.1,qH H3.o.2.2.2.2.2.1,qH H3.o.1.soft0⟩
  case round =>
   obtain⟨i,T,D,hi,rfl,hS,hI,hA,hB,hF⟩:=hrel
   by_cases gQ:i<q
   ·have lS:(i:Int)<q:=by omega
    have je:i<t.length:=by have:=F.o.2.1;omega
    obtain⟨ra,rb,ro,rc,ko,iX⟩:=(F.o.1.below hB.o).row i je;have ek:=Z.o.1.rows i je;rw [Z.o.2.2.2.2] at ek;rw [ek.1] at ko;obtain⟨d0,d1⟩:=(F.o.2.2.2.2.1.below hB.o).cell i (by have:=F.o.2.2.2.2.2.1;omega);have ic:=Z.o.2.2.1 i (by have:=F.o.2.2.2.2.2.1;omega);obtain⟨WN,dZ⟩:∃N,(wl.getD i fd0).1=N:=⟨_,rfl⟩;obtain⟨WD,dY⟩:∃D,(wl.getD i fd0).2=D:=⟨_,rfl⟩;rw [dZ,dY] at ic;rw [dZ] at d0;rw [dY] at d1;obtain⟨e0,e1⟩:=(F.o.2.2.1.below hB.o).cell i (by have:=F.o.2.2.2.1;omega);obtain⟨BN,fO⟩:∃N,(bl.getD i fd0).1=N:=⟨_,rfl⟩;obtain⟨BD,fM⟩:∃D,(bl.getD i fd0).2=D:=⟨_,rfl⟩;rw [fO] at e0;rw [fM] at e1;obtain⟨aD,nD,cD,rfl⟩:=qco hA.o;have HW:=qH (qA dZ (qA dY (qA ic (qA fO (qA fM (qA ek iX))))));clear dZ dY ic fO fM ek iX;have O:=qH (qol Z.o.1 F.o.2.1 Z.o.2.2.2.2 Z.o.2.1 F.o.2.2.2.1 Z.o.2.2.1 F.o.2.2.2.2.2.1 iF.o gQ);go_wp2_with fail;refine ((qcx .l) WN HW.o.2.2.1.vn _).mono ?_;rintro e w5 ⟨u5,rfl,iT,il⟩;obtain⟨a5,n5,c5,b5,rfl⟩:=qb6 il;have H5:=qH (qA iT il);clear iT il;go_wp2_with fail;obtain⟨W6,dW⟩:=qY (w5.alloc (.cells #[.slice a5 n5 c5,.bool b5] 217));have aV:Below w5.heap.size w5 W6:=dW▸qb4 qB qN;have ja:qcu W6 w5.heap.size (ival WN.data.toList):=⟨_,_,_,_,by rw [dW];exact qM _ _ _ rfl,H5.o.2.below aV⟩;have gY:=(qiC H5.o.2).below aV;rw [show (ival WN.data.toList).natAbs=wnum wl i by unfold wnum;rw [HW.o.1]] at gY;rw [<-dW];have H6:=qH (qA (bjoin H5.o.1 aV) ja);clear dW aV ja;refine ((qcV .l) (wnum wl i) _ W6 gY).mono ?_;rintro e w6 ⟨rfl,kw⟩;subst kw;clear gY
    by_cases hz:wnum wl i=0
    ·rw [qV hz];have HZ:=qH hz;clear hz;go_wp2;go_roundw
     case rel=>exact⟨i+1,T,D,gQ,by go_num,qH (hS.o.skip HZ.o),qH (hI.o.below H6.o.1),qH (hA.o.below H6.o.1),qH (hB.o.trans (H6.o.1.mono hB.o.size)),qH (hF.o.more H6.o.1)⟩
     case measure=>simp [intOf];omega
    ·rw [qU hz];clear hz;have gu:=H6.o.1;have jU:=(gu.cell (qae wr _ e0)).trans e0;have jV:=(gu.cell (qae wr _ e1)).trans e1;clear gu;go_wp2_with fail;refine (qh2 ra rb ro p rc (t.getD i []) (BN,BD) _ HW.o.2.2.2.2.2.1.1 ku (by omega) (HW.o.2.2.2.2.2.2.below H6.o.1)).mono ?_;rintro e w7 ⟨g7,rfl,gz,gL⟩;have fq:t.getD i []++[(BN,BD)]=besides t bl i:=by unfold besides;rw [<-HW.o.2.2.2.1,<-HW.o.2.2.2.2.1]
     rw [fq] at gL;have H7:=qH (qA (bjoin H6.o.1 gz) (qA gL (H6.o.2.below gz)));clear gz gL fq jU jV;go_wp2_with fail;refine (qeO (c:=p+1) O.o.2 (by omega) H7.o.2.1 O.o.1.fa).mono ?_;rintro e w8 ⟨g8,v8,rfl,jb,gB,gZ,jo⟩;obtain⟨a8,n8,c8,rfl⟩:=qco gZ;obtain⟨W9,dX⟩:=qY (w8.alloc (.cells #[rowv g8 (p+1)] 212));have aW:Below w8.heap.size w8 W9:=dX▸qb4 qB qN;have jh:W9.heap[w8.heap.size]? = some (.cells #[rowv g8 (p+1)] 212 (0,0)):=by rw [dX];exact qM _ _ _ rfl
     have fK:=gB.trans (aW.mono gB.size);have h9:=bjoin H7.o.1 fK;have H9:=qH (qA h9 (qA jh (qA (gZ.below aW) (qA (jo.below aW) (qA (H7.o.2.2.below fK) (hF.o.more h9))))));clear gB gZ jo aW jh fK h9 jb;have fD:=qmT p (.pointer (some ⟨w8.heap.size,0,none⟩)) (.pointer (some ⟨w4.heap.size,0,none⟩)) (fun j=>ftop (besides t bl i) j*ftop E j) 1610 (by omega) W9 (by omega) (fun W' j hj fT=>by
      have iJ:=H9.o.2.2.2.2.2.more fT;exact qoe w8.heap.size w4.heap.size g8 gx (p+1) p j _ _ 805 805 (by omega) W' (qC _ _ 0 _ _ _ (zkeep fT _ _ H9.o.2.1)) (qC _ _ 0 _ _ _ (iJ.blk H3.o.2.1 (fun e=>by have:=qag e;omega))) (H9.o.2.2.2.1.below fT) (iJ.introw H3.o.2.2.2.2.1 (fun e=>by have:=qag e;have:=Hs.o.2.2;omega)) (by omega) hj (by omega) (by omega) ((qdq O.o.1.fa (m:=11) (by have:=O.o.2;omega) (by have:=O.o.2;omega)).mono (by omega)) ((qdq Z.o.2.2.2.1 (m:=11) (by have:=F.o.2.2.2.2.2.2.2.1;omega) (by have:=F.o.2.2.2.2.2.2.2.1;omega)).mono (by omega))) (fun j hj=>by
       rw [qaE];exact ((qdq O.o.1.fa (m:=11) (by have:=O.o.2;omega) (by have:=O.o.2;omega)).mul (qdq Z.o.2.2.2.1 (m:=11) (by have:=F.o.2.2.2.2.2.2.2.1;omega) (by have:=F.o.2.2.2.2.2.2.2.1;omega))).mono (by omega))
     have jG:=qH fD;clear fD;go_wp2_with fail;rw [<-dX];clear dX;refine jG.o.mono ?_;rintro e ag ⟨u10,rfl,az,cO⟩;obtain⟨jI,n10,c10,b10,rfl⟩:=qb6 cO;obtain⟨H,aM⟩:=qY (ag.alloc (.cells #[.slice jI n10 c10,.bool b10] 217));have aC:Below ag.heap.size ag H:=aM▸qb4 qB qN;have dI:qcu H ag.heap.size (isum (fun j=>ftop (besides t bl i) j*ftop E j) p):=⟨_,_,_,_,by rw [aM];exact qM _ _ _ rfl,cO.below aC⟩;have af:=az.trans (aC.mono az.size);have cz:w8.heap.size<ag.heap.size:=qai (qG H9.o.2.1).1 az.size;have fw:w5.heap.size<ag.heap.size:=qai H9.o.2.2.2.2.1.lt az.size;have aa:=qH (qA (bjoin H9.o.1 af) (qA dI (qA (H9.o.2.2.1.below af) (qA (H9.o.2.2.2.2.1.below af) (qA (H9.o.2.2.2.2.2.more af) (qA cz (qA fw (qak H9.o.1.size az.size))))))));obtain⟨a2,m2,d2,b2',p0,p1,jd⟩:=(H9.o.2.2.2.1.below af).pair (show p<p+1 by omega);obtain⟨av,mv,dv,bv,⟨v0,v1⟩,_,jf⟩:=dI.cells;have l0:=qC _ _ 0 _ _ _ (zkeep af _ _ H9.o.2.1);have jq:MagAt H (.slice ax nx cx) (flcd E):=(H9.o.2.2.2.2.2.more af).mag H3.o.2.2.2.1;have ak:=qf9 O.o.1.fa O.o.2 aZ Z.o.2.2.2.1 F.o.2.2.2.2.2.2.2.1;have lU:(p:Int)<p+1:=by omega
     have bD:Below H.heap.size H H:=Below.refl _ _;have J:Below H.heap.size H H.drew:=bD.drew;have jC:=qH (fun W (h:Below H.heap.size H W)=>(qcO .l) (ftop (besides t bl i) p) (flcd E) 805 738 (by omega) _ _ W (jd.below h) (jq.below h) ((qdq O.o.1.fa (m:=11) (by have:=O.o.2;omega) (by have:=O.o.2;omega)).mono (by omega)) ((qfT Z.o.2.2.2.1 (m:=11) (by have:=F.o.2.2.2.2.2.2.2.1;omega)).mono (by omega)));have iZ:Fit (-(ftop (besides t bl i) p*((flcd E:Nat):Int))).natAbs 1621:=by rw [qbv];exact ak.2.1.mono (by omega)
     have jD:=qH (fun W u (h:Below H.heap.size H W) (hu:IntAt W u (-(ftop (besides t bl i) p*((flcd E:Nat):Int))))=>(qdI .l) (isum (fun j=>ftop (besides t bl i) j*ftop E j) p) (-(ftop (besides t bl i) p*((flcd E:Nat):Int))) 1621 (by omega) _ u W (jf.below h) hu ak.1 iZ);clear az cO aC dI af cz fw jd jf jq ak iZ;go_wp2_with fail;rw [<-aM];clear aM
     go_cut [110] (fun x110 W=>Hu (qcu W ag.heap.size (mval2 t bl E p i))/\Hu (Soft H W (some ag.heap.size)))
     case first =>
      go_region_with (first | (go_at_call 155;refine (jC.o _ J).mono ?_;rintro e kz ⟨u12,rfl,eQ,cZ⟩;have bG:Below H.heap.size H kz:=J.trans eQ;have x0:=bG.cell (qae H _ v0) |>.trans v0;have x1:=bG.cell (qae H _ v1) |>.trans v1;obtain⟨a12,n12,c12,b12,rfl⟩:=qb6 cZ;have iq:=qH cZ;clear eQ cZ) | (go_at_call 156;refine ((qd9 .l) _ _ _ iq.o).mono ?_;rintro e kC ⟨u13,rfl,eT,df⟩;have aK:Below H.heap.size H kC:=bjoin bG eT;have x2:=aK.cell (qae H _ v0) |>.trans v0;have x3:=aK.cell (qae H _ v1) |>.trans v1;obtain⟨lh,n13,bz,b13,rfl⟩:=qb6 df;have iw:=qH df;clear eT df) | (go_at_call 154;refine (jD.o _ _ aK iw.o).mono ?_;rintro e kD ⟨u14,rfl,eU,dh⟩;have bH:Below H.heap.size H kD:=bjoin aK eU;obtain⟨ll,n14,c14,b14,rfl⟩:=qb6 dh;obtain⟨_,_,_,_,⟨x4,x5⟩,⟨x6,x7⟩,_⟩:=(aa.o.2.1.below bH).cells;have bL:=qH (qA bH ((aa.o.2.1.below bH).put (z:=mval2 t bl E p i) dh));clear eU dh))
      all_goals go_wp2_with fail
      all_goals go_meet
      all_goals exact⟨qH bL.o.2,qH (((Soft.any bL.o.1 aa.o.2.1.soft0.nn)).trans ((aa.o.2.1.below bL.o.1).soften _ _))⟩
     case rest =>
      obtain⟨kv,bC⟩:=hcut;obtain⟨U,ky⟩:=qY wc;subst ky;have hne:∀{x:Nat},x<ag.heap.size->(some ag.heap.size:Option Nat)≠some x:=fun hx e=>by have:=qag e;omega
      have dJ:=aa.o.2.2.2.2.2.2.2;have jr:=aa.o.2.2.2.1.soft bC.o (hne aa.o.2.2.2.2.2.2.1);have iL:=(hI.o.below aa.o.1).soft bC.o (hne (qai hI.o.lt dJ));have iI:=bC.o.mag (hA.o.below aa.o.1);have fP:=bC.o.old (hB.o.trans (aa.o.1.mono hB.o.size)) (fun x e=>by have:=qag e;have:=hB.o.size;omega) (qak hB.o.size aa.o.1.size);have iK:=aa.o.2.2.2.2.1.new bC.o (by have:=hF.o.grown.size;omega);have iH:=bC.o.mag aa.o.2.2.1;have iV:U.cell? ⟨b3,bi+i*2+1,none⟩=some (.string WD):=by
       have h:=(F.o.2.2.2.2.1.below fP).cell i (by have:=F.o.2.2.2.2.2.1;omega);rw [HW.o.2.1] at h;exact h.2
      obtain⟨aw,mw,dw,bw,⟨g0,g1⟩,_,gT⟩:=jr.cells;obtain⟨jJ,mv',jT,jK,⟨f0,f1⟩,_,bZ⟩:=kv.o.cells;have G0:∀W,Below U.heap.size U W->W.cell? ⟨w5.heap.size,0,none⟩=some (.slice aw mw dw):=fun W h=>(h.cell (qae U _ g0)).trans g0
      have G1:∀W,Below U.heap.size U W->W.cell? ⟨w5.heap.size,1,none⟩=some (.bool bw):=fun W h=>(h.cell (qae U _ g1)).trans g1
      have F0:∀W,Below U.heap.size U W->W.cell? ⟨ag.heap.size,0,none⟩=some (.slice jJ mv' jT):=fun W h=>(h.cell (qae U _ f0)).trans f0
      have F1:∀W,Below U.heap.size U W->W.cell? ⟨ag.heap.size,1,none⟩=some (.bool jK):=fun W h=>(h.cell (qae U _ f1)).trans f1
      have ak:=(qf9 O.o.1.fa O.o.2 aZ Z.o.2.2.2.1 F.o.2.2.2.2.2.2.2.1).2.2;have fF:ival WN.data.toList=((wnum wl i:Nat):Int):=by
       have h1:=O.o.1.nn;unfold wnum;rw [HW.o.1] at h1 ⊢;omega
      rw [fF] at gT;have gP:Fit ((wnum wl i:Nat):Int).natAbs 67:=by rw [qas];exact O.o.1.wn
      have fu:Fit (((wnum wl i:Nat):Int)*mval2 t bl E p i).natAbs (67+1622):=by rw [qaE];exact gP.mul ak
      have bq:=qH (fun W (h:Below U.heap.size U W)=>qcU ((wnum wl i:Nat):Int) (mval2 t bl E p i) 67 1622 (by omega) _ _ W (gT.below h) (bZ.below h) gP ak);have bu:=qH (fun W u (h:Below U.heap.size U W) (hu:IntAt W u (((wnum wl i:Nat):Int)*mval2 t bl E p i))=>qcU (((wnum wl i:Nat):Int)*mval2 t bl E p i) (mval2 t bl E p i) (67+1622) 1622 (by omega) u _ W hu (bZ.below h) fu ak);have d9:Below U.heap.size U U:=Below.refl _ _;have aY:Below U.heap.size U U.drew:=d9.drew;have aX:Below U.heap.size U (U.alloc (.cells #[.slice none 0 0,.bool false] 217)).drew:=(qb4 d9 qN).drew;have Hc:=qH (qA iL (qA iI (qA fP (qA iK (qA iH iV)))));clear hne dJ jr iL iI fP iK iH iV g0 g1 f0 f1 gT bZ ak fF gP fu bD J p0 p1 v0 v1 l0;go_wp2_with fail
      go_cut [21] (fun x21 W=>∃fJ:Nat,x21=.pointer (some ⟨fJ,0,none⟩)/\LOne U W fJ (((wnum wl i:Nat):Int)*mval2 t bl E p i*mval2 t bl E p i))
      case first =>
       go_region_held3 (fun W=>Below U.heap.size U W) (first | with_reducible exact d9 | with_reducible exact aY | with_reducible exact aX | with_reducible exact Y | with_reducible exact V | exact qb4 V qN | exact qb4 Y qN | exact (V.setCell qN _).setCell qN _ | exact (V.setCell Y.size _).setCell Y.size _ | exact (V.setCell V.size _).setCell V.size _) (first | (go_at_call_of 153 (Value.agg #[.slice aw mw dw,.bool bw]);refine (bq.o _ (by first | with_reducible exact aY | with_reducible exact aX)).mono ?_;rintro e jy ⟨u15,rfl,bR,di⟩;have Y:Below U.heap.size U jy:=bjoin (by first | with_reducible exact aY | with_reducible exact aX) bR;obtain⟨lm,n15,c15,b15,rfl⟩:=qb6 di;have eD:=qH di;have jH:=qH (zkeep bR);clear bR di) | (go_at_call 153;refine (bu.o _ _ (by first | with_reducible exact Y | exact qb4 Y qN) (by first | with_reducible exact eD.o | exact eD.o.below (qb4 qB qN))).mono ?_;rintro e kE ⟨u16,rfl,aN,dm⟩;have V:Below U.heap.size U kE:=bjoin (by first | with_reducible exact Y | exact qb4 Y qN) aN;obtain⟨a16,n16,c16,b16,rfl⟩:=qb6 dm;have bM:=qH dm;(first | (have ae:=zkeep aN _ _ (jH.o U.heap.size _ (qM U (.cells #[.slice none 0 0,.bool false] 217) _ rfl));have o0:=qC _ _ 0 _ _ _ ae;have o1:=qC _ _ 1 _ _ _ ae;have o2:=qF _ _ 0 _ _ ae;have o3:=qF _ _ 1 _ _ ae;have fI:=qH ae;clear ae) | (have ae:=zkeep aN _ _ (qM jy (.cells #[.slice none 0 0,.bool false] 217) _ rfl);have o0:=qC _ _ 0 _ _ _ ae;have o1:=qC _ _ 1 _ _ _ ae;have o2:=qF _ _ 0 _ _ ae;have o3:=qF _ _ 1 _ _ ae;have fI:=qH ae;clear ae) | skip);clear aN dm))
       all_goals go_wp2_with fail
       all_goals go_meet
       all_goals refine⟨_,rfl,?_⟩
       all_goals first
        | with_reducible exact lone_a bM.o V
        | exact lone_p bM.o V qN fI.o
        | exact lone_p bM.o V Y.size fI.o
      case rest =>
       obtain⟨fJ,rfl,jg,ed,gX⟩:=hcut;have iU:=(ed.cell (qae U _ Hc.o.2.2.2.2.2)).trans Hc.o.2.2.2.2.2;have dL:=qH (qA jg (qA ed gX));clear jg ed gX G0 G1 F0 F1 bq bu d9 aY aX;go_wp2_with fail;refine ((qcx .l) WD HW.o.2.2.1.vd _).mono ?_;rintro e kF ⟨u22,rfl,bS,dn⟩;obtain⟨a22,n22,lG,lq,rfl⟩:=qb6 dn;have cB:=qiC dn;rw [show (ival WD.data.toList).natAbs=fden (wl.getD i fd0) by unfold fden;rw [HW.o.2.1]] at cB;have dM:=qH (qA bS (qA cB (Hc.o.2.2.2.2.1.below (bjoin dL.o.2.1 bS))));clear bS dn cB iU;go_wp2_with fail;refine ((qcz .l) _ _ 67 738 (by omega) _ _ kF dM.o.2.1 dM.o.2.2 O.o.1.wd.2 O.o.1.below.2).mono ?_;rintro e kG ⟨u23,rfl,bV,dx⟩;obtain⟨a23,n23,dR,rfl⟩:=qco dx;have dN:=qH (qA (bjoin dM.o.1 bV) (qA dx (dM.o.2.2.below bV)));clear bV dx;go_wp2_with fail;refine ((qcz .l) _ _ 805 738 (by omega) _ _ kG dN.o.2.1 dN.o.2.2 ((O.o.1.wd.2.mul O.o.1.below.2).mono (by omega)) O.o.1.below.2).mono ?_;rintro e jA ⟨u24,rfl,bW,dz⟩;obtain⟨a24,n24,c24,rfl⟩:=qco dz;have bE:=qH (qA (bjoin dN.o.1 bW) (qA (show MagAt jA (.slice a24 n24 c24) (wdn t bl wl i) from dz) (Hc.o.2.1.below (bjoin dL.o.2.1 (bjoin dN.o.1 bW)))));clear bW dz;go_wp2_with fail;refine (qeT D (wdn t bl wl i) (1543*i+1) 1543 (by omega) (by omega) hS.o.pos O.o.1.d.1 _ _ jA bE.o.2.2 bE.o.2.1 hS.o.fitD O.o.1.d.2).mono ?_;rintro e kH ⟨u25,rfl,aO,dA⟩;obtain⟨a25,n25,lH,rfl⟩:=qco dA;have iY:Fit (D.lcm (wdn t bl wl i)) 65000:=((hS.o.fitD.mul O.o.1.d.2).le (qbZ (qb3 hS.o.pos O.o.1.d.1) (Nat.lcm_dvd_mul _ _))).mono (by omega);have aF:=qH (qA (bjoin bE.o.1 aO) (qA dA (qA (bE.o.2.1.below aO) (qA (bE.o.2.2.below aO) iY))));clear aO dA iY;go_wp2_with fail;refine ((qcf .l) _ D 65000 (by omega) _ _ kH aF.o.2.1 aF.o.2.2.2.1 aF.o.2.2.2.2 (hS.o.fitD.mono (by omega)) hS.o.pos).mono ?_;rintro e kI ⟨u26,lV,rfl,aP,dB,fB⟩;obtain⟨a26,n26,lI,rfl⟩:=qco dB;obtain⟨kU,n26',kW,rfl⟩:=qco fB;have bF:=qH (qA (bjoin aF.o.1 aP) (qA dB (qA (aF.o.2.1.below aP) (aF.o.2.2.1.below aP))));clear aP dB fB;go_wp2_with fail;refine ((qcf .l) _ (wdn t bl wl i) 65000 (by omega) _ _ kI bF.o.2.2.1 bF.o.2.2.2 aF.o.2.2.2.2 (O.o.1.d.2.mono (by omega)) O.o.1.d.1).mono ?_;rintro e I ⟨u27,lW,rfl,aQ,dC,fC⟩;obtain⟨a27,n27,lJ,rfl⟩:=qco dC;obtain⟨kV,lc,kX,rfl⟩:=qco fC;have aG:=bjoin bF.o.1 aQ;have aJ:=bjoin dL.o.2.1 aG;have bN:=Hc.o.1.below aJ;have eP:=dL.o.1.below aG;obtain⟨aT,mT,dT,bT,⟨k0,k1⟩,_,bY⟩:=bN.cells;obtain⟨aU,mU,dU,bU,⟨j0,j1⟩,_,jc⟩:=eP.cells;have bD:Below I.heap.size I I:=Below.refl _ _;have J:Below I.heap.size I I.drew:=bD.drew;obtain⟨q1,q2,q3,q4⟩:=qjr hS.o.pos O.o.1.d.1;have gN:Fit (((wnum wl i:Nat):Int)*mval2 t bl E p i*mval2 t bl E p i).natAbs (67+1622+1622):=by
        have ak:=(qf9 O.o.1.fa O.o.2 aZ Z.o.2.2.2.1 F.o.2.2.2.2.2.2.2.1).2.2;rw [qaE,qaE,qas];exact (O.o.1.wn.mul ak).mul ak
       have gI:=hS.o.fitT.mul (O.o.1.d.2.le q3);have gJ:=gN.mul (hS.o.fitD.le q4);rw [<-qas (D.lcm (wdn t bl wl i) / D),<-qaE] at gI;rw [<-qas (D.lcm (wdn t bl wl i) / wdn t bl wl i),<-qaE] at gJ;have bq:=qH (fun W (h:Below I.heap.size I W)=>(qcO .l) T (D.lcm (wdn t bl wl i) / D) (3400+1545*i) 1543 (by omega) _ _ W (bY.below h) ((bF.o.2.1.below aQ).below h) hS.o.fitT (O.o.1.d.2.le q3));have bu:=qH (fun W (h:Below I.heap.size I W)=>(qcO .l) (((wnum wl i:Nat):Int)*mval2 t bl E p i*mval2 t bl E p i) (D.lcm (wdn t bl wl i) / wdn t bl wl i) (67+1622+1622) (1543*i+1) (by omega) _ _ W (jc.below h) (dC.below h) gN (hS.o.fitD.le q4));have jE:=qH (fun W u v (hu:IntAt W u (T*((D.lcm (wdn t bl wl i) / D:Nat):Int))) (hv:IntAt W v (((wnum wl i:Nat):Int)*mval2 t bl E p i*mval2 t bl E p i*((D.lcm (wdn t bl wl i) / wdn t bl wl i:Nat):Int)))=>(qdI .l) _ _ 70000 (by omega) u v W hu hv (gI.mono (by omega)) (gJ.mono (by omega)));have aB:=qH (qA bN (qA aJ (bF.o.2.2.1.below aQ)));clear aQ dC fC aG aJ bN eP bY jc q1 q2 q3 q4 gN gI gJ;go_wp2_with fail
       go_region_with (first | (go_at_call_of 155 (Value.agg #[.slice aT mT dT,.bool bT]);refine (bq.o _ (by first | with_reducible exact J | with_reducible exact ai)).mono ?_;rintro e kJ ⟨u28,rfl,aR,bf⟩;have ah:Below I.heap.size I kJ:=(by first | exact bjoin J aR | exact bjoin ai aR);obtain⟨a28,n28,c28,lw,rfl⟩:=qb6 bf;have jL:=ah.cell (qae I _ k0) |>.trans k0;have jM:=ah.cell (qae I _ k1) |>.trans k1;have jN:=ah.cell (qae I _ j0) |>.trans j0;have jO:=ah.cell (qae I _ j1) |>.trans j1;(first | (have eG:=qH (iA.o.below aR);have eF:=qH bf) | skip);have iy:=qH bf;clear aR bf) | (go_at_call 155;refine (bu.o _ (by first | with_reducible exact J | with_reducible exact ah)).mono ?_;rintro e kK ⟨u29,rfl,aS,bg⟩;have ai:Below I.heap.size I kK:=(by first | exact bjoin J aS | exact bjoin ah aS);obtain⟨a29,n29,lK,lC,rfl⟩:=qb6 bg;have jP:=ai.cell (qae I _ k0) |>.trans k0;have jQ:=ai.cell (qae I _ k1) |>.trans k1;have jR:=ai.cell (qae I _ j0) |>.trans j0;have jS:=ai.cell (qae I _ j1) |>.trans j1;(first | (have eF:=qH (iy.o.below aS);have eG:=qH bg) | skip);have iA:=qH bg;clear aS bg) | (go_at_call 154;refine (jE.o _ _ _ eF.o eG.o).mono ?_;rintro e kL ⟨u30,rfl,bX,dD⟩;have bI:Below I.heap.size I kL:=(by first | exact bjoin ai bX | exact bjoin ah bX);obtain⟨a30,n30,lL,lD,rfl⟩:=qb6 dD;obtain⟨_,_,_,_,⟨x4,x5⟩,⟨x6,x7⟩,_⟩:=(aB.o.1.below bI).cells;have au:=qH (qA bI ((aB.o.1.below bI).put dD));clear bX dD))
       all_goals go_wp2_with fail
       all_goals go_roundw
       all_goals first
        | exact⟨i+1,_,_,gQ,by go_num,qH (hS.o.next O.o.1 O.o.2 HW.o.2.2.2.2.2.1.1 Z.o.2.2.2.1 F.o.2.2.2.2.2.2.2.1 aZ),qH au.o.2,qH ((aB.o.1.below au.o.1).soften _ _ |>.mag (aB.o.2.2.below au.o.1)),qH (((Hc.o.2.2.1.trans (aB.o.2.1.mono Hc.o.2.2.1.size)).trans (au.o.1.mono (qak Hc.o.2.2.1.size aB.o.2.1.size))).setCell (p:=⟨w4.heap.size+1+1,0,none⟩) fH.o _ |>.setCell (p:=⟨w4.heap.size+1+1,1,none⟩) fH.o _),qH ((Hc.o.2.2.2.1.more (aB.o.2.1.trans (au.o.1.mono aB.o.2.1.size))).trans ((aB.o.1.below au.o.1).soften _ _))⟩
        | (simp [intOf];omega)
   ·obtain rfl:i=q:=by omega
    obtain⟨aD,nD,cD,rfl⟩:=qco hA.o;have aI:=hF.o.mag H3.o.2.2.2.1;have eu:=qlf Z.o.2.2.2.1;have dH:Fit (flcd E) 738:=(qfT Z.o.2.2.2.1 (m:=11) (by have:=F.o.2.2.2.2.2.2.2.1;omega)).mono (by omega);have cK:=hF.o.blk H3.o.2.2.2.2.2.2 (fun e=>by have:=qag e;have:=fH.o;have:=aj.o.1.size;have:=(qG aj.o.2).1;have:=eH.o;omega);have cu:w4.heap.size+1+1≠w.heap.size:=by have:=eH.o;omega
    obtain⟨aT,mT,dT,bT,⟨k0,k1⟩,_,bY⟩:=hI.o.cells;have gU:=hI.o.lt;have C0:∀W,wr.grownBy W (some w.heap.size)->W.cell? ⟨w4.heap.size+1+1,0,none⟩=some (.slice aT mT dT):=fun W h=>(qer h (p:=⟨w4.heap.size+1+1,0,none⟩) gU cu).trans k0
    have C1:∀W,wr.grownBy W (some w.heap.size)->W.cell? ⟨w4.heap.size+1+1,1,none⟩=some (.bool bT):=fun W h=>(qer h (p:=⟨w4.heap.size+1+1,1,none⟩) gU cu).trans k1
    have hD:=hS.o.pos;have gM:Fit D 61721:=hS.o.fitD.mono (by omega);have iW:Fit T.natAbs 66000:=hS.o.fitT.mono (by omega);have fQ:Fit (D*flcd E) 62459:=(gM.mul dH).mono (by omega);have eO:Fit (D*flcd E*flcd E) 63197:=(fQ.mul dH).mono (by omega);have bq:=qH (fun W (h:Below wr.heap.size wr W)=>(qcz .l) D (flcd E) 61721 738 (by omega) _ _ W (hA.o.below h) (aI.below h) gM dH);have bu:=qH (fun W u (h:Below wr.heap.size wr W) (hu:MagAt W u (D*flcd E))=>(qcz .l) (D*flcd E) (flcd E) 62459 738 (by omega) u _ W hu (aI.below h) fQ dH);have jF:=qH (fun W u (h:Below wr.heap.size wr W) (hu:IntAt W u ((D*flcd E*flcd E:Nat):Int))=>qih T ((D*flcd E*flcd E:Nat):Int) (by have:=qb3 (qb3 hD eu) eu;omega) 66000 (by omega) (by omega) _ u W (bY.below h) hu iW (by rw [qas];exact eO.mono (by omega)) ((F.o.2.2.2.2.2.2.2.2.below hB.o).below h));have fE:Rat.divInt T ((D*flcd E*flcd E:Nat):Int)=measQ t bl wl E p i:=by
     rw [qg9,hS.o.val];have h1:((D:Nat):Rat)≠0:=by have:=qbu hD;exact_mod_cast this
     have h2:((flcd E:Nat):Rat)≠0:=by have:=qbu eu;exact_mod_cast this
     push_cast
     grind
    have bD:Below wr.heap.size wr wr:=Below.refl _ _;have J:Below wr.heap.size wr wr.drew:=bD.drew;have HV:=qH (qA fE (qA cK hB.o));clear aI eu dH cK k0 k1 bY hD gM iW fQ eO fE gU cu;go_wp2_with fail
    go_region_held3 (fun W=>wr.grownBy W (some w.heap.size)) (first | with_reducible exact qcw _ _ | with_reducible exact qch _ J | with_reducible exact qch _ bJ | with_reducible exact qch _ eB | with_reducible exact qch _ bK | with_reducible exact qch _ aL | exact qb5 (qb5 (qch _ aL) (qb7 _ _ _ _)) (qb7 _ _ _ _)) (first | (go_at_call_of 157 (Value.slice aD nD cD);refine (bq.o _ J).mono ?_;rintro e kM ⟨u31,rfl,eY,dE⟩;have bJ:Below wr.heap.size wr kM:=bjoin J eY;have iB:=qH dE;obtain⟨a31,n31,c31,rfl⟩:=qco dE;clear eY dE) | (go_at_call 157;refine (bu.o _ _ bJ iB.o).mono ?_;rintro e kN ⟨u32,rfl,eZ,dF⟩;have eB:Below wr.heap.size wr kN:=bjoin bJ eZ;have iC:=qH dF;obtain⟨a32,n32,c32,rfl⟩:=qco dF;clear eZ dF) | (go_at_call 161;refine ((qcq .l) (D*flcd E*flcd E) false _ _ iC.o).mono ?_;rintro e jB ⟨u33,rfl,fe,dG⟩;have bK:Below wr.heap.size wr jB:=bjoin eB fe;have iD:=qH (show IntAt jB u33 ((D*flcd E*flcd E:Nat):Int) from dG);obtain⟨a33,n33,lM,lF,rfl⟩:=qb6 dG;clear fe dG) | (go_at_call 160;refine (jF.o _ _ bK iD.o).mono ?_;rintro e kP hx;obtain⟨x1,x2,c6,rfl,hx,fo⟩:=qgB hx;have aL:Below wr.heap.size wr kP:=bjoin bK fo;have aA:=zkeep aL _ _ HV.o.2.1;have m0:=qC _ _ 0 _ _ _ aA;have m1:=qC _ _ 1 _ _ _ aA;have m2:=qF _ _ 0 _ _ aA;have m3:=qF _ _ 1 _ _ aA;have iE:=qH (qA hx aA);clear hx fo aA))
    all_goals go_wp2_with fail
    all_goals refine qR (v:=.tuple #[.agg #[.string x1,.string x2],.int .i64 c6]) (rB_ rfl w.heap.size (heap_setCell_same _ _ 1 _ _ _ (heap_setCell_same _ _ 0 _ _ _ iE.o.2)) underlying27 2) rfl ⟨qam (qam (qam ⟨Z.o.1,Z.o.2.1,Z.o.2.2.1,Z.o.2.2.2.1,by rw [F.o.2.2.2.1,F.o.2.1],by rw [F.o.2.2.2.2.2.1,F.o.2.1],by rw [F.o.2.2.2.2.2.2.2.1,Z.o.2.2.2.2],iF.o,?_⟩)),((HV.o.2.2.trans (aL.mono HV.o.2.2.size)).setCell (p:=⟨w.heap.size,0,none⟩) qN _).setCell (p:=⟨w.heap.size,1,none⟩) qN _⟩
    all_goals rw [F.o.2.1,Z.o.2.2.2.2]
    all_goals have hx:=iE.o.1
    all_goals rw [HV.o.1] at hx
    all_goals exact fw_end hx
