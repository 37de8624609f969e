import Derived.Deep.RegionLaw
import Derived.Test.YtjalhnlhcdfncaaGreatDoorBo14
set_option maxRecDepth 100000
set_option maxHeartbeats 0
namespace Go.Proofs.YtjalhnlhcdfncaaGreatDoor
open Go.RowKit Go.Proofs.Tryz
def NormAs (w:World) (t:Tbl) (bl wl:List FT) (n R:Nat) (e:Ending) (w':World):Prop :=
 ∃(E:Nat) (F:Nat->Nat) (M:Nat->Nat->Int) (Z:Nat),e=.returned (.agg #[.slice (some ⟨E,0,none⟩) n n])/\Below w.heap.size w w'/\w.heap.size<=E/\0<Z/\MatAt w' E n (n+1) F M /\
  (∀r,r<n->∀c,c<n+1->((M r c:Int):Rat)=(Z:Rat)*normQ t bl wl R r c)/\∀r,r<n->∀c,c<n+1->Fit (M r c).natAbs 63440
theorem qol {t:Tbl} {bl wl:List FT} {R n:Nat} (hT:TOk t) (Y:t.length=R) (U:wid t=n) (I:FAll bl) (J:bl.length=R) (H:FAll wl) (V:wl.length=R) (E:¬Neg wl) {i:Nat} (hi:i<R):NRow t bl wl i/\(besides t bl i).length=n+1:=by
 have h:=hT.rows i (by omega);have Z:=hT.c2;have O:(besides t bl i).length=n+1:=by unfold besides;rw [qaf,h.1,U];rfl
 exact⟨⟨h.2.snoc (I i (by omega)),by omega,qem H (by omega),(H i (by omega)).vn.fit,Int.not_lt.1 fun F=>E ⟨i,by omega,F⟩⟩,O⟩
theorem qco {W:World} {u:Value} {x:Nat} (h:MagAt W u x):∃(a:Option Addr) (n c:Nat),u=.slice a n c:=by
 obtain⟨a,_,_,c,n,_,rfl,_,_⟩:=h;exact⟨a,n,c,rfl⟩
theorem qiC {W:World} {a:Option Addr} {n c:Nat} {b:Bool} {z:Int} (h:IntAt W (.agg #[.slice a n c,.bool b]) z):MagAt W (.slice a n c) z.natAbs:=by
 obtain⟨_,e,h⟩:=h;simp only [qaX,qa1,qaV] at e;rw [e.1];exact h
theorem qnf {W:World} {u v:Value} {e:TypeId}:∀j x,[u,v][j]? = some x->(W.alloc (.cells #[u,v] e)).cell? ((⟨W.heap.size,0,none⟩:Addr).add j)=some x:=by
 intro j x h;rw [Addr.add_mid,qC _ _ (0+j) _ _ _ (qM _ _ _ rfl),qaT];exact (qaz ..).trans h
theorem zint_not:∀x∈(Value.agg #[zs0,.bool false]).cells.toList,qcM x:=by
 intro x hx k d e;rcases qat.1 (show x∈[zs0,.bool false] from hx) with h | h
 ·rw [h] at e;cases e
 ·rw [qap.1 h] at e;cases e
theorem zrow_not {n:Nat}:∀x∈(iflat ([]++List.replicate n (zs0,false))).toArray.toList,qcM x:=by
 intro x hx k d e;have hx:x∈iflat ([]++List.replicate n (zs0,false)):=hx;rw [qbp] at hx;unfold iflat at hx;obtain⟨p,E,hx⟩:=List.mem_flatMap.1 hx;rw [(List.mem_replicate.1 E).2] at hx;rcases qat.1 hx with h | h
 ·rw [h] at e;cases e
 ·rw [qap.1 h] at e;cases e
theorem two_one {a:Option Addr} {n c:Nat} {b:Bool}:∀u∈[Value.slice a n c,.bool b],u.oneCell'=true:=by
 intro x hx;rcases qat.1 hx with h | h
 ·rw [h];rfl
 ·rw [qap.1 h];rfl
theorem two_not {a:Option Addr} {n c:Nat} {b:Bool}:∀u∈[Value.slice a n c,.bool b],qcM u:=by
 intro x hx k d e;rcases qat.1 hx with h | h
 ·rw [h] at e;cases e
 ·rw [qap.1 h] at e;cases e
theorem qgf {a:Option Addr} {n c:Nat}:qcM (.slice a n c):=fun k d e=>by cases e
theorem qmt (b off c:Nat) (t:Tbl) (b2 dn c2:Nat) (bl:List FT) (b3 dw c3:Nat) (wl:List FT) (R n:Nat) (w:World) (hT:TOk t) (hR:t.length=R) (hn:wid t=n) (hc:TCells w (some ⟨b,off,none⟩) b off t)
    (hb:FAll bl) (fA:bl.length=R) (iC:FCells w (some ⟨b2,dn,none⟩) b2 dn bl) (hw:FAll wl) (gu:wl.length=R) (jc:FCells w (some ⟨b3,dw,none⟩) b3 dw wl) (ed:¬Neg wl) :
    Calls prog 189 #[.slice (some ⟨b,off,none⟩) R c,.slice (some ⟨b2,dn,none⟩) R c2,.slice (some ⟨b3,dw,none⟩) R c3] w fun e w'=>NormAs w t bl wl n R e w':=by
  have au:∀i,i<R->NRow t bl wl i/\(besides t bl i).length=n+1:=fun i hi=>qol hT hR hn hb fA hw gu ed hi
  have kE:R<=40:=by have:=hT.r2;omega
  have kL:1<=R:=by have:=hT.r1;omega
  have iT:n<=10:=by have:=hT.c2;omega
  have jU:1<=n:=by have:=hT.c1;omega
  have HC:=qH (qA hc (qA iC (qA jc (qA hT (qA hR (qA hn (qA hb (qA fA (qA hw gu)))))))));have HR:=qH au;have kP:=qfR;obtain⟨il,iO,jk,jl,jm⟩:=info_parts qlk;obtain⟨it,ax,jo,jq,jr⟩:=info_parts infoI;obtain⟨ib,iN,jg,jh,ji⟩:=info_parts infoM;have V:=qH (qA iO (qA jk (qA jl (qA jm (qA ax (qA jo (qA jq (qA jr (qA iN (qA jg (qA jh ji)))))))))));clear au hc iC jc hT hR hn hb fA hw gu ed iO jk jl jm ax jo jq jr iN jg jh ji;go_enter func189,ntmps189;go_wp2_with fail
  go_loopw [9,29] (fun x9 x29 W=>∃(i:Nat) (vl vt:Value) (gs:Nat->Nat) (ps:List (Value×Bool)) (vs:List Value),i<=R/\x29=.int .i64 i/\Hu (NSt W w.heap.size t bl wl n (nkeep wl i) (nkeep wl i) (nkeep wl i) vl vt x9 gs ps vs (fun p=>((ntop t bl wl ((nkeep wl R).getD p 0):Nat):Int)))/\Hu (Below w.heap.size w W)) (fun _ x29 _=>R-(intOf x29).toNat)
  case atStart =>
    have hb:Below w.heap.size w (((w.alloc (.cells #[zs0] 262)).alloc (.cells #[zs0] 260)).alloc (.cells #[zs0] 212)):=qb4 (qb4 (qb4 qB qN) qN) qN;exact⟨0,.slice none 0 0,.slice none 0 0,fun _=>0,[],[],qaj _,rfl,qH ⟨(qL _ _ _ (by simp only [qab];omega)).trans ((qL _ _ _ (by simp only [qab];omega)).trans (qM _ _ _ rfl)),(qL _ _ _ (by simp only [qab];omega)).trans (qM _ _ _ (by simp only [qab])),qM _ _ _ (by simp only [qab]),Rws.nil _ _ _ _,Rws.nil _ _ _ _,Rws.nil _ _ _ _,fun p hp=>absurd hp (by simp [nkeep]),fun p hp=>absurd hp (by simp [nkeep]),fun k hk=>absurd hk (by simp),rfl,⟨rfl,fun k hk=>absurd hk (by simp [nkeep])⟩⟩,qH hb⟩
  case round =>
    obtain⟨i,vl,vt,gs,ps,vs,hi,rfl,hN,hB⟩:=hrel
    by_cases E:i<R
    · have kQ:(i:Int)<R:=by omega
      have ax:i<t.length:=by have:=HC.o.2.2.2.2.1;omega
      obtain⟨ra,rb,ro,rc,iE,iI⟩:=(HC.o.1.below hB.o).row i ax;have aH:=HC.o.2.2.2.1.rows i ax;rw [HC.o.2.2.2.2.2.1] at aH;rw [aH.1] at iE;obtain⟨d0,d1⟩:=(HC.o.2.2.1.below hB.o).cell i (by have:=HC.o.2.2.2.2.2.2.2.2.2;omega);have fI:=HC.o.2.2.2.2.2.2.2.2.1 i (by have:=HC.o.2.2.2.2.2.2.2.2.2;omega);obtain⟨WN,dJ⟩:∃N,(wl.getD i fd0).1=N:=⟨_,rfl⟩;obtain⟨WD,dI⟩:∃D,(wl.getD i fd0).2=D:=⟨_,rfl⟩;rw [dJ,dI] at fI;rw [dJ] at d0;rw [dI] at d1;obtain⟨e0,e1⟩:=(HC.o.2.1.below hB.o).cell i (by have:=HC.o.2.2.2.2.2.2.2.1;omega);obtain⟨BN,fo⟩:∃N,(bl.getD i fd0).1=N:=⟨_,rfl⟩;obtain⟨BD,fe⟩:∃D,(bl.getD i fd0).2=D:=⟨_,rfl⟩;rw [fo] at e0;rw [fe] at e1;have HW:=qH (qA dJ (qA dI (qA fI (qA fo (qA fe (qA aH iI))))));clear dJ dI fI fo fe aH iI;go_wp2_with fail;refine ((qcx .l) WN HW.o.2.2.1.vn _).mono ?_;rintro e w2 ⟨u2,rfl,bg,fT⟩;obtain⟨a2,n2,c2',b2',rfl⟩:=qb6 fT;have H2:=qH (qA bg fT);clear bg fT;go_wp2_with fail;obtain⟨W3,dH⟩:=qY (w2.alloc (.cells #[.slice a2 n2 c2',.bool b2'] 217));have bK:Below w2.heap.size w2 W3:=dH▸qb4 qB qN;have iJ:W3.heap[w2.heap.size]? = some (.cells #[.slice a2 n2 c2',.bool b2'] 217 (0,0)):=by rw [dH];exact qM _ _ _ rfl
      have jd:(ival WN.data.toList).natAbs=wnum wl i:=by unfold wnum;rw [HW.o.1]
      have dN:=(qiC H2.o.2).below bK;rw [jd] at dN;rw [<-dH];have H3:=qH (qA (bjoin H2.o.1 bK) (qA iJ dN));clear dH bK iJ jd;refine ((qcV .l) (wnum wl i) _ W3 dN).mono ?_;rintro e w4 ⟨rfl,jV⟩;subst jV;clear dN
      by_cases hz:wnum wl i=0
      · rw [qV hz]
        have HZ:=qH hz;clear hz;go_wp2;go_roundw
        case rel=>exact⟨i+1,vl,vt,gs,ps,vs,E,by go_num,by rw [show nkeep wl (i+1)=nkeep wl i by simp only [nkeep,if_pos HZ.o]];exact qH (hN.o.below H3.o.1),qH (hB.o.trans (H3.o.1.mono hB.o.size))⟩
        case measure=>simp [intOf];omega
      · rw [qU hz]
        have HZ:=qH hz;have dL:=H3.o.1;have g0:=qC _ _ 0 _ _ _ H3.o.2.1;have jJ:=(dL.cell (qae wr _ e0)).trans e0;have jK:=(dL.cell (qae wr _ e1)).trans e1;have bz:=(dL.cell (qae wr _ d1)).trans d1;clear hz dL;go_wp2_with fail;refine (qh2 ra rb ro n rc (t.getD i []) (BN,BD) _ HW.o.2.2.2.2.2.1.1 jU (by omega) (HW.o.2.2.2.2.2.2.below H3.o.1)).mono ?_;rintro e w5 ⟨g5,rfl,aF,iG⟩;have gF:=qH (MagAt.below H3.o.2.2 aF);have H5:=qH (qA (bjoin H3.o.1 aF) iG);have af:=(aF.cell (qae w4 _ g0)).trans g0;have bA:=(aF.cell (qae w4 _ bz)).trans bz;clear aF iG g0 bz jJ jK;go_wp2_with fail;have dW:t.getD i []++[(BN,BD)]=besides t bl i:=by unfold besides;rw [<-HW.o.2.2.2.1,<-HW.o.2.2.2.2.1]
        have au:=HR.o i E;rw [dW] at H5;refine (qeO (c:=n+1) au.2 (by omega) H5.o.2 au.1.fa).mono ?_;rintro e w6 ⟨g6,v6,rfl,dX,bN,fH,iV⟩;obtain⟨a6,n6,c6,rfl⟩:=qco fH;have gG:=qH (MagAt.below gF.o bN);have H6:=qH (qA (bjoin H5.o.1 bN) (qA fH (qA iV (qak H5.o.1.size dX))));have g0:=(bN.cell (qae w5 _ af)).trans af;have bz:=(bN.cell (qae w5 _ bA)).trans bA;clear bN fH iV dX af bA dW au;go_wp2_with fail;refine ((qcx .l) WD HW.o.2.2.1.vd _).mono ?_;rintro e w7 ⟨u7,rfl,bi,fV⟩;obtain⟨a7,n7,c7,b7,rfl⟩:=qb6 fV;have jy:=qH bi;have gH:=qH (MagAt.below gG.o bi);have H7:=qH (qA (bjoin H6.o.1 bi) (qA (qiC fV) (H6.o.2.1.below bi)));have af:=(bi.cell (qae w6 _ g0)).trans g0;clear bi fV g0 bz;have iH:(ival WD.data.toList).natAbs=fden (wl.getD i fd0):=by unfold fden;rw [HW.o.2.1]
        rw [iH] at H7;clear iH;go_wp2_with fail;refine ((qcz .l) _ _ 67 738 (by omega) _ _ w7 H7.o.2.1 H7.o.2.2 (HR.o i E).1.wd.2 (HR.o i E).1.below.2).mono ?_;rintro e w8 ⟨u8,rfl,bn,fZ⟩;obtain⟨a8,n8,c8,rfl⟩:=qco fZ;have jA:=qH (bjoin jy.o bn);have gI:=qH (MagAt.below gH.o bn);have H8:=qH (qA (bjoin H7.o.1 bn) (qA fZ (H7.o.2.2.below bn)));have g0:=(bn.cell (qae w7 _ af)).trans af;clear bn fZ af;go_wp2_with fail;refine ((qcz .l) _ _ 805 738 (by omega) _ _ w8 H8.o.2.1 H8.o.2.2 (((HR.o i E).1.wd.2.mul (HR.o i E).1.below.2).mono (by omega)) (HR.o i E).1.below.2).mono ?_;rintro e w9 ⟨u9,rfl,bO,gm⟩;obtain⟨a9,n9,c9,rfl⟩:=qco gm;have jB:=qH (bjoin jA.o bO);have gJ:=qH (MagAt.below gI.o bO);have H9:=qH (qA (bjoin H8.o.1 bO) (show MagAt w9 (.slice a9 n9 c9) (wdn t bl wl i) from gm));have af:=(bO.cell (qae w8 _ g0)).trans g0;clear bO gm g0 gF gG gH gI;go_wp2_with fail;refine ((qdb .l) (wnum wl i) (wdn t bl wl i) 1543 (by omega) _ _ w9 gJ.o H9.o.2 ((HR.o i E).1.wn.mono (by omega)) (HR.o i E).1.d.2).mono ?_;rintro e jY ⟨u10,rfl,ak,cK⟩;obtain⟨kH,n10,c10,rfl⟩:=qco cK;have gM:=qH (bjoin jB.o ak);have bu:=qH (qA (bjoin H9.o.1 ak) (qA cK (qA (H9.o.2.below ak) (gJ.o.below ak))));have g0:=(ak.cell (qae w9 _ af)).trans af;clear ak cK af;go_wp2_with fail;refine ((qcf .l) (wnum wl i) _ 1543 (by omega) _ _ jY bu.o.2.2.2 bu.o.2.1 ((HR.o i E).1.wn.mono (by omega)) (HR.o i E).1.g.2 (HR.o i E).1.g.1).mono ?_;rintro e jf ⟨u11,kT,rfl,aC,cO,ek⟩;obtain⟨eX,n11,c11,rfl⟩:=qco cO;obtain⟨ku,kF,c11',rfl⟩:=qco ek;have gN:=qH (bjoin gM.o aC);have dx:=qH (qA (bjoin bu.o.1 aC) (qA (show MagAt jf (.slice eX n11 c11) (ntop t bl wl i) from cO) (qA (bu.o.2.1.below aC) (bu.o.2.2.1.below aC))));clear aC cO ek g0;go_wp2_with fail;refine ((qcf .l) (wdn t bl wl i) _ 1543 (by omega) _ _ jf dx.o.2.2.2 dx.o.2.2.1 (HR.o i E).1.d.2 (HR.o i E).1.g.2 (HR.o i E).1.g.1).mono ?_;rintro e bq ⟨u12,kU,rfl,aV,cZ,aG⟩;obtain⟨a12,n12,c12,rfl⟩:=qco cZ;obtain⟨kv,n12',ky,rfl⟩:=qco aG;have gP:=qH (bjoin gN.o aV);have dz:=qH (qA (bjoin dx.o.1 aV) (qA (show MagAt bq (.slice a12 n12 c12) (nden t bl wl i) from cZ) (dx.o.2.1.below aV)));clear aV cZ aG;have bP:(nkeep wl i).length<=40:=by have:=(qga wl i).1;omega
        have aP:=hN.o.below dz.o.1;have aG:=H6.o.2.2.1.below gP.o;have dK:Below bq.heap.size bq (bq.alloc (.cells #[rowv g6 (n+1)] 212)):=qb4 qB qN;have iA:=aP.below dK;have d9:vt.ownBlock≠some g6:=fun e=>by have:=(hN.o.rt.lt g6 e).2;have:=H6.o.2.2.2;omega
        have cu:w.heap.size+1+1+1<=bq.heap.size:=by
          have h1:=(qG aP.ct).1;omega
        have gX:=qC _ _ 0 _ _ _ aP.cl;have O:=qH (qA iA (qA (aG.below dK) (qA d9 (qA cu dK))));clear aP aG iA d9 cu dK d0 d1 e0 e1 iE
        go_wp2_with (first | (at_builtin;(refine qdJ rfl (.tmp 81) (.tmp 83) 260 rfl (w.heap.size+1+1+1) 212 il (.slice none 0 0) 1 24 underlying260 V.o.1 V.o.2.1 V.o.2.2.1 V.o.2.2.2.1 rfl (by decide) (fun x hx=>by rw [qap.1 hx];exact qgf) vl (nkeep wl i).length _ rfl O.o.1.rl ⟨bq.heap.size,0,none⟩ 1 1 [rowv g6 (n+1)] rfl rfl (qdT _ _ _) (fun u hu=>by rw [qap.1 hu];rfl) (fun u hu=>by rw [qap.1 hu];exact qgf) (by decide) (by unfold maxLen;omega) (by omega) (qak O.o.2.2.2.1 O.o.2.2.2.2.size) ?_);intro lh jZ aH fD _;obtain⟨ca,fa⟩:=nst_cl O.o.1 fD;obtain⟨al',cl',rfl⟩:=aH.shape;have HL:=qH (qA aH fD);clear aH fD) | fail)
        obtain⟨ae,aS⟩:=qY (jZ.setCell ⟨w.heap.size+1,0,none⟩ (.slice al' ((nkeep wl i).length+1) cl'));rw [<-aS];have aA:=O.o.1.addL O.o.2.1 O.o.2.2.1 HL.o.1 HL.o.2;have aI:=nst_soft O.o.1 HL.o.2 (.slice al' ((nkeep wl i).length+1) cl');rw [<-aS] at aA aI;have bR:MagAt ae (.slice eX n11 c11) (ntop t bl wl i)/\MagAt ae (.slice a12 n12 c12) (nden t bl wl i):=⟨aI.1 _ _ (dz.o.2.2.below O.o.2.2.2.2),aI.1 _ _ (dz.o.2.1.below O.o.2.2.2.2)⟩;have dS:Below w.heap.size w ae:=aI.2 w w.heap.size (hB.o.trans ((bjoin dz.o.1 O.o.2.2.2.2).mono hB.o.size)) (by omega) (by have:=O.o.2.2.2.1;have:=O.o.2.2.2.2.size;omega);have cz:w.heap.size+1+1+1<=ae.heap.size:=by
          have h1:=(qG aA.ct).1;omega
        have ay:=qC _ _ 0 _ _ _ aA.ct;have I:Below ae.heap.size ae ae.drew:=qB.drew;have jD:=qH (fun W (h:Below ae.heap.size ae W)=>(qcq .l) (ntop t bl wl i) false (.slice eX n11 c11) W (bR.1.below h));have aY:=qH (qA aA (qA bR.2 (qA dS (qA cz (qnX wl HZ.o R E).1))));have kr:=qH aS;clear aS aA aI bR dS cz ca fa gX
        go_region_law (first | (refine qhM rfl (.tmp 85) (.tmp 88) 212 (by rfl) (w.heap.size+1+1+1) 217 it (.agg #[zs0,.bool false]) 2 32 underlying212 V.o.2.2.2.2.1 V.o.2.2.2.2.2.1 V.o.2.2.2.2.2.2.1 V.o.2.2.2.2.2.2.2.1 rfl (by decide) zint_not vt (nkeep wl i).length _ (by rfl) av.o.1.rt ⟨dP.heap.size,0,none⟩ 1 1 [.slice gT n15 c15,.bool b15] (by rfl) rfl qnf two_one two_not (by decide) (by unfold maxLen;omega) (by omega) av.o.2.1 ?_;intro ll kg fO fE iU;obtain⟨q0,qf⟩:=nst_ct av.o.1 fE;obtain⟨at',gY,rfl⟩:=fO.shape;have HT:=qH (qA fO (qA fE iU));clear fO fE iU) | (go_simp;go_at_call 161;refine (jD.o _ I).mono ?_;rintro e dP ⟨u15,rfl,bI,df⟩;obtain⟨gT,n15,c15,b15,rfl⟩:=qb6 df;have aN:Below dP.heap.size dP (dP.alloc (.cells #[.slice gT n15 c15,.bool b15] 217)):=qb4 qB qN;have hb:=I.trans (bjoin bI aN);have eY:=hb.cell (qae ae _ ay) |>.trans ay;have gZ:=(I.trans bI).cell (qae ae _ ay) |>.trans ay;have av:=qH (qA (aY.o.1.below hb) (qA (qak aY.o.2.2.2.1 hb.size) (qA hb (df.below aN))));clear bI df aN hb))
        all_goals
          have hT:(if false=true then -((ntop t bl wl i:Nat):Int) else ((ntop t bl wl i:Nat):Int))=((ntop t bl wl ((nkeep wl R).getD (nkeep wl i).length 0):Nat):Int):=by rw [aY.o.2.2.2.2];rfl
          have aQ:=av.o.1.addT2 (i:=i) hT av.o.2.2.2 HT.o.1 HT.o.2.1 HT.o.2.2;have aX:=qom av.o.1 HT.o.2.1 (.slice at' ((nkeep wl i).length+1) gY);obtain⟨bv,dU⟩:=qY (kg.setCell ⟨w.heap.size+1+1,0,none⟩ (.slice at' ((nkeep wl i).length+1) gY));rw [<-dU] at aQ aX ⊢;have dZ:=aX.1 _ _ (aY.o.2.1.below av.o.2.2.1);have bB:=aX.2 w w.heap.size (aY.o.2.2.1.trans (av.o.2.2.1.mono aY.o.2.2.1.size)) (by omega) (by have:=av.o.2.1;omega);have ag:Below bv.heap.size bv (bv.alloc (.cells #[.slice a12 n12 c12] 213)):=qb4 qB qN;have cB:w.heap.size+1+1+1<=bv.heap.size:=by
            have h1:=(qG aQ.ct).1;omega
          have aJ:=qH (qA (aQ.below ag) (qA (dZ.below ag) (qA (bB.trans (ag.mono bB.size)) (qak cB ag.size))));clear hT aQ aX dZ bB ag cB dU q0 qf ay gZ eY
          go_wp2_with (first | (at_builtin;(refine qdJ rfl (.tmp 90) (.tmp 92) 286 rfl (w.heap.size+1+1+1) 213 ib (.slice none 0 0) 1 24 underlying286 V.o.2.2.2.2.2.2.2.2.1 V.o.2.2.2.2.2.2.2.2.2.1 V.o.2.2.2.2.2.2.2.2.2.2.1 V.o.2.2.2.2.2.2.2.2.2.2.2 rfl (by decide) (fun x hx=>by rw [qap.1 hx];exact qgf) u9 (nkeep wl i).length _ rfl aJ.o.1.rb ⟨bv.heap.size,0,none⟩ 1 1 [.slice a12 n12 c12] rfl rfl (qdT _ _ _) (fun u hu=>by rw [qap.1 hu];rfl) (fun u hu=>by rw [qap.1 hu];exact qgf) (by decide) (by unfold maxLen;omega) (by omega) aJ.o.2.2.2 ?_);intro lg lm fM iK _;obtain⟨kI,cb',rfl⟩:=fM.shape;have eU:=qH (qA fM iK);clear fM iK) | fail)
          go_roundw
        all_goals first
          | exact⟨i+1,_,_,_,_,_,E,by go_num,by rw [show nkeep wl (i+1)=nkeep wl i++[i] by simp only [nkeep,if_neg HZ.o]];exact qH (aJ.o.1.addB (i:=i) aJ.o.2.1 eU.o.1 eU.o.2),qH (aJ.o.1.rb.old eU.o.2 aJ.o.2.2.1 (by omega) (by have:=aJ.o.2.2.2;omega))⟩
          | (simp [intOf];omega)
    · obtain rfl:i=R:=by omega
      obtain⟨H,bF⟩:=qX (nkeep wl i);rw [bF] at hN;have bP:H.length<=40:=by have:=(qga wl i).1;rw [bF] at this;omega
      have bV:∀x∈H,NRow t bl wl x/\(besides t bl x).length=n+1:=fun x hx=>HR.o x ((qga wl i).2 x (by rw [bF];exact hx)).1
      obtain⟨ab,gb,cb,iW,iX,_⟩:=hN.o.rb.vcells;obtain⟨k,hk⟩:=qX H.length;rw [hk] at iW;subst iW;have iF:=qh3 ab gb 0 k cb vs (H.map (nden t bl wl)) 1543 wr (by rw [qaD];exact hk) iX hN.o.mb (fun x hx=>by rw [mapD (by omega)];exact (bV _ (qcR (by omega))).1.den) (by omega) (by omega) (by omega);have gD:=qH iF;have U:=qH (qA bF (qA hk bV));rw [hk] at bP;have dC:=hN.o;obtain⟨al,cl,iZ⟩:=dC.rl.shape;obtain⟨at',ct,jb⟩:=dC.rt.shape;rw [hk] at iZ jb;subst iZ;subst jb;have jw:=qH dC;have gB:=qH hB.o;clear iF bF hk bV iX dC hN hB;go_wp2_with fail;refine gD.o.mono ?_;rintro e ko ⟨lc,rfl,bJ,bS⟩;obtain⟨gU,n18,c18,rfl⟩:=qco bS;have bG:=jw.o.below bJ;have dQ:=qC _ _ 0 _ _ _ bG.ct;have eT:=qH (qA bG (qA (show MagAt ko (.slice gU n18 c18) (nall t bl wl H) from bS) (gB.o.trans (bJ.mono gB.o.size))));clear bJ bS bG gD;go_wp2_with fail
      go_loopw [99] (fun x99 W=>∃(j:Nat) (ps:List (Value×Bool)),j<=k/\x99=.int .i64 j/\Hu (NSt W w.heap.size t bl wl n H H H (.slice al k cl) (.slice at' k ct) (.slice ab k cb) gs ps vs (fun p=>if p<j then nfac t bl wl H (H.getD p 0) else ((ntop t bl wl (H.getD p 0):Nat):Int)))/\Hu (MagAt W (.slice gU n18 c18) (nall t bl wl H))/\Hu (Below w.heap.size w W)) (fun x99 _=>k-(intOf x99).toNat)
      case atStart=>exact⟨0,ps,qaj _,rfl,qH (eT.o.1.congrT (fun p hp=>by rw [if_neg (by omega)])),qH eT.o.2.1,qH eT.o.2.2⟩
      case round =>
        obtain⟨j,ps2,hj,rfl,aM,eZ,bC⟩:=hrel
        by_cases jS:j<k
        · have kR:(j:Int)<k:=by omega
          have jI:=qC _ _ 0 _ _ _ aM.o.ct;have aO:j<H.length:=by have:=U.o.2.1;omega
          obtain⟨kJ,g3,kC,e3,dm,_⟩:=aM.o.rb.vcells;have ja:vs.length=H.length:=by have:=aM.o.mb.1;rw [qaD] at this;exact this
          have jP:=dm.addr (by omega);rw [U.o.2.1] at e3;simp only [qbY,true_and] at e3;obtain⟨jL,jM⟩:=e3;subst jP;subst jL;subst jM;have fB:=dm.cell j (by omega);have bU:=aM.o.mb.2 j (by rw [qaD];exact aO);rw [mapD aO] at bU;obtain⟨vj,iY⟩:=qX (vs.getD j undef);rw [iY] at fB bU;obtain⟨aj,nj,cj,rfl⟩:=qco bU;have jv:=qH bU;rw [qaT] at fB;clear iY bU dm ja;go_wp2_with fail;refine ((qcf .l) _ _ 61721 (by omega) _ _ wr eZ.o jv.o (qiN (fun x hx=>(U.o.2.2 x hx).1) (by have:=U.o.2.1;omega)) ((U.o.2.2 _ (qcR aO)).1.den.2.mono (by omega)) (U.o.2.2 _ (qcR aO)).1.den.1).mono ?_;rintro e ah ⟨u20,kV,rfl,aW,dh,eu⟩;obtain⟨a20,n20,c20,rfl⟩:=qco dh;obtain⟨kw,kG,kz,rfl⟩:=qco eu;have aR:=aM.o.below aW;obtain⟨gt,kD,a2,m2,d2,b2',et,dY,iL,t0,t1,tf,ax⟩:=aR.top aO;rw [U.o.2.1] at et;simp only [qbY,true_and] at et;obtain⟨jN,jO⟩:=et;subst jN;subst jO;simp only [if_neg (Nat.lt_irrefl j)] at ax;have dR:=qC _ _ 0 _ _ _ aR.ct;have fP:Below ah.heap.size ah ah:=Below.refl _ _;have I:Below ah.heap.size ah ah.drew:=fP.drew;have jC:=qH (fun W (h:Below ah.heap.size ah W)=>(qcO .l) ((ntop t bl wl (H.getD j 0):Nat):Int) _ 67 61721 (by omega) _ _ W (ax.below h) (dh.below h) (by rw [qas];exact (U.o.2.2 _ (qcR aO)).1.top) ((qiN (fun x hx=>(U.o.2.2 x hx).1) (by have:=U.o.2.1;omega)).le (qa2 _ _)));have aK:=qH (qA aR (qA (eZ.o.below aW) (qA (bC.o.trans (aW.mono bC.o.size)) (qA tf iL))));clear aR ax aW dh eu tf fB jI dQ;go_wp2_with fail
          go_region_with (first | (go_at_call 155;refine (jC.o _ I).mono ?_;rintro e lq ⟨u21,rfl,dV,di⟩;obtain⟨a21,n21,c21,jF,rfl⟩:=qb6 di;have hb:=I.trans dV;have x0:=hb.cell (qae ah _ t0) |>.trans t0;have x1:=hb.cell (qae ah _ t1) |>.trans t1;have x2:=hb.cell (qae ah _ dR) |>.trans dR;have y0:=(hb.frozen (p:=⟨gt,j*2,none⟩) dY).trans (aK.o.2.2.2.1 _);have y1:=(hb.frozen (p:=⟨gt,j*2+1,none⟩) dY).trans (aK.o.2.2.2.1 _);have aL:=qH (qA (aK.o.1.below hb) (qA (aK.o.2.1.below hb) (qA (aK.o.2.2.1.trans (hb.mono aK.o.2.2.1.size)) di)));clear dV di hb))
          all_goals go_wp2_with fail
          all_goals go_roundw
          all_goals first
            | (refine⟨j+1,ps2.set j (.slice a21 n21 c21,jF),jS,by go_num,?_,qH ((aL.o.1.setSoft _ _ _ _).mag aL.o.2.1),qH ((aL.o.1.setSoft _ _ _ _).old aL.o.2.2.1 (fun x e=>by have:=qag e;have:=aK.o.2.2.2.2;omega) aL.o.2.2.1.size)⟩
               have h:=aL.o.1;rw [<-U.o.2.1] at h;have h2:=h.setT aO aL.o.2.2.2;rw [U.o.2.1] at h2;exact qH (h2.congrT (fun p _=>by
                 by_cases e:p=j
                 · subst e;rw [if_pos rfl,if_pos (by omega)];rfl
                 · rw [if_neg e]
                   by_cases e2:p<j
                   · rw [if_pos e2,if_pos (by omega)]
                   · rw [if_neg e2,if_neg (by omega)])))
            | (simp [intOf];omega)
        · obtain rfl:j=k:=by omega
          have iw:=aM.o.congrT (T':=fun p=>nfac t bl wl H (H.getD p 0)) (fun p hp=>by rw [if_pos (by rw [<-U.o.2.1];exact hp)]);have jQ:0<t.length:=by have:=HC.o.2.2.2.2.1;omega
          obtain⟨kW,kX,kZ,kY,iD,_⟩:=(HC.o.1.below bC.o).row 0 jQ;rw [qbt] at iD;have iR:(t.getD 0 []).length=n:=HC.o.2.2.2.2.2.1;rw [iR] at iD;have kK:(0:Int)<(i:Int):=by omega
          have iQ:=qoa n (by omega) wr;obtain⟨ai,aT⟩:=qY (wr.alloc (.cells (madeCells #[zs0] n) 212));have bT:=MatPart.made wr n (n+1) (fun _=>0) (fun r c=>isum (fun p=>nterm t bl wl H r c (H.getD p 0)) j);have bL:Below wr.heap.size wr ai:=aT▸qb4 qB qN;rw [<-aT] at iQ bT;have eH:ai.heap.size=wr.heap.size+1:=by rw [aT,qab]
          clear aT;obtain⟨gQ,aU⟩:=qY (ai.alloc (.cells #[.slice (some ⟨wr.heap.size,0,none⟩) n n] 262));have bM:Below ai.heap.size ai gQ:=aU▸qb4 qB qN;have eB:gQ.heap[ai.heap.size]? = some (.cells #[.slice (some ⟨wr.heap.size,0,none⟩) n n] 262 (0,0)):=by rw [aU];exact qM _ _ _ rfl
          have Z:=qH (qA (bT.below bM) (qA eB (qA (bL.trans (bM.mono bL.size)) (qA iw (qA bC.o eH)))));clear bT bL bM eB iw iR eH aM eZ bC dQ;go_wp2_with fail;rw [<-aU];clear aU iQ;obtain⟨Y,jW⟩:=qY wr;subst jW;have bW:∀W:World,(Instr.makeSlice 212 (.int .i64 ((n:Int)+1)) (.int .i64 ((n:Int)+1))).run prog W=.ok (.slice (some ⟨W.heap.size,0,none⟩) (n+1) (n+1)) (W.alloc (.cells (madeCells #[zs0,.bool false] ((n+1)*2)) 217)):=fun W=>qhp (n+1) (by omega) W
          have gL:=qH bW;clear bW
          go_loopw [129] (fun x129 W=>∃(r:Nat) (az:Nat->Nat),r<=n/\x129=.int .i64 r/\Hu (MatPart W Y.heap.size n r (n+1) az (fun r c=>isum (fun p=>nterm t bl wl H r c (H.getD p 0)) j))/\Hu (W.heap[ai.heap.size]? = some (.cells #[.slice (some ⟨Y.heap.size,0,none⟩) n n] 262 (0,0)))/\Hu (Below Y.heap.size Y W)) (fun x129 _=>n-(intOf x129).toNat)
          case atStart=>exact⟨0,fun _=>0,qaj _,rfl,qH Z.o.1,qH Z.o.2.1,qH Z.o.2.2.1⟩
          case round =>
            obtain⟨r,az,hr,rfl,dA,dD,bE⟩:=hrel;obtain⟨wB,jX⟩:=qY wr;subst jX
            by_cases dO:r<n
            · have kS:(r:Int)<n:=by omega
              obtain⟨V0,dE⟩:=qY (wB.alloc (.cells #[.int .i64 r] 3));have dM:Below wB.heap.size wB V0:=dE▸qb4 qB qN;have fK:V0.heap[wB.heap.size]? = some (.cells #[.int .i64 r] 3 (0,0)):=by rw [dE];exact qM _ _ _ rfl
              have fq:=dA.o.below dM;have fw:=(dM.block _ (qG dD.o).1).trans dD.o;have cs:=qC _ _ 0 _ _ _ fw;have cr:=qC _ _ 0 _ _ _ fK;obtain⟨V1,dF⟩:=qY (V0.alloc (.cells (madeCells #[zs0,.bool false] ((n+1)*2)) 217));have bH:Below V0.heap.size V0 V1:=dF▸qb4 qB qN;have fG:=IRow.made V0 (n+1);have bW:=gL.o V0;rw [<-dF] at fG bW;obtain⟨q0,q1⟩:=(fq.below bH).at dO;have HV:=qH (qA fq (qA fw (qA fK (qA bH (qA fG (bE.o.trans (dM.mono bE.o.size)))))));have iP:(Instr.makeSlice 212 (.int .i64 ((n:Int)+1)) (.int .i64 ((n:Int)+1))).run prog V0.drew=.ok (.slice (some ⟨V0.heap.size,0,none⟩) (n+1) (n+1)) V1.drew:=by rw [gL.o V0.drew,dF];rfl
              have jH:=(bH.cell (qae V0 _ cs)).trans cs;have jG:=(bH.cell (qae V0 _ cr)).trans cr;clear dM fK fq fw bH fG dF bW;go_wp2_with fail;rw [<-dE];clear dE
              go_region
              obtain⟨V2,aB⟩:=qY ((V1.setCell ⟨Y.heap.size,r,none⟩ (rowv V0.heap.size (n+1))).drew);rw [<-aB];have bZ:=qjN (g:=V0.heap.size) (HV.o.1.below HV.o.2.2.2.1).row dO;have bQ:=qb7 V1 Y.heap.size r (rowv V0.heap.size (n+1));have bX:V0.heap.size≠Y.heap.size:=by
                have:=(qG HV.o.1.row).1;omega
              have iM:IRow V2 V0.heap.size (n+1) []:=by
                rw [aB];exact⟨(bQ.block _ (qG HV.o.2.2.2.2.1.1).1 (fun e=>bX (qag e))).trans HV.o.2.2.2.2.1.1,HV.o.2.2.2.2.1.2⟩
              have eP:V2.heap[ai.heap.size]? = some (.cells #[.slice (some ⟨Y.heap.size,0,none⟩) n n] 262 (0,0)):=by
                rw [aB];have h1:=zkeep HV.o.2.2.2.1 _ _ HV.o.2.1;exact (bQ.block _ (qG h1).1 (fun e=>by have:=qag e;have:=Z.o.2.2.2.2.2;omega)).trans h1
              have eD:V2.heap[wB.heap.size]? = some (.cells #[.int .i64 r] 3 (0,0)):=by
                rw [aB];have h1:=zkeep HV.o.2.2.2.1 _ _ HV.o.2.2.1;exact (bQ.block _ (qG h1).1 (fun e=>by have:=qag e;have:=(qG dA.o.row).1;omega)).trans h1
              have eG:∀x,x<r->qcy V2 (az x) (n+1) (fun c=>isum (fun p=>nterm t bl wl H x c (H.getD p 0)) j)/\az x<V0.heap.size:=fun x hx=>by
                have h0:=HV.o.1.rows x hx;have h1:=(HV.o.1.below HV.o.2.2.2.1).rows x hx;refine⟨?_,?_⟩
                · rw [aB];exact (h1.keepRows bQ (HV.o.1.below HV.o.2.2.2.1).row qiR).below qB.drew
                · obtain⟨_,_,h2,_⟩:=h0
                  exact (qG h2.1).1
              have eF:V2.heap[Y.heap.size]? = some (.cells (rowvs (r+1) (n+1) (fun x=>if x=r then V0.heap.size else az x)++List.replicate (n-(r+1)) zs0).toArray 212 (0,0)):=by rw [aB];exact bZ
              have bD:Below Y.heap.size Y V2:=by rw [aB];exact ((HV.o.2.2.2.2.2.trans (HV.o.2.2.2.1.mono HV.o.2.2.2.2.2.size)).setCell (p:=⟨Y.heap.size,r,none⟩) qN _).drew
              have eQ:wB.heap.size<V0.heap.size:=(qG HV.o.2.2.1).1;have iy:=Z.o.2.2.2.1.below bD;have H2:=qH (qA iM (qA eP (qA eD (qA eG (qA eF (qA bD iy))))));have aa:=qH (qA eQ (qA (show Y.heap.size<V0.heap.size from Nat.lt_of_le_of_ne HV.o.2.2.2.2.2.size (fun e=>bX e.symm)) (show ai.heap.size<V0.heap.size from (qG HV.o.2.1).1)));clear aB bZ bQ bX iM eP eD eG eF bD eQ iy cs cr jH jG q0 q1 iP dA dD bE;go_wp2_with fail
              go_loopw [141] (fun x141 W=>∃(cc:Nat) (qs:List (Value×Bool)),cc<=n+1/\x141=.int .i64 cc/\Hu (qs.length=cc/\IRow W V0.heap.size (n+1) qs/\qcJ W qs (fun c=>isum (fun p=>nterm t bl wl H r c (H.getD p 0)) j))/\Hu (V2.grownBy W (some V0.heap.size))) (fun x141 _=>n+1-(intOf x141).toNat)
              case atStart=>exact⟨0,[],qaj _,rfl,qH ⟨rfl,H2.o.1,fun x hx=>absurd hx (by simp)⟩,qH (qcw _ _)⟩
              case round =>
                obtain⟨cc,qs,kM,rfl,hQ,hG⟩:=hrel;have J:Soft V2 wr (some V0.heap.size):=⟨hG.o,fun g e=>by cases e;exact⟨_,_,_,H2.o.1.1,zrow_not⟩⟩;have F:∀{x:Nat},x<V0.heap.size->(some V0.heap.size:Option Nat)≠some x:=fun hx e=>by have:=qag e;omega
                by_cases fC:cc<n+1
                · have kN:(cc:Int)<(n:Int)+1:=by omega
                  obtain⟨V3,dG⟩:=qY (wr.alloc (.cells #[.int .i64 cc] 3));have aD:Below wr.heap.size wr V3:=dG▸qb4 qB qN;have fJ:V3.heap[wr.heap.size]? = some (.cells #[.int .i64 cc] 3 (0,0)):=by rw [dG];exact qM _ _ _ rfl
                  have fu:=(H2.o.2.2.2.2.2.2.soft J (fun g e=>by cases e;exact Z.o.2.2.2.1.lt (qan aa.o.2.1))).below aD;have je:=zkeep aD _ _ (J.blk H2.o.2.1 (F aa.o.2.2));have gz:=zkeep aD _ _ (J.blk H2.o.2.2.1 (F aa.o.1));have fQ:=zkeep aD _ _ (J.blk H2.o.2.2.2.2.1 (F aa.o.2.1));have fF:V0.heap.size<wr.heap.size:=(qG hQ.o.2.1.1).1;have jT:=(qG Z.o.2.2.2.1.cl).1;have D0:∀W,V3.grownBy W (some V0.heap.size)->W.cell? ⟨ai.heap.size,0,none⟩=some (.slice (some ⟨Y.heap.size,0,none⟩) n n):=fun W h=>qde h je (Nat.ne_of_lt aa.o.2.2) 0
                  have D1:∀W,V3.grownBy W (some V0.heap.size)->W.cell? ⟨wB.heap.size,0,none⟩=some (.int .i64 r):=fun W h=>qde h gz (Nat.ne_of_lt aa.o.1) 0
                  have D2:∀W,V3.grownBy W (some V0.heap.size)->W.cell? ⟨Y.heap.size,r,none⟩=some (rowv V0.heap.size (n+1)):=fun W h=>by
                    have h1:=qjM fQ (j:=r) (by omega);simp only [if_true] at h1;exact (qer h (p:=⟨Y.heap.size,r,none⟩) (qG fQ).1 (Nat.ne_of_lt aa.o.2.1)).trans h1
                  have D3:∀W,V3.grownBy W (some V0.heap.size)->W.cell? ⟨wr.heap.size,0,none⟩=some (.int .i64 cc):=fun W h=>qde h fJ (qbu fF) 0
                  have D4:∀W,V3.grownBy W (some V0.heap.size)->W.cell? ⟨w.heap.size+1,0,none⟩=some (.slice al j cl):=fun W h=>qde h fu.cl (by have:=aa.o.2.1;omega) 0
                  have jE:=qH (fun W (h:Below V3.heap.size V3 W)=>qiY j (.pointer (some ⟨w.heap.size+1+1,0,none⟩)) (.pointer (some ⟨w.heap.size+1,0,none⟩)) (.pointer (some ⟨wB.heap.size,0,none⟩)) (.pointer (some ⟨wr.heap.size,0,none⟩)) (fun p=>nterm t bl wl H r cc (H.getD p 0)) 63398 (by omega) W (by omega) (fun W' p hp jR=>by
                    have bg:=h.trans (jR.mono h.size);exact qoo U.o.2.1 (fu.below bg) U.o.2.2 bP hp (by omega) fC iT (qC _ _ 0 _ _ _ (zkeep bg _ _ gz)) (qC _ _ 0 _ _ _ (zkeep bg _ _ fJ))) (fun p hp=>by
                      have bY:p<H.length:=by have:=U.o.2.1;omega
                      have hl:=(U.o.2.2 _ (qcR bY)).2;exact qjH (fun x hx=>(U.o.2.2 x hx).1) (by have:=U.o.2.1;omega) bY (by omega) (by omega)))
                  have fP:Below V3.heap.size V3 V3:=Below.refl _ _;have I:Below V3.heap.size V3 V3.drew:=fP.drew;have H3:=qH (qA aD (qA (hQ.o.2.1.below aD) (qA (hQ.o.2.2.below aD) fF)));clear J F aD fJ fu je gz fQ jT fF;go_wp2_with fail;rw [<-dG];clear dG
                  go_region_held3 (fun W=>V3.grownBy W (some V0.heap.size)) (first | with_reducible exact qcw _ _ | with_reducible exact qch _ I | with_reducible exact qch _ aZ | exact qb5 (qb5 (qch _ aZ) (qb7 _ _ _ _)) (qb7 _ _ _ _)) (first | (go_at_call 151;refine (jE.o _ I).mono ?_;rintro e w5 ⟨u5,rfl,aF,fU⟩;have aZ:Below V3.heap.size V3 w5:=bjoin I aF;obtain⟨a5,n5,c5,b5,rfl⟩:=qb6 fU;have iB:=(H3.o.2.1.below aZ).at (by have:=hQ.o.1;omega);rw [hQ.o.1] at iB;obtain⟨⟨z0,z1⟩,zf⟩:=iB;have lw:=zf (cc*2);have lC:=zf (cc*2+1);have HX:=qH (qlI (H3.o.2.1.below aZ) (H3.o.2.2.1.below aZ) hQ.o.1 fC fU);clear aF fU zf))
                  all_goals go_wp2_with fail
                  all_goals go_roundw
                  all_goals first
                    | exact⟨cc+1,_,fC,by go_num,qH ⟨by rw [qaf,hQ.o.1];rfl,HX.o.1,HX.o.2⟩,qH (qb5 (qb5 (qcl hG.o (bjoin H3.o.1 aZ)) (qb7 _ _ _ _)) (qb7 _ _ _ _))⟩
                    | (simp [intOf];omega)
                · obtain rfl:cc=n+1:=by omega
                  have iq:MatPart wr Y.heap.size n (r+1) (n+1) (fun x=>if x=r then V0.heap.size else az x) (fun r c=>isum (fun p=>nterm t bl wl H r c (H.getD p 0)) j):=by
                    refine⟨J.blk H2.o.2.2.2.2.1 (F aa.o.2.1),fun x hx=>?_,dO⟩
                    by_cases e:x=r
                    · subst e;simp only [if_true];exact⟨qs,hQ.o.1,hQ.o.2.1,hQ.o.2.2⟩
                    · simp only [if_neg e]
                      have h:=H2.o.2.2.2.1 x (by omega);exact J.introw h.1 (F h.2)
                  have hSn:=J.blk H2.o.2.1 (F aa.o.2.2);have ig:=J.old H2.o.2.2.2.2.2.1 (fun x e=>by have:=qag e;have:=aa.o.2.1;omega) H2.o.2.2.2.2.2.1.size;have HE:=qH (qA iq (qA hSn ig));clear iq hSn ig J F;go_wp2;go_roundw
                  case rel=>exact⟨r+1,_,dO,by go_num,qH HE.o.1,qH HE.o.2.1,qH HE.o.2.2⟩
                  case measure=>simp [intOf];omega
            · obtain rfl:r=n:=by omega
              have dB:=dA.o.done;have bf:=Z.o.2.2.2.1.below bE.o;have c0:=qC _ _ 0 _ _ _ bf.cs;have f0:=qF _ _ 0 _ _ bf.cs;have y0:=qC _ _ 0 _ _ _ dD.o;have eO:=heap_setCell_same _ _ 0 _ _ (.slice (some ⟨Y.heap.size,0,none⟩) r r) bf.cs;have J:=Soft.ofSet bf.cs (qhw qgf) 0 (.slice (some ⟨Y.heap.size,0,none⟩) r r);have F:=(qG Z.o.2.2.2.1.cs).1;have ik:MatAt (wB.setCell ⟨w.heap.size,0,none⟩ (.slice (some ⟨Y.heap.size,0,none⟩) r r)) Y.heap.size r (r+1) az (fun r c=>isum (fun p=>nterm t bl wl H r c (H.getD p 0)) j):=by
                refine⟨J.blk dB.row (fun e=>by have:=qag e;omega),fun x hx=>J.introw (dB.rows x hx) fun e=>?_⟩;obtain⟨_,_,h2,_⟩:=dB.rows x hx;rw [<-qag e] at h2;have:=h2.1.symm.trans bf.cs;simp at this
              have ic:=(Z.o.2.2.2.2.1.trans (bE.o.mono Z.o.2.2.2.2.1.size)).setCell (p:=⟨w.heap.size,0,none⟩) qN (.slice (some ⟨Y.heap.size,0,none⟩) r r);have HE:=qH (qA ik (qA ic (qA eO (qan (qaU qN F)))));clear dB bf eO J F ik ic;go_wp2_with fail;refine qR (v:=.agg #[.slice (some ⟨Y.heap.size,0,none⟩) r r]) (rA_ rfl w.heap.size HE.o.2.2.1 underlying262 1) rfl ⟨Y.heap.size,az,_,nall t bl wl H,rfl,HE.o.2.1,HE.o.2.2.2,nall_pos (fun x hx=>(U.o.2.2 x hx).1),HE.o.1,fun a ha c hc=>?_,fun a ha c hc=>?_⟩
              · have h:=norm_sum (t:=t) (bl:=bl) (wl:=wl) (R:=i) (r:=a) (c:=c) (fun x hx=>(HR.o x hx).1) (fun x hx=>by have:=(HR.o x hx).2;omega)
                rw [U.o.1,U.o.2.1] at h;exact h
              · refine (qf3 _ 63398 j (fun p hp=>?_)).mono (by omega)
                have bY:p<H.length:=by have:=U.o.2.1;omega
                have hl:=(U.o.2.2 _ (qcR bY)).2;exact qjH (fun x hx=>(U.o.2.2 x hx).1) (by have:=U.o.2.1;omega) bY (by omega) (by omega)
