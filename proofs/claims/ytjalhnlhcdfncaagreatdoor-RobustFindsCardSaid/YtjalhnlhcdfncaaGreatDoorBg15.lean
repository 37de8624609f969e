import Derived.Deep.RegionLaw
import Derived.Test.YtjalhnlhcdfncaaGreatDoorBg14
set_option maxRecDepth 100000
set_option maxHeartbeats 0
namespace Go.Proofs.YtjalhnlhcdfncaaGreatDoor
open Go.RowKit Go.Proofs.Tryz
def NormAs (w:World) (t:Tbl) (bl wl:List FT) (n R:Nat) (e:Ending) (F:World):Prop :=
 ∃(E:Nat) (G:Nat->Nat) (M:Nat->Nat->Int) (Z:Nat),e=.returned (.agg #[.slice (some ⟨E,0,none⟩) n n])/\Below w.heap.size w F/\w.heap.size<=E/\0<Z/\MatAt F E n (n+1) G M /\
  (∀r,r<n->∀c,c<n+1->((M r c:Int):Rat)=(Z:Rat)*normQ t bl wl R r c)/\∀r,r<n->∀c,c<n+1->Fit (M r c).natAbs 63440
theorem qlP {t:Tbl} {bl wl:List FT} {R n:Nat} (hT:TOk t) (V:t.length=R) (O:wid t=n) (H:FAll bl) (I:bl.length=R) (G:FAll wl) (U:wl.length=R) (E:¬Neg wl) {i:Nat} (Z:i<R):NRow t bl wl i/\(besides t bl i).length=n+1:=by
 have h:=hT.rows i (by omega);have Y:=hT.c2;have J:(besides t bl i).length=n+1:=by unfold besides;rw [qae,h.1,O];rfl
 exact⟨⟨h.2.snoc (H i (by omega)),by omega,qdB G (by omega),(G i (by omega)).vn.fit,Int.not_lt.1 fun F=>E ⟨i,by omega,F⟩⟩,J⟩
theorem qbZ {W:World} {u:Value} {x:Nat} (h:MagAt W u x):∃(a:Option Addr) (n c:Nat),u=.slice a n c:=by
 obtain⟨a,_,_,c,n,_,rfl,_,_⟩:=h;exact⟨a,n,c,rfl⟩
theorem qhl {W:World} {a:Option Addr} {n c:Nat} {b:Bool} {z:Int} (h:IntAt W (.agg #[.slice a n c,.bool b]) z):MagAt W (.slice a n c) z.natAbs:=by
 obtain⟨_,e,h⟩:=h;simp only [qaZ,qa5,qaY] at e;rw [e.1];exact h
theorem qkS {W:World} {u v:Value} {e:TypeId}:∀j x,[u,v][j]? = some x->(W.alloc (.cells #[u,v] e)).cell? ((⟨W.heap.size,0,none⟩:Addr).add j)=some x:=by
 intro j x h;rw [Addr.add_mid,qC _ _ (0+j) _ _ _ (qM _ _ _ rfl),qaL];exact (qaz ..).trans h
theorem zint_not:∀x∈(Value.agg #[zs0,.bool false]).cells.toList,qcs x:=by
 intro x E k d e;rcases qaD.1 (show x∈[zs0,.bool false] from E) with h | h
 ·rw [h] at e;cases e
 ·rw [qao.1 h] at e;cases e
theorem zrow_not {n:Nat}:∀x∈(iflat ([]++List.replicate n (zs0,false))).toArray.toList,qcs x:=by
 intro x E k d e;have E:x∈iflat ([]++List.replicate n (zs0,false)):=E;rw [qbl] at E;unfold iflat at E;obtain⟨p,F,E⟩:=List.mem_flatMap.1 E;rw [(List.mem_replicate.1 F).2] at E;rcases qaD.1 E with h | h
 ·rw [h] at e;cases e
 ·rw [qao.1 h] at e;cases e
theorem two_one {a:Option Addr} {n c:Nat} {b:Bool}:∀u∈[Value.slice a n c,.bool b],u.oneCell'=true:=by
 intro x E;rcases qaD.1 E with h | h
 ·rw [h];rfl
 ·rw [qao.1 h];rfl
theorem two_not {a:Option Addr} {n c:Nat} {b:Bool}:∀u∈[Value.slice a n c,.bool b],qcs u:=by
 intro x E k d e;rcases qaD.1 E with h | h
 ·rw [h] at e;cases e
 ·rw [qao.1 h] at e;cases e
theorem qe9 {a:Option Addr} {n c:Nat}:qcs (.slice a n c):=fun k d e=>by cases e
theorem qkr (b off c:Nat) (t:Tbl) (b2 dn c2:Nat) (bl:List FT) (b3 dw c3:Nat) (wl:List FT) (R n:Nat) (w:World) (hT:TOk t) (hR:t.length=R) (hn:wid t=n) (hc:TCells w (some ⟨b,off,none⟩) b off t)
    (hb:FAll bl) (fD:bl.length=R) (iG:FCells w (some ⟨b2,dn,none⟩) b2 dn bl) (hw:FAll wl) (gF:wl.length=R) (jg:FCells w (some ⟨b3,dw,none⟩) b3 dw wl) (ek:¬Neg wl) :
    Calls prog 189 #[.slice (some ⟨b,off,none⟩) R c,.slice (some ⟨b2,dn,none⟩) R c2,.slice (some ⟨b3,dw,none⟩) R c3] w fun e w'=>NormAs w t bl wl n R e w':=by
  have au:∀i,i<R->NRow t bl wl i/\(besides t bl i).length=n+1:=fun i hi=>qlP hT hR hn hb fD hw gF ek hi
  have kI:R<=40:=by have:=hT.r2;omega
  have kQ:1<=R:=by have:=hT.r1;omega
  have iX:n<=10:=by have:=hT.c2;omega
  have jY:1<=n:=by have:=hT.c1;omega
  have HC:=qH (qA hc (qA iG (qA jg (qA hT (qA hR (qA hn (qA hb (qA fD (qA hw gF)))))))));have HR:=qH au;have kT:=qeP;obtain⟨il,iT,jq,jr,jv⟩:=info_parts qjw;obtain⟨it,ax,jw,jy,jA⟩:=info_parts infoI;obtain⟨ib,iR,jl,jm,jo⟩:=info_parts infoM;have V:=qH (qA iT (qA jq (qA jr (qA jv (qA ax (qA jw (qA jy (qA jA (qA iR (qA jl (qA jm jo)))))))))));clear au hc iG jg hT hR hn hb fD hw gF ek iT jq jr jv ax jw jy jA iR jl jm jo;go_enter func189,ntmps189;go_wp2_with fail
  go_loopw [9,29] (fun x9 x29 W=>∃(i:Nat) (vl vt:Value) (gs:Nat->Nat) (ps:List (Value×Bool)) (vs:List Value),i<=R/\x29=.int .i64 i/\Hu (NSt W w.heap.size t bl wl n (nkeep wl i) (nkeep wl i) (nkeep wl i) vl vt x9 gs ps vs (fun p=>((ntop t bl wl ((nkeep wl R).getD p 0):Nat):Int)))/\Hu (Below w.heap.size w W)) (fun _ x29 _=>R-(intOf x29).toNat)
  case atStart =>
    have hb:Below w.heap.size w (((w.alloc (.cells #[zs0] 262)).alloc (.cells #[zs0] 260)).alloc (.cells #[zs0] 212)):=qbM (qbM (qbM qB qN) qN) qN;exact⟨0,.slice none 0 0,.slice none 0 0,fun _=>0,[],[],qan _,rfl,qH ⟨(qL _ _ _ (by simp only [qaa];omega)).trans ((qL _ _ _ (by simp only [qaa];omega)).trans (qM _ _ _ rfl)),(qL _ _ _ (by simp only [qaa];omega)).trans (qM _ _ _ (by simp only [qaa])),qM _ _ _ (by simp only [qaa]),Rws.nil _ _ _ _,Rws.nil _ _ _ _,Rws.nil _ _ _ _,fun p hp=>absurd hp (by simp [nkeep]),fun p hp=>absurd hp (by simp [nkeep]),fun k hk=>absurd hk (by simp),rfl,⟨rfl,fun k hk=>absurd hk (by simp [nkeep])⟩⟩,qH hb⟩
  case round =>
    obtain⟨i,vl,vt,gs,ps,vs,hi,rfl,hN,hB⟩:=hrel
    by_cases E:i<R
    · have kU:(i:Int)<R:=by omega
      have ax:i<t.length:=by have:=HC.o.2.2.2.2.1;omega
      obtain⟨ra,rb,ro,rc,iI,iM⟩:=(HC.o.1.below hB.o).row i ax;have aH:=HC.o.2.2.2.1.rows i ax;rw [HC.o.2.2.2.2.2.1] at aH;rw [aH.1] at iI;obtain⟨d0,d1⟩:=(HC.o.2.2.1.below hB.o).cell i (by have:=HC.o.2.2.2.2.2.2.2.2.2;omega);have fO:=HC.o.2.2.2.2.2.2.2.2.1 i (by have:=HC.o.2.2.2.2.2.2.2.2.2;omega);obtain⟨WN,dJ⟩:∃N,(wl.getD i fd0).1=N:=⟨_,rfl⟩;obtain⟨WD,dI⟩:∃D,(wl.getD i fd0).2=D:=⟨_,rfl⟩;rw [dJ,dI] at fO;rw [dJ] at d0;rw [dI] at d1;obtain⟨e0,e1⟩:=(HC.o.2.1.below hB.o).cell i (by have:=HC.o.2.2.2.2.2.2.2.1;omega);obtain⟨BN,fq⟩:∃N,(bl.getD i fd0).1=N:=⟨_,rfl⟩;obtain⟨BD,fo⟩:∃D,(bl.getD i fd0).2=D:=⟨_,rfl⟩;rw [fq] at e0;rw [fo] at e1;have HW:=qH (qA dJ (qA dI (qA fO (qA fq (qA fo (qA aH iM))))));clear dJ dI fO fq fo aH iM;go_wp2_with fail;refine ((qb7 .l) WN HW.o.2.2.1.vn _).mono ?_;rintro e w2 ⟨u2,rfl,bg,gm⟩;obtain⟨a2,n2,c2',b2',rfl⟩:=qbN gm;have H2:=qH (qA bg gm);clear bg gm;go_wp2_with fail;obtain⟨W3,dH⟩:=qY (w2.alloc (.cells #[.slice a2 n2 c2',.bool b2'] 217));have bK:Below w2.heap.size w2 W3:=dH▸qbM qB qN;have iN:W3.heap[w2.heap.size]? = some (.cells #[.slice a2 n2 c2',.bool b2'] 217 (0,0)):=by rw [dH];exact qM _ _ _ rfl
      have jh:(ival WN.data.toList).natAbs=wnum wl i:=by unfold wnum;rw [HW.o.1]
      have dO:=(qhl H2.o.2).below bK;rw [jh] at dO;rw [<-dH];have H3:=qH (qA (bjoin H2.o.1 bK) (qA iN dO));clear dH bK iN jh;refine ((qcr .l) (wnum wl i) _ W3 dO).mono ?_;rintro e w4 ⟨rfl,jZ⟩;subst jZ;clear dO
      by_cases hz:wnum wl i=0
      · rw [qV hz]
        have HZ:=qH hz;clear hz;go_wp2;go_roundw
        case rel=>exact⟨i+1,vl,vt,gs,ps,vs,E,by go_num,by rw [show nkeep wl (i+1)=nkeep wl i by simp only [nkeep,if_pos HZ.o]];exact qH (hN.o.below H3.o.1),qH (hB.o.trans (H3.o.1.mono hB.o.size))⟩
        case measure=>simp [intOf];omega
      · rw [qU hz]
        have HZ:=qH hz;have dL:=H3.o.1;have g0:=qC _ _ 0 _ _ _ H3.o.2.1;have jN:=(dL.cell (qac wr _ e0)).trans e0;have jO:=(dL.cell (qac wr _ e1)).trans e1;have bz:=(dL.cell (qac wr _ d1)).trans d1;clear hz dL;go_wp2_with fail;refine (qgE ra rb ro n rc (t.getD i []) (BN,BD) _ HW.o.2.2.2.2.2.1.1 jY (by omega) (HW.o.2.2.2.2.2.2.below H3.o.1)).mono ?_;rintro e w5 ⟨g5,rfl,aF,iK⟩;have gJ:=qH (MagAt.below H3.o.2.2 aF);have H5:=qH (qA (bjoin H3.o.1 aF) iK);have af:=(aF.cell (qac w4 _ g0)).trans g0;have bA:=(aF.cell (qac w4 _ bz)).trans bz;clear aF iK g0 bz jN jO;go_wp2_with fail;have dX:t.getD i []++[(BN,BD)]=besides t bl i:=by unfold besides;rw [<-HW.o.2.2.2.1,<-HW.o.2.2.2.2.1]
        have au:=HR.o i E;rw [dX] at H5;refine (qd8 (c:=n+1) au.2 (by omega) H5.o.2 au.1.fa).mono ?_;rintro e w6 ⟨g6,v6,rfl,dY,bN,fM,iZ⟩;obtain⟨a6,n6,c6,rfl⟩:=qbZ fM;have gL:=qH (MagAt.below gJ.o bN);have H6:=qH (qA (bjoin H5.o.1 bN) (qA fM (qA iZ (qak H5.o.1.size dY))));have g0:=(bN.cell (qac w5 _ af)).trans af;have bz:=(bN.cell (qac w5 _ bA)).trans bA;clear bN fM iZ dY af bA dX au;go_wp2_with fail;refine ((qb7 .l) WD HW.o.2.2.1.vd _).mono ?_;rintro e w7 ⟨u7,rfl,bi,gz⟩;obtain⟨a7,n7,c7,b7,rfl⟩:=qbN gz;have jD:=qH bi;have gM:=qH (MagAt.below gL.o bi);have H7:=qH (qA (bjoin H6.o.1 bi) (qA (qhl gz) (H6.o.2.1.below bi)));have af:=(bi.cell (qac w6 _ g0)).trans g0;clear bi gz g0 bz;have iL:(ival WD.data.toList).natAbs=fden (wl.getD i fd0):=by unfold fden;rw [HW.o.2.1]
        rw [iL] at H7;clear iL;go_wp2_with fail;refine ((qca .l) _ _ 67 738 (by omega) _ _ w7 H7.o.2.1 H7.o.2.2 (HR.o i E).1.wd.2 (HR.o i E).1.below.2).mono ?_;rintro e w8 ⟨u8,rfl,bn,gB⟩;obtain⟨a8,n8,c8,rfl⟩:=qbZ gB;have jE:=qH (bjoin jD.o bn);have gN:=qH (MagAt.below gM.o bn);have H8:=qH (qA (bjoin H7.o.1 bn) (qA gB (H7.o.2.2.below bn)));have g0:=(bn.cell (qac w7 _ af)).trans af;clear bn gB af;go_wp2_with fail;refine ((qca .l) _ _ 805 738 (by omega) _ _ w8 H8.o.2.1 H8.o.2.2 (((HR.o i E).1.wd.2.mul (HR.o i E).1.below.2).mono (by omega)) (HR.o i E).1.below.2).mono ?_;rintro e w9 ⟨u9,rfl,bO,gD⟩;obtain⟨a9,n9,c9,rfl⟩:=qbZ gD;have jF:=qH (bjoin jE.o bO);have gP:=qH (MagAt.below gN.o bO);have H9:=qH (qA (bjoin H8.o.1 bO) (show MagAt w9 (.slice a9 n9 c9) (wdn t bl wl i) from gD));have af:=(bO.cell (qac w8 _ g0)).trans g0;clear bO gD g0 gJ gL gM gN;go_wp2_with fail;refine ((qcD .l) (wnum wl i) (wdn t bl wl i) 1543 (by omega) _ _ w9 gP.o H9.o.2 ((HR.o i E).1.wn.mono (by omega)) (HR.o i E).1.d.2).mono ?_;rintro e kr ⟨u10,rfl,ak,cK⟩;obtain⟨kL,n10,c10,rfl⟩:=qbZ cK;have gT:=qH (bjoin jF.o ak);have bu:=qH (qA (bjoin H9.o.1 ak) (qA cK (qA (H9.o.2.below ak) (gP.o.below ak))));have g0:=(ak.cell (qac w9 _ af)).trans af;clear ak cK af;go_wp2_with fail;refine ((qbU .l) (wnum wl i) _ 1543 (by omega) _ _ kr bu.o.2.2.2 bu.o.2.1 ((HR.o i E).1.wn.mono (by omega)) (HR.o i E).1.g.2 (HR.o i E).1.g.1).mono ?_;rintro e jk ⟨u11,kX,rfl,aC,cO,eu⟩;obtain⟨eY,n11,c11,rfl⟩:=qbZ cO;obtain⟨kz,kJ,c11',rfl⟩:=qbZ eu;have gU:=qH (bjoin gT.o aC);have dx:=qH (qA (bjoin bu.o.1 aC) (qA (show MagAt jk (.slice eY n11 c11) (ntop t bl wl i) from cO) (qA (bu.o.2.1.below aC) (bu.o.2.2.1.below aC))));clear aC cO eu g0;go_wp2_with fail;refine ((qbU .l) (wdn t bl wl i) _ 1543 (by omega) _ _ jk dx.o.2.2.2 dx.o.2.2.1 (HR.o i E).1.d.2 (HR.o i E).1.g.2 (HR.o i E).1.g.1).mono ?_;rintro e bq ⟨u12,kY,rfl,aV,cZ,aG⟩;obtain⟨a12,n12,c12,rfl⟩:=qbZ cZ;obtain⟨kC,n12',kE,rfl⟩:=qbZ aG;have gX:=qH (bjoin gU.o aV);have dz:=qH (qA (bjoin dx.o.1 aV) (qA (show MagAt bq (.slice a12 n12 c12) (nden t bl wl i) from cZ) (dx.o.2.1.below aV)));clear aV cZ aG;have bP:(nkeep wl i).length<=40:=by have:=(qe5 wl i).1;omega
        have aP:=hN.o.below dz.o.1;have aG:=H6.o.2.2.1.below gX.o;have dK:Below bq.heap.size bq (bq.alloc (.cells #[rowv g6 (n+1)] 212)):=qbM qB qN;have iE:=aP.below dK;have ed:vt.ownBlock≠some g6:=fun e=>by have:=(hN.o.rt.lt g6 e).2;have:=H6.o.2.2.2;omega
        have cu:w.heap.size+1+1+1<=bq.heap.size:=by
          have h1:=(qG aP.ct).1;omega
        have ig:=qC _ _ 0 _ _ _ aP.cl;have O:=qH (qA iE (qA (aG.below dK) (qA ed (qA cu dK))));clear aP aG iE ed cu dK d0 d1 e0 e1 iI
        go_wp2_with (first | (at_builtin;(refine qc6 rfl (.tmp 81) (.tmp 83) 260 rfl (w.heap.size+1+1+1) 212 il (.slice none 0 0) 1 24 underlying260 V.o.1 V.o.2.1 V.o.2.2.1 V.o.2.2.2.1 rfl (by decide) (fun x I=>by rw [qao.1 I];exact qe9) vl (nkeep wl i).length _ rfl O.o.1.rl ⟨bq.heap.size,0,none⟩ 1 1 [rowv g6 (n+1)] rfl rfl (qda _ _ _) (fun u hu=>by rw [qao.1 hu];rfl) (fun u hu=>by rw [qao.1 hu];exact qe9) (by decide) (by unfold maxLen;omega) (by omega) (qak O.o.2.2.2.1 O.o.2.2.2.2.size) ?_);intro lw ku aH fH _;obtain⟨ca,fa⟩:=nst_cl O.o.1 fH;obtain⟨al',cl',rfl⟩:=aH.shape;have HL:=qH (qA aH fH);clear aH fH) | fail)
        obtain⟨ae,aS⟩:=qY (ku.setCell ⟨w.heap.size+1,0,none⟩ (.slice al' ((nkeep wl i).length+1) cl'));rw [<-aS];have aA:=O.o.1.addL O.o.2.1 O.o.2.2.1 HL.o.1 HL.o.2;have aI:=nst_soft O.o.1 HL.o.2 (.slice al' ((nkeep wl i).length+1) cl');rw [<-aS] at aA aI;have bR:MagAt ae (.slice eY n11 c11) (ntop t bl wl i)/\MagAt ae (.slice a12 n12 c12) (nden t bl wl i):=⟨aI.1 _ _ (dz.o.2.2.below O.o.2.2.2.2),aI.1 _ _ (dz.o.2.1.below O.o.2.2.2.2)⟩;have dU:Below w.heap.size w ae:=aI.2 w w.heap.size (hB.o.trans ((bjoin dz.o.1 O.o.2.2.2.2).mono hB.o.size)) (by omega) (by have:=O.o.2.2.2.1;have:=O.o.2.2.2.2.size;omega);have cz:w.heap.size+1+1+1<=ae.heap.size:=by
          have h1:=(qG aA.ct).1;omega
        have ay:=qC _ _ 0 _ _ _ aA.ct;have H:Below ae.heap.size ae ae.drew:=qB.drew;have jH:=qH (fun W (h:Below ae.heap.size ae W)=>(qb0 .l) (ntop t bl wl i) false (.slice eY n11 c11) W (bR.1.below h));have aY:=qH (qA aA (qA bR.2 (qA dU (qA cz (qls wl HZ.o R E).1))));have ky:=qH aS;clear aS aA aI bR dU cz ca fa ig
        go_region_law (first | (refine qgm rfl (.tmp 85) (.tmp 88) 212 (by rfl) (w.heap.size+1+1+1) 217 it (.agg #[zs0,.bool false]) 2 32 underlying212 V.o.2.2.2.2.1 V.o.2.2.2.2.2.1 V.o.2.2.2.2.2.2.1 V.o.2.2.2.2.2.2.2.1 rfl (by decide) zint_not vt (nkeep wl i).length _ (by rfl) av.o.1.rt ⟨dQ.heap.size,0,none⟩ 1 1 [.slice gZ n15 c15,.bool b15] (by rfl) rfl qkS two_one two_not (by decide) (by unfold maxLen;omega) (by omega) av.o.2.1 ?_;intro lC kv fU fI iY;obtain⟨q0,qf⟩:=nst_ct av.o.1 fI;obtain⟨at',ik,rfl⟩:=fU.shape;have HT:=qH (qA fU (qA fI iY));clear fU fI iY) | (go_simp;go_at_call 161;refine (jH.o _ H).mono ?_;rintro e dQ ⟨u15,rfl,bI,df⟩;obtain⟨gZ,n15,c15,b15,rfl⟩:=qbN df;have aN:Below dQ.heap.size dQ (dQ.alloc (.cells #[.slice gZ n15 c15,.bool b15] 217)):=qbM qB qN;have hb:=H.trans (bjoin bI aN);have eZ:=hb.cell (qac ae _ ay) |>.trans ay;have iq:=(H.trans bI).cell (qac ae _ ay) |>.trans ay;have av:=qH (qA (aY.o.1.below hb) (qA (qak aY.o.2.2.2.1 hb.size) (qA hb (df.below aN))));clear bI df aN hb))
        all_goals
          have hT:(if false=true then -((ntop t bl wl i:Nat):Int) else ((ntop t bl wl i:Nat):Int))=((ntop t bl wl ((nkeep wl R).getD (nkeep wl i).length 0):Nat):Int):=by rw [aY.o.2.2.2.2];rfl
          have aQ:=av.o.1.addT2 (i:=i) hT av.o.2.2.2 HT.o.1 HT.o.2.1 HT.o.2.2;have aX:=qlR av.o.1 HT.o.2.1 (.slice at' ((nkeep wl i).length+1) ik);obtain⟨bv,dV⟩:=qY (kv.setCell ⟨w.heap.size+1+1,0,none⟩ (.slice at' ((nkeep wl i).length+1) ik));rw [<-dV] at aQ aX ⊢;have d9:=aX.1 _ _ (aY.o.2.1.below av.o.2.2.1);have bB:=aX.2 w w.heap.size (aY.o.2.2.1.trans (av.o.2.2.1.mono aY.o.2.2.1.size)) (by omega) (by have:=av.o.2.1;omega);have ag:Below bv.heap.size bv (bv.alloc (.cells #[.slice a12 n12 c12] 213)):=qbM qB qN;have cB:w.heap.size+1+1+1<=bv.heap.size:=by
            have h1:=(qG aQ.ct).1;omega
          have aJ:=qH (qA (aQ.below ag) (qA (d9.below ag) (qA (bB.trans (ag.mono bB.size)) (qak cB ag.size))));clear hT aQ aX d9 bB ag cB dV q0 qf ay iq eZ
          go_wp2_with (first | (at_builtin;(refine qc6 rfl (.tmp 90) (.tmp 92) 286 rfl (w.heap.size+1+1+1) 213 ib (.slice none 0 0) 1 24 underlying286 V.o.2.2.2.2.2.2.2.2.1 V.o.2.2.2.2.2.2.2.2.2.1 V.o.2.2.2.2.2.2.2.2.2.2.1 V.o.2.2.2.2.2.2.2.2.2.2.2 rfl (by decide) (fun x I=>by rw [qao.1 I];exact qe9) u9 (nkeep wl i).length _ rfl aJ.o.1.rb ⟨bv.heap.size,0,none⟩ 1 1 [.slice a12 n12 c12] rfl rfl (qda _ _ _) (fun u hu=>by rw [qao.1 hu];rfl) (fun u hu=>by rw [qao.1 hu];exact qe9) (by decide) (by unfold maxLen;omega) (by omega) aJ.o.2.2.2 ?_);intro lq lD fT iO _;obtain⟨kM,cb',rfl⟩:=fT.shape;have eX:=qH (qA fT iO);clear fT iO) | fail)
          go_roundw
        all_goals first
          | exact⟨i+1,_,_,_,_,_,E,by go_num,by rw [show nkeep wl (i+1)=nkeep wl i++[i] by simp only [nkeep,if_neg HZ.o]];exact qH (aJ.o.1.addB (i:=i) aJ.o.2.1 eX.o.1 eX.o.2),qH (aJ.o.1.rb.old eX.o.2 aJ.o.2.2.1 (by omega) (by have:=aJ.o.2.2.2;omega))⟩
          | (simp [intOf];omega)
    · obtain rfl:i=R:=by omega
      obtain⟨G,bF⟩:=qX (nkeep wl i);rw [bF] at hN;have bP:G.length<=40:=by have:=(qe5 wl i).1;rw [bF] at this;omega
      have bV:∀x∈G,NRow t bl wl x/\(besides t bl x).length=n+1:=fun x I=>HR.o x ((qe5 wl i).2 x (by rw [bF];exact I)).1
      obtain⟨ab,gb,cb,ja,jb,_⟩:=hN.o.rb.vcells;obtain⟨k,hk⟩:=qX G.length;rw [hk] at ja;subst ja;have iJ:=qgF ab gb 0 k cb vs (G.map (nden t bl wl)) 1543 wr (by rw [qay];exact hk) jb hN.o.mb (fun x I=>by rw [mapD (by omega)];exact (bV _ (qcn (by omega))).1.den) (by omega) (by omega) (by omega);have gI:=qH iJ;have U:=qH (qA bF (qA hk bV));rw [hk] at bP;have dC:=hN.o;obtain⟨al,cl,jd⟩:=dC.rl.shape;obtain⟨at',ct,jf⟩:=dC.rt.shape;rw [hk] at jd jf;subst jd;subst jf;have jC:=qH dC;have gH:=qH hB.o;clear iJ bF hk bV jb dC hN hB;go_wp2_with fail;refine gI.o.mono ?_;rintro e kw ⟨lm,rfl,bJ,bS⟩;obtain⟨ic,n18,c18,rfl⟩:=qbZ bS;have bG:=jC.o.below bJ;have dR:=qC _ _ 0 _ _ _ bG.ct;have eU:=qH (qA bG (qA (show MagAt kw (.slice ic n18 c18) (nall t bl wl G) from bS) (gH.o.trans (bJ.mono gH.o.size))));clear bJ bS bG gI;go_wp2_with fail
      go_loopw [99] (fun x99 W=>∃(j:Nat) (ps:List (Value×Bool)),j<=k/\x99=.int .i64 j/\Hu (NSt W w.heap.size t bl wl n G G G (.slice al k cl) (.slice at' k ct) (.slice ab k cb) gs ps vs (fun p=>if p<j then nfac t bl wl G (G.getD p 0) else ((ntop t bl wl (G.getD p 0):Nat):Int)))/\Hu (MagAt W (.slice ic n18 c18) (nall t bl wl G))/\Hu (Below w.heap.size w W)) (fun x99 _=>k-(intOf x99).toNat)
      case atStart=>exact⟨0,ps,qan _,rfl,qH (eU.o.1.congrT (fun p hp=>by rw [if_neg (by omega)])),qH eU.o.2.1,qH eU.o.2.2⟩
      case round =>
        obtain⟨j,ps2,hj,rfl,aM,fe,bC⟩:=hrel
        by_cases jW:j<k
        · have kV:(j:Int)<k:=by omega
          have jM:=qC _ _ 0 _ _ _ aM.o.ct;have aO:j<G.length:=by have:=U.o.2.1;omega
          obtain⟨kN,g3,kG,e3,dm,_⟩:=aM.o.rb.vcells;have je:vs.length=G.length:=by have:=aM.o.mb.1;rw [qay] at this;exact this
          have jT:=dm.addr (by omega);rw [U.o.2.1] at e3;simp only [qbw,true_and] at e3;obtain⟨jP,jQ⟩:=e3;subst jT;subst jP;subst jQ;have fE:=dm.cell j (by omega);have bU:=aM.o.mb.2 j (by rw [qay];exact aO);rw [mapD aO] at bU;obtain⟨vj,jc⟩:=qX (vs.getD j undef);rw [jc] at fE bU;obtain⟨aj,nj,cj,rfl⟩:=qbZ bU;have jB:=qH bU;rw [qaL] at fE;clear jc bU dm je;go_wp2_with fail;refine ((qbU .l) _ _ 61721 (by omega) _ _ wr fe.o jB.o (qhs (fun x I=>(U.o.2.2 x I).1) (by have:=U.o.2.1;omega)) ((U.o.2.2 _ (qcn aO)).1.den.2.mono (by omega)) (U.o.2.2 _ (qcn aO)).1.den.1).mono ?_;rintro e ah ⟨u20,kZ,rfl,aW,dh,eB⟩;obtain⟨a20,n20,c20,rfl⟩:=qbZ dh;obtain⟨kD,kK,kF,rfl⟩:=qbZ eB;have aR:=aM.o.below aW;obtain⟨gt,kH,a2,m2,d2,b2',et,dZ,iP,t0,t1,tf,ax⟩:=aR.top aO;rw [U.o.2.1] at et;simp only [qbw,true_and] at et;obtain⟨jR,jS⟩:=et;subst jR;subst jS;simp only [if_neg (Nat.lt_irrefl j)] at ax;have dS:=qC _ _ 0 _ _ _ aR.ct;have fV:Below ah.heap.size ah ah:=Below.refl _ _;have H:Below ah.heap.size ah ah.drew:=fV.drew;have jG:=qH (fun W (h:Below ah.heap.size ah W)=>(qci .l) ((ntop t bl wl (G.getD j 0):Nat):Int) _ 67 61721 (by omega) _ _ W (ax.below h) (dh.below h) (by rw [qaq];exact (U.o.2.2 _ (qcn aO)).1.top) ((qhs (fun x I=>(U.o.2.2 x I).1) (by have:=U.o.2.1;omega)).le (qaN _ _)));have aK:=qH (qA aR (qA (fe.o.below aW) (qA (bC.o.trans (aW.mono bC.o.size)) (qA tf iP))));clear aR ax aW dh eB tf fE jM dR;go_wp2_with fail
          go_region_with (first | (go_at_call 155;refine (jG.o _ H).mono ?_;rintro e lF ⟨u21,rfl,dW,di⟩;obtain⟨a21,n21,c21,jJ,rfl⟩:=qbN di;have hb:=H.trans dW;have x0:=hb.cell (qac ah _ t0) |>.trans t0;have x1:=hb.cell (qac ah _ t1) |>.trans t1;have x2:=hb.cell (qac ah _ dS) |>.trans dS;have y0:=(hb.frozen (p:=⟨gt,j*2,none⟩) dZ).trans (aK.o.2.2.2.1 _);have y1:=(hb.frozen (p:=⟨gt,j*2+1,none⟩) dZ).trans (aK.o.2.2.2.1 _);have aL:=qH (qA (aK.o.1.below hb) (qA (aK.o.2.1.below hb) (qA (aK.o.2.2.1.trans (hb.mono aK.o.2.2.1.size)) di)));clear dW di hb))
          all_goals go_wp2_with fail
          all_goals go_roundw
          all_goals first
            | (refine⟨j+1,ps2.set j (.slice a21 n21 c21,jJ),jW,by go_num,?_,qH ((aL.o.1.setSoft _ _ _ _).mag aL.o.2.1),qH ((aL.o.1.setSoft _ _ _ _).old aL.o.2.2.1 (fun x e=>by have:=qag e;have:=aK.o.2.2.2.2;omega) aL.o.2.2.1.size)⟩
               have h:=aL.o.1;rw [<-U.o.2.1] at h;have h2:=h.setT aO aL.o.2.2.2;rw [U.o.2.1] at h2;exact qH (h2.congrT (fun p _=>by
                 by_cases e:p=j
                 · subst e;rw [if_pos rfl,if_pos (by omega)];rfl
                 · rw [if_neg e]
                   by_cases e2:p<j
                   · rw [if_pos e2,if_pos (by omega)]
                   · rw [if_neg e2,if_neg (by omega)])))
            | (simp [intOf];omega)
        · obtain rfl:j=k:=by omega
          have iC:=aM.o.congrT (T':=fun p=>nfac t bl wl G (G.getD p 0)) (fun p hp=>by rw [if_pos (by rw [<-U.o.2.1];exact hp)]);have jU:0<t.length:=by have:=HC.o.2.2.2.2.1;omega
          obtain⟨lc,lg,ll,lh,iH,_⟩:=(HC.o.1.below bC.o).row 0 jU;rw [qbp] at iH;have iW:(t.getD 0 []).length=n:=HC.o.2.2.2.2.2.1;rw [iW] at iH;have kP:(0:Int)<(i:Int):=by omega
          have iV:=qlF n (by omega) wr;obtain⟨ai,aT⟩:=qY (wr.alloc (.cells (madeCells #[zs0] n) 212));have bT:=MatPart.made wr n (n+1) (fun _=>0) (fun r c=>isum (fun p=>nterm t bl wl G r c (G.getD p 0)) j);have bL:Below wr.heap.size wr ai:=aT▸qbM qB qN;rw [<-aT] at iV bT;have eO:ai.heap.size=wr.heap.size+1:=by rw [aT,qaa]
          clear aT;obtain⟨gY,aU⟩:=qY (ai.alloc (.cells #[.slice (some ⟨wr.heap.size,0,none⟩) n n] 262));have bM:Below ai.heap.size ai gY:=aU▸qbM qB qN;have eD:gY.heap[ai.heap.size]? = some (.cells #[.slice (some ⟨wr.heap.size,0,none⟩) n n] 262 (0,0)):=by rw [aU];exact qM _ _ _ rfl
          have Z:=qH (qA (bT.below bM) (qA eD (qA (bL.trans (bM.mono bL.size)) (qA iC (qA bC.o eO)))));clear bT bL bM eD iC iW eO aM fe bC dR;go_wp2_with fail;rw [<-aU];clear aU iV;obtain⟨Y,kg⟩:=qY wr;subst kg;have bW:∀W:World,(Instr.makeSlice 212 (.int .i64 ((n:Int)+1)) (.int .i64 ((n:Int)+1))).run prog W=.ok (.slice (some ⟨W.heap.size,0,none⟩) (n+1) (n+1)) (W.alloc (.cells (madeCells #[zs0,.bool false] ((n+1)*2)) 217)):=fun W=>qfZ (n+1) (by omega) W
          have gQ:=qH bW;clear bW
          go_loopw [129] (fun x129 W=>∃(r:Nat) (az:Nat->Nat),r<=n/\x129=.int .i64 r/\Hu (MatPart W Y.heap.size n r (n+1) az (fun r c=>isum (fun p=>nterm t bl wl G r c (G.getD p 0)) j))/\Hu (W.heap[ai.heap.size]? = some (.cells #[.slice (some ⟨Y.heap.size,0,none⟩) n n] 262 (0,0)))/\Hu (Below Y.heap.size Y W)) (fun x129 _=>n-(intOf x129).toNat)
          case atStart=>exact⟨0,fun _=>0,qan _,rfl,qH Z.o.1,qH Z.o.2.1,qH Z.o.2.2.1⟩
          case round =>
            obtain⟨r,az,hr,rfl,dA,dD,bE⟩:=hrel;obtain⟨wB,ko⟩:=qY wr;subst ko
            by_cases dP:r<n
            · have kW:(r:Int)<n:=by omega
              obtain⟨V0,dE⟩:=qY (wB.alloc (.cells #[.int .i64 r] 3));have dM:Below wB.heap.size wB V0:=dE▸qbM qB qN;have fQ:V0.heap[wB.heap.size]? = some (.cells #[.int .i64 r] 3 (0,0)):=by rw [dE];exact qM _ _ _ rfl
              have fu:=dA.o.below dM;have fC:=(dM.block _ (qG dD.o).1).trans dD.o;have cs:=qC _ _ 0 _ _ _ fC;have cr:=qC _ _ 0 _ _ _ fQ;obtain⟨V1,dF⟩:=qY (V0.alloc (.cells (madeCells #[zs0,.bool false] ((n+1)*2)) 217));have bH:Below V0.heap.size V0 V1:=dF▸qbM qB qN;have fK:=IRow.made V0 (n+1);have bW:=gQ.o V0;rw [<-dF] at fK bW;obtain⟨q0,q1⟩:=(fu.below bH).at dP;have HV:=qH (qA fu (qA fC (qA fQ (qA bH (qA fK (bE.o.trans (dM.mono bE.o.size)))))));have iU:(Instr.makeSlice 212 (.int .i64 ((n:Int)+1)) (.int .i64 ((n:Int)+1))).run prog V0.drew=.ok (.slice (some ⟨V0.heap.size,0,none⟩) (n+1) (n+1)) V1.drew:=by rw [gQ.o V0.drew,dF];rfl
              have jL:=(bH.cell (qac V0 _ cs)).trans cs;have jK:=(bH.cell (qac V0 _ cr)).trans cr;clear dM fQ fu fC bH fK dF bW;go_wp2_with fail;rw [<-dE];clear dE
              go_region
              obtain⟨V2,aB⟩:=qY ((V1.setCell ⟨Y.heap.size,r,none⟩ (rowv V0.heap.size (n+1))).drew);rw [<-aB];have bZ:=qil (g:=V0.heap.size) (HV.o.1.below HV.o.2.2.2.1).row dP;have bQ:=qbO V1 Y.heap.size r (rowv V0.heap.size (n+1));have bX:V0.heap.size≠Y.heap.size:=by
                have:=(qG HV.o.1.row).1;omega
              have iQ:IRow V2 V0.heap.size (n+1) []:=by
                rw [aB];exact⟨(bQ.block _ (qG HV.o.2.2.2.2.1.1).1 (fun e=>bX (qag e))).trans HV.o.2.2.2.2.1.1,HV.o.2.2.2.2.1.2⟩
              have eQ:V2.heap[ai.heap.size]? = some (.cells #[.slice (some ⟨Y.heap.size,0,none⟩) n n] 262 (0,0)):=by
                rw [aB];have h1:=zkeep HV.o.2.2.2.1 _ _ HV.o.2.1;exact (bQ.block _ (qG h1).1 (fun e=>by have:=qag e;have:=Z.o.2.2.2.2.2;omega)).trans h1
              have eF:V2.heap[wB.heap.size]? = some (.cells #[.int .i64 r] 3 (0,0)):=by
                rw [aB];have h1:=zkeep HV.o.2.2.2.1 _ _ HV.o.2.2.1;exact (bQ.block _ (qG h1).1 (fun e=>by have:=qag e;have:=(qG dA.o.row).1;omega)).trans h1
              have eH:∀x,x<r->qb9 V2 (az x) (n+1) (fun c=>isum (fun p=>nterm t bl wl G x c (G.getD p 0)) j)/\az x<V0.heap.size:=fun x I=>by
                have h0:=HV.o.1.rows x I;have h1:=(HV.o.1.below HV.o.2.2.2.1).rows x I;refine⟨?_,?_⟩
                · rw [aB];exact (h1.keepRows bQ (HV.o.1.below HV.o.2.2.2.1).row qhw).below qB.drew
                · obtain⟨_,_,h2,_⟩:=h0
                  exact (qG h2.1).1
              have eG:V2.heap[Y.heap.size]? = some (.cells (rowvs (r+1) (n+1) (fun x=>if x=r then V0.heap.size else az x)++List.replicate (n-(r+1)) zs0).toArray 212 (0,0)):=by rw [aB];exact bZ
              have bD:Below Y.heap.size Y V2:=by rw [aB];exact ((HV.o.2.2.2.2.2.trans (HV.o.2.2.2.1.mono HV.o.2.2.2.2.2.size)).setCell (p:=⟨Y.heap.size,r,none⟩) qN _).drew
              have eT:wB.heap.size<V0.heap.size:=(qG HV.o.2.2.1).1;have iD:=Z.o.2.2.2.1.below bD;have H2:=qH (qA iQ (qA eQ (qA eF (qA eH (qA eG (qA bD iD))))));have aa:=qH (qA eT (qA (show Y.heap.size<V0.heap.size from Nat.lt_of_le_of_ne HV.o.2.2.2.2.2.size (fun e=>bX e.symm)) (show ai.heap.size<V0.heap.size from (qG HV.o.2.1).1)));clear aB bZ bQ bX iQ eQ eF eH eG bD eT iD cs cr jL jK q0 q1 iU dA dD bE;go_wp2_with fail
              go_loopw [141] (fun x141 W=>∃(cc:Nat) (qs:List (Value×Bool)),cc<=n+1/\x141=.int .i64 cc/\Hu (qs.length=cc/\IRow W V0.heap.size (n+1) qs/\qcd W qs (fun c=>isum (fun p=>nterm t bl wl G r c (G.getD p 0)) j))/\Hu (V2.grownBy W (some V0.heap.size))) (fun x141 _=>n+1-(intOf x141).toNat)
              case atStart=>exact⟨0,[],qan _,rfl,qH ⟨rfl,H2.o.1,fun x I=>absurd I (by simp)⟩,qH (qcz _ _)⟩
              case round =>
                obtain⟨cc,qs,kR,rfl,hQ,hG⟩:=hrel;have J:Soft V2 wr (some V0.heap.size):=⟨hG.o,fun g e=>by cases e;exact⟨_,_,_,H2.o.1.1,zrow_not⟩⟩;have F:∀{x:Nat},x<V0.heap.size->(some V0.heap.size:Option Nat)≠some x:=fun I e=>by have:=qag e;omega
                by_cases fG:cc<n+1
                · have kS:(cc:Int)<(n:Int)+1:=by omega
                  obtain⟨V3,dG⟩:=qY (wr.alloc (.cells #[.int .i64 cc] 3));have aD:Below wr.heap.size wr V3:=dG▸qbM qB qN;have fP:V3.heap[wr.heap.size]? = some (.cells #[.int .i64 cc] 3 (0,0)):=by rw [dG];exact qM _ _ _ rfl
                  have fw:=(H2.o.2.2.2.2.2.2.soft J (fun g e=>by cases e;exact Z.o.2.2.2.1.lt (qap aa.o.2.1))).below aD;have ji:=zkeep aD _ _ (J.blk H2.o.2.1 (F aa.o.2.2));have gG:=zkeep aD _ _ (J.blk H2.o.2.2.1 (F aa.o.1));have fZ:=zkeep aD _ _ (J.blk H2.o.2.2.2.2.1 (F aa.o.2.1));have fJ:V0.heap.size<wr.heap.size:=(qG hQ.o.2.1.1).1;have jX:=(qG Z.o.2.2.2.1.cl).1;have D0:∀W,V3.grownBy W (some V0.heap.size)->W.cell? ⟨ai.heap.size,0,none⟩=some (.slice (some ⟨Y.heap.size,0,none⟩) n n):=fun W h=>qcF h ji (Nat.ne_of_lt aa.o.2.2) 0
                  have D1:∀W,V3.grownBy W (some V0.heap.size)->W.cell? ⟨wB.heap.size,0,none⟩=some (.int .i64 r):=fun W h=>qcF h gG (Nat.ne_of_lt aa.o.1) 0
                  have D2:∀W,V3.grownBy W (some V0.heap.size)->W.cell? ⟨Y.heap.size,r,none⟩=some (rowv V0.heap.size (n+1)):=fun W h=>by
                    have h1:=qik fZ (j:=r) (by omega);simp only [if_true] at h1;exact (qdH h (p:=⟨Y.heap.size,r,none⟩) (qG fZ).1 (Nat.ne_of_lt aa.o.2.1)).trans h1
                  have D3:∀W,V3.grownBy W (some V0.heap.size)->W.cell? ⟨wr.heap.size,0,none⟩=some (.int .i64 cc):=fun W h=>qcF h fP (qbi fJ) 0
                  have D4:∀W,V3.grownBy W (some V0.heap.size)->W.cell? ⟨w.heap.size+1,0,none⟩=some (.slice al j cl):=fun W h=>qcF h fw.cl (by have:=aa.o.2.1;omega) 0
                  have jI:=qH (fun W (h:Below V3.heap.size V3 W)=>qhA j (.pointer (some ⟨w.heap.size+1+1,0,none⟩)) (.pointer (some ⟨w.heap.size+1,0,none⟩)) (.pointer (some ⟨wB.heap.size,0,none⟩)) (.pointer (some ⟨wr.heap.size,0,none⟩)) (fun p=>nterm t bl wl G r cc (G.getD p 0)) 63398 (by omega) W (by omega) (fun W' p hp jV=>by
                    have bg:=h.trans (jV.mono h.size);exact qlT U.o.2.1 (fw.below bg) U.o.2.2 bP hp (by omega) fG iX (qC _ _ 0 _ _ _ (zkeep bg _ _ gG)) (qC _ _ 0 _ _ _ (zkeep bg _ _ fP))) (fun p hp=>by
                      have bY:p<G.length:=by have:=U.o.2.1;omega
                      have hl:=(U.o.2.2 _ (qcn bY)).2;exact qih (fun x I=>(U.o.2.2 x I).1) (by have:=U.o.2.1;omega) bY (by omega) (by omega)))
                  have fV:Below V3.heap.size V3 V3:=Below.refl _ _;have H:Below V3.heap.size V3 V3.drew:=fV.drew;have H3:=qH (qA aD (qA (hQ.o.2.1.below aD) (qA (hQ.o.2.2.below aD) fJ)));clear J F aD fP fw ji gG fZ jX fJ;go_wp2_with fail;rw [<-dG];clear dG
                  go_region_held3 (fun W=>V3.grownBy W (some V0.heap.size)) (first | with_reducible exact qcz _ _ | with_reducible exact qbV _ H | with_reducible exact qbV _ aZ | exact qbR (qbR (qbV _ aZ) (qbO _ _ _ _)) (qbO _ _ _ _)) (first | (go_at_call 151;refine (jI.o _ H).mono ?_;rintro e w5 ⟨u5,rfl,aF,gu⟩;have aZ:Below V3.heap.size V3 w5:=bjoin H aF;obtain⟨a5,n5,c5,b5,rfl⟩:=qbN gu;have iF:=(H3.o.2.1.below aZ).at (by have:=hQ.o.1;omega);rw [hQ.o.1] at iF;obtain⟨⟨z0,z1⟩,zf⟩:=iF;have lG:=zf (cc*2);have lH:=zf (cc*2+1);have HX:=qH (qjQ (H3.o.2.1.below aZ) (H3.o.2.2.1.below aZ) hQ.o.1 fG gu);clear aF gu zf))
                  all_goals go_wp2_with fail
                  all_goals go_roundw
                  all_goals first
                    | exact⟨cc+1,_,fG,by go_num,qH ⟨by rw [qae,hQ.o.1];rfl,HX.o.1,HX.o.2⟩,qH (qbR (qbR (qcb hG.o (bjoin H3.o.1 aZ)) (qbO _ _ _ _)) (qbO _ _ _ _))⟩
                    | (simp [intOf];omega)
                · obtain rfl:cc=n+1:=by omega
                  have iB:MatPart wr Y.heap.size n (r+1) (n+1) (fun x=>if x=r then V0.heap.size else az x) (fun r c=>isum (fun p=>nterm t bl wl G r c (G.getD p 0)) j):=by
                    refine⟨J.blk H2.o.2.2.2.2.1 (F aa.o.2.1),fun x I=>?_,dP⟩
                    by_cases e:x=r
                    · subst e;simp only [if_true];exact⟨qs,hQ.o.1,hQ.o.2.1,hQ.o.2.2⟩
                    · simp only [if_neg e]
                      have h:=H2.o.2.2.2.1 x (by omega);exact J.introw h.1 (F h.2)
                  have hSn:=J.blk H2.o.2.1 (F aa.o.2.2);have iy:=J.old H2.o.2.2.2.2.2.1 (fun x e=>by have:=qag e;have:=aa.o.2.1;omega) H2.o.2.2.2.2.2.1.size;have HE:=qH (qA iB (qA hSn iy));clear iB hSn iy J F;go_wp2;go_roundw
                  case rel=>exact⟨r+1,_,dP,by go_num,qH HE.o.1,qH HE.o.2.1,qH HE.o.2.2⟩
                  case measure=>simp [intOf];omega
            · obtain rfl:r=n:=by omega
              have dB:=dA.o.done;have bf:=Z.o.2.2.2.1.below bE.o;have c0:=qC _ _ 0 _ _ _ bf.cs;have f0:=qF _ _ 0 _ _ bf.cs;have y0:=qC _ _ 0 _ _ _ dD.o;have eP:=heap_setCell_same _ _ 0 _ _ (.slice (some ⟨Y.heap.size,0,none⟩) r r) bf.cs;have J:=Soft.ofSet bf.cs (qf9 qe9) 0 (.slice (some ⟨Y.heap.size,0,none⟩) r r);have F:=(qG Z.o.2.2.2.1.cs).1;have iA:MatAt (wB.setCell ⟨w.heap.size,0,none⟩ (.slice (some ⟨Y.heap.size,0,none⟩) r r)) Y.heap.size r (r+1) az (fun r c=>isum (fun p=>nterm t bl wl G r c (G.getD p 0)) j):=by
                refine⟨J.blk dB.row (fun e=>by have:=qag e;omega),fun x I=>J.introw (dB.rows x I) fun e=>?_⟩;obtain⟨_,_,h2,_⟩:=dB.rows x I;rw [<-qag e] at h2;have:=h2.1.symm.trans bf.cs;simp at this
              have iw:=(Z.o.2.2.2.2.1.trans (bE.o.mono Z.o.2.2.2.2.1.size)).setCell (p:=⟨w.heap.size,0,none⟩) qN (.slice (some ⟨Y.heap.size,0,none⟩) r r);have HE:=qH (qA iA (qA iw (qA eP (qap (qa4 qN F)))));clear dB bf eP J F iA iw;go_wp2_with fail;refine qR (v:=.agg #[.slice (some ⟨Y.heap.size,0,none⟩) r r]) (rA_ rfl w.heap.size HE.o.2.2.1 underlying262 1) rfl ⟨Y.heap.size,az,_,nall t bl wl G,rfl,HE.o.2.1,HE.o.2.2.2,nall_pos (fun x I=>(U.o.2.2 x I).1),HE.o.1,fun a ha c hc=>?_,fun a ha c hc=>?_⟩
              · have h:=norm_sum (t:=t) (bl:=bl) (wl:=wl) (R:=i) (r:=a) (c:=c) (fun x I=>(HR.o x I).1) (fun x I=>by have:=(HR.o x I).2;omega)
                rw [U.o.1,U.o.2.1] at h;exact h
              · refine (qeY _ 63398 j (fun p hp=>?_)).mono (by omega)
                have bY:p<G.length:=by have:=U.o.2.1;omega
                have hl:=(U.o.2.2 _ (qcn bY)).2;exact qih (fun x I=>(U.o.2.2 x I).1) (by have:=U.o.2.1;omega) bY (by omega) (by omega)
