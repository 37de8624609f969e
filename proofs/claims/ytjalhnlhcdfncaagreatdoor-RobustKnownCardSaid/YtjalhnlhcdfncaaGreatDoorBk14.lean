import Derived.Deep.RegionLaw
import Derived.Test.YtjalhnlhcdfncaaGreatDoorBk13
set_option maxRecDepth 100000
set_option maxHeartbeats 0
namespace Go.Proofs.YtjalhnlhcdfncaaGreatDoor
open Go.RowKit Go.Proofs.Tryz
def NormAs (w:World) (t:Tbl) (bl wl:List FT) (n R:Nat) (e:Ending) (w':World):Prop :=
 ∃(F:Nat) (G:Nat->Nat) (M:Nat->Nat->Int) (Z:Nat),e=.returned (.agg #[.slice (some ⟨F,0,none⟩) n n])/\Below w.heap.size w w'/\w.heap.size<=F/\0<Z/\MatAt w' F n (n+1) G M /\
  (∀r,r<n->∀c,c<n+1->((M r c:Int):Rat)=(Z:Rat)*normQ t bl wl R r c)/\∀r,r<n->∀c,c<n+1->Fit (M r c).natAbs 63440
theorem qmg {t:Tbl} {bl wl:List FT} {R n:Nat} (hT:TOk t) (Y:t.length=R) (U:wid t=n) (I:FAll bl) (J:bl.length=R) (H:FAll wl) (V:wl.length=R) (F:¬Neg wl) {i:Nat} (hi:i<R):NRow t bl wl i/\(besides t bl i).length=n+1:=by
 have h:=hT.rows i (by omega);have Z:=hT.c2;have O:(besides t bl i).length=n+1:=by unfold besides;rw [qaf,h.1,U];rfl
 exact⟨⟨h.2.snoc (I i (by omega)),by omega,qdK H (by omega),(H i (by omega)).vn.fit,Int.not_lt.1 fun G=>F ⟨i,by omega,G⟩⟩,O⟩
theorem qb0 {W:World} {u:Value} {x:Nat} (h:MagAt W u x):∃(a:Option Addr) (n c:Nat),u=.slice a n c:=by
 obtain⟨a,_,_,c,n,_,rfl,_,_⟩:=h;exact⟨a,n,c,rfl⟩
theorem qhy {W:World} {a:Option Addr} {n c:Nat} {b:Bool} {z:Int} (h:IntAt W (.agg #[.slice a n c,.bool b]) z):MagAt W (.slice a n c) z.natAbs:=by
 obtain⟨_,e,h⟩:=h;simp only [qa1,qa2,qaU] at e;rw [e.1];exact h
theorem qlc {W:World} {u v:Value} {e:TypeId}:∀j x,[u,v][j]? = some x->(W.alloc (.cells #[u,v] e)).cell? ((⟨W.heap.size,0,none⟩:Addr).add j)=some x:=by
 intro j x h;rw [Addr.add_mid,qC _ _ (0+j) _ _ _ (qM _ _ _ rfl),qaL];exact (qaz ..).trans h
theorem zint_not:∀x∈(Value.agg #[zs0,.bool false]).cells.toList,qcr x:=by
 intro x F k d e;rcases qay.1 (show x∈[zs0,.bool false] from F) with h | h
 ·rw [h] at e;cases e
 ·rw [qao.1 h] at e;cases e
theorem zrow_not {n:Nat}:∀x∈(iflat ([]++List.replicate n (zs0,false))).toArray.toList,qcr x:=by
 intro x F k d e;have F:x∈iflat ([]++List.replicate n (zs0,false)):=F;rw [qbw] at F;unfold iflat at F;obtain⟨p,G,F⟩:=List.mem_flatMap.1 F;rw [(List.mem_replicate.1 G).2] at F;rcases qay.1 F with h | h
 ·rw [h] at e;cases e
 ·rw [qao.1 h] at e;cases e
theorem two_one {a:Option Addr} {n c:Nat} {b:Bool}:∀u∈[Value.slice a n c,.bool b],u.oneCell'=true:=by
 intro x F;rcases qay.1 F with h | h
 ·rw [h];rfl
 ·rw [qao.1 h];rfl
theorem two_not {a:Option Addr} {n c:Nat} {b:Bool}:∀u∈[Value.slice a n c,.bool b],qcr u:=by
 intro x F k d e;rcases qay.1 F with h | h
 ·rw [h] at e;cases e
 ·rw [qao.1 h] at e;cases e
theorem qfl {a:Option Addr} {n c:Nat}:qcr (.slice a n c):=fun k d e=>by cases e
theorem qkL (b gD c:Nat) (t:Tbl) (b2 dw c2:Nat) (bl:List FT) (b3 dx c3:Nat) (wl:List FT) (R n:Nat) (w:World) (hT:TOk t) (hR:t.length=R) (hn:wid t=n) (hc:TCells w (some ⟨b,gD,none⟩) b gD t)
    (hb:FAll bl) (fB:bl.length=R) (iE:FCells w (some ⟨b2,dw,none⟩) b2 dw bl) (hw:FAll wl) (gz:wl.length=R) (je:FCells w (some ⟨b3,dx,none⟩) b3 dx wl) (ek:¬Neg wl) :
    Calls prog 189 #[.slice (some ⟨b,gD,none⟩) R c,.slice (some ⟨b2,dw,none⟩) R c2,.slice (some ⟨b3,dx,none⟩) R c3] w fun e w'=>NormAs w t bl wl n R e w':=by
  have av:∀i,i<R->NRow t bl wl i/\(besides t bl i).length=n+1:=fun i hi=>qmg hT hR hn hb fB hw gz ek hi
  have kG:R<=40:=by have:=hT.r2;omega
  have kN:1<=R:=by have:=hT.r1;omega
  have iV:n<=10:=by have:=hT.c2;omega
  have jW:1<=n:=by have:=hT.c1;omega
  have HC:=qH (qA hc (qA iE (qA je (qA hT (qA hR (qA hn (qA hb (qA fB (qA hw gz)))))))));have HR:=qH av;have kR:=qeZ;obtain⟨il,iQ,jm,jo,jq⟩:=info_parts qjO;obtain⟨it,ay,jr,jv,jw⟩:=info_parts infoI;obtain⟨ib,iP,ji,jk,jl⟩:=info_parts infoM;have Y:=qH (qA iQ (qA jm (qA jo (qA jq (qA ay (qA jr (qA jv (qA jw (qA iP (qA ji (qA jk jl)))))))))));clear av hc iE je hT hR hn hb fB hw gz ek iQ jm jo jq ay jr jv jw iP ji jk jl;go_enter func189,ntmps189;go_wp2_with fail
  go_loopw [9,29] (fun x9 x29 W=>∃(i:Nat) (vl vt:Value) (gs:Nat->Nat) (ps:List (Value×Bool)) (vs:List Value),i<=R/\x29=.int .i64 i/\Hu (NSt W w.heap.size t bl wl n (nkeep wl i) (nkeep wl i) (nkeep wl i) vl vt x9 gs ps vs (fun p=>((ntop t bl wl ((nkeep wl R).getD p 0):Nat):Int)))/\Hu (Below w.heap.size w W)) (fun _ x29 _=>R-(intOf x29).toNat)
  case atStart =>
    have hb:Below w.heap.size w (((w.alloc (.cells #[zs0] 262)).alloc (.cells #[zs0] 260)).alloc (.cells #[zs0] 212)):=qbM (qbM (qbM qB qN) qN) qN;exact⟨0,.slice none 0 0,.slice none 0 0,fun _=>0,[],[],qan _,rfl,qH ⟨(qL _ _ _ (by simp only [qaa];omega)).trans ((qL _ _ _ (by simp only [qaa];omega)).trans (qM _ _ _ rfl)),(qL _ _ _ (by simp only [qaa];omega)).trans (qM _ _ _ (by simp only [qaa])),qM _ _ _ (by simp only [qaa]),Rws.nil _ _ _ _,Rws.nil _ _ _ _,Rws.nil _ _ _ _,fun p hp=>absurd hp (by simp [nkeep]),fun p hp=>absurd hp (by simp [nkeep]),fun k hk=>absurd hk (by simp),rfl,⟨rfl,fun k hk=>absurd hk (by simp [nkeep])⟩⟩,qH hb⟩
  case round =>
    obtain⟨i,vl,vt,gs,ps,vs,hi,rfl,hN,hB⟩:=hrel
    by_cases F:i<R
    · have kS:(i:Int)<R:=by omega
      have ay:i<t.length:=by have:=HC.o.2.2.2.2.1;omega
      obtain⟨ra,rb,ro,rc,iG,iK⟩:=(HC.o.1.below hB.o).row i ay;have aI:=HC.o.2.2.2.1.rows i ay;rw [HC.o.2.2.2.2.2.1] at aI;rw [aI.1] at iG;obtain⟨d0,d1⟩:=(HC.o.2.2.1.below hB.o).cell i (by have:=HC.o.2.2.2.2.2.2.2.2.2;omega);have fJ:=HC.o.2.2.2.2.2.2.2.2.1 i (by have:=HC.o.2.2.2.2.2.2.2.2.2;omega);obtain⟨WN,dK⟩:∃N,(wl.getD i fd0).1=N:=⟨_,rfl⟩;obtain⟨WD,dJ⟩:∃D,(wl.getD i fd0).2=D:=⟨_,rfl⟩;rw [dK,dJ] at fJ;rw [dK] at d0;rw [dJ] at d1;obtain⟨e0,e1⟩:=(HC.o.2.1.below hB.o).cell i (by have:=HC.o.2.2.2.2.2.2.2.1;omega);obtain⟨BN,fq⟩:∃N,(bl.getD i fd0).1=N:=⟨_,rfl⟩;obtain⟨BD,fo⟩:∃D,(bl.getD i fd0).2=D:=⟨_,rfl⟩;rw [fq] at e0;rw [fo] at e1;have HW:=qH (qA dK (qA dJ (qA fJ (qA fq (qA fo (qA aI iK))))));clear dK dJ fJ fq fo aI iK;go_wp2_with fail;refine ((qb7 .l) WN HW.o.2.2.1.vn _).mono ?_;rintro e w2 ⟨u2,rfl,bi,fU⟩;obtain⟨a2,n2,c2',b2',rfl⟩:=qbN fU;have H2:=qH (qA bi fU);clear bi fU;go_wp2_with fail;obtain⟨W3,dI⟩:=qY (w2.alloc (.cells #[.slice a2 n2 c2',.bool b2'] 217));have bL:Below w2.heap.size w2 W3:=dI▸qbM qB qN;have iL:W3.heap[w2.heap.size]? = some (.cells #[.slice a2 n2 c2',.bool b2'] 217 (0,0)):=by rw [dI];exact qM _ _ _ rfl
      have jf:(ival WN.data.toList).natAbs=wnum wl i:=by unfold wnum;rw [HW.o.1]
      have dO:=(qhy H2.o.2).below bL;rw [jf] at dO;rw [<-dI];have H3:=qH (qA (bjoin H2.o.1 bL) (qA iL dO));clear dI bL iL jf;refine ((qcq .l) (wnum wl i) _ W3 dO).mono ?_;rintro e w4 ⟨rfl,jX⟩;subst jX;clear dO
      by_cases hz:wnum wl i=0
      · rw [qV hz]
        have HZ:=qH hz;clear hz;go_wp2;go_roundw
        case rel=>exact⟨i+1,vl,vt,gs,ps,vs,F,by go_num,by rw [show nkeep wl (i+1)=nkeep wl i by simp only [nkeep,if_pos HZ.o]];exact qH (hN.o.below H3.o.1),qH (hB.o.trans (H3.o.1.mono hB.o.size))⟩
        case measure=>simp [intOf];omega
      · rw [qU hz]
        have HZ:=qH hz;have dM:=H3.o.1;have g0:=qC _ _ 0 _ _ _ H3.o.2.1;have jL:=(dM.cell (qac wr _ e0)).trans e0;have jM:=(dM.cell (qac wr _ e1)).trans e1;have bA:=(dM.cell (qac wr _ d1)).trans d1;clear hz dM;go_wp2_with fail;refine (qgV ra rb ro n rc (t.getD i []) (BN,BD) _ HW.o.2.2.2.2.2.1.1 jW (by omega) (HW.o.2.2.2.2.2.2.below H3.o.1)).mono ?_;rintro e w5 ⟨g5,rfl,aG,iI⟩;have gH:=qH (MagAt.below H3.o.2.2 aG);have H5:=qH (qA (bjoin H3.o.1 aG) iI);have ag:=(aG.cell (qac w4 _ g0)).trans g0;have bB:=(aG.cell (qac w4 _ bA)).trans bA;clear aG iI g0 bA jL jM;go_wp2_with fail;have dX:t.getD i []++[(BN,BD)]=besides t bl i:=by unfold besides;rw [<-HW.o.2.2.2.1,<-HW.o.2.2.2.2.1]
        have av:=HR.o i F;rw [dX] at H5;refine (qef (c:=n+1) av.2 (by omega) H5.o.2 av.1.fa).mono ?_;rintro e w6 ⟨g6,v6,rfl,dY,bO,fI,iX⟩;obtain⟨a6,n6,c6,rfl⟩:=qb0 fI;have gI:=qH (MagAt.below gH.o bO);have H6:=qH (qA (bjoin H5.o.1 bO) (qA fI (qA iX (qak H5.o.1.size dY))));have g0:=(bO.cell (qac w5 _ ag)).trans ag;have bA:=(bO.cell (qac w5 _ bB)).trans bB;clear bO fI iX dY ag bB dX av;go_wp2_with fail;refine ((qb7 .l) WD HW.o.2.2.1.vd _).mono ?_;rintro e w7 ⟨u7,rfl,bn,fZ⟩;obtain⟨a7,n7,c7,b7,rfl⟩:=qbN fZ;have jB:=qH bn;have gJ:=qH (MagAt.below gI.o bn);have H7:=qH (qA (bjoin H6.o.1 bn) (qA (qhy fZ) (H6.o.2.1.below bn)));have ag:=(bn.cell (qac w6 _ g0)).trans g0;clear bn fZ g0 bA;have iJ:(ival WD.data.toList).natAbs=fden (wl.getD i fd0):=by unfold fden;rw [HW.o.2.1]
        rw [iJ] at H7;clear iJ;go_wp2_with fail;refine ((qb9 .l) _ _ 67 738 (by omega) _ _ w7 H7.o.2.1 H7.o.2.2 (HR.o i F).1.wd.2 (HR.o i F).1.below.2).mono ?_;rintro e w8 ⟨u8,rfl,bq,gm⟩;obtain⟨a8,n8,c8,rfl⟩:=qb0 gm;have jC:=qH (bjoin jB.o bq);have gL:=qH (MagAt.below gJ.o bq);have H8:=qH (qA (bjoin H7.o.1 bq) (qA gm (H7.o.2.2.below bq)));have g0:=(bq.cell (qac w7 _ ag)).trans ag;clear bq gm ag;go_wp2_with fail;refine ((qb9 .l) _ _ 805 738 (by omega) _ _ w8 H8.o.2.1 H8.o.2.2 (((HR.o i F).1.wd.2.mul (HR.o i F).1.below.2).mono (by omega)) (HR.o i F).1.below.2).mono ?_;rintro e w9 ⟨u9,rfl,bP,gu⟩;obtain⟨a9,n9,c9,rfl⟩:=qb0 gu;have jD:=qH (bjoin jC.o bP);have gM:=qH (MagAt.below gL.o bP);have H9:=qH (qA (bjoin H8.o.1 bP) (show MagAt w9 (.slice a9 n9 c9) (wdn t bl wl i) from gu));have ag:=(bP.cell (qac w8 _ g0)).trans g0;clear bP gu g0 gH gI gJ gL;go_wp2_with fail;refine ((qcD .l) (wnum wl i) (wdn t bl wl i) 1543 (by omega) _ _ w9 gM.o H9.o.2 ((HR.o i F).1.wn.mono (by omega)) (HR.o i F).1.d.2).mono ?_;rintro e kg ⟨u10,rfl,au,cO⟩;obtain⟨kJ,n10,c10,rfl⟩:=qb0 cO;have gP:=qH (bjoin jD.o au);have bv:=qH (qA (bjoin H9.o.1 au) (qA cO (qA (H9.o.2.below au) (gM.o.below au))));have g0:=(au.cell (qac w9 _ ag)).trans ag;clear au cO ag;go_wp2_with fail;refine ((qbV .l) (wnum wl i) _ 1543 (by omega) _ _ kg bv.o.2.2.2 bv.o.2.1 ((HR.o i F).1.wn.mono (by omega)) (HR.o i F).1.g.2 (HR.o i F).1.g.1).mono ?_;rintro e jh ⟨u11,kV,rfl,aD,cZ,eu⟩;obtain⟨eY,n11,c11,rfl⟩:=qb0 cZ;obtain⟨kw,kH,c11',rfl⟩:=qb0 eu;have gQ:=qH (bjoin gP.o aD);have dz:=qH (qA (bjoin bv.o.1 aD) (qA (show MagAt jh (.slice eY n11 c11) (ntop t bl wl i) from cZ) (qA (bv.o.2.1.below aD) (bv.o.2.2.1.below aD))));clear aD cZ eu g0;go_wp2_with fail;refine ((qbV .l) (wdn t bl wl i) _ 1543 (by omega) _ _ jh dz.o.2.2.2 dz.o.2.2.1 (HR.o i F).1.d.2 (HR.o i F).1.g.2 (HR.o i F).1.g.1).mono ?_;rintro e bu ⟨u12,kW,rfl,aW,df,aH⟩;obtain⟨a12,n12,c12,rfl⟩:=qb0 df;obtain⟨ky,n12',kC,rfl⟩:=qb0 aH;have gT:=qH (bjoin gQ.o aW);have dA:=qH (qA (bjoin dz.o.1 aW) (qA (show MagAt bu (.slice a12 n12 c12) (nden t bl wl i) from df) (dz.o.2.1.below aW)));clear aW df aH;have bQ:(nkeep wl i).length<=40:=by have:=(qfg wl i).1;omega
        have aQ:=hN.o.below dA.o.1;have aH:=H6.o.2.2.1.below gT.o;have dL:Below bu.heap.size bu (bu.alloc (.cells #[rowv g6 (n+1)] 212)):=qbM qB qN;have iC:=aQ.below dL;have ed:vt.ownBlock≠some g6:=fun e=>by have:=(hN.o.rt.lt g6 e).2;have:=H6.o.2.2.2;omega
        have cz:w.heap.size+1+1+1<=bu.heap.size:=by
          have h1:=(qG aQ.ct).1;omega
        have gZ:=qC _ _ 0 _ _ _ aQ.cl;have U:=qH (qA iC (qA (aH.below dL) (qA ed (qA cz dL))));clear aQ aH iC ed cz dL d0 d1 e0 e1 iG
        go_wp2_with (first | (at_builtin;(refine qc7 rfl (.tmp 81) (.tmp 83) 260 rfl (w.heap.size+1+1+1) 212 il (.slice none 0 0) 1 24 underlying260 Y.o.1 Y.o.2.1 Y.o.2.2.1 Y.o.2.2.2.1 rfl (by decide) (fun x J=>by rw [qao.1 J];exact qfl) vl (nkeep wl i).length _ rfl U.o.1.rl ⟨bu.heap.size,0,none⟩ 1 1 [rowv g6 (n+1)] rfl rfl (qdf _ _ _) (fun u hu=>by rw [qao.1 hu];rfl) (fun u hu=>by rw [qao.1 hu];exact qfl) (by decide) (by unfold maxLen;omega) (by omega) (qak U.o.2.2.2.1 U.o.2.2.2.2.size) ?_);intro lm ko aI fE _;obtain⟨ca,fa⟩:=nst_cl U.o.1 fE;obtain⟨al',cl',rfl⟩:=aI.shape;have HL:=qH (qA aI fE);clear aI fE) | fail)
        obtain⟨af,aT⟩:=qY (ko.setCell ⟨w.heap.size+1,0,none⟩ (.slice al' ((nkeep wl i).length+1) cl'));rw [<-aT];have aB:=U.o.1.addL U.o.2.1 U.o.2.2.1 HL.o.1 HL.o.2;have aJ:=nst_soft U.o.1 HL.o.2 (.slice al' ((nkeep wl i).length+1) cl');rw [<-aT] at aB aJ;have bS:MagAt af (.slice eY n11 c11) (ntop t bl wl i)/\MagAt af (.slice a12 n12 c12) (nden t bl wl i):=⟨aJ.1 _ _ (dA.o.2.2.below U.o.2.2.2.2),aJ.1 _ _ (dA.o.2.1.below U.o.2.2.2.2)⟩;have dU:Below w.heap.size w af:=aJ.2 w w.heap.size (hB.o.trans ((bjoin dA.o.1 U.o.2.2.2.2).mono hB.o.size)) (by omega) (by have:=U.o.2.2.2.1;have:=U.o.2.2.2.2.size;omega);have cB:w.heap.size+1+1+1<=af.heap.size:=by
          have h1:=(qG aB.ct).1;omega
        have az:=qC _ _ 0 _ _ _ aB.ct;have I:Below af.heap.size af af.drew:=qB.drew;have jF:=qH (fun W (h:Below af.heap.size af W)=>(qb2 .l) (ntop t bl wl i) false (.slice eY n11 c11) W (bS.1.below h));have aZ:=qH (qA aB (qA bS.2 (qA dU (qA cB (qlP wl HZ.o R F).1))));have kv:=qH aT;clear aT aB aJ bS dU cB ca fa gZ
        go_region_law (first | (refine qgG rfl (.tmp 85) (.tmp 88) 212 (by rfl) (w.heap.size+1+1+1) 217 it (.agg #[zs0,.bool false]) 2 32 underlying212 Y.o.2.2.2.2.1 Y.o.2.2.2.2.2.1 Y.o.2.2.2.2.2.2.1 Y.o.2.2.2.2.2.2.2.1 rfl (by decide) zint_not vt (nkeep wl i).length _ (by rfl) ax.o.1.rt ⟨dQ.heap.size,0,none⟩ 1 1 [.slice gX n15 c15,.bool b15] (by rfl) rfl qlc two_one two_not (by decide) (by unfold maxLen;omega) (by omega) ax.o.2.1 ?_;intro lq kr fP fF iW;obtain⟨q0,qf⟩:=nst_ct ax.o.1 fF;obtain⟨at',ic,rfl⟩:=fP.shape;have HT:=qH (qA fP (qA fF iW));clear fP fF iW) | (go_simp;go_at_call 161;refine (jF.o _ I).mono ?_;rintro e dQ ⟨u15,rfl,bJ,dh⟩;obtain⟨gX,n15,c15,b15,rfl⟩:=qbN dh;have aO:Below dQ.heap.size dQ (dQ.alloc (.cells #[.slice gX n15 c15,.bool b15] 217)):=qbM qB qN;have hb:=I.trans (bjoin bJ aO);have eZ:=hb.cell (qac af _ az) |>.trans az;have ig:=(I.trans bJ).cell (qac af _ az) |>.trans az;have ax:=qH (qA (aZ.o.1.below hb) (qA (qak aZ.o.2.2.2.1 hb.size) (qA hb (dh.below aO))));clear bJ dh aO hb))
        all_goals
          have hT:(if false=true then -((ntop t bl wl i:Nat):Int) else ((ntop t bl wl i:Nat):Int))=((ntop t bl wl ((nkeep wl R).getD (nkeep wl i).length 0):Nat):Int):=by rw [aZ.o.2.2.2.2];rfl
          have aR:=ax.o.1.addT2 (i:=i) hT ax.o.2.2.2 HT.o.1 HT.o.2.1 HT.o.2.2;have aY:=qmh ax.o.1 HT.o.2.1 (.slice at' ((nkeep wl i).length+1) ic);obtain⟨bz,dV⟩:=qY (kr.setCell ⟨w.heap.size+1+1,0,none⟩ (.slice at' ((nkeep wl i).length+1) ic));rw [<-dV] at aR aY ⊢;have d9:=aY.1 _ _ (aZ.o.2.1.below ax.o.2.2.1);have bC:=aY.2 w w.heap.size (aZ.o.2.2.1.trans (ax.o.2.2.1.mono aZ.o.2.2.1.size)) (by omega) (by have:=ax.o.2.1;omega);have ah:Below bz.heap.size bz (bz.alloc (.cells #[.slice a12 n12 c12] 213)):=qbM qB qN;have cK:w.heap.size+1+1+1<=bz.heap.size:=by
            have h1:=(qG aR.ct).1;omega
          have aK:=qH (qA (aR.below ah) (qA (d9.below ah) (qA (bC.trans (ah.mono bC.size)) (qak cK ah.size))));clear hT aR aY d9 bC ah cK dV q0 qf az ig eZ
          go_wp2_with (first | (at_builtin;(refine qc7 rfl (.tmp 90) (.tmp 92) 286 rfl (w.heap.size+1+1+1) 213 ib (.slice none 0 0) 1 24 underlying286 Y.o.2.2.2.2.2.2.2.2.1 Y.o.2.2.2.2.2.2.2.2.2.1 Y.o.2.2.2.2.2.2.2.2.2.2.1 Y.o.2.2.2.2.2.2.2.2.2.2.2 rfl (by decide) (fun x J=>by rw [qao.1 J];exact qfl) u9 (nkeep wl i).length _ rfl aK.o.1.rb ⟨bz.heap.size,0,none⟩ 1 1 [.slice a12 n12 c12] rfl rfl (qdf _ _ _) (fun u hu=>by rw [qao.1 hu];rfl) (fun u hu=>by rw [qao.1 hu];exact qfl) (by decide) (by unfold maxLen;omega) (by omega) aK.o.2.2.2 ?_);intro ll lw fO iM _;obtain⟨kK,cb',rfl⟩:=fO.shape;have eX:=qH (qA fO iM);clear fO iM) | fail)
          go_roundw
        all_goals first
          | exact⟨i+1,_,_,_,_,_,F,by go_num,by rw [show nkeep wl (i+1)=nkeep wl i++[i] by simp only [nkeep,if_neg HZ.o]];exact qH (aK.o.1.addB (i:=i) aK.o.2.1 eX.o.1 eX.o.2),qH (aK.o.1.rb.old eX.o.2 aK.o.2.2.1 (by omega) (by have:=aK.o.2.2.2;omega))⟩
          | (simp [intOf];omega)
    · obtain rfl:i=R:=by omega
      obtain⟨H,bG⟩:=qX (nkeep wl i);rw [bG] at hN;have bQ:H.length<=40:=by have:=(qfg wl i).1;rw [bG] at this;omega
      have bW:∀x∈H,NRow t bl wl x/\(besides t bl x).length=n+1:=fun x J=>HR.o x ((qfg wl i).2 x (by rw [bG];exact J)).1
      obtain⟨ab,gb,cb,iY,iZ,_⟩:=hN.o.rb.vcells;obtain⟨k,hk⟩:=qX H.length;rw [hk] at iY;subst iY;have iH:=qgW ab gb 0 k cb vs (H.map (nden t bl wl)) 1543 wr (by rw [qaF];exact hk) iZ hN.o.mb (fun x J=>by rw [mapD (by omega)];exact (bW _ (qcm (by omega))).1.den) (by omega) (by omega) (by omega);have gG:=qH iH;have V:=qH (qA bG (qA hk bW));rw [hk] at bQ;have dD:=hN.o;obtain⟨al,cl,jb⟩:=dD.rl.shape;obtain⟨at',ct,jd⟩:=dD.rt.shape;rw [hk] at jb jd;subst jb;subst jd;have jA:=qH dD;have gF:=qH hB.o;clear iH bG hk bW iZ dD hN hB;go_wp2_with fail;refine gG.o.mono ?_;rintro e ku ⟨lh,rfl,bK,bT⟩;obtain⟨gY,n18,c18,rfl⟩:=qb0 bT;have bH:=jA.o.below bK;have dR:=qC _ _ 0 _ _ _ bH.ct;have eU:=qH (qA bH (qA (show MagAt ku (.slice gY n18 c18) (nall t bl wl H) from bT) (gF.o.trans (bK.mono gF.o.size))));clear bK bT bH gG;go_wp2_with fail
      go_loopw [99] (fun x99 W=>∃(j:Nat) (ps:List (Value×Bool)),j<=k/\x99=.int .i64 j/\Hu (NSt W w.heap.size t bl wl n H H H (.slice al k cl) (.slice at' k ct) (.slice ab k cb) gs ps vs (fun p=>if p<j then nfac t bl wl H (H.getD p 0) else ((ntop t bl wl (H.getD p 0):Nat):Int)))/\Hu (MagAt W (.slice gY n18 c18) (nall t bl wl H))/\Hu (Below w.heap.size w W)) (fun x99 _=>k-(intOf x99).toNat)
      case atStart=>exact⟨0,ps,qan _,rfl,qH (eU.o.1.congrT (fun p hp=>by rw [if_neg (by omega)])),qH eU.o.2.1,qH eU.o.2.2⟩
      case round =>
        obtain⟨j,ps2,hj,rfl,aN,fe,bD⟩:=hrel
        by_cases jU:j<k
        · have kT:(j:Int)<k:=by omega
          have jK:=qC _ _ 0 _ _ _ aN.o.ct;have aP:j<H.length:=by have:=V.o.2.1;omega
          obtain⟨kL,g3,kE,e3,dn,_⟩:=aN.o.rb.vcells;have jc:vs.length=H.length:=by have:=aN.o.mb.1;rw [qaF] at this;exact this
          have jR:=dn.addr (by omega);rw [V.o.2.1] at e3;simp only [qby,true_and] at e3;obtain⟨jN,jO⟩:=e3;subst jR;subst jN;subst jO;have fC:=dn.cell j (by omega);have bV:=aN.o.mb.2 j (by rw [qaF];exact aP);rw [mapD aP] at bV;obtain⟨vj,ja⟩:=qX (vs.getD j undef);rw [ja] at fC bV;obtain⟨aj,nj,cj,rfl⟩:=qb0 bV;have jy:=qH bV;rw [qaL] at fC;clear ja bV dn jc;go_wp2_with fail;refine ((qbV .l) _ _ 61721 (by omega) _ _ wr fe.o jy.o (qhJ (fun x J=>(V.o.2.2 x J).1) (by have:=V.o.2.1;omega)) ((V.o.2.2 _ (qcm aP)).1.den.2.mono (by omega)) (V.o.2.2 _ (qcm aP)).1.den.1).mono ?_;rintro e ai ⟨u20,kX,rfl,aX,di,eB⟩;obtain⟨a20,n20,c20,rfl⟩:=qb0 di;obtain⟨kz,kI,kD,rfl⟩:=qb0 eB;have aS:=aN.o.below aX;obtain⟨gt,kF,a2,m2,d2,b2',et,dZ,iN,t0,t1,tf,ay⟩:=aS.top aP;rw [V.o.2.1] at et;simp only [qby,true_and] at et;obtain⟨jP,jQ⟩:=et;subst jP;subst jQ;simp only [if_neg (Nat.lt_irrefl j)] at ay;have dS:=qC _ _ 0 _ _ _ aS.ct;have fQ:Below ai.heap.size ai ai:=Below.refl _ _;have I:Below ai.heap.size ai ai.drew:=fQ.drew;have jE:=qH (fun W (h:Below ai.heap.size ai W)=>(qci .l) ((ntop t bl wl (H.getD j 0):Nat):Int) _ 67 61721 (by omega) _ _ W (ay.below h) (di.below h) (by rw [qaq];exact (V.o.2.2 _ (qcm aP)).1.top) ((qhJ (fun x J=>(V.o.2.2 x J).1) (by have:=V.o.2.1;omega)).le (qaM _ _)));have aL:=qH (qA aS (qA (fe.o.below aX) (qA (bD.o.trans (aX.mono bD.o.size)) (qA tf iN))));clear aS ay aX di eB tf fC jK dR;go_wp2_with fail
          go_region_with (first | (go_at_call 155;refine (jE.o _ I).mono ?_;rintro e lC ⟨u21,rfl,dW,dm⟩;obtain⟨a21,n21,c21,jH,rfl⟩:=qbN dm;have hb:=I.trans dW;have x0:=hb.cell (qac ai _ t0) |>.trans t0;have x1:=hb.cell (qac ai _ t1) |>.trans t1;have x2:=hb.cell (qac ai _ dS) |>.trans dS;have y0:=(hb.frozen (p:=⟨gt,j*2,none⟩) dZ).trans (aL.o.2.2.2.1 _);have y1:=(hb.frozen (p:=⟨gt,j*2+1,none⟩) dZ).trans (aL.o.2.2.2.1 _);have aM:=qH (qA (aL.o.1.below hb) (qA (aL.o.2.1.below hb) (qA (aL.o.2.2.1.trans (hb.mono aL.o.2.2.1.size)) dm)));clear dW dm hb))
          all_goals go_wp2_with fail
          all_goals go_roundw
          all_goals first
            | (refine⟨j+1,ps2.set j (.slice a21 n21 c21,jH),jU,by go_num,?_,qH ((aM.o.1.setSoft _ _ _ _).mag aM.o.2.1),qH ((aM.o.1.setSoft _ _ _ _).old aM.o.2.2.1 (fun x e=>by have:=qag e;have:=aL.o.2.2.2.2;omega) aM.o.2.2.1.size)⟩
               have h:=aM.o.1;rw [<-V.o.2.1] at h;have h2:=h.setT aP aM.o.2.2.2;rw [V.o.2.1] at h2;exact qH (h2.congrT (fun p _=>by
                 by_cases e:p=j
                 · subst e;rw [if_pos rfl,if_pos (by omega)];rfl
                 · rw [if_neg e]
                   by_cases e2:p<j
                   · rw [if_pos e2,if_pos (by omega)]
                   · rw [if_neg e2,if_neg (by omega)])))
            | (simp [intOf];omega)
        · obtain rfl:j=k:=by omega
          have iA:=aN.o.congrT (T':=fun p=>nfac t bl wl H (H.getD p 0)) (fun p hp=>by rw [if_pos (by rw [<-V.o.2.1];exact hp)]);have jS:0<t.length:=by have:=HC.o.2.2.2.2.1;omega
          obtain⟨kY,kZ,lg,lc,iF,_⟩:=(HC.o.1.below bD.o).row 0 jS;rw [qbA] at iF;have iU:(t.getD 0 []).length=n:=HC.o.2.2.2.2.2.1;rw [iU] at iF;have kM:(0:Int)<(i:Int):=by omega
          have iT:=ql3 n (by omega) wr;obtain⟨ak,aU⟩:=qY (wr.alloc (.cells (madeCells #[zs0] n) 212));have bU:=MatPart.made wr n (n+1) (fun _=>0) (fun r c=>isum (fun p=>nterm t bl wl H r c (H.getD p 0)) j);have bM:Below wr.heap.size wr ak:=aU▸qbM qB qN;rw [<-aU] at iT bU;have eO:ak.heap.size=wr.heap.size+1:=by rw [aU,qaa]
          clear aU;obtain⟨gU,aV⟩:=qY (ak.alloc (.cells #[.slice (some ⟨wr.heap.size,0,none⟩) n n] 262));have bN:Below ak.heap.size ak gU:=aV▸qbM qB qN;have eD:gU.heap[ak.heap.size]? = some (.cells #[.slice (some ⟨wr.heap.size,0,none⟩) n n] 262 (0,0)):=by rw [aV];exact qM _ _ _ rfl
          have aa:=qH (qA (bU.below bN) (qA eD (qA (bM.trans (bN.mono bM.size)) (qA iA (qA bD.o eO)))));clear bU bM bN eD iA iU eO aN fe bD dR;go_wp2_with fail;rw [<-aV];clear aV iT;obtain⟨Z,jY⟩:=qY wr;subst jY;have bX:∀W:World,(Instr.makeSlice 212 (.int .i64 ((n:Int)+1)) (.int .i64 ((n:Int)+1))).run prog W=.ok (.slice (some ⟨W.heap.size,0,none⟩) (n+1) (n+1)) (W.alloc (.cells (madeCells #[zs0,.bool false] ((n+1)*2)) 217)):=fun W=>qgn (n+1) (by omega) W
          have gN:=qH bX;clear bX
          go_loopw [129] (fun x129 W=>∃(r:Nat) (aA:Nat->Nat),r<=n/\x129=.int .i64 r/\Hu (MatPart W Z.heap.size n r (n+1) aA (fun r c=>isum (fun p=>nterm t bl wl H r c (H.getD p 0)) j))/\Hu (W.heap[ak.heap.size]? = some (.cells #[.slice (some ⟨Z.heap.size,0,none⟩) n n] 262 (0,0)))/\Hu (Below Z.heap.size Z W)) (fun x129 _=>n-(intOf x129).toNat)
          case atStart=>exact⟨0,fun _=>0,qan _,rfl,qH aa.o.1,qH aa.o.2.1,qH aa.o.2.2.1⟩
          case round =>
            obtain⟨r,aA,hr,rfl,dB,dE,bF⟩:=hrel;obtain⟨wB,jZ⟩:=qY wr;subst jZ
            by_cases dP:r<n
            · have kU:(r:Int)<n:=by omega
              obtain⟨V0,dF⟩:=qY (wB.alloc (.cells #[.int .i64 r] 3));have dN:Below wB.heap.size wB V0:=dF▸qbM qB qN;have fM:V0.heap[wB.heap.size]? = some (.cells #[.int .i64 r] 3 (0,0)):=by rw [dF];exact qM _ _ _ rfl
              have fu:=dB.o.below dN;have fA:=(dN.block _ (qG dE.o).1).trans dE.o;have cs:=qC _ _ 0 _ _ _ fA;have cr:=qC _ _ 0 _ _ _ fM;obtain⟨V1,dG⟩:=qY (V0.alloc (.cells (madeCells #[zs0,.bool false] ((n+1)*2)) 217));have bI:Below V0.heap.size V0 V1:=dG▸qbM qB qN;have fH:=IRow.made V0 (n+1);have bX:=gN.o V0;rw [<-dG] at fH bX;obtain⟨q0,q1⟩:=(fu.below bI).at dP;have HV:=qH (qA fu (qA fA (qA fM (qA bI (qA fH (bF.o.trans (dN.mono bF.o.size)))))));have iR:(Instr.makeSlice 212 (.int .i64 ((n:Int)+1)) (.int .i64 ((n:Int)+1))).run prog V0.drew=.ok (.slice (some ⟨V0.heap.size,0,none⟩) (n+1) (n+1)) V1.drew:=by rw [gN.o V0.drew,dG];rfl
              have jJ:=(bI.cell (qac V0 _ cs)).trans cs;have jI:=(bI.cell (qac V0 _ cr)).trans cr;clear dN fM fu fA bI fH dG bX;go_wp2_with fail;rw [<-dF];clear dF
              go_region
              obtain⟨V2,aC⟩:=qY ((V1.setCell ⟨Z.heap.size,r,none⟩ (rowv V0.heap.size (n+1))).drew);rw [<-aC];have cu:=qiB (g:=V0.heap.size) (HV.o.1.below HV.o.2.2.2.1).row dP;have bR:=qbO V1 Z.heap.size r (rowv V0.heap.size (n+1));have bY:V0.heap.size≠Z.heap.size:=by
                have:=(qG HV.o.1.row).1;omega
              have iO:IRow V2 V0.heap.size (n+1) []:=by
                rw [aC];exact⟨(bR.block _ (qG HV.o.2.2.2.2.1.1).1 (fun e=>bY (qag e))).trans HV.o.2.2.2.2.1.1,HV.o.2.2.2.2.1.2⟩
              have eQ:V2.heap[ak.heap.size]? = some (.cells #[.slice (some ⟨Z.heap.size,0,none⟩) n n] 262 (0,0)):=by
                rw [aC];have h1:=zkeep HV.o.2.2.2.1 _ _ HV.o.2.1;exact (bR.block _ (qG h1).1 (fun e=>by have:=qag e;have:=aa.o.2.2.2.2.2;omega)).trans h1
              have eF:V2.heap[wB.heap.size]? = some (.cells #[.int .i64 r] 3 (0,0)):=by
                rw [aC];have h1:=zkeep HV.o.2.2.2.1 _ _ HV.o.2.2.1;exact (bR.block _ (qG h1).1 (fun e=>by have:=qag e;have:=(qG dB.o.row).1;omega)).trans h1
              have eH:∀x,x<r->qb8 V2 (aA x) (n+1) (fun c=>isum (fun p=>nterm t bl wl H x c (H.getD p 0)) j)/\aA x<V0.heap.size:=fun x J=>by
                have h0:=HV.o.1.rows x J;have h1:=(HV.o.1.below HV.o.2.2.2.1).rows x J;refine⟨?_,?_⟩
                · rw [aC];exact (h1.keepRows bR (HV.o.1.below HV.o.2.2.2.1).row qhL).below qB.drew
                · obtain⟨_,_,h2,_⟩:=h0
                  exact (qG h2.1).1
              have eG:V2.heap[Z.heap.size]? = some (.cells (rowvs (r+1) (n+1) (fun x=>if x=r then V0.heap.size else aA x)++List.replicate (n-(r+1)) zs0).toArray 212 (0,0)):=by rw [aC];exact cu
              have bE:Below Z.heap.size Z V2:=by rw [aC];exact ((HV.o.2.2.2.2.2.trans (HV.o.2.2.2.1.mono HV.o.2.2.2.2.2.size)).setCell (p:=⟨Z.heap.size,r,none⟩) qN _).drew
              have eT:wB.heap.size<V0.heap.size:=(qG HV.o.2.2.1).1;have iB:=aa.o.2.2.2.1.below bE;have H2:=qH (qA iO (qA eQ (qA eF (qA eH (qA eG (qA bE iB))))));have ae:=qH (qA eT (qA (show Z.heap.size<V0.heap.size from Nat.lt_of_le_of_ne HV.o.2.2.2.2.2.size (fun e=>bY e.symm)) (show ak.heap.size<V0.heap.size from (qG HV.o.2.1).1)));clear aC cu bR bY iO eQ eF eH eG bE eT iB cs cr jJ jI q0 q1 iR dB dE bF;go_wp2_with fail
              go_loopw [141] (fun x141 W=>∃(cc:Nat) (qs:List (Value×Bool)),cc<=n+1/\x141=.int .i64 cc/\Hu (qs.length=cc/\IRow W V0.heap.size (n+1) qs/\qcd W qs (fun c=>isum (fun p=>nterm t bl wl H r c (H.getD p 0)) j))/\Hu (V2.grownBy W (some V0.heap.size))) (fun x141 _=>n+1-(intOf x141).toNat)
              case atStart=>exact⟨0,[],qan _,rfl,qH ⟨rfl,H2.o.1,fun x J=>absurd J (by simp)⟩,qH (qcy _ _)⟩
              case round =>
                obtain⟨cc,qs,kP,rfl,hQ,hG⟩:=hrel;have O:Soft V2 wr (some V0.heap.size):=⟨hG.o,fun g e=>by cases e;exact⟨_,_,_,H2.o.1.1,zrow_not⟩⟩;have G:∀{x:Nat},x<V0.heap.size->(some V0.heap.size:Option Nat)≠some x:=fun J e=>by have:=qag e;omega
                by_cases fD:cc<n+1
                · have kQ:(cc:Int)<(n:Int)+1:=by omega
                  obtain⟨V3,dH⟩:=qY (wr.alloc (.cells #[.int .i64 cc] 3));have aF:Below wr.heap.size wr V3:=dH▸qbM qB qN;have fK:V3.heap[wr.heap.size]? = some (.cells #[.int .i64 cc] 3 (0,0)):=by rw [dH];exact qM _ _ _ rfl
                  have fw:=(H2.o.2.2.2.2.2.2.soft O (fun g e=>by cases e;exact aa.o.2.2.2.1.lt (qap ae.o.2.1))).below aF;have jg:=zkeep aF _ _ (O.blk H2.o.2.1 (G ae.o.2.2));have gB:=zkeep aF _ _ (O.blk H2.o.2.2.1 (G ae.o.1));have fT:=zkeep aF _ _ (O.blk H2.o.2.2.2.2.1 (G ae.o.2.1));have fG:V0.heap.size<wr.heap.size:=(qG hQ.o.2.1.1).1;have jV:=(qG aa.o.2.2.2.1.cl).1;have D0:∀W,V3.grownBy W (some V0.heap.size)->W.cell? ⟨ak.heap.size,0,none⟩=some (.slice (some ⟨Z.heap.size,0,none⟩) n n):=fun W h=>qcH h jg (Nat.ne_of_lt ae.o.2.2) 0
                  have D1:∀W,V3.grownBy W (some V0.heap.size)->W.cell? ⟨wB.heap.size,0,none⟩=some (.int .i64 r):=fun W h=>qcH h gB (Nat.ne_of_lt ae.o.1) 0
                  have D2:∀W,V3.grownBy W (some V0.heap.size)->W.cell? ⟨Z.heap.size,r,none⟩=some (rowv V0.heap.size (n+1)):=fun W h=>by
                    have h1:=qiA fT (j:=r) (by omega);simp only [if_true] at h1;exact (qdQ h (p:=⟨Z.heap.size,r,none⟩) (qG fT).1 (Nat.ne_of_lt ae.o.2.1)).trans h1
                  have D3:∀W,V3.grownBy W (some V0.heap.size)->W.cell? ⟨wr.heap.size,0,none⟩=some (.int .i64 cc):=fun W h=>qcH h fK (qbf fG) 0
                  have D4:∀W,V3.grownBy W (some V0.heap.size)->W.cell? ⟨w.heap.size+1,0,none⟩=some (.slice al j cl):=fun W h=>qcH h fw.cl (by have:=ae.o.2.1;omega) 0
                  have jG:=qH (fun W (h:Below V3.heap.size V3 W)=>qhR j (.pointer (some ⟨w.heap.size+1+1,0,none⟩)) (.pointer (some ⟨w.heap.size+1,0,none⟩)) (.pointer (some ⟨wB.heap.size,0,none⟩)) (.pointer (some ⟨wr.heap.size,0,none⟩)) (fun p=>nterm t bl wl H r cc (H.getD p 0)) 63398 (by omega) W (by omega) (fun W' p hp jT=>by
                    have bi:=h.trans (jT.mono h.size);exact qmj V.o.2.1 (fw.below bi) V.o.2.2 bQ hp (by omega) fD iV (qC _ _ 0 _ _ _ (zkeep bi _ _ gB)) (qC _ _ 0 _ _ _ (zkeep bi _ _ fK))) (fun p hp=>by
                      have bZ:p<H.length:=by have:=V.o.2.1;omega
                      have hl:=(V.o.2.2 _ (qcm bZ)).2;exact qiy (fun x J=>(V.o.2.2 x J).1) (by have:=V.o.2.1;omega) bZ (by omega) (by omega)))
                  have fQ:Below V3.heap.size V3 V3:=Below.refl _ _;have I:Below V3.heap.size V3 V3.drew:=fQ.drew;have H3:=qH (qA aF (qA (hQ.o.2.1.below aF) (qA (hQ.o.2.2.below aF) fG)));clear O G aF fK fw jg gB fT jV fG;go_wp2_with fail;rw [<-dH];clear dH
                  go_region_held3 (fun W=>V3.grownBy W (some V0.heap.size)) (first | with_reducible exact qcy _ _ | with_reducible exact qbW _ I | with_reducible exact qbW _ bf | exact qbR (qbR (qbW _ bf) (qbO _ _ _ _)) (qbO _ _ _ _)) (first | (go_at_call 151;refine (jG.o _ I).mono ?_;rintro e w5 ⟨u5,rfl,aG,fV⟩;have bf:Below V3.heap.size V3 w5:=bjoin I aG;obtain⟨a5,n5,c5,b5,rfl⟩:=qbN fV;have iD:=(H3.o.2.1.below bf).at (by have:=hQ.o.1;omega);rw [hQ.o.1] at iD;obtain⟨⟨z0,z1⟩,zf⟩:=iD;have lD:=zf (cc*2);have lF:=zf (cc*2+1);have HX:=qH (qj9 (H3.o.2.1.below bf) (H3.o.2.2.1.below bf) hQ.o.1 fD fV);clear aG fV zf))
                  all_goals go_wp2_with fail
                  all_goals go_roundw
                  all_goals first
                    | exact⟨cc+1,_,fD,by go_num,qH ⟨by rw [qaf,hQ.o.1];rfl,HX.o.1,HX.o.2⟩,qH (qbR (qbR (qca hG.o (bjoin H3.o.1 bf)) (qbO _ _ _ _)) (qbO _ _ _ _))⟩
                    | (simp [intOf];omega)
                · obtain rfl:cc=n+1:=by omega
                  have iy:MatPart wr Z.heap.size n (r+1) (n+1) (fun x=>if x=r then V0.heap.size else aA x) (fun r c=>isum (fun p=>nterm t bl wl H r c (H.getD p 0)) j):=by
                    refine⟨O.blk H2.o.2.2.2.2.1 (G ae.o.2.1),fun x J=>?_,dP⟩
                    by_cases e:x=r
                    · subst e;simp only [if_true];exact⟨qs,hQ.o.1,hQ.o.2.1,hQ.o.2.2⟩
                    · simp only [if_neg e]
                      have h:=H2.o.2.2.2.1 x (by omega);exact O.introw h.1 (G h.2)
                  have hSn:=O.blk H2.o.2.1 (G ae.o.2.2);have iq:=O.old H2.o.2.2.2.2.2.1 (fun x e=>by have:=qag e;have:=ae.o.2.1;omega) H2.o.2.2.2.2.2.1.size;have HE:=qH (qA iy (qA hSn iq));clear iy hSn iq O G;go_wp2;go_roundw
                  case rel=>exact⟨r+1,_,dP,by go_num,qH HE.o.1,qH HE.o.2.1,qH HE.o.2.2⟩
                  case measure=>simp [intOf];omega
            · obtain rfl:r=n:=by omega
              have dC:=dB.o.done;have bg:=aa.o.2.2.2.1.below bF.o;have c0:=qC _ _ 0 _ _ _ bg.cs;have f0:=qF _ _ 0 _ _ bg.cs;have y0:=qC _ _ 0 _ _ _ dE.o;have eP:=heap_setCell_same _ _ 0 _ _ (.slice (some ⟨Z.heap.size,0,none⟩) r r) bg.cs;have O:=Soft.ofSet bg.cs (qgv qfl) 0 (.slice (some ⟨Z.heap.size,0,none⟩) r r);have G:=(qG aa.o.2.2.2.1.cs).1;have iw:MatAt (wB.setCell ⟨w.heap.size,0,none⟩ (.slice (some ⟨Z.heap.size,0,none⟩) r r)) Z.heap.size r (r+1) aA (fun r c=>isum (fun p=>nterm t bl wl H r c (H.getD p 0)) j):=by
                refine⟨O.blk dC.row (fun e=>by have:=qag e;omega),fun x J=>O.introw (dC.rows x J) fun e=>?_⟩;obtain⟨_,_,h2,_⟩:=dC.rows x J;rw [<-qag e] at h2;have:=h2.1.symm.trans bg.cs;simp at this
              have ik:=(aa.o.2.2.2.2.1.trans (bF.o.mono aa.o.2.2.2.2.1.size)).setCell (p:=⟨w.heap.size,0,none⟩) qN (.slice (some ⟨Z.heap.size,0,none⟩) r r);have HE:=qH (qA iw (qA ik (qA eP (qap (qaX qN G)))));clear dC bg eP O G iw ik;go_wp2_with fail;refine qR (v:=.agg #[.slice (some ⟨Z.heap.size,0,none⟩) r r]) (rA_ rfl w.heap.size HE.o.2.2.1 underlying262 1) rfl ⟨Z.heap.size,aA,_,nall t bl wl H,rfl,HE.o.2.1,HE.o.2.2.2,nall_pos (fun x J=>(V.o.2.2 x J).1),HE.o.1,fun a ha c hc=>?_,fun a ha c hc=>?_⟩
              · have h:=norm_sum (t:=t) (bl:=bl) (wl:=wl) (R:=i) (r:=a) (c:=c) (fun x J=>(HR.o x J).1) (fun x J=>by have:=(HR.o x J).2;omega)
                rw [V.o.1,V.o.2.1] at h;exact h
              · refine (qe9 _ 63398 j (fun p hp=>?_)).mono (by omega)
                have bZ:p<H.length:=by have:=V.o.2.1;omega
                have hl:=(V.o.2.2 _ (qcm bZ)).2;exact qiy (fun x J=>(V.o.2.2 x J).1) (by have:=V.o.2.1;omega) bZ (by omega) (by omega)
